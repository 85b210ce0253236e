/- The library of the walks, part HD: plain laws over the model. -/
import Derived.Test.YtkjhghloldgioaaGreatHC
import Derived.ProofKit
namespace Go.H
set_option linter.unusedVariables false
set_option linter.unusedSimpArgs false
theorem l7{i:Nat}{o:Oper}(h:H7 i o=true):∃ e∈o.after,Region.binds .any e=true/\e.on=i:=by
 unfold H7 at h
 rw[List.any_eq_true]at h
 obtain⟨e,he,h⟩:=h
 simp only[Bool.and_eq_true]at h
 exact⟨e,by simpa using he,h.1,Nat.eq_of_beq_eq_true h.2⟩
theorem k07{o:Oper}{t:Nat}:∀ {l:List Oper} {i:Nat},Y01 o t l i=true->∀ k x,l[k]?=some x->x.dst=some t->H7 (i+k) o=true
 | [],i,h,k,x,hk,hd=>by simp at hk
 |y::r,i,h,0,x,hk,hd=>by
  simp at hk
  subst hk
  simp only[Y01,hd,Nat.beq_refl,Bool.and_eq_true]at h
  exact h.1
 |y::r,i,h,k+1,x,hk,hd=>by
  simp only[List.getElem?_cons_succ]at hk
  have hr:Y01 o t r (i+1)=true:=by
   simp only[Y01]at h
   split at h
   ·split at h
    ·simp only[Bool.and_eq_true]at h;exact h.2
    ·exact h
   ·exact h
  have:=k07 hr k x hk hd
  rwa [show i+1+k=i+(k+1) from by omega]at this
theorem L02{o:Oper}{ops:List Oper}:∀ {l:List Operand},z09 o ops l=true->∀ t,Operand.tmp t∈l->Y01 o t ops 0=true
 | [],h,t,ht=>by cases ht
 | .tmp u::r,h,t,ht=>by
  simp only[z09,Bool.and_eq_true]at h
  rcases List.mem_cons.1 ht with e|ht
  ·cases e;exact h.1
  ·exact L02 h.2 t ht
 | .const v::r,h,t,ht=>by
  rcases List.mem_cons.1 ht with e|ht
  ·cases e
  ·exact L02 (l:=r) h t ht
 | .global v::r,h,t,ht=>by
  rcases List.mem_cons.1 ht with e|ht
  ·cases e
  ·exact L02 (l:=r) h t ht
 | .func v::r,h,t,ht=>by
  rcases List.mem_cons.1 ht with e|ht
  ·cases e
  ·exact L02 (l:=r) h t ht
theorem j06{ops:List Oper}:∀ {l:List Oper},g0l ops l=true->∀ o∈l,∀ t,Operand.tmp t∈o.op.operands->∀ k x,ops[k]?=some x->x.dst=some t->∃ e∈o.after,Region.binds .any e=true/\e.on=k
 | [],h,o,ho=>by cases ho
 |y::r,h,o,ho=>by
  simp only[g0l,Bool.and_eq_true]at h
  rcases List.mem_cons.1 ho with rfl|ho
  ·intro t ht k x hk hd
   have:=k07 (L02 h.1 t (by simpa using ht)) k x hk hd
   rw[Nat.zero_add]at this
   exact l7 this
  ·exact j06 h.2 o ho
theorem m05{d:Nat}:∀ {l:List Oper},Z06 d l=true->∀ o∈l,o.dst≠some d
 | [],h,o,ho=>by cases ho
 |y::r,h,o,ho=>by
  simp only[Z06]at h
  split at h
  ·rename_i d' hd
   simp only[Bool.and_eq_true,Bool.not_eq_true']at h
   rcases List.mem_cons.1 ho with rfl|ho
   ·intro e;rw[hd]at e;cases e;exact Nat.ne_of_beq_eq_false h.1 rfl
   ·exact m05 h.2 o ho
  ·rename_i hd
   rcases List.mem_cons.1 ho with rfl|ho
   ·intro e;rw[hd]at e;cases e
   ·exact m05 h o ho
theorem t04{n:Nat}:∀ {l:List Oper},Z0h n l=true->(∀ o∈l,∀ d,o.dst=some d->d<n) /\
  ∀(i j:Nat) (oi oj:Oper) (d:Nat),l[i]?=some oi->l[j]?=some oj->oi.dst=some d->oj.dst=some d->i=j
 | [],h=>⟨by simp,λi j oi oj d hi=>by simp at hi⟩
 |y::r,h=>by
  simp only[Z0h]at h
  split at h
  ·rename_i d hd
   simp only[Bool.and_eq_true]at h
   obtain⟨⟨h1,h2⟩,h3⟩:=h
   obtain⟨k1,k2⟩:=t04 h3
   have ho:=m05 h2
   refine⟨λo hm d' hd'=>?_,λi j oi oj d' hi hj e1 e2=>?_⟩
   ·rcases List.mem_cons.1 hm with rfl|hm
    ·rw[hd]at hd';cases hd'
     have h1':Nat.ble (d+1) n=true:=h1
     exact Nat.le_of_ble_eq_true h1'
    ·exact k1 o hm d' hd'
   ·cases i with
    |zero =>
     simp at hi
     cases j with
     |zero=>rfl
     |succ j =>
      simp at hj
      subst hi
      rw[hd]at e1;cases e1
      exact absurd e2 (ho oj (List.mem_of_getElem? hj))
    |succ i =>
     simp at hi
     cases j with
     |zero =>
      simp at hj
      subst hj
      rw[hd]at e2;cases e2
      exact absurd e1 (ho oi (List.mem_of_getElem? hi))
     |succ j =>
      simp at hj
      rw[k2 i j oi oj d' hi hj e1 e2]
  ·rename_i hd
   obtain⟨k1,k2⟩:=t04 h
   refine⟨λo hm d' hd'=>?_,λi j oi oj d' hi hj e1 e2=>?_⟩
   ·rcases List.mem_cons.1 hm with rfl|hm
    ·rw[hd]at hd';cases hd'
    ·exact k1 o hm d' hd'
   ·cases i with
    |zero=>simp at hi;subst hi;rw[hd]at e1;cases e1
    |succ i =>
     simp at hi
     cases j with
     |zero=>simp at hj;subst hj;rw[hd]at e2;cases e2
     |succ j=>simp at hj;rw[k2 i j oi oj d' hi hj e1 e2]
theorem g03:∀ {l:List Oper} {j:Nat},S0b l j=true->∀ k o,l[k]?=some o->∀ e∈o.after,Region.binds .any e=true->e.on<j+k
 | [],j,h,k,o,hk=>by simp at hk
 |y::r,j,h,k,o,hk=>by
  simp only[S0b,Bool.and_eq_true,List.all_eq_true]at h
  cases k with
  |zero =>
   simp at hk
   subst hk
   intro e he hb
   have:=h.1 e (by simpa using he)
   simp[hb,Nat.blt]at this
   omega
  |succ k =>
   simp at hk
   intro e he hb
   have:=g03 h.2 k o hk e he hb
   omega
def Z3:List Oper->List (Nat×AV)->List (Nat×AV)
 | [],fr=>fr
 |o::r,fr=>match o.dst with
  |some d=>(d,.dead)::Z3 r fr
  |none=>Z3 r fr
theorem W00{t:Nat}:∀ {l:List Oper} {fr:List (Nat×AV)},(∀ o∈l,o.dst≠some t)->Z2 (Z3 l fr) t=Z2 fr t
 | [],fr,h=>rfl
 |o::r,fr,h=>by
  have hr:=W00 (fr:=fr) λo' ho'=>h o' (mC _ ho')
  simp only[Z3]
  split
  ·rename_i d hd
   rw[T3,if_neg (λe=>h o mS (by rw[hd,e]))]
   exact hr
  ·exact hr
theorem a02{t:Nat}:∀ {l:List Oper} {fr:List (Nat×AV)} {o:Oper},o∈l->o.dst=some t->Z2 (Z3 l fr) t = .dead
 | [],fr,o,h,_=>by cases h
 |y::r,fr,o,h,hd=>by
  simp only[Z3]
  split
  ·rename_i d hy
   rw[T3]
   split
   ·rfl
   ·rename_i hne
    rcases List.mem_cons.1 h with rfl|h
    ·rw[hd]at hy;cases hy;exact absurd rfl hne
    ·exact a02 h hd
  ·rename_i hy
   rcases List.mem_cons.1 h with rfl|h
   ·rw[hd]at hy;cases hy
   ·exact a02 h hd
theorem t00(d:Nat)(f:R5)(r:List (Nat×R5))(s:Nat):D3 ((d,f)::r) s=if d=s then some f else D3 r s:=by
 simp only[D3]
 cases h:Nat.beq d s with
 |true=>rw[if_pos (Nat.eq_of_beq_eq_true h)]
 |false=>rw[if_neg (Nat.ne_of_beq_eq_false h)]
section
variable {P:Program} {h0:Hp} {w0:World} {be:Nat->Nat} {oe:Nat->Value} {H:Hp} {h:Hp} {a:Act} {w:World}
theorem Sim.refr{st:St}(s:Sim P h0 w0 be oe H st h a w){fr:List (Nat×AV)}(hf:∀ t,C2 st be oe (Z2 fr t) (a.tmps.getD t undef)):Sim P h0 w0 be oe H { st with fr:=fr } h a w:=by
 have gr:M6 st be oe { st with fr:=fr } be oe:=⟨Nat.le_refl _,λ_ _=>rfl,λi s h=>⟨s,h,Nat.le_refl _,λ_=>rfl⟩⟩
 refine⟨s.mv,s.sub,λi cs ty hi=>?_,s.pub,s.own,s.frz,s.bb,s.oo,s.bo,s.dfr,s.siz,λt=>(hf t).grow gr⟩
 obtain⟨h1,vs,h2,h3⟩:=s.box i cs ty hi
 exact⟨h1,vs,h2.grow gr,h3⟩
def u04(st:St)(be:Nat->Nat)(oe:Nat->Value)(h:Hp):R5->Value->Prop
 | .pu av,v=>C2 st be oe av v
 | .ef F,v=>F v h
theorem w02{L:List (Nat×R5)}{st:St}{h:Hp}{val:Nat->Value}{K:List (Nat×AV)->Prop}:∀ {l:List Operand} {acc:List (Nat×AV)},
  (∀ t,C2 st be oe (Z2 acc t) (val t))->(∀ t,Operand.tmp t∈l->(∀ f,D3 L t=some f->u04 st be oe h f (val t))/\(D3 L t=none->C2 st be oe (Z2 st.fr t) (val t))) ->
  e0d L st h l acc K->∃ fr,K fr/\∀ t,C2 st be oe (Z2 fr t) (val t)
 | [],acc,h1,h2,he=>⟨acc,he,h1⟩
 | .tmp t::r,acc,h1,h2,he=>by
  have h2r:∀ u,Operand.tmp u∈r->_:=λu hu=>h2 u (mC _ hu)
  have hx:=h2 t mS
  have put:∀ av,C2 st be oe av (val t)->∀ u,C2 st be oe (Z2 ((t,av)::acc) u) (val u):=λav g u=>by
   rw[T3]
   split
   ·rename_i e;subst e;exact g
   ·exact h1 u
  simp only[e0d]at he
  split at he
  ·rename_i av e
   exact w02 (put av (hx.1 _ e)) h2r he
  ·rename_i F e
   exact w02 (put (.val (val t)) rfl) h2r (he _ (hx.1 _ e))
  ·rename_i e
   exact w02 (put _ (hx.2 e)) h2r he
 | .const v::r,acc,h1,h2,he=>w02 (l:=r) h1 (λu hu=>h2 u (mC _ hu)) he
 | .global v::r,acc,h1,h2,he=>w02 (l:=r) h1 (λu hu=>h2 u (mC _ hu)) he
 | .func v::r,acc,h1,h2,he=>w02 (l:=r) h1 (λu hu=>h2 u (mC _ hu)) he
def p0s(P:Program)(st:St)(h:Hp)(L:List (Nat×R5))(o:Oper):Prop :=
 o.guard=none/\∃ f,(∀ d,o.dst=some d->D3 L d=some f)/\match f with
  | .pu av=>c0k P L o st=some av
  | .ef F=>(∀ v h1 h2,Sub h1 h2->F v h1->F v h2)/\∀ h',Sub h h'->e0d L st h' o.op.operands.toList [] λfr=>F7 P o { st with fr:=fr } h' (a0s { st with fr:=fr } h' F)
theorem R0a:∀ {L:List (Nat×R5)} {t:Nat} {f:R5},D3 L t=some f->(t,f)∈L
 | [],t,f,h=>by cases h
 |(d,f')::r,t,f,h=>by
  rw[t00]at h
  split at h
  ·rename_i e;subst e;cases h;exact mS
  ·exact mC _ (R0a h)
theorem i0q{st:St}{L:List (Nat×R5)}{o:Oper}{av:AV}{val:Nat->Value}(hp:c0k P L o st=some av)
  (hv:∀ t,Operand.tmp t∈o.op.operands->(∀ f,D3 L t=some f->u04 st be oe h f (val t))/\(D3 L t=none->C2 st be oe (Z2 st.fr t) (val t))) :
  ∃ fr,(∀ t,C2 st be oe (Z2 fr t) (val t))/\F7 P o { st with fr:=fr } h λav' st' h'=>av'=av/\st' = { st with fr:=fr }/\h'=h:=by
 have one:∀ x:Operand,(∀ t,x = .tmp t->Operand.tmp t∈o.op.operands)->rdS L st x ≠ .dead->∃ fr,(∀ t,C2 st be oe (Z2 fr t) (val t))/\rdO { st with fr:=fr } x=rdS L st x:=by
  intro x hx hne
  cases x with
  |tmp t =>
   obtain⟨h1,h2⟩:=hv t (hx t rfl)
   have mk:∀ A,C2 st be oe A (val t)->∀ u,C2 st be oe (Z2 [(t,A)] u) (val u):=λA g u=>by
    rw[T3]
    split
    ·rename_i e;subst e;exact g
    ·trivial
   have rd:∀ A,rdO { st with fr:=[(t,A)] } (.tmp t)=rdA st A:=λA=>by
    show Go.H.rdA _ (Z2 [(t,A)] t)=_
    rw[T3,if_pos rfl]
    obtain⟨n,fr,bx,ow⟩:=st
    cases A<;>rfl
   cases hL:D3 L t with
   |none=>exact⟨_,mk _ (h2 hL),by rw[rd];simp only[rdS,hL]⟩
   |some f =>
    cases f with
    |pu A=>exact⟨_,mk _ (h1 _ hL),by rw[rd];simp only[rdS,hL]⟩
    |ef F=>exact absurd (by simp only[rdS,hL]) hne
  |const v=>exact⟨[],λt=>trivial,rfl⟩
  |global v=>exact⟨[],λt=>trivial,rfl⟩
  |func v=>exact⟨[],λt=>trivial,rfl⟩
 unfold c0k at hp
 split at hp
 ·rename_i x hx
  have hne:rdS L st x ≠ .dead:=λe=>by rw[e]at hp;cases hp
  obtain⟨fr,g,e⟩:=one x (λt ht=>by rw[hx];simp[Op.operands,ht]) hne
  refine⟨fr,g,?_⟩
  simp only[F7,hx,e]
  revert hp
  cases rdS L st x<;>intro hp<;>first|(cases hp;done)|(cases hp;simp;done)
 ·rename_i x hx
  have hne:rdS L st x ≠ .dead:=λe=>by rw[e]at hp;cases hp
  obtain⟨fr,g,e⟩:=one x (λt ht=>by rw[hx];simp[Op.operands,ht]) hne
  refine⟨fr,g,?_⟩
  simp only[F7,hx,e]
  revert hp
  cases rdS L st x<;>intro hp<;>first|(cases hp;done)|(cases hp;simp;done)
 ·rename_i t x hx
  have hne:rdS L st x ≠ .dead:=λe=>by rw[e]at hp;cases hp
  obtain⟨fr,g,e⟩:=one x (λt ht=>by rw[hx];simp[Op.operands,ht]) hne
  refine⟨fr,g,?_⟩
  simp only[F7,hx,e]
  split at hp
  ·rename_i i off hr
   split at hp
   ·rename_i cs ty hn
    simp only[hr,hn]
    unfold d0d at hp
    unfold d04
    cases hA:G0g P t with
    |none=>rw[hA]at hp;cases hp
    |some bb =>
     rw[hA]at hp
     cases bb with
     |true =>
      cases hT:E5 P t with
      |none=>rw[hT]at hp;cases hp
      |some m =>
       rw[hT]at hp
       simp only at hp ⊢
       split at hp
       ·rename_i hB
        cases hp
        rw[hB]
        simp
       ·cases hp
     |false =>
      simp only at hp ⊢
      split at hp
      ·rename_i c hN
       cases hp
       rw[hN]
       simp
      ·cases hp
   ·cases hp
  ·cases hp
 ·cases hp
def x0r(P:Program)(h0:Hp)(w0:World)(ops:Array Oper)(st:St)(h:Hp)(L:List (Nat×R5))(listed:Array Bool)(a:Act)(w:World):Prop :=
 ∃ be oe H h',Sub h h'/\Sim P h0 w0 be oe H { st with fr:=Z3 ops.toList st.fr } h' a w /\
  ∀ j o d f,ops[j]?=some o->o.dst=some d->listed.getD j false=true->D3 L d=some f->u04 st be oe h' f (a.tmps.getD d undef)
theorem C2.fr{st:St}{fr:List (Nat×AV)}{av:AV}{v:Value}(g:C2 st be oe av v):C2 { st with fr:=fr } be oe av v:=by
 obtain⟨n,fr0,bx,ow⟩:=st
 show C2 ⟨n,fr,bx,ow⟩ be oe av v
 exact C2.grow (st:=⟨n,fr0,bx,ow⟩) (st':=⟨n,fr,bx,ow⟩) (be:=be) (oe:=oe) (be':=be) (oe':=oe) (av:=av) (x:=v) ⟨Nat.le_refl _,λ_ _=>rfl,λi s h=>⟨s,h,Nat.le_refl _,λ_=>rfl⟩⟩ g
theorem v04{ops:Array Oper}{st:St}{L:List (Nat×R5)}{listed:Array Bool}{j:Nat}{o:Oper}{Q:Exit->Act->World->Prop}
  (hD:∀(i j:Nat) (oi oj:Oper) (d:Nat),ops.toList[i]?=some oi->ops.toList[j]?=some oj->oi.dst=some d->oj.dst=some d->i=j)
  (hn:∀ o∈ops.toList,∀ d,o.dst=some d->d<st.n)
  (hL1:∀ t f,(t,f)∈L->∃(i:Nat) (oi:Oper),ops.toList[i]?=some oi/\oi.dst=some t)
  (hL2:∀(i:Nat) (oi:Oper) (d:Nat),ops.toList[i]?=some oi->oi.dst=some d->∃ f,D3 L d=some f)
  (ho:ops[j]?=some o) (hall:∀(j:Nat) (o:Oper),ops.toList[j]?=some o->p0s P st h L o) (hdep:∀ t,Operand.tmp t∈o.op.operands->∀(i:Nat) (oi:Oper),ops.toList[i]?=some oi->oi.dst=some t->listed.getD i false=true)
  (hi:x0r P h0 w0 ops st h L listed a w):o.wp P a w (x0r P h0 w0 ops st h L (listed.setIfInBounds j true)) Q:=by
 obtain⟨be,oe,H,h',hs,s,facts⟩:=hi
 have hoL:ops.toList[j]?=some o:=by simpa using ho
 have hmem:o∈ops.toList:=List.mem_of_getElem? hoL
 obtain⟨hg,f,hf,hop⟩:=hall j o hoL
 have hst:∀ d F,D3 L d=some (.ef F)->∀ v h1 h2,Sub h1 h2->F v h1->F v h2:=λd F hF=>by
  obtain⟨i,oi,h1,h2⟩:=hL1 d _ (R0a hF)
  obtain⟨_,f',hf',hop'⟩:=hall i oi h1
  rw[hf' d h2]at hF
  cases hF
  exact hop'.1
 have opnd:∀ t,Operand.tmp t∈o.op.operands->(∀ f,D3 L t=some f->u04 st be oe h' f (a.tmps.getD t undef))/\(D3 L t=none->C2 st be oe (Z2 st.fr t) (a.tmps.getD t undef)):=λt ht=>by
  refine⟨λf hf=>?_,λhno=>?_⟩
  ·obtain⟨i,oi,h1,h2⟩:=hL1 t f (R0a hf)
   exact facts i oi t f (by simpa using h1) h2 (hdep t ht i oi h1 h2) hf
  ·have g:=s.fr t
   have hmiss:Z2 (Z3 ops.toList st.fr) t=Z2 st.fr t:=W00 λo' ho' hd=>by
    obtain⟨i,hi,e⟩:=List.getElem_of_mem ho'
    obtain⟨f,hf⟩:=hL2 i o' t (by rw[List.getElem?_eq_getElem hi,e]) hd
    rw[hno]at hf;cases hf
   rw[←hmiss]
   exact C2.fr (st := { st with fr:=Z3 ops.toList st.fr }) (fr:=st.fr) g
 have fin:∀ {fr:List (Nat×AV)} {a':Act} {w':World} {h'':Hp} {be':Nat->Nat} {oe':Nat->Value} {H':Hp} {v:Value},Sub h' h''->a'=a.put o.dst v->Sim P h0 w0 be' oe' H' { st with fr:=fr } h'' a w' ->
   M6 { st with fr:=fr } be oe { st with fr:=fr } be' oe'->u04 st be' oe' h'' f v->x0r P h0 w0 ops st h L (listed.setIfInBounds j true) a' w':=by
  intro fr a' w' h'' be' oe' H' v hss ha s' gr hv
  subst ha
  have gr':M6 { st with fr:=Z3 ops.toList st.fr } be oe { st with fr:=Z3 ops.toList st.fr } be' oe':=⟨gr.bl,gr.be,gr.sm⟩
  have gr2:M6 st be oe st be' oe':=⟨gr.bl,gr.be,gr.sm⟩
  have s1:Sim P h0 w0 be' oe' H' { st with fr:=Z3 ops.toList st.fr } h'' a w' :=
   s'.refr (fr:=Z3 ops.toList st.fr) λt=>C2.fr (st := { st with fr:=Z3 ops.toList st.fr }) ((s.fr t).grow gr')
  have s2:Sim P h0 w0 be' oe' H' { st with fr:=Z3 ops.toList st.fr } h'' (a.put o.dst v) w':=by
   cases hd:o.dst with
   |none=>exact s1
   |some d =>
    have hp:=s1.put (d:=d) (av := .dead) (v:=v) (hn o hmem d hd) trivial
    refine hp.refr (fr:=Z3 ops.toList st.fr) λt=>?_
    have g:=hp.fr t
    rw[T3]at g
    split at g
    ·rename_i e
     subst e
     rw[a02 hmem hd]
     trivial
    ·exact g
  refine⟨be',oe',H',h'',λb x hb=>hss b x (hs b x hb),s2,λi oi d g h1 h2 h3 h4=>?_⟩
  by_cases hij:j=i
  ·subst hij
   rw[ho]at h1;cases h1
   rw[hf d h2]at h4;cases h4
   have hlt:d<a.tmps.size:=by rw[s.siz];exact hn o hmem d h2
   have:(a.put o.dst v).tmps.getD d undef=v:=by
    rw[h2]
    simp[Act.put,hlt]
   rw[this]
   exact hv
  ·have hl0:listed.getD i false=true:=by rw[getD_set_ne false hij]at h3;exact h3
   have hne:∀ d',o.dst=some d'->d'≠d:=λd' hd' e=>by
    subst e
    exact hij (hD j i o oi d' hoL (by simpa using h1) hd' h2)
   have:(a.put o.dst v).tmps.getD d undef=a.tmps.getD d undef:=by
    cases hd:o.dst with
    |none=>rfl
    |some d'=>simp[Act.put,Array.getElem?_setIfInBounds_ne (hne d' hd)]
   rw[this]
   have old:=facts i oi d g h1 h2 hl0 h4
   cases g with
   |pu av=>exact C2.grow gr2 old
   |ef F=>exact hst d F h4 _ _ _ hss old
 cases f with
 |pu av =>
  obtain⟨fr,g,he⟩:=i0q (h:=h') hop opnd
  have s':Sim P h0 w0 be oe H { st with fr:=fr } h' a w:=s.refr (fr:=fr) λt=>C2.fr (g t)
  refine Oper.wp_mono (λa' w' hx=>?_) (Q9 s' he)
  obtain⟨av',st',h'',v,be',oe',H',⟨rfl,rfl,rfl⟩,ha,s2,g2,gr⟩:=hx
  exact fin (λ_ _ h=>h) ha s2 gr (C2.fr (st := { st with fr:=fr }) (fr:=st.fr) g2)
 |ef F =>
  obtain⟨fr,he,g⟩:=w02 (acc:=[]) (be:=be) (oe:=oe) (val:=λt=>a.tmps.getD t undef) (λt=>trivial) (λt ht=>opnd t (by simpa using ht)) (hop.2 h' hs)
  have s':Sim P h0 w0 be oe H { st with fr:=fr } h' a w:=s.refr (fr:=fr) λt=>C2.fr (g t)
  refine Oper.wp_mono (λa' w' hx=>?_) (Q9 s' he)
  obtain⟨av',st',h'',v,be',oe',H',hk,ha,s2,g2,gr⟩:=hx
  cases av' with
  |val u =>
   obtain⟨rfl,k1,k2⟩:=hk
   have hv:v=u:=g2
   subst hv
   exact fin k1 ha s2 gr k2
  |_=>exact hk.elim
theorem S0a{ops:Array Oper}(hB:∀(k:Nat) (o:Oper),ops.toList[k]?=some o->∀ e∈o.after,Region.binds .any e=true->e.on<k){listed:Array Bool}(hsz:listed.size=ops.size)(hr:Region.ready .any ops listed = []):
  ∀ j,j<ops.size->listed.getD j false=true:=by
 intro j
 induction j using Nat.strongRecOn with
 |_ j ih =>
  intro hj
  cases hl:listed.getD j false with
  |true=>rfl
  |false =>
   have hlt:j<listed.size:=by omega
   have:j∈Region.ready .any ops listed:=by
    refine mem_ready.2 ⟨?_,ops[j],by simp[hj],λe he hb=>?_⟩
    ·simp[hlt]at hl ⊢;exact hl
    ·have:=hB j ops[j] (by simp[hj]) e he hb
     exact ih e.on this (by omega)
   rw[hr]at this
   cases this
theorem count_set{listed:Array Bool}{j:Nat}(hj:listed.getD j true=false):(listed.setIfInBounds j true).toList.count true=listed.toList.count true+1:=by
 have hlt:j<listed.size:=by
  rcases Nat.lt_or_ge j listed.size with h|h
  ·exact h
  ·simp[Array.getElem?_eq_none h]at hj
 have hv:listed[j]=false:=by simpa [hlt] using hj
 rw[Array.toList_setIfInBounds,List.count_set (by simpa using hlt)]
 simp[hv]
end
end Go.H
namespace Go.H
set_option linter.unusedVariables false
set_option linter.unusedSimpArgs false
theorem j0q{P:Program}{t:TypeId}{cs:List l5}{off:Nat}{av:AV}(h:d0d P t cs off=some av):d04 P t cs off λa=>a=av:=by
 unfold d0d at h
 unfold d04
 cases hA:G0g P t with
 |none=>rw[hA]at h;cases h
 |some bb =>
  rw[hA]at h
  cases bb with
  |true =>
   cases hT:E5 P t with
   |none=>rw[hT]at h;cases h
   |some m =>
    rw[hT]at h
    simp only at h ⊢
    split at h
    ·rename_i hB
     cases h
     rw[hB]
    ·cases h
  |false =>
   simp only at h ⊢
   split at h
   ·rename_i c hN
    cases h
    rw[hN]
   ·cases h
section
variable {P:Program} {h0:Hp} {w0:World} {be:Nat->Nat} {oe:Nat->Value} {H:Hp} {h:Hp} {a:Act} {w:World}
theorem H05{L:List (Nat×R5)}{st stX:St}{x:Operand}
  (hv:∀ t,x = .tmp t->(∀ av,D3 L t=some (.pu av)->C2 stX be oe av (a.tmps.getD t undef))/\(D3 L t=none->C2 stX be oe (Z2 st.fr t) (a.tmps.getD t undef))):C2 stX be oe (l05 L st x) (a.eval x):=by
 cases x with
 |tmp t =>
  obtain⟨h1,h2⟩:=hv t rfl
  show C2 stX be oe (l05 L st (.tmp t)) (a.tmps.getD t undef)
  simp only[l05]
  split
  ·rename_i av e;exact h1 av e
  ·trivial
  ·rename_i e;exact h2 e
 |const v=>exact rfl
 |global g=>trivial
 |func f=>trivial
theorem k06{L:List (Nat×R5)}{st stX:St}:∀(l:List Operand) {vs:List (Nat×Value)},(∀ t,Operand.tmp t∈l->C2 stX be oe (l05 L st (.tmp t)) (a.tmps.getD t undef))->T0b L st l=some vs ->
  (∀ p∈vs,p.2=a.eval (.tmp p.1))/\(∀ x∈l,(∃ t v,x = .tmp t/\(t,v)∈vs)∨(∀ ws,rho ws x=a.eval x))
 | [],vs,G,h=>by cases h;simp
 | .tmp t::r,vs,G,h=>by
  simp only[T0b]at h
  split at h
  ·rename_i v hv
   split at h
   ·rename_i vs' hr
    cases h
    obtain⟨h1,h2⟩:=k06 r (λu hu=>G u (mC _ hu)) hr
    have g:=G t mS
    rw[hv]at g
    have g:a.tmps.getD t undef=v:=g
    refine⟨λp hp=>?_,λx hx=>?_⟩
    ·rcases List.mem_cons.1 hp with rfl|hp
     ·exact g.symm
     ·exact h1 p hp
    ·rcases List.mem_cons.1 hx with rfl|hx
     ·exact .inl ⟨t,v,rfl,mS⟩
     ·rcases h2 x hx with⟨t',v',rfl,hm⟩|hf
      ·exact .inl ⟨t',v',rfl,mC _ hm⟩
      ·exact .inr hf
   ·cases h
  ·cases h
 | .global _::r,vs,G,h=>by cases h
 | .const v::r,vs,G,h=>by
  obtain⟨h1,h2⟩:=k06 r (vs:=vs) (λu hu=>G u (mC _ hu)) h
  exact⟨h1,λx hx=>by
   rcases List.mem_cons.1 hx with rfl|hx
   ·exact .inr λ_=>rfl
   ·exact h2 x hx⟩
 | .func f::r,vs,G,h=>by
  obtain⟨h1,h2⟩:=k06 r (vs:=vs) (λu hu=>G u (mC _ hu)) h
  exact⟨h1,λx hx=>by
   rcases List.mem_cons.1 hx with rfl|hx
   ·exact .inr λ_=>rfl
   ·exact h2 x hx⟩
theorem r0i{L:List (Nat×R5)}{st stX:St}{o:Oper}{av:AV}(hp:d0k P L o st=some av)
  (hv:∀ t,Operand.tmp t∈o.op.operands->(∀ av,D3 L t=some (.pu av)->C2 stX be oe av (a.tmps.getD t undef))/\(D3 L t=none->C2 stX be oe (Z2 st.fr t) (a.tmps.getD t undef))) :
  ∃ v,(execOp a.eval o).run P w = .ok (.value v) w/\C2 stX be oe av v:=by
 unfold d0k at hp
 split at hp
 ·rename_i vs hsel hvs
  obtain⟨h1,h2⟩:=k06 (a:=a) (stX:=stX) (be:=be) (oe:=oe) _ (λt ht=>H05 (x := .tmp t) λu hu=>by cases hu;exact hv t (by simpa using ht)) hvs
  split at hp
  ·cases hp
  ·split at hp
   ·rename_i v hev
    cases hp
    rw[G09,O07 hsel h1 h2]at hev
    exact⟨v,n0l _ hev w,rfl⟩
   ·cases hp
 ·cases hp
theorem Z04{L L':List (Nat×R5)}{st:St}:∀ {l:List Operand},(∀ t,Operand.tmp t∈l->D3 L t=D3 L' t)->T0b L st l=T0b L' st l
 | [],h=>rfl
 | .tmp t::r,h=>by simp only[T0b,l05,h t mS,Z04 λu hu=>h u (mC _ hu)]
 | .global _::r,h=>rfl
 | .const _::r,h=>Z04 (l:=r) λu hu=>h u (mC _ hu)
 | .func _::r,h=>Z04 (l:=r) λu hu=>h u (mC _ hu)
theorem v0d{L:List (Nat×R5)}{st:St}{o:Oper}{t:TypeId}{x:Operand}{i off:Nat}(hx:o.op = .load t x)(hr:l05 L st x = .box i off):∀ {l:List Oper},o∈l->i∈A9 L st l
 | [],h=>nomatch h
 |y::r,h=>by
  rcases List.mem_cons.1 h with rfl|h
  ·simp only[A9,hx,hr]
   exact mS
  ·have:=v0d hx hr h
   simp only[A9]
   split
   ·split
    ·exact mC _ this
    ·exact this
   ·exact this
theorem B0f{bx bx':List BSt}{i:Nat}:∀ {l:List Nat},t08 bx l=t08 bx' l->i∈l->nth bx i=nth bx' i
 | [],_,h=>nomatch h
 |y::r,e,h=>by
  simp only[t08,List.cons.injEq]at e
  rcases List.mem_cons.1 h with rfl|h
  ·exact e.1
  ·exact B0f e.2 h
theorem N0m{L:List (Nat×R5)}{st stX:St}{o:Oper}{av:AV}(s:Sim P h0 w0 be oe H stX h a w)(hbx:∀ t x i off,o.op = .load t x->l05 L st x = .box i off->nth stX.bx i=nth st.bx i)(hp:s08 P L o st=some av)
  (hv:∀ t,Operand.tmp t∈o.op.operands->(∀ av,D3 L t=some (.pu av)->C2 stX be oe av (a.tmps.getD t undef))/\(D3 L t=none->C2 stX be oe (Z2 st.fr t) (a.tmps.getD t undef))) :
  ∃ v,(execOp a.eval o).run P w = .ok (.value v) w/\C2 stX be oe av v:=by
 unfold s08 at hp
 split at hp
 ·rename_i x hx
  split at hp
  ·cases hp
   refine⟨a.eval x,?_,H05 λt ht=>hv t (by rw[hx];simp[Op.operands,ht])⟩
   unfold execOp;rw[hx];rfl
  ·cases hp
 ·rename_i x hx
  split at hp
  ·cases hp
   refine⟨a.eval x,?_,H05 λt ht=>hv t (by rw[hx];simp[Op.operands,ht])⟩
   unfold execOp;rw[hx];rfl
  ·cases hp
 ·rename_i t x hx
  have g:=H05 (L:=L) (st:=st) (stX:=stX) (be:=be) (oe:=oe) (a:=a) (x:=x) λt ht=>hv t (by rw[hx];simp[Op.operands,ht])
  split at hp
  ·rename_i i off hr
   rw[hr]at g
   split at hp
   ·rename_i cs ty hn
    split at hp
    ·rename_i av' hco
     split at hp
     ·cases hp
      obtain⟨h1,vs,h2,h3⟩:=s.box i cs ty (by rw[hbx t x i off hx hr];exact hn)
      obtain⟨av2,v,k1,k2,k3⟩:=R.load_row (H:=H) (b:=be i) (o:=0) (be:=be) (j0q hco) h2 (λj v hj=>by simp[Hp.cell,h3,hj])
      subst k1
      exact⟨v,R.run_of (R.exec_load hx g.2 (by simpa using k3)) w (f0o s),k2⟩
     ·cases hp
    ·cases hp
   ·cases hp
  ·cases hp
 ·rename_i t x k hx
  have g:=H05 (L:=L) (st:=st) (stX:=stX) (be:=be) (oe:=oe) (a:=a) (x:=x) λt ht=>hv t (by rw[hx];simp[Op.operands,ht])
  split at hp
  ·rename_i i off fo hr ht
   rw[hr]at g
   cases hp
   exact⟨ptr (be i) (off+fo),R.run_of (R.exec_fieldAddr hx ht g.2) w (f0o s),g.1,rfl⟩
  ·cases hp
 ·split at hp
  ·exact r0i hp hv
  ·cases hp
 ·split at hp
  ·split at hp
   ·exact r0i hp hv
   ·cases hp
  ·cases hp
 ·cases hp
theorem H01{L:List (Nat×R5)}{st stX:St}{val:Nat->Value}{K:List (Nat×AV)->Prop}:∀ {l:List Operand} {acc:List (Nat×AV)},
  (∀ t,C2 stX be oe (Z2 acc t) (val t))->(∀ t,Operand.tmp t∈l->(∀ av,D3 L t=some (.pu av)->C2 stX be oe av (val t))/\(D3 L t=none->C2 stX be oe (Z2 st.fr t) (val t))) ->
  K03 L st.fr l acc K->∃ fr,K fr/\∀ t,C2 stX be oe (Z2 fr t) (val t)
 | [],acc,h1,h2,he=>⟨acc,he,h1⟩
 | .tmp t::r,acc,h1,h2,he=>by
  have h2r:∀ u,Operand.tmp u∈r->_:=λu hu=>h2 u (mC _ hu)
  have hx:=h2 t mS
  have put:∀ av,C2 stX be oe av (val t)->∀ u,C2 stX be oe (Z2 ((t,av)::acc) u) (val u):=λav g u=>by
   rw[T3]
   split
   ·rename_i e;subst e;exact g
   ·exact h1 u
  simp only[K03]at he
  split at he
  ·rename_i av e
   exact H01 (put av (hx.1 _ e)) h2r he
  ·rename_i F e
   exact H01 (put .dead trivial) h2r he
  ·rename_i e
   exact H01 (put _ (hx.2 e)) h2r he
 | .const v::r,acc,h1,h2,he=>H01 (l:=r) h1 (λu hu=>h2 u (mC _ hu)) he
 | .global v::r,acc,h1,h2,he=>H01 (l:=r) h1 (λu hu=>h2 u (mC _ hu)) he
 | .func v::r,acc,h1,h2,he=>H01 (l:=r) h1 (λu hu=>h2 u (mC _ hu)) he
theorem T0a:∀(L:List (Nat×R5)) (fr:List (Nat×AV)) (t:Nat),Z2 (a0i L fr) t=match D3 L t with
  |some (.pu av)=>av
  |some (.ef _) => .dead
  |none=>Z2 fr t
 | [],fr,t=>rfl
 |(d,.pu av)::r,fr,t=>by
  simp only[a0i]
  rw[T3,t00]
  split
  ·rfl
  ·exact T0a r fr t
 |(d,.ef F)::r,fr,t=>by
  simp only[a0i]
  rw[T3,t00]
  split
  ·rfl
  ·exact T0a r fr t
theorem s0i{L L':List (Nat×R5)}{o:Oper}{st:St}(h:∀ t,Operand.tmp t∈o.op.operands->D3 L t=D3 L' t):s08 P L o st=s08 P L' o st:=by
 have raw:∀ x:Operand,(∀ t,x = .tmp t->Operand.tmp t∈o.op.operands)->l05 L st x=l05 L' st x:=λx hx=>by
  cases x with
  |tmp t=>simp only[l05,h t (hx t rfl)]
  |_=>rfl
 have sem:d0k P L o st=d0k P L' o st:=by
  unfold d0k
  rw[Z04 (l:=o.op.operands.toList) λt ht=>h t (by simpa using ht)]
 unfold s08
 split
 ·rename_i x hx;rw[raw x λt ht=>by rw[hx];simp[Op.operands,ht]]
 ·rename_i x hx;rw[raw x λt ht=>by rw[hx];simp[Op.operands,ht]]
 ·rename_i t x hx;rw[raw x λt ht=>by rw[hx];simp[Op.operands,ht]]
 ·rename_i t x k hx;rw[raw x λt ht=>by rw[hx];simp[Op.operands,ht]]
 ·rename_i op t x y yt hx
  rw[raw x λt ht=>by rw[hx];simp[Op.operands,ht],raw y λt ht=>by rw[hx];simp[Op.operands,ht],sem]
 ·rename_i as ts hx
  split
  ·rename_i x hl
   rw[raw x λt ht=>by
    rw[hx]
    have:x∈as.toList:=by rw[hl];exact mS
    rw[ht]at this
    simp[Op.operands,Call.operands]
    simpa using this,sem]
  ·rfl
 ·rfl
theorem I01{L L':List (Nat×R5)}{fr0:List (Nat×AV)}{K:List (Nat×AV)->Prop}:∀ {l:List Operand} {acc:List (Nat×AV)},(∀ t,Operand.tmp t∈l->D3 L t=D3 L' t)->K03 L fr0 l acc K->K03 L' fr0 l acc K
 | [],acc,hl,h=>h
 | .tmp t::r,acc,hl,h=>by
  have e:=hl t mS
  have hr:∀ u,Operand.tmp u∈r->D3 L u=D3 L' u:=λu hu=>hl u (mC _ hu)
  simp only[K03]at h ⊢
  rw[←e]
  split at h
  ·exact I01 hr h
  ·exact I01 hr h
  ·exact I01 hr h
 | .const _::r,acc,hl,h=>I01 (l:=r) (λu hu=>hl u (mC _ hu)) h
 | .func _::r,acc,hl,h=>I01 (l:=r) (λu hu=>hl u (mC _ hu)) h
 | .global _::r,acc,hl,h=>I01 (l:=r) (λu hu=>hl u (mC _ hu)) h
structure a05 (P:Program) (st:St) (h:Hp) (ops:List Oper) (k:Nat) (L:List (Nat×R5)) (X E:List (Nat×Oper)):Prop where
 key:∀ t f,D3 L t=some f->∃(i:Nat) (oi:Oper),i<k/\ops[i]?=some oi/\oi.dst=some t
 cov:∀(i:Nat) (oi:Oper) (d:Nat),i<k->ops[i]?=some oi->oi.dst=some d->∃ f,D3 L d=some f
 each:∀(j:Nat) (o:Oper),j<k->ops[j]?=some o->o.guard=none/\((j,o)∈E∨((∀ p∈E,p.1≠j)/\∃ av,(s08 P L o st=some av∨((j,o)∈X/\b0i P st h L o av))/\∀ d,o.dst=some d->D3 L d=some (.pu av)))
 eff:∀ p∈E,p.1<k/\ops[p.1]?=some p.2/\∀ d,p.2.dst=some d->∃ F,D3 L d=some (.ef F)
 nd:(E.map λp=>p.1).Nodup
 xx:∀ p∈X,p.1<k/\ops[p.1]?=some p.2
theorem a05.add{st:St}{h:Hp}{ops:List Oper}{k:Nat}{L:List (Nat×R5)}{X X' E E':List (Nat×Oper)}{o:Oper}{f:R5}
  (hD:∀(i j:Nat) (oi oj:Oper) (d:Nat),ops[i]?=some oi->ops[j]?=some oj->oi.dst=some d->oj.dst=some d->i=j)
  (hdep:∀(j:Nat) (o:Oper) (t i:Nat) (oi:Oper),ops[j]?=some o->Operand.tmp t∈o.op.operands->ops[i]?=some oi->oi.dst=some t->i<j)
  (s:a05 P st h ops k L X E) (ho:ops[k]?=some o) (hg:o.guard=none) (hX:X'=X∨X'=X ++ [(k,o)])
  (hE:(E'=E/\∃ av,f = .pu av/\(s08 P L o st=some av∨((k,o)∈X'/\b0i P st h L o av)))∨(E'=E ++ [(k,o)]/\∃ F,f = .ef F)):a05 P st h ops (k+1) (a06 o.dst f L) X' E':=by
 have no:∀ d,o.dst=some d->D3 L d=none:=λd hd=>by
  cases h:D3 L d with
  |none=>rfl
  |some g =>
   obtain⟨i,oi,h1,h2,h3⟩:=s.key d g h
   have:=hD i k oi o d h2 ho h3 hd
   omega
 have up:∀ t g,D3 L t=some g->D3 (a06 o.dst f L) t=some g:=λt g ht=>by
  cases hd:o.dst with
  |none=>exact ht
  |some d =>
   show D3 ((d,f)::L) t=some g
   rw[t00]
   split
   ·rename_i e;subst e;rw[no d hd]at ht;cases ht
   ·exact ht
 have top:∀ d,o.dst=some d->D3 (a06 o.dst f L) d=some f:=λd hd=>by
  rw[hd];show D3 ((d,f)::L) d=some f;rw[t00,if_pos rfl]
 have dn:∀ t g,D3 (a06 o.dst f L) t=some g->D3 L t=some g∨(o.dst=some t/\g=f):=λt g ht=>by
  cases hd:o.dst with
  |none=>rw[hd]at ht;exact .inl ht
  |some d =>
   rw[hd]at ht
   change D3 ((d,f)::L) t=some g at ht
   rw[t00]at ht
   split at ht
   ·rename_i e;subst e;cases ht;exact .inr ⟨rfl,rfl⟩
   ·exact .inl ht
 have agree:∀(j:Nat) (oj:Oper),j<=k->ops[j]?=some oj->s08 P L oj st=s08 P (a06 o.dst f L) oj st:=λj oj hj hoj=>s0i λt ht=>by
  cases hd:o.dst with
  |none=>rfl
  |some d =>
   show D3 L t=D3 ((d,f)::L) t
   rw[t00]
   split
   ·rename_i e
    subst e
    have:=hdep j oj d k o hoj ht ho hd
    omega
   ·rfl
 have agreeX:∀(j:Nat) (oj:Oper) (av:AV),j<=k->ops[j]?=some oj->b0i P st h L oj av->b0i P st h (a06 o.dst f L) oj av:=λj oj av hj hoj hx=>by
  obtain⟨n,fr,bx,ow⟩:=st
  intro h' hs
  refine I01 (λt ht=>?_) (hx h' hs)
  cases hd:o.dst with
  |none=>rfl
  |some d =>
   show D3 L t=D3 ((d,f)::L) t
   rw[t00]
   split
   ·rename_i e
    subst e
    have:=hdep j oj d k o hoj (by simpa using ht) ho hd
    omega
   ·rfl
 have inX:∀ p,p∈X->p∈X':=λp hp=>by
  rcases hX with rfl|rfl
  ·exact hp
  ·exact List.mem_append_left _ hp
 refine⟨λt g ht=>?_,λi oi d hi h1 h2=>?_,λj oj hj hoj=>?_,λp hp=>?_,?_,λp hp=>?_⟩
 rotate_left 5
 ·rcases hX with rfl|rfl
  ·obtain⟨h1,h2⟩:=s.xx p hp
   exact⟨by omega,h2⟩
  ·rcases List.mem_append.1 hp with hp|hp
   ·obtain⟨h1,h2⟩:=s.xx p hp
    exact⟨by omega,h2⟩
   ·simp at hp
    subst hp
    exact⟨by simp,ho⟩
 rotate_left 4
 ·rcases hE with⟨rfl,_⟩|⟨rfl,_⟩
  ·exact s.nd
  ·rw[List.map_append,List.nodup_append]
   refine⟨s.nd,by simp,λx hx y hy e=>?_⟩
   obtain⟨p,hp,rfl⟩:=List.mem_map.1 hx
   have:=(s.eff p hp).1
   simp at hy
   omega
 ·rcases dn t g ht with h|⟨h,_⟩
  ·obtain⟨i,oi,h1,h2⟩:=s.key t g h
   exact⟨i,oi,by omega,h2⟩
  ·exact⟨k,o,by omega,ho,h⟩
 ·rcases Nat.lt_or_ge i k with h|h
  ·obtain⟨g,hg⟩:=s.cov i oi d h h1 h2
   exact⟨g,up d g hg⟩
  ·have:i=k:=by omega
   subst this
   rw[ho]at h1;cases h1
   exact⟨f,top d h2⟩
 ·rcases Nat.lt_or_ge j k with h|h
  ·obtain⟨k1,k2⟩:=s.each j oj h hoj
   refine⟨k1,?_⟩
   rcases k2 with k2|⟨k2,av,k3,k4⟩
   ·left
    rcases hE with⟨rfl,_⟩|⟨rfl,_⟩
    ·exact k2
    ·exact List.mem_append_left _ k2
   ·right
    refine⟨λp hp=>?_,av,k3.imp (λk3=>by rw[←agree j oj (by omega) hoj];exact k3) (λk3=>⟨inX _ k3.1,agreeX j oj av (by omega) hoj k3.2⟩),λd hd=>up d _ (k4 d hd)⟩
    rcases hE with⟨rfl,_⟩|⟨rfl,_⟩
    ·exact k2 p hp
    ·rcases List.mem_append.1 hp with hp|hp
     ·exact k2 p hp
     ·simp at hp;rw[hp];show k≠j;omega
  ·have:j=k:=by omega
   subst this
   rw[ho]at hoj;cases hoj
   refine⟨hg,?_⟩
   rcases hE with⟨rfl,av,rfl,hp⟩|⟨rfl,F,rfl⟩
   ·right
    exact⟨λp hp=>by have:=(s.eff p hp).1;omega,av,hp.imp (λhp=>by rw[←agree _ o (Nat.le_refl _) ho];exact hp) (λhp=>⟨hp.1,agreeX _ o av (Nat.le_refl _) ho hp.2⟩),top⟩
   ·left
    exact List.mem_append_right _ (List.mem_singleton.2 rfl)
 ·have old:p∈E->p.1<k+1/\ops[p.1]?=some p.2/\∀ d,p.2.dst=some d->∃ F,D3 (a06 o.dst f L) d=some (.ef F):=λhp=>by
   obtain⟨h1,h2,h3⟩:=s.eff p hp
   exact⟨by omega,h2,λd hd=>by obtain⟨F,hF⟩:=h3 d hd;exact⟨F,up d _ hF⟩⟩
  rcases hE with⟨rfl,_⟩|⟨rfl,F,rfl⟩
  ·exact old hp
  ·rcases List.mem_append.1 hp with hp|hp
   ·exact old hp
   ·simp at hp
    subst hp
    exact⟨by omega,ho,λd hd=>⟨F,top d hd⟩⟩
theorem b05{ops:List Oper}{st:St}{h:Hp}{K:List (Nat×R5)->List (Nat×Oper)->List (Nat×Oper)->Prop}
  (hD:∀(i j:Nat) (oi oj:Oper) (d:Nat),ops[i]?=some oi->ops[j]?=some oj->oi.dst=some d->oj.dst=some d->i=j)
  (hdep:∀(j:Nat) (o:Oper) (t i:Nat) (oi:Oper),ops[j]?=some o->Operand.tmp t∈o.op.operands->ops[i]?=some oi->oi.dst=some t->i<j) :
  ∀(l:List Oper) (k:Nat) (L:List (Nat×R5)) (X E:List (Nat×Oper)),(∀ j,l[j]?=ops[k+j]?)->a05 P st h ops k L X E->e03 P st h l k L X E K->∃ L0 X0 E0,K L0 X0 E0/\a05 P st h ops ops.length L0 X0 E0
 | [],k,L,X,E,hl,s,he=>by
  refine⟨L,X,E,he,?_⟩
  have hk:ops.length<=k:=by
   have:=hl 0
   simpa using this
  have lt:∀(i:Nat) (oi:Oper),ops[i]?=some oi->i<ops.length:=λi oi h=>(List.getElem?_eq_some_iff.1 h).1
  exact⟨λt f h=>by obtain⟨i,oi,_,h2,h3⟩:=s.key t f h;exact⟨i,oi,lt i oi h2,h2,h3⟩,λi oi d hi=>s.cov i oi d (by omega),λj o hj=>s.each j o (by omega),
   λp hp=>by obtain⟨_,h2,h3⟩:=s.eff p hp;exact⟨lt _ _ h2,h2,h3⟩,s.nd,λp hp=>by obtain⟨_,h2⟩:=s.xx p hp;exact⟨lt _ _ h2,h2⟩⟩
 |o::l,k,L,X,E,hl,s,he=>by
  have ho:ops[k]?=some o:=by simpa using (hl 0).symm
  have hl':∀ j,l[j]?=ops[k+1+j]?:=λj=>by have:=hl (j+1);simpa [Nat.add_assoc,Nat.add_comm 1 j] using this
  simp only[e03]at he
  split at he
  ·exact he.elim
  ·rename_i hg
   split at he
   ·rename_i av hav
    rw[A02]at he
    exact b05 hD hdep l (k+1) _ _ _ hl' (s.add hD hdep ho hg (.inl rfl) (.inl ⟨rfl,av,rfl,.inl hav⟩)) he
   ·rcases he with⟨av,hx,he⟩|he
    ·rw[A02]at he
     exact b05 hD hdep l (k+1) _ _ _ hl' (s.add hD hdep ho hg (.inr rfl) (.inl ⟨rfl,av,rfl,.inr ⟨by simp,hx⟩⟩)) he
    ·exact b05 hD hdep l (k+1) _ _ _ hl' (s.add hD hdep ho hg (.inl rfl) (.inr ⟨rfl,_,rfl⟩)) he
theorem w0d:∀(r:List (Nat×Oper)) (q:Nat×Oper),i04 r=true->q∈r.tail->∃ p∈r,H7 p.1 q.2=true
 | [],q,_,h=>by cases h
 | [x],q,_,h=>by cases h
 |(i,o)::(j,o')::r,q,hc,h=>by
  simp only[i04,Bool.and_eq_true]at hc
  rcases List.mem_cons.1 h with rfl|h
  ·exact⟨(i,o),mS,hc.1⟩
  ·obtain⟨p,hp,he⟩:=w0d ((j,o')::r) q hc.2 h
   exact⟨p,mC _ hp,he⟩
theorem M02:∀(d r:List (Nat×Oper)),i04 (d++r)=true->i04 r=true
 | [],r,h=>h
 | [x],[],h=>rfl
 | [(i,o)],(j,o')::r,h=>by simp only[List.singleton_append,i04,Bool.and_eq_true]at h;exact h.2
 |(i,o)::(j,o')::d,r,h=>by
  simp only[List.cons_append,i04,Bool.and_eq_true]at h
  exact M02 ((j,o')::d) r h.2
theorem n05{i:Nat}{o:Oper}:∀ {N:Nat},j04 N i o=true->∀ k,k<N->k≠i->∃ e∈o.after,Region.binds .any e=true/\e.on=k
 |0,_,k,hk,_=>by omega
 |N+1,h,k,hk,hne=>by
  simp only[j04,Bool.and_eq_true,Bool.or_eq_true]at h
  by_cases e:k=N
  ·subst e
   rcases h.1 with g|g
   ·exact absurd (Nat.eq_of_beq_eq_true g) hne
   ·exact l7 g
  ·exact n05 h.2 k (by omega) hne
def m0k(P:Program)(h0:Hp)(w0:World)(ops:Array Oper)(n:Nat)(fr:List (Nat×AV))(bx0:List BSt)(ow0:List Own)(hs:Hp)(c:Nat)(F:List (Nat×Oper))(L0:List (Nat×R5))(EV:List (Nat×Oper)->List (Nat×Oper)->List (Nat×R5)->St->Hp->Prop)(listed:Array Bool)(a:Act)(w:World):Prop :=
 ∃(dn r:List (Nat×Oper)) (L:List (Nat×R5)) (bx:List BSt) (ow:List Own) (h:Hp) (be:Nat->Nat) (oe:Nat->Value) (H:Hp),F=dn++r/\(dn.length<=c->ow=ow0/\Sub hs h/\(bx=bx0∨∀ k,k<ops.size->listed.getD k false=true))/\(∀(j:Nat) (o:Oper),ops[j]?=some o->listed.getD j false=true->∀ e∈o.after,Region.binds .any e=true->listed.getD e.on false=true)/\(∀ p∈r,listed.getD p.1 true=false)/\(∀ p∈dn,listed.getD p.1 false=true) /\
  (t08 bx (A9 L0 ⟨n,fr,bx0,ow0⟩ ops.toList)=t08 bx0 (A9 L0 ⟨n,fr,bx0,ow0⟩ ops.toList)∨∀ k,k<ops.size->listed.getD k false=true)/\Sim P h0 w0 be oe H ⟨n,Z3 ops.toList fr,bx,ow⟩ h a w/\EV dn r L ⟨n,fr,bx,ow⟩ h /\
  (∀ t,(D3 L0 t=none->D3 L t=none)/\∀ av,D3 L0 t=some (.pu av)->D3 L t=some (.pu av)) /\
  ∀(j:Nat) (o:Oper) (d:Nat),ops[j]?=some o->o.dst=some d->listed.getD j false=true->∃ av,D3 L d=some (.pu av)/\C2 ⟨n,fr,bx,ow⟩ be oe av (a.tmps.getD d undef)
abbrev O0m(P:Program)(h0:Hp)(w0:World)(ops:Array Oper)(n:Nat)(fr:List (Nat×AV))(bx0:List BSt)(ow0:List Own)(hs:Hp)(c:Nat)(E:List (Nat×Oper))(L0:List (Nat×R5))(K:St->Hp->Prop)(listed:Array Bool)(a:Act)(w:World):Prop :=
 m0k P h0 w0 ops n fr bx0 ow0 hs c E L0 (λdn r L st h=>evC (A9 L0 ⟨n,fr,bx0,ow0⟩ ops.toList) ops.size P (c-dn.length) r L st h K) listed a w
theorem y0r{ops:Array Oper}{Q:Exit->Act->World->Prop}{Inv:Array Bool->Act->World->Prop}(hB:∀(k:Nat) (o:Oper),ops.toList[k]?=some o->∀ e∈o.after,Region.binds .any e=true->e.on<k)
  (hstep:∀ listed a w j o,listed.size=ops.size->listed.getD j true=false->ops[j]?=some o->(∀ e∈o.after,Region.binds .any e=true->listed.getD e.on false=true)->Inv listed a w->o.guard=none/\o.wp P a w (Inv (listed.setIfInBounds j true)) Q)
  (hQ:∀ listed a w,(∀ j,j<ops.size->listed.getD j false=true)->Inv listed a w->Q .normal a w) :
  ∀(fuel:Nat) (listed:Array Bool) (a:Act) (w:World),listed.size=ops.size->listed.toList.count true+fuel=ops.size->Inv listed a w->wpAny P .any ops Q fuel listed a w
 |0,listed,a,w,hsz,hc,hi=>by
  have hall':∀ j,j<ops.size->listed.getD j false=true:=λj hj=>by
   have h1:∀ b∈listed.toList,true=b:=List.count_eq_length.1 (by simp only[Array.length_toList];omega)
   have hlt:j<listed.size:=by omega
   have:=h1 listed[j] (by simp)
   simp[hlt,←this]
  refine⟨?_,hQ listed a w hall' hi⟩
  cases hr:Region.ready .any ops listed with
  |nil=>rfl
  |cons j r =>
   have hj:j∈Region.ready .any ops listed:=by rw[hr];exact mS
   obtain⟨h1,o,h2,_⟩:=mem_ready.1 hj
   have hlt:j<ops.size:=(Array.getElem?_eq_some_iff.1 h2).1
   have:=hall' j hlt
   have hlt':j<listed.size:=by omega
   simp[hlt']at this h1
   rw[this]at h1;cases h1
 |fuel+1,listed,a,w,hsz,hc,hi=>by
  refine⟨λhr=>hQ listed a w (S0a hB hsz hr) hi,λj hj=>?_⟩
  obtain⟨h1,o,h2,h3⟩:=mem_ready.1 hj
  unfold wpOp
  simp only[h2]
  obtain⟨hg,hw'⟩:=hstep listed a w j o hsz h1 h2 h3 hi
  have hw:Region.wanted o (yielded ops a.tmps)=true:=by unfold Region.wanted;rw[hg]
  rw[if_pos hw]
  exact .inl (Oper.wp_mono (λa' w' hi'=>y0r hB hstep hQ fuel _ a' w' (by simpa using hsz) (by rw[count_set h1];omega) hi') hw')
theorem O09{ops:Array Oper}{listed:Array Bool}{X:List (Nat×Oper)}
  (hcl:∀(k:Nat) (o:Oper),ops[k]?=some o->listed.getD k false=true->∀ e∈o.after,Region.binds .any e=true->listed.getD e.on false=true)
  (hX:∀ y∈X,ops[y.1]?=some y.2):∀(n i jq:Nat) (q:Oper),ops[jq]?=some q->listed.getD jq false=true->M0g X n i q=true->listed.getD i false=true
 |0,i,jq,q,hq,hl,hr=>by
  obtain⟨e,he1,he2,he3⟩:=l7 hr
  have:=hcl jq q hq hl e he1 he2
  rwa [he3]at this
 |n+1,i,jq,q,hq,hl,hr=>by
  simp only[M0g,Bool.or_eq_true,List.any_eq_true,Bool.and_eq_true]at hr
  rcases hr with h1|⟨y,hy,h1,h2⟩
  ·obtain⟨e,he1,he2,he3⟩:=l7 h1
   have:=hcl jq q hq hl e he1 he2
   rwa [he3]at this
  ·obtain⟨e,he1,he2,he3⟩:=l7 h1
   have h4:=hcl jq q hq hl e he1 he2
   rw[he3]at h4
   exact O09 hcl hX n i y.1 y.2 (hX y hy) h4 h2
theorem U0a{E:List (Nat×Oper)}{listed:Array Bool}{j:Nat}{o:Oper}(hedge:∀ e∈o.after,Region.binds .any e=true->listed.getD e.on false=true)
  (hch:∀ dn r,E=dn++r->i04 r=true) {dn r:List (Nat×Oper)} (hE:E=dn++r) (hr:∀ p∈r,listed.getD p.1 true=false) (hjr:(j,o)∈r):∃ r',r=(j,o)::r':=by
 obtain⟨q,r',rfl⟩:∃ q r',r=q::r':=by
  cases r with
  |nil=>cases hjr
  |cons q r'=>exact⟨q,r',rfl⟩
 rcases List.mem_cons.1 hjr with e|hx
 ·exact⟨r',by rw[e]⟩
 ·exfalso
  obtain⟨p,hp,hed⟩:=w0d (q::r') (j,o) (hch dn _ hE) hx
  obtain⟨e,he1,he2,he3⟩:=l7 hed
  have h1:=hedge e he1 he2
  have h2:=hr p hp
  rw[he3]at h1
  rcases Nat.lt_or_ge p.1 listed.size with g|g
  ·simp[g]at h1 h2
   rw[h1]at h2;cases h2
  ·simp[Array.getElem?_eq_none g]at h1
theorem C0f{ops:Array Oper}{n:Nat}{fr:List (Nat×AV)}{bx0:List BSt}{ow0:List Own}{hs:Hp}{c:Nat}{X E F:List (Nat×Oper)}{L0:List (Nat×R5)}{EV:List (Nat×Oper)->List (Nat×Oper)->List (Nat×R5)->St->Hp->Prop}{Q:Exit->Act->World->Prop}{listed:Array Bool}{j:Nat}{o:Oper}
  (hD:∀(i j:Nat) (oi oj:Oper) (d:Nat),ops.toList[i]?=some oi->ops.toList[j]?=some oj->oi.dst=some d->oj.dst=some d->i=j)
  (hn:∀ o∈ops.toList,∀ d,o.dst=some d->d<n) (sp:a05 P ⟨n,fr,bx0,ow0⟩ hs ops.toList ops.toList.length L0 X E) (hFE:∀ x∈F,x∈E) (hEF:(j,o)∈E->(j,o)∈F) (hFn:(F.map λp=>p.1).Nodup)
  (hnx:∀ dn r,F=dn++r->(∀ p∈dn,listed.getD p.1 false=true)->(∀ p∈r,listed.getD p.1 true=false)->(j,o)∈r->∃ r',r=(j,o)::r')
  (hev:∀ dn r' L bx ow h,F=dn++(j,o)::r'->(∀ p∈dn,listed.getD p.1 false=true)->EV dn ((j,o)::r') L ⟨n,fr,bx,ow⟩ h->K03 L fr o.op.operands.toList [] λfr1=>F7 P o ⟨n,fr1,bx,ow⟩ h λav st' h'=>match st' with
   |⟨_,_,bx',ow'⟩=>H0a (c-dn.length) ow ow' h h'/\t0f (c-dn.length) (A09 ops.size j o r') (A9 L0 ⟨n,fr,bx0,ow0⟩ ops.toList) bx bx'/\U00 av λav=>G7 bx' λbx'=>G7 ow' λow'=>EV (dn ++ [(j,o)]) r' (a06 o.dst (.pu av) L) ⟨n,fr,bx',ow'⟩ h')
  (hea:f0d X (X++E) (F.drop c)=true)
  (hj:listed.getD j true=false) (ho:ops[j]?=some o) (hsz:listed.size=ops.size)
  (hdep:∀ t,Operand.tmp t∈o.op.operands->∀(i:Nat) (oi:Oper),ops.toList[i]?=some oi->oi.dst=some t->listed.getD i false=true)
  (hedge:∀ e∈o.after,Region.binds .any e=true->listed.getD e.on false=true)
  (hi:m0k P h0 w0 ops n fr bx0 ow0 hs c F L0 EV listed a w):o.guard=none/\o.wp P a w (m0k P h0 w0 ops n fr bx0 ow0 hs c F L0 EV (listed.setIfInBounds j true)) Q:=by
 obtain⟨dn,r,L,bx,ow,h',be,oe,H,hE,hdn0,hcl,hr,hdn,hbx,s,he,R1,R2⟩:=hi
 have hoL:ops.toList[j]?=some o:=by simpa using ho
 have hmem:o∈ops.toList:=List.mem_of_getElem? hoL
 have hlt:j<ops.toList.length:=(List.getElem?_eq_some_iff.1 hoL).1
 have hjs:j<listed.size:=by simpa [hsz] using hlt
 have some_un : ¬ ∀ k,k<ops.size->listed.getD k false=true:=λe=>by
  have h1:=e j (by simpa using hlt)
  simp[hjs]at h1 hj
  rw[h1]at hj;cases hj
 have hbx0:t08 bx (A9 L0 ⟨n,fr,bx0,ow0⟩ ops.toList)=t08 bx0 (A9 L0 ⟨n,fr,bx0,ow0⟩ ops.toList):=by
  rcases hbx with e|e
  ·exact e
  ·exact absurd e some_un
 obtain⟨hg,hkind⟩:=sp.each j o hlt hoL
 refine⟨hg,?_⟩
 have L0key:∀ t,D3 L t≠none->∃(i:Nat) (oi:Oper),ops.toList[i]?=some oi/\oi.dst=some t:=λt ht=>by
  cases h0':D3 L0 t with
  |none=>exact absurd ((R1 t).1 h0') ht
  |some f=>obtain⟨i,oi,_,h2,h3⟩:=sp.key t f h0';exact⟨i,oi,h2,h3⟩
 have frame:∀ t,(∀ o'∈ops.toList,o'.dst≠some t)->C2 ⟨n,fr,bx,ow⟩ be oe (Z2 fr t) (a.tmps.getD t undef):=λt ht=>by
  have g:=s.fr t
  change C2 _ be oe (Z2 (Z3 ops.toList fr) t) _ at g
  rw[W00 ht]at g
  exact C2.fr (st:=⟨n,Z3 ops.toList fr,bx,ow⟩) (fr:=fr) g
 have opnd:∀ t,Operand.tmp t∈o.op.operands->(∀ av,D3 L t=some (.pu av)->C2 ⟨n,fr,bx,ow⟩ be oe av (a.tmps.getD t undef))/\(D3 L t=none->C2 ⟨n,fr,bx,ow⟩ be oe (Z2 fr t) (a.tmps.getD t undef)):=λt ht=>by
  refine⟨λav hav=>?_,λhno=>frame t λo' ho' hd=>?_⟩
  ·obtain⟨i,oi,h1,h2⟩:=L0key t (by rw[hav];simp)
   obtain⟨av',e1,e2⟩:=R2 i oi t (by simpa using h1) h2 (hdep t ht i oi h1 h2)
   rw[hav]at e1;cases e1
   exact e2
  ·obtain⟨i,hi,e⟩:=List.getElem_of_mem ho'
   have h1:ops.toList[i]?=some o':=by rw[List.getElem?_eq_getElem hi,e]
   obtain⟨av',e1,_⟩:=R2 i o' t (by simpa using h1) hd (hdep t ht i o' h1 hd)
   rw[hno]at e1;cases e1
 have hset:∀ i,i≠j->∀ d,(listed.setIfInBounds j true).getD i d=listed.getD i d:=λi hij d=>getD_set_ne d (Ne.symm hij)
 have sput:∀ {bx':List BSt} {ow':List Own} {h'':Hp} {be':Nat->Nat} {oe':Nat->Value} {H':Hp} {v:Value} {w':World},Sim P h0 w0 be' oe' H' ⟨n,Z3 ops.toList fr,bx',ow'⟩ h'' a w'->Sim P h0 w0 be' oe' H' ⟨n,Z3 ops.toList fr,bx',ow'⟩ h'' (a.put o.dst v) w':=by
  intro bx' ow' h'' be' oe' H' v w' s1
  cases hd:o.dst with
  |none=>exact s1
  |some d =>
   have hp:=s1.put (d:=d) (av := .dead) (v:=v) (hn o hmem d hd) trivial
   refine hp.refr (fr:=Z3 ops.toList fr) λt=>?_
   have g:=hp.fr t
   change C2 _ _ _ (Z2 ((d,.dead)::Z3 ops.toList fr) t) _ at g
   rw[T3]at g
   split at g
   ·rename_i e
    subst e
    rw[a02 hmem hd]
    trivial
   ·exact g
 have tput:∀(v:Value) (i:Nat) (oi:Oper) (d:Nat),ops[i]?=some oi->oi.dst=some d->i≠j->(a.put o.dst v).tmps.getD d undef=a.tmps.getD d undef:=λv i oi d h1 h2 hij=>by
  cases hd:o.dst with
  |none=>rfl
  |some d' =>
   have hne:d'≠d:=λe=>by subst e;exact hij (hD i j oi o d' (by simpa using h1) hoL h2 hd)
   simp[Act.put,Array.getElem?_setIfInBounds_ne hne]
 have tself:∀(v:Value) (d:Nat),o.dst=some d->(a.put o.dst v).tmps.getD d undef=v:=λv d hd=>by
  have hlt:d<a.tmps.size:=by rw[s.siz];exact hn o hmem d hd
  rw[hd]
  simp[Act.put,hlt]
 have hcl':∀(i:Nat) (oi:Oper),ops[i]?=some oi->(listed.setIfInBounds j true).getD i false=true->∀ e∈oi.after,Region.binds .any e=true->(listed.setIfInBounds j true).getD e.on false=true:=λi oi h1 h2 e he1 he2=>by
  by_cases hij:i=j
  ·subst hij
   rw[ho]at h1;cases h1
   exact getD_set_true (hedge e he1 he2)
  ·rw[hset i hij]at h2
   exact getD_set_true (hcl i oi h1 h2 e he1 he2)
 rcases hkind with hin|⟨hnot,av,hpu|⟨hinX,hlk⟩,hL⟩
 ·
  have hjr:(j,o)∈r:=by
   have hin:=hEF hin
   rw[hE]at hin
   rcases List.mem_append.1 hin with hx|hx
   ·have h1:=hdn _ hx
    simp[hjs]at h1 hj
    rw[h1]at hj;cases hj
   ·exact hx
  obtain⟨r',rfl⟩:=hnx dn r hE hdn hr hjr
  have he:=hev dn r' L bx ow h' hE hdn he
  obtain⟨fr1,he,g1⟩:=H01 (acc:=[]) (st:=⟨n,fr,bx,ow⟩) (stX:=⟨n,fr,bx,ow⟩) (be:=be) (oe:=oe) (val:=λt=>a.tmps.getD t undef) (λt=>trivial) (λt ht=>opnd t (by simpa using ht)) he
  have s':Sim P h0 w0 be oe H ⟨n,fr1,bx,ow⟩ h' a w:=s.refr (fr:=fr1) λt=>C2.fr (st:=⟨n,fr,bx,ow⟩) (fr:=Z3 ops.toList fr) (g1 t)
  refine Oper.wp_mono (λa' w' hx=>?_) (Q9 s' he)
  obtain⟨av',⟨n',fr',bx',ow'⟩,h'',v,be',oe',H',hk,rfl,s2,g2,gr⟩:=hx
  obtain⟨hclean,hsame,hk⟩:=hk
  rw[A02,X01,X01]at hk
  have hnn:n'=n:=by
   have e1:a.tmps.size=n':=s2.siz
   have e2:a.tmps.size=n:=s.siz
   omega
  subst hnn
  have gr':M6 ⟨n',fr,bx,ow⟩ be oe ⟨n',fr,bx',ow'⟩ be' oe':=⟨gr.bl,gr.be,gr.sm⟩
  have grD:M6 ⟨n',Z3 ops.toList fr,bx,ow⟩ be oe ⟨n',Z3 ops.toList fr,bx',ow'⟩ be' oe':=⟨gr.bl,gr.be,gr.sm⟩
  have s3:Sim P h0 w0 be' oe' H' ⟨n',Z3 ops.toList fr,bx',ow'⟩ h'' a w' :=
   s2.refr (fr:=Z3 ops.toList fr) λt=>C2.fr (st:=⟨n',Z3 ops.toList fr,bx',ow'⟩) (fr:=fr') ((s.fr t).grow grD)
  have htop:∀ d,o.dst=some d->D3 (a06 o.dst (.pu av') L) d=some (.pu av'):=λd hd=>by
   rw[hd];show D3 ((d,.pu av')::L) d=_;rw[t00,if_pos rfl]
  have hold:∀ t,o.dst≠some t->D3 (a06 o.dst (.pu av') L) t=D3 L t:=λt ht=>by
   cases hd:o.dst with
   |none=>rfl
   |some d =>
    show D3 ((d,.pu av')::L) t=_
    rw[t00,if_neg λe=>ht (by rw[hd,e])]
  have lastAll:A09 ops.size j o r'=true->∀ k,k<ops.size->(listed.setIfInBounds j true).getD k false=true:=λhl k hk=>by
   have hall:j04 ops.size j o=true:=by
    cases r' with
    |nil=>exact hl
    |cons q r''=>cases hl
   by_cases hkj:k=j
   ·subst hkj;simp[hjs]
   ·rw[hset k hkj]
    obtain⟨e,he1,he2,rfl⟩:=n05 hall k hk hkj
    exact hedge e he1 he2
  refine⟨dn ++ [(j,o)],r',a06 o.dst (.pu av') L,bx',ow',h'',be',oe',H',by rw[hE];simp,λhle=>(by
   have hle':dn.length<c:=by simp only[List.length_append,List.length_singleton]at hle;omega
   obtain⟨e1,e2,e3⟩:=hdn0 (by omega)
   obtain⟨c1,hc1⟩:∃ c1,c-dn.length=c1+1:=⟨c-dn.length-1,by omega⟩
   rw[hc1]at hclean hsame
   refine⟨hclean.1.trans e1,λb o hb=>hclean.2 b o (e2 b o hb),?_⟩
   cases hl:A09 ops.size j o r' with
   |true=>exact .inr (lastAll hl)
   |false =>
    rw[hl]at hsame
    rcases e3 with e3|e3
    ·exact .inl (hsame.trans e3)
    ·exact absurd e3 some_un),hcl',λp hp=>?_,λp hp=>?_,?_,sput s3,hk,λt=>?_,λi oi d h1 h2 h3=>?_⟩
  ·have hne:p.1≠j:=λe=>by
    have hnd:=hFn
    rw[hE,List.map_append,List.nodup_append]at hnd
    have h2:=hnd.2.1
    rw[List.map_cons,List.nodup_cons]at h2
    exact h2.1 (List.mem_map.2 ⟨p,hp,e⟩)
   rw[hset _ hne]
   exact hr p (mC _ hp)
  ·rcases List.mem_append.1 hp with hp|hp
   ·exact getD_set_true (hdn p hp)
   ·simp at hp
    subst hp
    simp[hjs]
  ·cases hl:A09 ops.size j o r' with
   |false =>
    rw[hl]at hsame
    left
    rw[←hbx0]
    cases hc:c-dn.length with
    |zero=>rw[hc]at hsame;exact hsame
    |succ c1 =>
     rw[hc]at hsame
     have hsame:bx'=bx:=hsame
     rw[hsame]
   |true=>exact .inr (lastAll hl)
  ·by_cases ht:o.dst=some t
   ·obtain⟨_,_,hF⟩:=sp.eff (j,o) hin
    obtain⟨F,hF⟩:=hF t ht
    exact⟨λe=>(by rw[hF]at e;cases e),λav e=>(by rw[hF]at e;cases e)⟩
   ·rw[hold t ht]
    exact R1 t
  ·by_cases hij:i=j
   ·subst hij
    rw[ho]at h1;cases h1
    exact⟨av',htop d h2,by rw[tself v d h2];exact C2.fr (st:=⟨n',fr',bx',ow'⟩) (fr:=fr) g2⟩
   ·rw[hset _ hij]at h3
    obtain⟨av2,e1,e2⟩:=R2 i oi d h1 h2 h3
    have hdd:o.dst≠some d:=λe=>hij (hD i j oi o d (by simpa using h1) hoL h2 e)
    exact⟨av2,by rw[hold d hdd];exact e1,by rw[tput v i oi d h1 h2 hij];exact e2.grow gr'⟩
 ·
  have toD:∀ {av:AV} {x:Value},C2 ⟨n,fr,bx,ow⟩ be oe av x->C2 ⟨n,Z3 ops.toList fr,bx,ow⟩ be oe av x:=λg=>C2.fr (st:=⟨n,fr,bx,ow⟩) (fr:=Z3 ops.toList fr) g
  obtain⟨v,hrun,gv⟩:=N0m (st:=⟨n,fr,bx0,ow0⟩) (stX:=⟨n,Z3 ops.toList fr,bx,ow⟩) s (λtt x i off e1 e2=>B0f hbx0 (v0d e1 e2 hmem)) hpu (λt ht=>⟨λav e=>toD ((opnd t ht).1 av ((R1 t).2 av e)),λe=>toD ((opnd t ht).2 ((R1 t).1 e))⟩)
  refine j7 hrun ?_
  refine⟨dn,r,L,bx,ow,h',be,oe,H,hE,(λhle=>⟨(hdn0 hle).1,(hdn0 hle).2.1,.inl ((hdn0 hle).2.2.resolve_right some_un)⟩),hcl',λp hp=>?_,λp hp=>getD_set_true (hdn p hp),.inl hbx0,sput s,he,R1,λi oi d h1 h2 h3=>?_⟩
  ·have hne:p.1≠j:=hnot p (hFE _ (by rw[hE];exact List.mem_append_right _ hp))
   rw[hset _ hne]
   exact hr p hp
  ·by_cases hij:i=j
   ·subst hij
    rw[ho]at h1;cases h1
    exact⟨av,(R1 d).2 av (hL d h2),by rw[tself v d h2];exact C2.fr (st:=⟨n,Z3 ops.toList fr,bx,ow⟩) (fr:=fr) gv⟩
   ·rw[hset _ hij]at h3
    obtain⟨av2,e1,e2⟩:=R2 i oi d h1 h2 h3
    exact⟨av2,e1,by rw[tput v i oi d h1 h2 hij];exact e2⟩
 ·
  have hdnil:dn.length<=c:=by
   rcases Nat.lt_or_ge c dn.length with hlt'|hge
   ·exfalso
    obtain⟨⟨jq,q⟩,hq0⟩:∃ q0,dn[c]?=some q0:=⟨_,List.getElem?_eq_getElem hlt'⟩
    have hqdn:(jq,q)∈dn:=List.mem_of_getElem? hq0
    have hdrop:∃ t,F.drop c=(jq,q)::t:=by
     obtain⟨hlt2,e2⟩:=List.getElem?_eq_some_iff.1 hq0
     refine⟨(dn++r).drop (c+1),?_⟩
     rw[hE,List.drop_eq_getElem_cons (by simp;omega),List.getElem_append_left hlt2,e2]
    have hjf:listed.getD j false=false:=by simp[hjs]at hj ⊢;exact hj
    have hql:listed.getD jq false=true:=hdn (jq,q) hqdn
    have hqo:ops[jq]?=some q:=by
     have:=(sp.eff (jq,q) (hFE _ (by rw[hE];exact List.mem_append_left _ hqdn))).2.1
     simpa using this
    obtain⟨t,ht⟩:=hdrop
    rw[ht]at hea
    simp only[f0d,List.all_eq_true]at hea
    have:=O09 (X:=X++E) hcl (λy hy=>by
     rcases List.mem_append.1 hy with hy|hy
     ·have h5:=(sp.xx y hy).2;simpa using h5
     ·have h5:=(sp.eff y hy).2.1;simpa using h5) 8 j jq q hqo hql (hea (j,o) hinX)
    rw[hjf]at this;cases this
   ·exact hge
  obtain⟨rfl,hsub,hb0⟩:=hdn0 hdnil
  obtain rfl:=hb0.resolve_right some_un
  obtain⟨fr1,hev,g1⟩:=H01 (acc:=[]) (st:=⟨n,fr,bx,ow⟩) (stX:=⟨n,fr,bx,ow⟩) (be:=be) (oe:=oe) (val:=λt=>a.tmps.getD t undef) (λt=>trivial)
   (λt ht=>⟨λav e=>(opnd t (by simpa using ht)).1 av ((R1 t).2 av e),λe=>(opnd t (by simpa using ht)).2 ((R1 t).1 e)⟩) (hlk h' hsub)
  have s':Sim P h0 w0 be oe H ⟨n,fr1,bx,ow⟩ h' a w:=s.refr (fr:=fr1) λt=>C2.fr (st:=⟨n,fr,bx,ow⟩) (fr:=Z3 ops.toList fr) (g1 t)
  refine Oper.wp_mono (λa' w' hx=>?_) (Q9 s' hev)
  obtain⟨av',st',h'',v,be',oe',H',⟨rfl,rfl,rfl⟩,rfl,s2,g2,gr⟩:=hx
  have gr':M6 ⟨n,fr,bx,ow⟩ be oe ⟨n,fr,bx,ow⟩ be' oe':=⟨gr.bl,gr.be,gr.sm⟩
  have grD:M6 ⟨n,Z3 ops.toList fr,bx,ow⟩ be oe ⟨n,Z3 ops.toList fr,bx,ow⟩ be' oe':=⟨gr.bl,gr.be,gr.sm⟩
  have s3:Sim P h0 w0 be' oe' H' ⟨n,Z3 ops.toList fr,bx,ow⟩ h'' a w' :=
   s2.refr (fr:=Z3 ops.toList fr) λt=>C2.fr (st:=⟨n,Z3 ops.toList fr,bx,ow⟩) (fr:=fr1) ((s.fr t).grow grD)
  refine⟨dn,r,L,bx,ow,h'',be',oe',H',hE,λ_=>⟨rfl,hsub,.inl rfl⟩,hcl',λp hp=>?_,λp hp=>getD_set_true (hdn p hp),.inl rfl,sput s3,he,R1,λi oi d h1 h2 h3=>?_⟩
  ·have hne:p.1≠j:=hnot p (hFE _ (by rw[hE];exact List.mem_append_right _ hp))
   rw[hset _ hne]
   exact hr p hp
  ·by_cases hij:i=j
   ·subst hij
    rw[ho]at h1;cases h1
    exact⟨av',(R1 d).2 av' (hL d h2),by rw[tself v d h2];exact C2.fr (st:=⟨n,fr1,bx,ow⟩) (fr:=fr) g2⟩
   ·rw[hset _ hij]at h3
    obtain⟨av2,e1,e2⟩:=R2 i oi d h1 h2 h3
    exact⟨av2,e1,by rw[tput v i oi d h1 h2 hij];exact e2.grow gr'⟩
theorem e0s{ops:Array Oper}{n:Nat}{fr:List (Nat×AV)}{bx0:List BSt}{ow0:List Own}{hs:Hp}{c:Nat}{X E:List (Nat×Oper)}{L0:List (Nat×R5)}{K:St->Hp->Prop}{Q:Exit->Act->World->Prop}{listed:Array Bool}{j:Nat}{o:Oper}
  (hD:∀(i j:Nat) (oi oj:Oper) (d:Nat),ops.toList[i]?=some oi->ops.toList[j]?=some oj->oi.dst=some d->oj.dst=some d->i=j)
  (hn:∀ o∈ops.toList,∀ d,o.dst=some d->d<n) (sp:a05 P ⟨n,fr,bx0,ow0⟩ hs ops.toList ops.toList.length L0 X E) (hch:i04 E=true) (hea:f0d X (X++E) (E.drop c)=true)
  (hj:listed.getD j true=false) (ho:ops[j]?=some o) (hsz:listed.size=ops.size)
  (hdep:∀ t,Operand.tmp t∈o.op.operands->∀(i:Nat) (oi:Oper),ops.toList[i]?=some oi->oi.dst=some t->listed.getD i false=true)
  (hedge:∀ e∈o.after,Region.binds .any e=true->listed.getD e.on false=true)
  (hi:O0m P h0 w0 ops n fr bx0 ow0 hs c E L0 K listed a w):o.guard=none/\o.wp P a w (O0m P h0 w0 ops n fr bx0 ow0 hs c E L0 K (listed.setIfInBounds j true)) Q:=by
 refine C0f hD hn sp (λx hx=>hx) id sp.nd (λdn r hE hdn hr hjr=>?_) (λdn r' L bx ow h hE hdn he=>?_) hea hj ho hsz hdep hedge hi
 ·exact U0a hedge (λdn r hE=>M02 dn r (by rw[←hE];exact hch)) hE hr hjr
 ·simp only[evC]at he
  have e:c-(dn ++ [(j,o)]).length=c-dn.length-1:=by simp;omega
  simp only[e]
  exact he
theorem x0d:∀ {k:Nat} {E:List (Nat×Oper)} {f:Nat×Oper} {E':List (Nat×Oper)},u0f k E=some (f,E')->∃ A B,E=A++f::B/\E'=A++B
 |_,[],f,E',h=>by simp[u0f]at h
 |0,x::r,f,E',h=>by
  simp only[u0f,Option.some.injEq,Prod.mk.injEq]at h
  obtain⟨rfl,rfl⟩:=h
  exact⟨[],r,rfl,rfl⟩
 |k+1,x::r,f,E',h=>by
  simp only[u0f]at h
  split at h
  ·rename_i f1 r' hk
   simp only[Option.some.injEq,Prod.mk.injEq]at h
   obtain⟨rfl,rfl⟩:=h
   obtain⟨A,B,rfl,rfl⟩:=x0d hk
   exact⟨x::A,B,rfl,rfl⟩
  ·cases h
theorem D0f{f:Nat×Oper}:∀ {p:Nat} {E:List (Nat×Oper)},E0m f p E=true->∃ q,E[p]?=some q/\H7 f.1 q.2=true
 |_,[],h=>by simp[E0m]at h
 |0,(i,q)::r,h=>⟨(i,q),rfl,by simpa [E0m] using h⟩
 |p+1,x::r,h=>by
  obtain⟨q,h1,h2⟩:=D0f (E:=r) (p:=p) (by simpa [E0m] using h)
  exact⟨q,by simpa using h1,h2⟩
theorem t0i:∀ {X:List (Nat×Oper)},noX X=true->X = []
 | [],_=>rfl
 |_::_,h=>by simp[noX]at h
theorem I05{Y:List (Nat×Oper)}:∀(E:List (Nat×Oper)),f0d [] Y E=true
 | []=>rfl
 |_::_=>rfl
theorem m03{l:Array Bool}{j:Nat}(h:l.getD j true=false):l.getD j false=false:=by
 rcases Nat.lt_or_ge j l.size with g|g
 ·simp[g]at h ⊢;exact h
 ·simp[Array.getElem?_eq_none g]at h
theorem J05{listed:Array Bool}:∀ {A B dn r:List (Nat×Oper)},A++B=dn++r->(∀ p∈A,listed.getD p.1 false=true)->(∀ p∈r,listed.getD p.1 true=false)->∃ C,dn=A++C/\B=C++r
 | [],B,dn,r,h,_,_=>⟨dn,rfl,by simpa using h⟩
 |x::A,B,[],r,h,hA,hr=>by
  exfalso
  have h1:=hA x mS
  have h2:=m03 (hr x (by rw[show r=x::A++B from by simpa using h.symm];simp))
  rw[h1]at h2;cases h2
 |x::A,B,y::dn,r,h,hA,hr=>by
  simp only[List.cons_append,List.cons.injEq]at h
  obtain⟨rfl,h⟩:=h
  obtain⟨C,h1,h2⟩:=J05 h (λp hp=>hA p (mC _ hp)) hr
  exact⟨C,by rw[h1];rfl,h2⟩
theorem u0i{rd:List Nat}{N c:Nat}{L:List (Nat×R5)}{K:St->Hp->Prop}{dn r':List (Nat×Oper)}{j:Nat}{o:Oper}{n:Nat}{fr:List (Nat×AV)}{bx:List BSt}{ow:List Own}{h:Hp}
  (he:evC rd N P (c-dn.length) ((j,o)::r') L ⟨n,fr,bx,ow⟩ h K):K03 L fr o.op.operands.toList [] λfr1=>F7 P o ⟨n,fr1,bx,ow⟩ h λav st' h'=>match st' with
   |⟨_,_,bx',ow'⟩=>H0a (c-dn.length) ow ow' h h'/\t0f (c-dn.length) (A09 N j o r') rd bx bx'/\U00 av λav=>G7 bx' λbx'=>G7 ow' λow'=>evC rd N P (c-(dn ++ [(j,o)]).length) r' (a06 o.dst (.pu av) L) ⟨n,fr,bx',ow'⟩ h' K:=by
 simp only[evC]at he
 have e:c-(dn ++ [(j,o)]).length=c-dn.length-1:=by simp;omega
 simp only[e]
 exact he
def l0o(rd:List Nat)(N:Nat)(P:Program)(m:Nat)(x:Nat×Oper)(r:List (Nat×Oper))(L:List (Nat×R5))(st:St)(h:Hp)(K:St->Hp->Prop):Prop:=match st with
 |⟨n,fr,bx,ow⟩=>K03 L fr x.2.op.operands.toList [] λfr1=>F7 P x.2 ⟨n,fr1,bx,ow⟩ h λav st' h'=>match st' with
  |⟨_,_,bx',ow'⟩=>H0a 0 ow ow' h h'/\t0f 0 (A09 N x.1 x.2 r) rd bx bx'/\U00 av λav=>G7 bx' λbx'=>G7 ow' λow'=>c0i rd N P m r (a06 x.2.dst (.pu av) L) ⟨n,fr,bx',ow'⟩ h' K
theorem Z0b{x:Nat×Oper}:∀ {r:List (Nat×Oper)},(∀ y∈r,H7 y.1 x.2=false)->N0g x r=true
 | [],_=>rfl
 |y::r,h=>by
  simp only[N0g,Bool.and_eq_true]
  exact⟨by rw[h y mS];rfl,Z0b λz hz=>h z (mC _ hz)⟩
theorem r0l{f:(Nat×Oper)->List (Nat×Oper)->Prop}{x:Nat×Oper}:∀ {B C A:List (Nat×Oper)},(∀ y∈C++A++B,H7 y.1 x.2=false)->y05 f (I0a C (A++x::B))->f x (C++A++B)
 |B,C,[],hr,h=>by
  simp only[List.nil_append,I0a,y05]at h
  rw[Z0b (by simpa using hr)]at h
  simpa using h.1
 |B,C,y::A,hr,h=>by
  simp only[List.cons_append,I0a,y05]at h
  have h2:y05 f (I0a (C ++ [y]) (A++x::B)):=by
   split at h
   ·exact h.2
   ·exact h
  have:=r0l (A:=A) (C:=C ++ [y]) (by simpa using hr) h2
  simpa using this
theorem k0q{rd:List Nat}{N m:Nat}{L:List (Nat×R5)}{st:St}{h:Hp}{K:St->Hp->Prop}{j:Nat}{o:Oper}{A B:List (Nat×Oper)}(hr:∀ y∈A++B,H7 y.1 o=false)
  (he:c0i rd N P (m+1) (A++(j,o)::B) L st h K):l0o rd N P m (j,o) (A++B) L st h K:=by
 obtain⟨n,fr,bx,ow⟩:=st
 simp only[c0i]at he
 have:=r0l (C:=[]) (x:=(j,o)) (by simpa using hr) he
 exact this
theorem m0o{a b:Nat}(h:a≠b):Nat.beq a b=false:=by
 cases e:Nat.beq a b
 ·rfl
 ·exact absurd (Nat.eq_of_beq_eq_true e) h
theorem b0h:∀(l:List (Nat×Oper)),a0f l=l.length
 | []=>rfl
 |_::r=>by rw[a0f,b0h r];rfl
theorem n0o{f:Nat×Oper}{rd:List Nat}{N:Nat}{K:St->Hp->Prop}{h:Hp}{st:St}{L:List (Nat×R5)}:∀ {p:Nat} {E:List (Nat×Oper)},a0q f rd N P p E L st h K->evC rd N P 0 (f::E) L st h K
 |0,_,h=>h
 |_+1,_,h=>h.1
theorem z0r{ops:Array Oper}{n:Nat}{fr:List (Nat×AV)}{bx:List BSt}{ow:List Own}{hs:Hp}{c:Nat}{X E F:List (Nat×Oper)}{L0:List (Nat×R5)}{K:St->Hp->Prop}{R:Act->World->Prop}{listed:Array Bool}
  (sp:a05 P ⟨n,fr,bx,ow⟩ hs ops.toList ops.toList.length L0 X E) (hFE:∀ x∈F,x∈E)
  (hQ:∀ a w st h be oe H,K st h->Sim P h0 w0 be oe H st h a w->R a w) (hl:∀ j,j<ops.size->listed.getD j false=true)
  (hi:O0m P h0 w0 ops n fr bx ow hs c F L0 K listed a w):R a w:=by
  obtain⟨dn,r,L,bx,ow',h',be,oe,H,hE,_,_,hr,hdn,_,s,hev,R1,R2⟩:=hi
  have hrn:r = []:=by
   cases r with
   |nil=>rfl
   |cons p r' =>
    have h1:=hr p mS
    have h2:=(sp.eff p (hFE _ (by rw[hE];simp))).1
    have h3:=hl p.1 (by simpa using h2)
    rcases Nat.lt_or_ge p.1 listed.size with g|g
    ·simp[g]at h1 h3
     rw[h3]at h1;cases h1
    ·simp[Array.getElem?_eq_none g]at h3
  subst hrn
  simp only[evC,X01]at hev
  refine hQ a w _ h' be oe H hev (s.refr (fr:=a0i L fr) λt=>?_)
  rw[T0a]
  have key:∀ t,D3 L t≠none->∃(i:Nat) (oi:Oper),ops[i]?=some oi/\oi.dst=some t/\i<ops.size:=λt ht=>by
   cases h0':D3 L0 t with
   |none=>exact absurd ((R1 t).1 h0') ht
   |some f =>
    obtain⟨i,oi,h1,h2,h3⟩:=sp.key t f h0'
    exact⟨i,oi,by simpa using h2,h3,by simpa using h1⟩
  cases hL:D3 L t with
  |none =>
   have hmiss:∀ o'∈ops.toList,o'.dst≠some t:=λo' ho' hd=>by
    obtain⟨i,hi,e⟩:=List.getElem_of_mem ho'
    have h1:ops[i]?=some o':=by rw[←e];simp at hi ⊢
    obtain⟨av',e1,_⟩:=R2 i o' t h1 hd (hl i (by simpa using hi))
    rw[hL]at e1;cases e1
   have g:=s.fr t
   change C2 _ be oe (Z2 (Z3 ops.toList fr) t) _ at g
   rw[W00 hmiss]at g
   exact g
  |some f =>
   cases f with
   |ef F=>trivial
   |pu av =>
    obtain⟨i,oi,h1,h2,h3⟩:=key t (by rw[hL];simp)
    obtain⟨av',e1,e2⟩:=R2 i oi t h1 h2 (hl i h3)
    rw[hL]at e1;cases e1
    exact C2.fr (st:=⟨n,fr,bx,ow'⟩) (fr:=Z3 ops.toList fr) e2
theorem v0i{ops:Array Oper}{st:St}{K:St->Hp->Prop}{Q:Exit->Act->World->Prop}{R:Act->World->Prop}(s:Sim P h0 w0 be oe H st h a w)(hb:s02 st.n ops.toList=true)
  (he:e03 P st h ops.toList 0 [] [] [] λL X E=>evD (A9 L st ops.toList) ops.size P X E L st h K)
  (hQ:∀ a w st h be oe H,K st h->Sim P h0 w0 be oe H st h a w->R a w) :
  ∃ Inv:Array Bool->Act->World->Prop,(∀(k:Nat) (o:Oper),ops.toList[k]?=some o->∀ e∈o.after,Region.binds .any e=true->e.on<k) /\
   (∀ listed a w j o,listed.size=ops.size->listed.getD j true=false->ops[j]?=some o->(∀ e∈o.after,Region.binds .any e=true->listed.getD e.on false=true)->Inv listed a w->o.guard=none/\o.wp P a w (Inv (listed.setIfInBounds j true)) Q) /\
   (∀ listed a w,(∀ j,j<ops.size->listed.getD j false=true)->Inv listed a w->R a w)/\Inv (Array.replicate ops.size false) a w:=by
 simp only[s02,Bool.and_eq_true]at hb
 obtain⟨⟨b1,b2⟩,b3⟩:=hb
 obtain⟨hn,hD⟩:=t04 b1
 have hB:∀(k:Nat) (o:Oper),ops.toList[k]?=some o->∀ e∈o.after,Region.binds .any e=true->e.on<k:=λk o hk e he' hb=>by
  have:=g03 b2 k o hk e he' hb
  omega
 have hdep:=j06 b3
 obtain⟨L0,X,E,hd,sp⟩:=b05 (ops:=ops.toList) hD (λj o t i oi h1 h2 h3 h4=>by
  obtain⟨e,he',hb,rfl⟩:=hdep o (List.mem_of_getElem? h1) t h2 i oi h3 h4
  exact hB j o h1 e he' hb) ops.toList 0 [] [] [] (λj=>by simp) ⟨λt f h=>(by cases h),λi oi d hi=>by omega,λj o hj=>by omega,λp hp=>(by cases hp),by simp,λp hp=>(by cases hp)⟩ he
 obtain⟨n,fr,bx,ow⟩:=st
 have deps:∀(listed:Array Bool) (j:Nat) (o:Oper),ops[j]?=some o->(∀ e∈o.after,Region.binds .any e=true->listed.getD e.on false=true)->∀ t,Operand.tmp t∈o.op.operands->∀(i:Nat) (oi:Oper),ops.toList[i]?=some oi->oi.dst=some t->listed.getD i false=true:=λlisted j o h2 h3 t ht i oi hi1 hi2=>by
  obtain⟨e,he1,he2,rfl⟩:=hdep o (List.mem_of_getElem? (i:=j) (by simpa using h2)) t ht i oi hi1 hi2
  exact h3 e he1 he2
 have init:∀(c:Nat) (F:List (Nat×Oper)) (EV:List (Nat×Oper)->List (Nat×Oper)->List (Nat×R5)->St->Hp->Prop),(∀ x∈F,x∈E)->EV [] F L0 ⟨n,fr,bx,ow⟩ h->m0k P h0 w0 ops n fr bx ow h c F L0 EV (Array.replicate ops.size false) a w:=λc F EV hFE hev=>by
  refine⟨[],F,L0,bx,ow,h,be,oe,H,rfl,λ_=>⟨rfl,λ_ _ h=>h,.inl rfl⟩,λj o h1 h2=>by(simp[Array.getElem?_replicate]at h2;split at h2<;>cases h2),λp hp=>?_,λp hp=>(by cases hp),.inl rfl,s.refr (fr:=Z3 ops.toList fr) λt=>?_,hev,λt=>⟨id,λav=>id⟩,λj o d h1 h2 h3=>?_⟩
  ·have:=(sp.eff p (hFE p hp)).1
   have h2:p.1<ops.size:=by simpa using this
   simp[h2]
  ·by_cases hx:∃ o∈ops.toList,o.dst=some t
   ·obtain⟨o,h1,h2⟩:=hx
    rw[a02 h1 h2]
    trivial
   ·rw[W00 λo ho hd=>hx ⟨o,ho,hd⟩]
    exact s.fr t
  ·simp[Array.getElem?_replicate]at h3
   split at h3<;>cases h3
 rcases hd with⟨c,⟨hch,hea⟩,hev⟩|⟨k,p,hd⟩
 ·refine⟨O0m P h0 w0 ops n fr bx ow h c E L0 K,hB,(λlisted a w j o hsz h1 h2 h3 hi=>e0s hD hn sp hch hea h1 h2 hsz (deps listed j o h2 h3) h3 hi),(λlisted a w hl hi=>z0r sp (λx hx=>hx) hQ hl hi),init c E _ (λx hx=>hx) hev⟩
 ·split at hd
  ·rename_i f E' hk
   obtain⟨⟨hX,hch,hfl⟩,hev⟩:=hd
   obtain rfl:=t0i hX
   obtain⟨A,B,rfl,rfl⟩:=x0d hk
   obtain⟨q,hq1,hq2⟩:=D0f hfl
   have hfE:f∈A++f::B:=by simp
   have hfe:=sp.eff f hfE
   have hfo:ops[f.1]?=some f.2:=by simpa using hfe.2.1
   have hfs:f.1<ops.size:=by simpa using hfe.1
   have mem':∀ x∈A++B,x∈A++f::B:=λx hx=>by
    rcases List.mem_append.1 hx with hx|hx
    ·exact List.mem_append_left _ hx
    ·exact List.mem_append_right _ (mC _ hx)
   have nd:((A++B).map λp=>p.1).Nodup:=by
    have:=sp.nd
    rw[List.map_append,List.nodup_append]at this ⊢
    obtain⟨n1,n2,n3⟩:=this
    rw[List.map_cons,List.nodup_cons]at n2
    exact⟨n1,n2.2,λx hx y hy=>n3 x hx y (by rw[List.map_cons];exact mC _ hy)⟩
   have perm:∀ d1 r1,A++B=d1++r1->((d1++f::r1).map λp=>p.1).Nodup:=λd1 r1 e=>by
    have h1:(A++f::B).Perm (d1++f::r1):=List.perm_middle.trans ((List.Perm.cons f (by rw[e])).trans List.perm_middle.symm)
    exact(h1.map _).nodup sp.nd
   have memF:∀ d1 r1,A++B=d1++r1->∀ x,x∈d1++f::r1↔x∈A++f::B:=λd1 r1 e x=>by
    have h1:x∈A++B↔x∈d1++r1:=by rw[e]
    simp only[List.mem_append,List.mem_cons]at h1 ⊢
    constructor
    ·rintro(h|h|h)
     ·rcases h1.2 (.inl h)with h|h
      ·exact .inl h
      ·exact .inr (.inr h)
     ·exact .inr (.inl h)
     ·rcases h1.2 (.inr h)with h|h
      ·exact .inl h
      ·exact .inr (.inr h)
    ·rintro(h|h|h)
     ·rcases h1.1 (.inl h)with h|h
      ·exact .inl h
      ·exact .inr (.inr h)
     ·exact .inr (.inl h)
     ·rcases h1.1 (.inr h)with h|h
      ·exact .inl h
      ·exact .inr (.inr h)
   let rd:=A9 L0 ⟨n,fr,bx,ow⟩ ops.toList
   let EV1:List (Nat×Oper)->List (Nat×Oper)->List (Nat×R5)->St->Hp->Prop:=λdn r L st h=>a0q f rd ops.size P (p-dn.length) r L st h K
   refine⟨λlisted a w=>(listed.getD f.1 true=false/\m0k P h0 w0 ops n fr bx ow h 0 (A++B) L0 EV1 listed a w) ∨
    (listed.getD f.1 false=true/\∃ d1 r1,A++B=d1++r1/\(∀ p∈d1,listed.getD p.1 false=true)/\O0m P h0 w0 ops n fr bx ow h 0 (d1++f::r1) L0 K listed a w),hB,(λlisted a w j o hsz h1 h2 h3 hi=>?_),(λlisted a w hl hi=>?_),.inl ⟨by simp[hfs],init 0 (A++B) EV1 mem' hev⟩⟩
   ·have hjs:j<listed.size:=by rw[hsz];exact(Array.getElem?_eq_some_iff.1 h2).1
    have listedF:∀ {x:Nat},listed.getD x false=true->(listed.setIfInBounds j true).getD x false=true:=λh=>getD_set_true h
    rcases hi with⟨hf,hi⟩|⟨hf,d1,r1,hE,hd1,hi⟩
    ·have hff:=m03 hf
     by_cases hjf:j=f.1
     ·
      subst hjf
      rw[hfo]at h2;cases h2
      obtain⟨dn,r,L,bx',ow',h',be',oe',H',hE,y0,y1,y2,y3,y4,y5,y6,y7,y8⟩:=hi
      have hi2:O0m P h0 w0 ops n fr bx ow h 0 (dn++f::r) L0 K listed a w :=
       ⟨dn,f::r,L,bx',ow',h',be',oe',H',rfl,y0,y1,λp hp=>by
        rcases List.mem_cons.1 hp with rfl|hp
        ·exact hf
        ·exact y2 p hp,y3,y4,y5,by show evC _ _ _ (0-dn.length) _ _ _ _ _;rw[Nat.zero_sub];exact n0o y6,y7,y8⟩
      have:=C0f (F:=dn++f::r) (j:=f.1) (o:=f.2) (Q:=Q) hD hn sp (λx hx=>(memF dn r hE x).1 hx) (λhx=>(memF dn r hE _).2 hx) (perm dn r hE) (λdn' r' e g1 g2 g3=>by
       obtain⟨C,e1,e2⟩:=J05 (listed:=listed) e y3 g2
       cases C with
       |nil=>exact⟨r,by simpa using e2.symm⟩
       |cons z C =>
        exfalso
        simp only[List.cons_append,List.cons.injEq]at e2
        have:=g1 f (by rw[e1,e2.1];simp)
        rw[hff]at this;cases this) (λdn r' L bx ow h hE hdn he=>u0i he) (I05 _) h1 hfo hsz (deps listed f.1 f.2 hfo h3) h3 hi2
      exact⟨this.1,Oper.wp_mono (λa' w' hx => .inr ⟨by simp[hjs],dn,r,hE,λp hp=>listedF (y3 p hp),hx⟩) this.2⟩
     ·have hjo:(j,o)≠f:=λe=>hjf (by rw[←e])
      have hcl:∀(j:Nat) (o:Oper),ops[j]?=some o->listed.getD j false=true->∀ e∈o.after,Region.binds .any e=true->listed.getD e.on false=true:=by
       obtain⟨_,_,_,_,_,_,_,_,_,_,_,y1,_⟩:=hi
       exact y1
      have:=C0f (F:=A++B) (Q:=Q) (EV:=EV1) hD hn sp mem' (λhx=>by
       rcases List.mem_append.1 hx with hx|hx
       ·exact List.mem_append_left _ hx
       ·rcases List.mem_cons.1 hx with hx|hx
        ·exact absurd hx hjo
        ·exact List.mem_append_right _ hx) nd (λdn r hE hdn hr hjr=>U0a h3 (λdn r hE=>M02 dn r (by rw[←hE];exact hch)) hE hr hjr) (λdn r' L bx2 ow2 h hE hdn he=>by
       have hlt:dn.length<p:=by
        rcases Nat.lt_or_ge dn.length p with g|g
        ·exact g
        ·exfalso
         have hfl':listed.getD f.1 false=true:=by
          rw[hE]at hq1
          obtain⟨e,he1,he2,he3⟩:=l7 hq2
          rcases Nat.lt_or_ge p dn.length with g2|g2
          ·rw[List.getElem?_append_left g2]at hq1
           have hqd:q∈dn:=List.mem_of_getElem? hq1
           have:=(sp.eff q (mem' q (by rw[hE];exact List.mem_append_left _ hqd))).2.1
           have:=hcl q.1 q.2 (by simpa using this) (hdn q hqd) e he1 he2
           rwa [he3]at this
          ·have e1:p=dn.length:=by omega
           rw[e1,List.getElem?_append_right (Nat.le_refl _)]at hq1
           simp at hq1
           subst hq1
           have:=h3 e he1 he2
           rwa [he3]at this
         rw[hff]at hfl';cases hfl'
       obtain⟨p',hp'⟩:∃ p',p-dn.length=p'+1:=⟨p-dn.length-1,by omega⟩
       have e1:p-(dn ++ [(j,o)]).length=p':=by simp;omega
       simp only[EV1,hp',e1,Nat.zero_sub]at he ⊢
       exact he.2) (I05 _) h1 h2 hsz (deps listed j o h2 h3) h3 hi
      exact⟨this.1,Oper.wp_mono (λa' w' hx => .inl ⟨by rw[getD_set_ne true hjf];exact hf,hx⟩) this.2⟩
    ·have hjf:j≠f.1:=λe=>by
      subst e
      have:=m03 h1
      rw[hf]at this;cases this
     have:=C0f (F:=d1++f::r1) (Q:=Q) hD hn sp (λx hx=>(memF d1 r1 hE x).1 hx) (λhx=>(memF d1 r1 hE _).2 hx) (perm d1 r1 hE) (λdn' r' e g1 g2 g3=>by
      obtain⟨C,e1,e2⟩:=J05 (listed:=listed) (A:=d1 ++ [f]) (B:=r1) (by simpa using e) (λp hp=>by
       rcases List.mem_append.1 hp with hp|hp
       ·exact hd1 p hp
       ·simp at hp;rw[hp];exact hf) g2
      exact U0a (E:=r') (dn:=[]) h3 (λdn r'' e3=>M02 dn r'' (by rw[←e3];exact M02 (d1++C) r' (by rw[List.append_assoc,←e2,←hE];exact hch))) rfl g2 g3) (λdn r' L bx ow h hE hdn he=>u0i he) (I05 _) h1 h2 hsz (deps listed j o h2 h3) h3 hi
     exact⟨this.1,Oper.wp_mono (λa' w' hx => .inr ⟨listedF hf,d1,r1,hE,λp hp=>listedF (hd1 p hp),hx⟩) this.2⟩
   ·rcases hi with⟨hf,hi⟩|⟨hf,d1,r1,hE,hd1,hi⟩
    ·have:=hl f.1 hfs
     rw[m03 hf]at this;cases this
    ·exact z0r sp (λx hx=>(memF d1 r1 hE x).1 hx) hQ hl hi
  ·obtain⟨hX,hev⟩:=hd
   obtain rfl:=t0i hX
   let EV1:List (Nat×Oper)->List (Nat×Oper)->List (Nat×R5)->St->Hp->Prop:=λ_ r L st h=>c0i (A9 L0 ⟨n,fr,bx,ow⟩ ops.toList) ops.size P (a0f r) r L st h K
   refine⟨λlisted a w=>∃ F,(∀ x,x∈F↔x∈E)/\(F.map λp=>p.1).Nodup/\m0k P h0 w0 ops n fr bx ow h 0 F L0 EV1 listed a w,hB,(λlisted a w j o hsz h1 h2 h3 hi=>?_),(λlisted a w hl hi=>?_),E,λx=>Iff.rfl,sp.nd,init 0 E EV1 (λx hx=>hx) hev⟩
   ·obtain⟨F,hF,hFn,hi⟩:=hi
    by_cases hjE:(j,o)∈E
    ·obtain⟨dn,r,L,bx',ow',h',be',oe',H',hE,y0,y1,y2,y3,y4,y5,y6,y7,y8⟩:=hi
     have hjs:j<listed.size:=by rw[hsz];exact(Array.getElem?_eq_some_iff.1 h2).1
     have hjr:(j,o)∈r:=by
      have:=(hF (j,o)).2 hjE
      rw[hE]at this
      rcases List.mem_append.1 this with hx|hx
      ·have g1:=y3 _ hx
       have g2:=m03 h1
       rw[g2]at g1;cases g1
      ·exact hx
     obtain⟨A,B,rfl⟩:=List.append_of_mem hjr
     have hperm:(dn++(j,o)::(A++B)).Perm F:=by
      rw[hE]
      exact List.Perm.append_left dn List.perm_middle.symm
     have hF':∀ x,x∈dn++(j,o)::(A++B)↔x∈E:=λx=>(hperm.mem_iff).trans (hF x)
     have hFn':((dn++(j,o)::(A++B)).map λp=>p.1).Nodup:=(hperm.map _).nodup_iff.2 hFn
     have hrd:∀ y∈A++B,H7 y.1 o=false:=λy hy=>by
      cases hc:H7 y.1 o with
      |false=>rfl
      |true =>
       obtain⟨e,he1,he2,he3⟩:=l7 hc
       have g1:=h3 e he1 he2
       have g2:=m03 (y2 y (by
        rcases List.mem_append.1 hy with hy|hy
        ·exact List.mem_append_left _ hy
        ·exact List.mem_append_right _ (mC _ hy)))
       rw[he3,g2]at g1;cases g1
     let EV2:List (Nat×Oper)->List (Nat×Oper)->List (Nat×R5)->St->Hp->Prop:=λd r L st h=>match Nat.beq d.length dn.length with
      |true=>l0o (A9 L0 ⟨n,fr,bx,ow⟩ ops.toList) ops.size P (a0f (A++B)) (j,o) (A++B) L st h K
      |false=>EV1 d r L st h
     have hi2:m0k P h0 w0 ops n fr bx ow h 0 (dn++(j,o)::(A++B)) L0 EV2 listed a w :=
      ⟨dn,(j,o)::(A++B),L,bx',ow',h',be',oe',H',rfl,y0,y1,λp hp=>y2 p (by
       rcases List.mem_cons.1 hp with rfl|hp
       ·simp
       ·rcases List.mem_append.1 hp with hp|hp
        ·exact List.mem_append_left _ hp
        ·exact List.mem_append_right _ (mC _ hp)),y3,y4,y5,by
       show(match Nat.beq dn.length dn.length with|true=>_|false=>_:Prop)
       rw[Nat.beq_refl]
       refine k0q (st:=⟨n,fr,bx',ow'⟩) hrd ?_
       have e:a0f (A++(j,o)::B)=a0f (A++B)+1:=by rw[b0h,b0h];simp;omega
       have y6:c0i _ _ _ (a0f (A++(j,o)::B)) _ _ _ _ _:=y6
       rw[e]at y6
       exact y6,y7,y8⟩
     have:=C0f (F:=dn++(j,o)::(A++B)) (EV:=EV2) (Q:=Q) hD hn sp (λx hx=>(hF' x).1 hx) (λhx=>(hF' _).2 hx) hFn' (λdn' r' e g1 g2 g3=>by
      obtain⟨C,e1,e2⟩:=J05 (listed:=listed) e y3 g2
      cases C with
      |nil=>exact⟨A++B,by simpa using e2.symm⟩
      |cons z C =>
       exfalso
       simp only[List.cons_append,List.cons.injEq]at e2
       have:=g1 (j,o) (by rw[e1,e2.1];simp)
       rw[m03 h1]at this;cases this) (λdn' r' L bx2 ow2 h e g1 he=>by
      obtain⟨C,e1,e2⟩:=J05 (listed:=listed) (A:=dn) (B:=(j,o)::(A++B)) e y3 (λp hp=>by
       have hx:p∈dn++(j,o)::(A++B):=by rw[e];exact List.mem_append_right _ hp
       rcases List.mem_cons.1 hp with rfl|hp'
       ·exact h1
       ·rcases List.mem_append.1 hx with hx|hx
        ·exfalso
         have hnd:=hFn'
         rw[e,List.map_append,List.nodup_append]at hnd
         obtain⟨n1,n2,n3⟩:=hnd
         have hlen:dn.length<=dn'.length∨dn'.length<dn.length:=Nat.lt_or_ge dn'.length dn.length |>.symm
         rcases hlen with hlen|hlen
         ·have:p∈dn':=by
           have e3:dn=dn'.take dn.length:=by
            have:=congrArg (List.take dn.length) e
            rw[List.take_append_of_le_length (Nat.le_refl _),List.take_length,List.take_append_of_le_length hlen]at this
            exact this
           rw[e3]at hx;exact List.mem_of_mem_take hx
          exact n3 p.1 (List.mem_map.2 ⟨p,this,rfl⟩) p.1 (List.mem_map.2 ⟨p,hp,rfl⟩) rfl
         ·have:(j,o)∈dn:=by
           have e3:=congrArg (λl=>l[dn'.length]?) e
           simp only[List.getElem?_append_left hlen,List.getElem?_append_right (Nat.le_refl _),Nat.sub_self,List.getElem?_cons_zero]at e3
           exact List.mem_of_getElem? e3
          have g3:=y3 _ this
          rw[m03 h1]at g3;cases g3
        ·exact y2 p (by
          rcases List.mem_cons.1 hx with rfl|hx
          ·simp
          ·rcases List.mem_append.1 hx with hx|hx
           ·exact List.mem_append_left _ hx
           ·exact List.mem_append_right _ (mC _ hx)))
      have hC:C = []:=by
       cases C with
       |nil=>rfl
       |cons z C =>
        exfalso
        simp only[List.cons_append,List.cons.injEq]at e2
        have:=g1 (j,o) (by rw[e1,e2.1];simp)
        rw[m03 h1]at this;cases this
      subst hC
      simp only[List.append_nil]at e1
      subst e1
      have e3:r'=A++B:=by simpa using e2.symm
      subst e3
      have he:(match Nat.beq dn'.length dn'.length with|true=>_|false=>_:Prop):=he
      rw[Nat.beq_refl]at he
      have hne:Nat.beq (dn' ++ [(j,o)]).length dn'.length=false:=by
       rw[List.length_append,List.length_singleton]
       exact m0o (by omega)
      have hEV:EV2 (dn' ++ [(j,o)]) (A++B)=λL st h=>c0i (A9 L0 ⟨n,fr,bx,ow⟩ ops.toList) ops.size P (a0f (A++B)) (A++B) L st h K:=by
       funext L st h
       show(match Nat.beq (dn' ++ [(j,o)]).length dn'.length with|true=>_|false=>_:Prop)=_
       rw[hne]
      rw[hEV]
      simp only[Nat.zero_sub]
      exact he) (I05 _) h1 h2 hsz (deps listed j o h2 h3) h3 hi2
     refine⟨this.1,Oper.wp_mono (λa' w' hx=>?_) this.2⟩
     obtain⟨dn2,r2,L2,bx2,ow2,h2',be2,oe2,H2',hE2,z0,z1,z2,z3,z4,z5,z6,z7,z8⟩:=hx
     refine⟨dn++(j,o)::(A++B),hF',hFn',dn2,r2,L2,bx2,ow2,h2',be2,oe2,H2',hE2,z0,z1,z2,z3,z4,z5,?_,z7,z8⟩
     have hne:Nat.beq dn2.length dn.length=false:=by
      refine m0o λe=>?_
      obtain⟨q1,q2⟩:=List.append_inj hE2 e.symm
      have:=z2 (j,o) (by rw[←q2];simp)
      simp[hjs]at this
     have z6:(match Nat.beq dn2.length dn.length with|true=>_|false=>_:Prop):=z6
     rw[hne]at z6
     exact z6
    ·have:=C0f (F:=F) (EV:=EV1) (Q:=Q) hD hn sp (λx hx=>(hF x).1 hx) (λhx=>absurd hx hjE) hFn (λdn r hE hdn hr hjr=>absurd ((hF _).1 (by rw[hE];exact List.mem_append_right _ hjr)) hjE)
      (λdn r' L bx2 ow2 h hE hdn he=>absurd ((hF (j,o)).1 (by rw[hE];simp)) hjE) (I05 _) h1 h2 hsz (deps listed j o h2 h3) h3 hi
     exact⟨this.1,Oper.wp_mono (λa' w' hx=>⟨F,hF,hFn,hx⟩) this.2⟩
   ·obtain⟨F,hF,hFn,dn,r,L,bx',ow',h',be',oe',H',hE,y0,y1,y2,y3,y4,y5,y6,y7,y8⟩:=hi
    have hrn:r = []:=by
     cases r with
     |nil=>rfl
     |cons p r' =>
      have g1:=y2 p mS
      have g2:=(sp.eff p ((hF _).1 (by rw[hE];simp))).1
      have g3:=hl p.1 (by simpa using g2)
      rw[m03 g1]at g3;cases g3
    subst hrn
    exact z0r (c:=0) (F:=F) sp (λx hx=>(hF x).1 hx) hQ hl ⟨dn,[],L,bx',ow',h',be',oe',H',hE,y0,y1,y2,y3,y4,y5,y6,y7,y8⟩
theorem P0m{ops:Array Oper}{st:St}{K:St->Hp->Prop}{Q:Exit->Act->World->Prop}(s:Sim P h0 w0 be oe H st h a w)(hb:s02 st.n ops.toList=true)
  (he:e03 P st h ops.toList 0 [] [] [] λL X E=>evD (A9 L st ops.toList) ops.size P X E L st h K)
  (hQ:∀ a w st h be oe H,K st h->Sim P h0 w0 be oe H st h a w->Q .normal a w):wpAny P .any ops Q ops.size (Array.replicate ops.size false) a w:=by
 obtain⟨Inv,h1,h2,h3,h4⟩:=v0i (Q:=Q) (R:=λa w=>Q .normal a w) s hb he hQ
 exact y0r (Inv:=Inv) h1 h2 h3 ops.size _ a w (by simp) (by simp[List.count_replicate]) h4
theorem P09{L l:Array Bool}{x:Bool}(h:L.toList=l.toList ++ [x]){j:Nat}(hj:j<l.size)(b:Bool):L.getD j b=l.getD j b:=by
 rw[Array.getD_eq_getD_getElem?,Array.getD_eq_getD_getElem?,←Array.getElem?_toList,←Array.getElem?_toList,h,List.getElem?_append_left (by simpa using hj)]
theorem Q0m{L l:Array Bool}{x:Bool}(h:L.toList=l.toList ++ [x])(b:Bool):L.getD l.size b=x:=by
 rw[Array.getD_eq_getD_getElem?,←Array.getElem?_toList,h,List.getElem?_append_right (by simp)];simp
theorem f0s{ops ops0:Array Oper}{o:Oper}{Q:Exit->Act->World->Prop}{Inv:Array Bool->Act->World->Prop}{a:Act}{w:World}(hops:ops.toList=ops0.toList ++ [o])
  (hBf:∀(k:Nat) (o:Oper),ops.toList[k]?=some o->∀ e∈o.after,Region.binds .any e=true->e.on<k)
  (hg:o.guard=none) (hl:∀ k,k<ops0.size->∃ e∈o.after,Region.binds .any e=true/\e.on=k)
  (hstep:∀ listed a w j o,listed.size=ops0.size->listed.getD j true=false->ops0[j]?=some o->(∀ e∈o.after,Region.binds .any e=true->listed.getD e.on false=true)->Inv listed a w->o.guard=none/\o.wp P a w (Inv (listed.setIfInBounds j true)) Q)
  (hQ:∀ listed a w,(∀ j,j<ops0.size->listed.getD j false=true)->Inv listed a w->o.wp P a w (λa w=>Q .normal a w) Q)
  (h0:Inv (Array.replicate ops0.size false) a w):wpAny P .any ops Q ops.size (Array.replicate ops.size false) a w:=by
 have hsize:ops.size=ops0.size+1:=by
  have:=congrArg List.length hops
  simpa using this
 refine y0r (Inv:=λL a w=>(∃ l:Array Bool,l.size=ops0.size/\L.toList=l.toList ++ [false]/\Inv l a w)∨((∀ j,j<ops.size->L.getD j false=true)/\Q .normal a w)) hBf (λL a w j o' hsz h1 h2 h3 hi=>?_) (λL a w hall hi=>?_) ops.size _ a w (by simp) (by simp[List.count_replicate]) (.inl ⟨_,by simp,by simp[hsize,List.replicate_succ'],h0⟩)
 ·rcases hi with⟨l,hls,hL,hi⟩|⟨hall,_⟩
  ·have hjlt:j<ops.size:=(Array.getElem?_eq_some_iff.1 h2).1
   by_cases hj:j<ops0.size
   ·have h2':ops0[j]?=some o':=by
     rw[←Array.getElem?_toList]at h2 ⊢
     rw[hops,List.getElem?_append_left (by simpa using hj)]at h2;exact h2
    obtain⟨g1,g2⟩:=hstep l a w j o' hls (by rw[←P09 hL (by omega)];exact h1) h2' (λe he hb=>by
     have:=hBf j o' (by rw[Array.getElem?_toList];exact h2) e he hb
     rw[←P09 hL (by omega)];exact h3 e he hb) hi
    refine⟨g1,Oper.wp_mono (λa' w' hi' => .inl ⟨_,by simpa using hls,?_,hi'⟩) g2⟩
    rw[Array.toList_setIfInBounds,hL,List.set_append_left _ _ (by simpa [hls] using hj),Array.toList_setIfInBounds]
   ·have hje:j=ops0.size:=by omega
    have ho:o'=o:=by
     rw[←Array.getElem?_toList,hops,List.getElem?_append_right (by simp;omega)]at h2
     rw[hje]at h2;simp at h2;exact h2.symm
    subst ho
    have hall:∀ k,k<ops0.size->l.getD k false=true:=λk hk=>by
     obtain⟨e,he,hb,rfl⟩:=hl k hk
     rw[←P09 hL (by omega)];exact h3 e he hb
    refine⟨hg,Oper.wp_mono (λa' w' hq => .inr ⟨λk hk=>?_,hq⟩) (hQ l a w hall hi)⟩
    by_cases hkj:k=j
    ·rw[hkj];simp[Array.getD_eq_getD_getElem?,hsz,hjlt]
    ·have hk0:k<ops0.size:=by omega
     have:=hall k hk0
     rw[←P09 hL (by omega)]at this
     rw[Array.getD_eq_getD_getElem?,Array.getElem?_setIfInBounds_ne (by omega),←Array.getD_eq_getD_getElem?];exact this
  ·have hjlt:j<ops.size:=(Array.getElem?_eq_some_iff.1 h2).1
   have e1:=hall j hjlt
   rw[Array.getD_eq_getD_getElem?]at e1 h1
   rw[Array.getElem?_eq_getElem (by omega)]at e1 h1
   simp at e1 h1
   rw[e1]at h1;cases h1
 ·rcases hi with⟨l,hls,hL,hi⟩|⟨_,hq⟩
  ·have:=hall ops0.size (by omega)
   rw[←hls,Q0m hL]at this;cases this
  ·exact hq
theorem a0c{o:Oper}:∀(ops:List Oper),h0d ops=some o->ops=T00 ops ++ [o]
 | [],h=>by simp[h0d]at h
 | [x],h=>by simp only[h0d,Option.some.injEq]at h;rw[h];simp[T00]
 |x::y::r,h=>by
  simp only[h0d]at h
  have:=a0c (y::r) (by simp only[h0d];exact h)
  rw[show T00 (x::y::r)=x::T00 (y::r) by simp only[T00],List.cons_append,←this]
theorem R0m{ops:List Oper}{o:Oper}(h:W0n ops=some o):ops=T00 ops ++ [o]/\o.guard=none/\j04 (T00 ops).length (T00 ops).length o=true:=by
 unfold W0n at h
 split at h
 ·rename_i o' ho'
  split at h
  ·rename_i d hg hd
   split at h
   ·rename_i hb
    cases h
    simp only[Bool.and_eq_true]at hb
    exact⟨a0c _ ho',hg,hb.2⟩
   ·cases h
  ·cases h
 ·cases h
end
end Go.H
namespace Go.H
set_option linter.unusedVariables false
set_option linter.unusedSimpArgs false
theorem X03:∀ {L:FL} {t:Nat} {x:List (Nat×Bool)×R5},X02 L t=some x->(t,x)∈L
 | [],t,x,h=>by cases h
 |(d,y)::r,t,x,h=>by
  simp only[X02]at h
  split at h
  ·rename_i hb
   cases h
   rw[Nat.eq_of_beq_eq_true hb]
   exact mS
  ·exact mC _ (X03 h)
theorem R08:∀ {L:FL} {t:Nat} {x:List (Nat×Bool)×R5},(t,x)∈L->∃ y,X02 L t=some y
 |(d,y)::r,t,x,h=>by
  simp only[X02]
  split
  ·exact⟨_,rfl⟩
  ·rename_i hb
   rcases List.mem_cons.1 h with e|h
   ·cases e;exact absurd rfl (Nat.ne_of_beq_eq_false hb)
   ·exact R08 h
theorem S0m{bs:List BE}{x:BE}(hx:∀ y∈bs,y.j≠x.j){j:Nat}{b:BE}(h:h02 bs j=some b):h02 (x::bs) j=some b:=by
 simp only[h02]
 split
 ·rename_i hb
  obtain⟨h1,h2⟩:=f03 h
  exact absurd (h2.trans (Nat.eq_of_beq_eq_true hb).symm) (hx b h1)
 ·exact h
abbrev Asg:=Nat->List (Nat×Bool)×Bool×R5
structure e0f (ops:List Oper) (A:Asg) (L:FL) (bs:List BE) (k:Nat):Prop where
 p1:∀ t x,(t,x)∈L->∃ i oi,i<k/\ops[i]?=some oi/\oi.dst=some t/\(A i).1=x.1/\(A i).2.2=x.2
 p2:∀ i oi d,i<k->ops[i]?=some oi->oi.dst=some d->∃ x,X02 L d=some x
 p3:∀ i,i<k->i<ops.length->cB bs (A i).1=some (A i).2.1
 p4:∀ x∈bs,x.j<k/\(∃ o,ops[x.j]?=some o/\o.dst=some x.d)/\(A x.j).1=x.ch/\(A x.j).2.2 = .pu (.val (.bool x.e))
structure j08 (bs bs':List BE):Prop where
 c:∀ ch c,cB bs ch=some c->cB bs' ch=some c
 e:∀ j b,h02 bs j=some b->h02 bs' j=some b
theorem j08.refl(bs:List BE):j08 bs bs:=⟨λ_ _ h=>h,λ_ _ h=>h⟩
theorem j08.trans{a b c:List BE}(h1:j08 a b)(h2:j08 b c):j08 a c:=⟨λch x h=>h2.c ch x (h1.c ch x h),λj b h=>h2.e j b (h1.e j b h)⟩
def OpU(P:Program)(st:St)(h:Hp)(L:FL)(bs:List BE)(o:Oper)(ch:List (Nat×Bool))(c:Bool):R5->Prop
 | .pu av=>u08 P L bs ch o st=some av∨∀ h',Sub h h'->imp ch c (D06 L st h' ch o.op.operands.toList [] λfr=>F7 P o { st with fr:=fr } h' (i0l av { st with fr:=fr } h'))
 | .ef F=>(∀ v h1 h2,Sub h1 h2->F v h1->F v h2)/\∀ h',Sub h h'->imp ch c (D06 L st h' ch o.op.operands.toList [] λfr=>d0i P o { st with fr:=fr } h' (X0n { st with fr:=fr } h' F))
theorem o0o{d:Option Tmp}{ch:List (Nat×Bool)}{f:R5}{L:FL}{p:Nat×List (Nat×Bool)×R5}(h:p∈i0d d ch f L):(∃ s,d=some s/\p=(s,ch,f))∨p∈L:=by
 cases d with
 |none=>exact .inr h
 |some s =>
  rcases List.mem_cons.1 h with h|h
  ·exact .inl ⟨s,rfl,h⟩
  ·exact .inr h
theorem p0o{i:Nat}{d:Option Tmp}{ch:List (Nat×Bool)}{av:AV}{bs:List BE}{x:BE}(h:x∈O0g i d ch av bs):(∃ s e,d=some s/\av = .val (.bool e)/\x=⟨i,s,e,ch⟩)∨x∈bs:=by
 unfold O0g at h
 split at h
 ·split at h
  ·rcases List.mem_cons.1 h with h|h
   ·exact .inl ⟨_,_,rfl,rfl,h⟩
   ·exact .inr h
  ·exact .inr h
 ·exact .inr h
theorem q0o{i:Nat}{d:Option Tmp}{ch:List (Nat×Bool)}{av:AV}{bs:List BE}(hx:∀ y∈bs,y.j<i):j08 bs (O0g i d ch av bs):=by
 unfold O0g
 split
 ·split
  ·refine⟨λch' c h=>l0k (λy hy=>?_) h,λj b h=>S0m (λy hy=>?_) h⟩<;>(have:=hx y hy;simp only;omega)
  ·exact j08.refl _
 ·exact j08.refl _
theorem l0q(P:Program)(i:Nat)(L:FL)(bs:List BE)(st:St)(h:Hp)(K:St->Hp->Prop):evU P [] i L bs st h K=∀ h',Sub h h'->q0c h' L st.fr λfr=>K { st with fr:=fr } h':=by
 obtain⟨n,fr,bx,ow⟩:=st;rfl
theorem r0o(P:Program)(o:Oper)(l:List Oper)(i:Nat)(L:FL)(bs:List BE)(st:St)(h:Hp)(K:St->Hp->Prop)(he:evU P (o::l) i L bs st h K):
    ∃ ch c f,c00 bs o.guard=some ch/\cB bs ch=some c/\(OpU P st h L bs o ch c f/\∀ av,u08 P L bs ch o st=some av->f = .pu av)/\∃ bs',bs'=(match f with
      | .pu av=>O0g i o.dst ch av bs
      | .ef _=>bs)/\evU P l (i+1) (i0d o.dst ch f L) bs' st h K:=by
  obtain⟨n,fr,bx,ow⟩:=st
  change (match c00 bs o.guard with
        |some ch=>match cB bs ch with
          |some c=>match u08 P L bs ch o ⟨n,fr,bx,ow⟩with
            |some av=>U00 av λav=>evU P l (i+1) (i0d o.dst ch (.pu av) L) (O0g i o.dst ch av bs) ⟨n,fr,bx,ow⟩ h K
            |none=>(∃ av,(∀ h',Sub h h'->imp ch c (D06 L ⟨n,fr,bx,ow⟩ h' ch o.op.operands.toList [] λfr=>F7 P o ⟨n,fr,bx,ow⟩ h' (i0l av ⟨n,fr,bx,ow⟩ h'))) /\
                  U00 av λav=>evU P l (i+1) (i0d o.dst ch (.pu av) L) (O0g i o.dst ch av bs) ⟨n,fr,bx,ow⟩ h K) ∨
                (∃ F:Value->Hp->Prop,(∀ v h1 h2,Sub h1 h2->F v h1->F v h2) /\
                  (∀ h',Sub h h'->imp ch c (D06 L ⟨n,fr,bx,ow⟩ h' ch o.op.operands.toList [] λfr=>d0i P o ⟨n,fr,bx,ow⟩ h' (X0n ⟨n,fr,bx,ow⟩ h' F))) /\
                  evU P l (i+1) (i0d o.dst ch (.ef F) L) bs ⟨n,fr,bx,ow⟩ h K)
          |none=>False
        |none=>False)at he
  split at he
  · rename_i ch hch
    split at he
    · rename_i c hc
      split at he
      · rename_i av hav
        rw[A02]at he
        exact⟨ch,c,.pu av,hch,hc,⟨.inl hav,λav' h'=>by rw[hav]at h';cases h';rfl⟩,_,rfl,he⟩
      · rename_i hno
        have nop:∀(f:R5) av,u08 P L bs ch o ⟨n,fr,bx,ow⟩=some av->f = .pu av:=λf av h'=>by rw[hno]at h';cases h'
        rcases he with⟨av,h1,h2⟩|⟨F,h1,h2,h3⟩
        · rw[A02]at h2
          exact⟨ch,c,.pu av,hch,hc,⟨.inr h1,nop _⟩,_,rfl,h2⟩
        · exact⟨ch,c,.ef F,hch,hc,⟨⟨h1,h2⟩,nop _⟩,_,rfl,h3⟩
    · exact he.elim
  · exact he.elim
theorem y0d{P:Program}{ops:List Oper}{st:St}{h:Hp}{K:St->Hp->Prop}(hD:∀(i j:Nat) (oi oj:Oper) (d:Nat),ops[i]?=some oi->ops[j]?=some oj->oi.dst=some d->oj.dst=some d->i=j):
  ∀(l:List Oper) (k:Nat) (L:FL) (bs:List BE) (A0:Asg),(∀ j,l[j]?=ops[k+j]?)->k+l.length=ops.length->e0f ops A0 L bs k->evU P l k L bs st h K ->
   ∃(A:Asg) (L':FL) (Bf:List BE),(∀ i,i<k->A i=A0 i)/\j08 bs Bf/\e0f ops A L' Bf ops.length /\
    (∀ j o,k<=j->ops[j]?=some o->∃ Lj bj,c00 Bf o.guard=some (A j).1/\e0f ops A Lj bj j/\j08 bj Bf/\cB bj (A j).1=some (A j).2.1/\(OpU P st h Lj bj o (A j).1 (A j).2.1 (A j).2.2/\∀ av,u08 P Lj bj (A j).1 o st=some av->(A j).2.2 = .pu av)) /\
    (∀ h',Sub h h'->q0c h' L' st.fr λfr=>K { st with fr:=fr } h')
 | [],k,L,bs,A0,hl,hk,hp,he=>by
  have hk':k=ops.length:=by simpa using hk
  subst hk'
  refine⟨A0,L,bs,λ_ _=>rfl,j08.refl _,hp,λj o hj ho=>?_,by rw[l0q]at he;exact he⟩
  have:=(List.getElem?_eq_some_iff.1 ho).1
  omega
 |o::l,k,L,bs,A0,hl,hk,hp,he=>by
  have ho:ops[k]?=some o:=by simpa using (hl 0).symm
  have hl':∀ j,l[j]?=ops[k+1+j]?:=λj=>by have:=hl (j+1);simpa [Nat.add_assoc,Nat.add_comm 1 j] using this
  have hk':k+1+l.length=ops.length:=by simp only[List.length_cons]at hk;omega
  obtain⟨ch,c,f,hch,hc,hop,bs',hbs,he'⟩:=r0o P o l k L bs st h K he
  let A1:Asg:=λi=>if i=k then(ch,c,f)else A0 i
  have a1k:A1 k=(ch,c,f):=by simp[A1]
  have a1:∀ i,i<k->A1 i=A0 i:=λi hi=>by simp[A1,Nat.ne_of_lt hi]
  have hbk:∀ y∈bs,y.j<k:=λy hy=>(hp.p4 y hy).1
  have hext:j08 bs bs':=by
   subst hbs
   cases f with
   |pu av=>exact q0o hbk
   |ef F=>exact j08.refl _
  have hp1:e0f ops A1 (i0d o.dst ch f L) bs' (k+1):=by
   refine⟨λt x hx=>?_,λi oi d hi h1 h2=>?_,λi hi hlt=>?_,λx hx=>?_⟩
   ·rcases o0o hx with⟨s,hs,e⟩|hx
    ·cases e
     exact⟨k,o,nS _,ho,hs,by rw[a1k],by rw[a1k]⟩
    ·obtain⟨i,oi,g1,g2,g3,g4,g5⟩:=hp.p1 t x hx
     exact⟨i,oi,Nat.lt_succ_of_lt g1,g2,g3,by rw[a1 i g1];exact g4,by rw[a1 i g1];exact g5⟩
   ·rcases Nat.lt_or_ge i k with hik|hik
    ·obtain⟨x,hx⟩:=hp.p2 i oi d hik h1 h2
     cases hd:o.dst with
     |none=>exact⟨x,hx⟩
     |some s=>exact R08 (x:=x) (mC _ (X03 hx))
    ·have:i=k:=by omega
     subst this
     rw[ho]at h1;cases h1
     rw[h2]
     exact R08 mS
   ·rcases Nat.lt_or_ge i k with hik|hik
    ·rw[a1 i hik];exact hext.c _ _ (hp.p3 i hik hlt)
    ·have:i=k:=by omega
     subst this
     rw[a1k];exact hext.c _ _ hc
   ·subst hbs
    cases f with
    |ef F =>
     obtain⟨g1,g2,g3,g4⟩:=hp.p4 x hx
     exact⟨Nat.lt_succ_of_lt g1,g2,by rw[a1 _ g1];exact g3,by rw[a1 _ g1];exact g4⟩
    |pu av =>
     rcases p0o hx with⟨s,e,hs,hav,rfl⟩|hx
     ·refine⟨nS _,⟨o,ho,hs⟩,by rw[a1k],?_⟩
      rw[a1k,hav]
     ·obtain⟨g1,g2,g3,g4⟩:=hp.p4 x hx
      exact⟨Nat.lt_succ_of_lt g1,g2,by rw[a1 _ g1];exact g3,by rw[a1 _ g1];exact g4⟩
  obtain⟨A,L',Bf,b1,b2,b3,b4,b5⟩:=y0d hD l (k+1) _ bs' A1 hl' hk' hp1 he'
  have bk:A k=(ch,c,f):=by rw[b1 k (nS _),a1k]
  have bi:∀ i,i<k->A i=A0 i:=λi hi=>by rw[b1 i (Nat.lt_succ_of_lt hi),a1 i hi]
  refine⟨A,L',Bf,bi,hext.trans b2,b3,λj oj hj hoj=>?_,b5⟩
  rcases Nat.lt_or_ge k j with hkj|hkj
  ·exact b4 j oj hkj hoj
  ·have:j=k:=by omega
   subst this
   rw[ho]at hoj;cases hoj
   refine⟨L,bs,?_,⟨λt x hx=>?_,λi oi d hi h1 h2=>hp.p2 i oi d hi h1 h2,λi hi hlt=>?_,λx hx=>?_⟩,hext.trans b2,by rw[bk];exact hc,by rw[bk];exact hop⟩
   ·rw[bk]
    cases hg:o.guard with
    |none=>rw[hg]at hch;exact hch
    |some p =>
     obtain⟨jj,w⟩:=p
     rw[hg]at hch
     simp only[c00]at hch ⊢
     split at hch
     ·rename_i b hb
      rw[(hext.trans b2).e _ _ hb]
      exact hch
     ·cases hch
   ·obtain⟨i,oi,g1,g2,g3,g4,g5⟩:=hp.p1 t x hx
    exact⟨i,oi,g1,g2,g3,by rw[bi i g1];exact g4,by rw[bi i g1];exact g5⟩
   ·rw[bi i hi];exact hp.p3 i hi hlt
   ·obtain⟨g1,g2,g3,g4⟩:=hp.p4 x hx
    exact⟨g1,g2,by rw[bi _ g1];exact g3,by rw[bi _ g1];exact g4⟩
section
variable {P:Program} {h0:Hp} {w0:World} {be:Nat->Nat} {oe:Nat->Value} {H:Hp} {st:St} {h:Hp} {a:Act} {w:World} {o:Oper} {K:AV->St->Hp->Prop} {Q:Exit->Act->World->Prop}
theorem w0i(s:Sim P h0 w0 be oe H st h a w){t n:Nat}{ps:Array (Nat×Operand)}(ho:o.op = .buildSlice t n ps)(hps:ps.toList = [])(he:Y0n P t n st h K):o.wp P a w (Nx P h0 w0 st be oe K a o.dst) Q:=by
 unfold Y0n at he
 split at he
 rotate_left
 ·exact he.elim
 rename_i e hte
 split at he
 rotate_left
 ·exact he.elim
 rename_i sz hs hn
 have hn0:=Nat.eq_of_beq_eq_true hn
 subst hn0
 have hps0:ps = #[]:=by apply Array.ext';simpa using hps
 subst hps0
 have hw:wpS P (execOp a.eval o) h (λnx h'=>∃ b,h b=none/\nx = .value (.slice (some ⟨b,0,none⟩) 0 0)/\h'=h.set b (.cells #[] e (0,0))):=by
  unfold execOp;rw[ho]
  refine E7 _ _ _ ?_
  simp only[Instr.buildSlice,G2,C4 (j9 hte),V00 hs,Nat.zero_mul,J2]
  rw[if_neg (by omega)]
  simp only[J2,if_true,Instr.fill,Array.map_empty,G2,newRow,newObj,wpS]
  exact λb hb=>⟨b,hb,rfl,by rw[show Array.range 0 = #[] from rfl,Array.map_empty]⟩
 obtain⟨nx,h',w',hr,⟨b,hb,rfl,rfl⟩,hmv⟩:=J9 _ _ _ (c07 s) hw
 obtain⟨H',s'⟩:=s.moved hmv
 exact j7 hr ⟨_,_,_,_,_,_,_,he b hb,rfl,s',rfl,M6.refl _ _ _⟩
theorem x0i(s:Sim P h0 w0 be oe H st h a w){t:TypeId}{p q:Operand}{as:Array Operand}{ts:Array TypeId}(ho:o.op = .call { callee := .builtin .append,args:=as,argTypes:=ts })
  (ha:as = #[p,q]) (hts:ts = #[t,t]) (he:Z0n P t p q st h K):o.wp P a w (Nx P h0 w0 st be oe K a o.dst) Q:=by
 unfold Z0n at he
 split at he
 rotate_left
 ·exact he.elim
 rename_i e hte
 split at he
 rotate_left
 ·exact he.elim
 rename_i sz by_ z hs hb hz
 split at he
 rotate_left
 ·exact he.elim
 rename_i hzl
 obtain⟨i,hi,i1,i2,i3⟩:=P08 hs hb hz
 have ht:=j9 hte
 have hzs:z.cells.size=i.size:=by rw[i1];simpa using t02 _ _ hzl
 have g:=s.rdO p
 split at he
 rotate_left
 ·exact he.elim
 rename_i g0 o0 hr
 rw[hr]at g
 have hg:a.eval p = .slice (some ⟨g0,o0,none⟩) 0 0:=g
 obtain⟨ys,⟨hroom,hk1,hk2⟩,hy⟩:=o04 s (Nat.succ_pos sz) he
 have i1':i.size=sz+1:=i1
 have i2':i.bytes=by_+1:=i2
 rw[←i1]at hy
 rw[←i1']at hk2
 rw[←i2']at hroom
 have hb1:0<i.bytes:=by rw[i2];exact Nat.succ_pos _
 have hlen:ys.length<=140737488355328:=Nat.le_trans (Nat.le_mul_of_pos_right _ hb1) hroom
 have hl63:((0+ys.length:Nat):Int)<=9223372036854775807:=by omega
 have hfy:=G01 ys (λx hx=>(hy.1 x hx).1)
 have hv:=c07 s
 by_cases hn:ys = []
 ·have hrun:(Builtin.append_ #[t,t] o.type #[.slice (some ⟨g0,o0,none⟩) 0 0,a.eval q]).run P w = .ok (.slice (some ⟨g0,o0,none⟩) 0 0) w:=by
   subst hn
   rcases hy.2 with⟨ad,c,hq,hc⟩|⟨c,hq,_⟩
   ·rw[hq]
    simp[Builtin.append_,run_underlying ht,sizeOf,typeInfo,hi,Builtin.lenOf,Builtin.firstCells,loadCells,loadCellsFrom,storeCells]
   ·rw[hq]
    simp[Builtin.append_,run_underlying ht,sizeOf,typeInfo,hi,Builtin.lenOf,Builtin.firstCells,storeCells]
  rw[←hg]at hrun
  exact j7 (C02 ho ha hts hrun) ⟨_,_,h,_,_,_,_,hk1 hn,rfl,s,hg,M6.refl _ _ _⟩
 ·rcases hy.2 with⟨ad,cc,hq,hc⟩|⟨cc,hq,hys⟩
  rotate_left
  ·exact absurd hys hn
  have hpos:0<ys.length:=by
   cases ys with
   |nil=>exact absurd rfl hn
   |cons y r=>simp
  have hrun:=run_append_grow (P:=P) w t o.type e i z ht hi i3 ⟨g0,o0,none⟩ 0 0 [] (by simp) (λj u hj=>by simp at hj) ad ys.length cc ys.flatten hfy hc (by omega) hl63 (growslice_fits (by omega) (by unfold W06 at hroom;simpa using hroom))
  have hge:=grownCap_ge w (0+ys.length) 0 e
  have hcm:grownCap w (0+ys.length) 0 e<=maxLen:=grownCap_le_maxLen w _ 0 e (by unfold maxLen;omega)
  rw[←hq,←hg]at hrun
  obtain⟨H',s'⟩:=s.moved (P2.newD hv (.cells ([].toArray++ys.flatten.toArray++Builtin.zeroCells z.cells (grownCap w (0+ys.length) 0 e-(0+ys.length))) e (0,0)) rfl)
  refine j7 (C02 ho ha hts hrun) ⟨_,_,_,_,_,_,_,hk2 _ _ ⟨λx hx=>hy.1 x hx,.inr ⟨w.heap.size,grownCap w (0+ys.length) 0 e,_,?_,l02 hv,rfl,by omega,hcm,?_,?_⟩⟩,rfl,s',rfl,M6.refl _ _ _⟩
  ·rw[Nat.zero_add]
  ·simp only[Array.size_append,List.size_toArray,hfy,size_zeroCells,hzs,List.length_nil,←Nat.add_mul,Nat.zero_add]
   rw[Nat.zero_add]at hge
   congr 1;omega
  ·simp only[Array.toList_append,List.append_assoc,List.nil_append]
   rw[List.take_append_of_le_length (by simp[hfy]),List.take_of_length_le (by simp[hfy])]
theorem y0i(s:Sim P h0 w0 be oe H st h a w)(he:d0i P o st h K):o.wp P a w (Nx P h0 w0 st be oe K a o.dst) Q:=by
 unfold d0i at he
 split at he
 ·rename_i t n ps ho
  split at he
  ·rename_i hps;exact w0i s ho hps he
  ·exact Q9 s he
 ·rename_i as ts ho
  split at he
  ·rename_i x y t t' ha ht
   split at he
   ·rename_i hb
    have:=Nat.eq_of_beq_eq_true hb
    subst this
    exact x0i s ho (by apply Array.ext';simpa using ha) (by apply Array.ext';simpa using ht) he
   ·exact he.elim
  ·exact he.elim
 ·exact Q9 s he
end
section
variable {P:Program} {h0:Hp} {w0:World} {be:Nat->Nat} {oe:Nat->Value} {H:Hp} {h:Hp} {a:Act} {w:World}
def c0h(st:St)(be:Nat->Nat)(oe:Nat->Value)(h:Hp)(bs:List BE)(x:List (Nat×Bool)×R5)(v:Value):Prop:=cB bs x.1=some true->u04 st be oe h x.2 v
theorem J01{L:FL}{st:St}{h:Hp}{bs:List BE}{ch:List (Nat×Bool)}{val:Nat->Value}{K:List (Nat×AV)->Prop}(hc:cB bs ch=some true):∀ {l:List Operand} {acc:List (Nat×AV)},
  (∀ t,C2 st be oe (Z2 acc t) (val t))->(∀ t,Operand.tmp t∈l->(∀ x,X02 L t=some x->c0h st be oe h bs x (val t))/\(X02 L t=none->C2 st be oe (Z2 st.fr t) (val t))) ->
  D06 L st h ch l acc K->∃ fr,K fr/\∀ t,C2 st be oe (Z2 fr t) (val t)
 | [],acc,h1,h2,he=>⟨acc,he,h1⟩
 | .tmp t::r,acc,h1,h2,he=>by
  have h2r:∀ u,Operand.tmp u∈r->_:=λu hu=>h2 u (mC _ hu)
  have hx:=h2 t mS
  have put:∀ av,C2 st be oe av (val t)->∀ u,C2 st be oe (Z2 ((t,av)::acc) u) (val u):=λav g u=>by
   rw[T3]
   split
   ·rename_i e;subst e;exact g
   ·exact h1 u
  simp only[D06]at he
  split at he
  ·rename_i ch2 f e
   split at he
   ·rename_i hs
    have hf:=hx.1 _ e (V07 hs hc)
    cases f with
    |pu av=>exact J01 hc (put av hf) h2r he
    |ef F=>exact J01 hc (put (.val (val t)) rfl) h2r (he _ hf)
   ·exact he.elim
  ·rename_i e
   exact J01 hc (put _ (hx.2 e)) h2r he
 | .const v::r,acc,h1,h2,he=>J01 (l:=r) hc h1 (λu hu=>h2 u (mC _ hu)) he
 | .global v::r,acc,h1,h2,he=>J01 (l:=r) hc h1 (λu hu=>h2 u (mC _ hu)) he
 | .func v::r,acc,h1,h2,he=>J01 (l:=r) hc h1 (λu hu=>h2 u (mC _ hu)) he
theorem E0f{st:St}{val:Nat->Value}{K:List (Nat×AV)->Prop}:∀ {L:FL} {fr:List (Nat×AV)},(∀ p∈L,p.2.1 = []->u04 st be oe h p.2.2 (val p.1)) ->
  (∀ t,(∀ x,(t,x) ∉ L)->C2 st be oe (Z2 fr t) (val t))->q0c h L fr K->∃ fr,K fr/\∀ t,C2 st be oe (Z2 fr t) (val t)
 | [],fr,h1,h2,he=>⟨fr,he,λt=>h2 t (by simp)⟩
 |(d,ch,f)::r,fr,h1,h2,he=>by
  have step:∀ av,C2 st be oe av (val d)->q0c h r ((d,av)::fr) K->∃ fr,K fr/\∀ t,C2 st be oe (Z2 fr t) (val t):=λav g he =>
   E0f (L:=r) (fr:=(d,av)::fr) (λp hp=>h1 p (mC _ hp)) (λt ht=>by
    rw[T3]
    split
    ·rename_i e;subst e;exact g
    ·rename_i hne
     exact h2 t λx hx=>by
      rcases List.mem_cons.1 hx with e|hx
      ·cases e;exact hne rfl
      ·exact ht x hx) he
  cases ch with
  |nil =>
   have hf:=h1 (d,[],f) mS rfl
   cases f with
   |pu av=>exact step av hf he
   |ef F=>exact step (.val (val d)) rfl (he _ hf)
  |cons p q =>
   refine step .dead trivial ?_
   cases f<;>exact he
theorem s0o{st:St}{L:FL}{bs:List BE}{ch:List (Nat×Bool)}{o:Oper}{av:AV}(hp:u08 P L bs ch o st=some av)(hc:cB bs ch=some true)
  (hv:∀ t,(∀ x,X02 L t=some x->c0h st be oe h bs x (a.tmps.getD t undef))/\(X02 L t=none->C2 st be oe (Z2 st.fr t) (a.tmps.getD t undef))∨Operand.tmp t ∉ o.op.operands)
  (ht:∀ x∈bs,∀ y,X02 L x.d=some y->y=(x.ch,.pu (.val (.bool x.e)))) (hj:∀ x∈bs,h02 bs x.j=some x) (hbsL:∀ x∈bs,∃ y,X02 L x.d=some y)
  (hg:∀ {fr:List (Nat×AV)},(∀ t,C2 st be oe (Z2 fr t) (a.tmps.getD t undef))->Sim P h0 w0 be oe H { st with fr:=fr } h a w) {Q:Exit->Act->World->Prop} :
  o.wp P a w (λa' w'=>∃ v be' oe' H',a'=a.put o.dst v/\(∃ fr,Sim P h0 w0 be' oe' H' { st with fr:=fr } h a w')/\M6 st be oe st be' oe'/\C2 st be' oe' av v) Q:=by
 have s0:Sim P h0 w0 be oe H { st with fr:=[] } h a w:=hg (λt=>trivial)
 have rd:∀(x:Operand) (ch2:List (Nat×Bool)),cB bs ch2=some true->(∀ t,x = .tmp t->Operand.tmp t∈o.op.operands)->C2 st be oe (rdU L st ch2 x) (a.eval x):=by
  intro x ch2 hc2 hx
  cases x with
  |tmp t =>
   have hvt:=(hv t).resolve_right (λhn=>hn (hx t rfl))
   simp only[rdU]
   split
   ·rename_i ch3 A e
    split
    ·rename_i hs
     have:=hvt.1 _ e (V07 hs hc2)
     have g:C2 st be oe A (a.tmps.getD t undef):=this
     have g2:=s0.rdA (C2.fr (st:=st) (fr:=[]) g)
     have e2:rdA { st with fr:=[] } A=rdA st A:=by obtain⟨n,fr,bx,ow⟩:=st;cases A<;>rfl
     rw[e2]at g2
     exact C2.fr (st := { st with fr:=[] }) (fr:=st.fr) g2
    ·trivial
   ·trivial
   ·rename_i e
    have g:=hvt.2 e
    have g2:=s0.rdA (C2.fr (st:=st) (fr:=[]) g)
    have e2:rdA { st with fr:=[] } (Z2 st.fr t)=rdA st (Z2 st.fr t):=by obtain⟨n,fr,bx,ow⟩:=st;cases Z2 fr t<;>rfl
    rw[e2]at g2
    exact C2.fr (st := { st with fr:=[] }) (fr:=st.fr) g2
  |const v=>exact rfl
  |global v=>trivial
  |func v=>exact rfl
 have done:∀ {v:Value},(∀ w',(execOp a.eval o).run P w' = .ok (.value v) w' ∨ ¬ Vis H w')->C2 st be oe av v->o.wp P a w (λa' w'=>∃ v be' oe' H',a'=a.put o.dst v/\(∃ fr,Sim P h0 w0 be' oe' H' { st with fr:=fr } h a w')/\M6 st be oe st be' oe'/\C2 st be' oe' av v) Q:=λ{v} hr g =>
  j7 ((hr w).resolve_right λhn=>hn s0.mv.vis) ⟨v,be,oe,H,rfl,⟨[],s0⟩,M6.refl _ _ _,g⟩
 unfold u08 at hp
 split at hp
 ·rename_i x hx
  have g:=rd x ch hc (λt e=>by rw[hx];simp[Op.operands,e])
  refine done (v:=a.eval x) (λw' => .inl (by unfold execOp;rw[hx];rfl)) ?_
  revert hp
  cases hr:rdU L st ch x<;>intro hp<;>first|(cases hp;done)|(cases hp;rw[hr]at g;exact g)
 ·rename_i x hx
  have g:=rd x ch hc (λt e=>by rw[hx];simp[Op.operands,e])
  refine done (v:=a.eval x) (λw' => .inl (by unfold execOp;rw[hx];rfl)) ?_
  revert hp
  cases hr:rdU L st ch x<;>intro hp<;>first|(cases hp;done)|(cases hp;rw[hr]at g;exact g)
 ·rename_i t x hx
  have g:=rd x ch hc (λt e=>by rw[hx];simp[Op.operands,e])
  split at hp
  ·rename_i i off hr
   rw[hr]at g
   split at hp
   ·rename_i cs ty hn
    have hxt:∃ u,x = .tmp u:=by
     cases x with
     |tmp u=>exact⟨u,rfl⟩
     |const v=>simp[rdU,rdO]at hr
     |global v=>simp[rdU,rdO]at hr
     |func v=>simp[rdU,rdO]at hr
    obtain⟨u,rfl⟩:=hxt
    have he:F7 P o { st with fr:=[(u,.box i off)] } h λav' st' h'=>av'=av/\st' = { st with fr:=[(u,.box i off)] }/\h'=h:=by
     have hrd:rdO { st with fr:=[(u,.box i off)] } (.tmp u) = .box i off:=by
      show rdA _ (Z2 [(u,AV.box i off)] u)=_
      rw[T3,if_pos rfl]
      simp only[rdA,hn]
     simp only[F7,hx,hrd,hn]
     unfold d0d at hp
     unfold d04
     cases hA:G0g P t with
     |none=>rw[hA]at hp;cases hp
     |some bb =>
      rw[hA]at hp
      cases bb with
      |true =>
       cases hT:E5 P t with
       |none=>rw[hT]at hp;cases hp
       |some m =>
        rw[hT]at hp
        simp only at hp ⊢
        split at hp
        ·rename_i hB
         cases hp
         rw[hB]
         simp
        ·cases hp
      |false =>
       simp only at hp ⊢
       split at hp
       ·rename_i cc hN
        cases hp
        rw[hN]
        simp
       ·cases hp
    have s1:=hg (fr:=[(u,.box i off)]) (λu'=>by
     rw[T3]
     split
     ·rename_i e;subst e;exact g
     ·trivial)
    refine Oper.wp_mono (λa' w' hx=>?_) (Q9 s1 he)
    obtain⟨av',st',h'',v,be',oe',H',⟨e1,e2,e3⟩,ha,s2,g2,gr⟩:=hx
    rw[e2,e3]at s2
    rw[e1,e2]at g2
    rw[e2]at gr
    exact⟨v,be',oe',H',ha,⟨_,s2⟩,⟨gr.bl,gr.be,gr.sm⟩,C2.fr (st := { st with fr:=[(u,.box i off)] }) (fr:=st.fr) g2⟩
   ·cases hp
  ·cases hp
 ·rename_i t x k hx
  have g:=rd x ch hc (λt e=>by rw[hx];simp[Op.operands,e])
  split at hp
  ·rename_i i off fo hr htf
   rw[hr]at g
   cases hp
   refine done (v:=ptr (be i) (off+fo)) (λw'=>?_) ⟨g.1,rfl⟩
   by_cases hvis:Vis H w'
   ·exact .inl (R.run_of (R.exec_fieldAddr (H:=H) hx htf g.2) w' hvis)
   ·exact .inr hvis
  ·rename_i sl j sz kk fo hr htf
   rw[hr]at g
   cases hp
   obtain⟨b,o',n,cp,e1,e2⟩:=g
   refine done (v:=ptr b (o'+(j.toNat*sz+kk)+fo)) (λw'=>?_) ⟨b,o',n,cp,e1,by simp[Nat.add_assoc]⟩
   by_cases hvis:Vis H w'
   ·exact .inl (R.run_of (R.exec_fieldAddr (H:=H) hx htf e2) w' hvis)
   ·exact .inr hvis
  ·cases hp
 ·rename_i s x y hx
  have g:=rd (.tmp s) ch hc (λt e=>by rw[hx];cases e;simp[Op.operands])
  split at hp
  ·rename_i e q hs hq
   rw[hs]at g
   have ge:a.eval (.tmp s) = .bool e:=g
   split at hp
   ·rename_i hsf
    obtain⟨hm,hqd⟩:=Q0a hq
    have hqc:=V07 hsf hc
    have hqe:q.e=e:=by
     have hrd:rdU L st ch (.tmp s) = .val (.bool e):=hs
     obtain⟨y0,hl⟩:=hbsL q hm
     have hy:=ht q hm y0 hl
     rw[hy]at hl
     rw[hqd]at hl
     simp only[rdU,hl,hsf,Go.H.rdA]at hrd
     cases hrd;rfl
    have hlk:=hj q hm
    split at hp
    ·rename_i bx by_ hx1 hy1
     cases hp
     refine done (v := .bool (cond e bx by_)) (λw' => .inl ?_) rfl
     unfold execOp;rw[hx]
     simp only[ge,Sem.run_bind,asBool,Sem.run_pure,Result.andThen_ok]
     cases e with
     |true =>
      have hch:cB bs ((q.j,true)::q.ch)=some true:=by
       rw[U03,hlk,hqc];simp[lit,hqe]
      have g4:=rd x _ hch (λt e=>by rw[hx];simp[Op.operands,e])
      rw[hx1]at g4
      have g5:a.eval x = .bool bx:=g4
      simp[g5]
     |false =>
      have hch:cB bs ((q.j,false)::q.ch)=some true:=by
       rw[U03,hlk,hqc];simp[lit,hqe]
      have g4:=rd y _ hch (λt e=>by rw[hx];simp[Op.operands,e])
      rw[hy1]at g4
      have g5:a.eval y = .bool by_:=g4
      simp[g5]
    ·cases hp
   ·cases hp
  ·cases hp
 ·cases hp
theorem Sim.untail{st:St}{t:List Own}(s:Sim P h0 w0 be oe H { st with ow:=st.ow++t } h a w)(hf:∀ u,C2 st be oe (Z2 st.fr u) (a.tmps.getD u undef))
  (hb:∀ i cs ty,nth st.bx i=some (.live cs ty)->∃ vs,U1 st oe cs vs/\H (be i)=some (.cells vs.toArray ty (0,0))):Sim P h0 w0 be oe H st h a w:=by
 have up:∀ i o,nth st.ow i=some o->nth (st.ow++t) i=some o:=λi o hi=>by
  rw[l04]at hi ⊢
  rw[List.getElem?_append_left (List.getElem?_eq_some_iff.1 hi).1]
  exact hi
 refine⟨s.mv,s.sub,λi cs ty hi=>⟨(s.box i cs ty hi).1,hb i cs ty hi⟩,s.pub,λi s' e sz by_ nn xs hi=>s.own i s' e sz by_ nn xs (up i _ hi),λi s' v hi=>s.frz i s' v (up i _ hi),s.bb,
  λi j s1 e sz by_ nn xs s2 e' sz' by' nn' xs' g hi hj=>s.oo i j s1 e sz by_ nn xs s2 e' sz' by' nn' xs' g (up i _ hi) (up j _ hj),λi cs ty j s1 e sz by_ nn xs hi hj=>s.bo i cs ty j s1 e sz by_ nn xs hi (up j _ hj),s.dfr,s.siz,hf⟩
def S08(P:Program)(h0:Hp)(w0:World)(ops:Array Oper)(st:St)(h:Hp)(A:Asg)(sk:Nat->Bool)(kp:List (Nat×Value))(listed:Array Bool)(a:Act)(w:World):Prop :=
 ∃ be oe H h',Sub h h'/\Sim P h0 w0 be oe H { st with fr:=Z3 ops.toList st.fr } h' a w/\(∀ p∈kp,a.tmps.getD p.1 undef=p.2) /\
  ∀ j o d,sk j=false->ops[j]?=some o->o.dst=some d->listed.getD j false=true->((A j).2.1=true->u04 st be oe h' (A j).2.2 (a.tmps.getD d undef))/\((A j).2.1=false->a.tmps.getD d undef=undef)
theorem m0q{st st':St}(t:e0k st st'):∃ r,st' = { st with ow:=st.ow++r }:=by
 obtain⟨n,fr,bx,ow⟩:=st
 obtain⟨n',fr',bx',ow'⟩:=st'
 obtain⟨h1,h2,h3,r,h4⟩:=t
 simp only at h1 h2 h3 h4
 subst h1 h2 h3 h4
 exact⟨r,rfl⟩
theorem n0q{α:Type}{l r:List α}{i:Nat}(hi:i<l.length):nth (l++r) i=nth l i:=by
 rw[l04,l04,List.getElem?_append_left hi]
theorem F0f{st:St}{r:List Own}{i s:Nat}(hs:stamp st i=some s):stamp { st with ow:=st.ow++r } i=some s:=by
 unfold stamp at hs ⊢
 cases hn:nth st.ow i with
 |none=>rw[hn]at hs;cases hs
 |some o=>rw[hn]at hs;rw[n0q (F01 hn),hn];exact hs
theorem P0q{ops:Array Oper}{st:St}{A:Asg}{sk:Nat->Bool}{kp:List (Nat×Value)}{Lf:FL}{Bf:List BE}{listed:Array Bool}{j:Nat}{o:Oper}{Q:Exit->Act->World->Prop}
  (hD:∀(i j:Nat) (oi oj:Oper) (d:Nat),ops.toList[i]?=some oi->ops.toList[j]?=some oj->oi.dst=some d->oj.dst=some d->i=j)
  (hn:∀ o∈ops.toList,∀ d,o.dst=some d->d<st.n)
  (hB:∀(k:Nat) (o:Oper),ops.toList[k]?=some o->∀ e∈o.after,Region.binds .any e=true->e.on<k)
  (hdep:∀ o∈ops.toList,∀ t,Operand.tmp t∈o.op.operands->∀(i:Nat) (oi:Oper),ops.toList[i]?=some oi->oi.dst=some t->∃ e∈o.after,Region.binds .any e=true/\e.on=i)
  (hgd:∀ o∈ops.toList,∀ i w,o.guard=some (i,w)->H7 i o=true)
  (hP:e0f ops.toList A Lf Bf ops.toList.length)
  (hall:∀ j o,ops.toList[j]?=some o->∃ Lj bj,c00 Bf o.guard=some (A j).1/\e0f ops.toList A Lj bj j/\j08 bj Bf/\cB bj (A j).1=some (A j).2.1/\(OpU P st h Lj bj o (A j).1 (A j).2.1 (A j).2.2/\∀ av,u08 P Lj bj (A j).1 o st=some av->(A j).2.2 = .pu av))
  (hskj:sk j=false) (hskr:∀(i:Nat) (oi:Oper) (d:Nat),ops.toList[i]?=some oi->oi.dst=some d->sk i=true->∀ o'∈ops.toList,Operand.tmp d ∉ o'.op.operands)
  (hskb:∀ i,sk i=true->(A i).2.2 = .pu (.val undef)) (hskk:∀ p∈kp,∃(i:Nat) (oi:Oper),ops.toList[i]?=some oi/\oi.dst=some p.1/\sk i=true)
  (ho:ops[j]?=some o) (hrd:∀ e∈o.after,Region.binds .any e=true->listed.getD e.on false=true) (hi:S08 P h0 w0 ops st h A sk kp listed a w) :
  (Region.wanted o (yielded ops a.tmps)=true->o.wp P a w (S08 P h0 w0 ops st h A sk kp (listed.setIfInBounds j true)) Q) /\
  (Region.wanted o (yielded ops a.tmps)=false->S08 P h0 w0 ops st h A sk kp (listed.setIfInBounds j true) (a.put o.dst undef) w):=by
 obtain⟨be,oe,H,h',hs,s,keep,facts⟩:=hi
 have hoL:ops.toList[j]?=some o:=by simpa using ho
 have hmem:o∈ops.toList:=List.mem_of_getElem? hoL
 have hjlt:j<ops.toList.length:=(List.getElem?_eq_some_iff.1 hoL).1
 obtain⟨Lj,bj,hch,hpj,hxj,hcj,hop,_⟩:=hall j o hoL
 have hcf:cB Bf (A j).1=some (A j).2.1:=hP.p3 j hjlt hjlt
 have hw:Region.wanted o (yielded ops a.tmps)=(A j).2.1:=by
  unfold Region.wanted
  cases hg:o.guard with
  |none =>
   rw[hg]at hch
   cases hch':(A j).1 with
   |nil=>rw[hch']at hcf;exact oJ hcf
   |cons p q=>rw[hch']at hch;cases hch
  |some p =>
   obtain⟨i,wv⟩:=p
   rw[hg]at hch
   simp only[c00]at hch
   split at hch
   ·rename_i b hb
    obtain⟨hm,rfl⟩:=f03 hb
    obtain⟨g1,⟨o',g2,g3⟩,g4,g5⟩:=hP.p4 b hm
    have hl:listed.getD b.j false=true:=by
     obtain⟨e,he,hb',hon⟩:=l7 (hgd o hmem b.j wv hg)
     rw[←hon];exact hrd e he hb'
    have hsb:sk b.j=false:=by
     cases e:sk b.j with
     |false=>rfl
     |true=>rw[hskb b.j e]at g5;cases g5
    have hf:=facts b.j o' b.d hsb (by simpa using g2) g3 hl
    have hc3:=hP.p3 b.j g1 g1
    rw[g4]at hc3
    have hlt:b.d<a.tmps.size:=by rw[s.siz];exact hn o' (List.mem_of_getElem? g2) b.d g3
    have hv:a.tmps[b.d]?=some (if(A b.j).2.1=true then .bool b.e else undef):=by
     rw[Array.getElem?_eq_getElem hlt]
     have hgd':a.tmps.getD b.d undef=a.tmps[b.d]:=by simp[hlt]
     cases hc:(A b.j).2.1 with
     |true =>
      have:=hf.1 hc
      rw[g5,hgd']at this
      have h2:a.tmps[b.d] = .bool b.e:=this
      rw[h2];rfl
     |false =>
      have:=hf.2 hc
      rw[hgd']at this
      rw[this];rfl
    have hy:yielded ops a.tmps b.j=if(A b.j).2.1=true then some b.e else none:=by
     unfold yielded
     have:ops[b.j]?=some o':=by simpa using g2
     simp only[this,g3,oB,hv]
     cases (A b.j).2.1<;>rfl
    have hchj:(A j).1=(b.j,wv)::b.ch:=by
     have:=oJ hch
     exact this.symm
    rw[hchj,U03,hb,hc3]at hcf
    simp only[Option.some.injEq]at hcf
    simp only[hy,←hcf]
    cases (A b.j).2.1<;>cases wv<;>cases b.e<;>rfl
   ·cases hch
 have stab:∀ i oi,ops.toList[i]?=some oi->∀ F,(A i).2.2 = .ef F->∀ v h1 h2,Sub h1 h2->F v h1->F v h2:=λi oi hoi F hF=>by
  obtain⟨Li,bi,_,_,_,_,hopi,_⟩:=hall i oi hoi
  rw[hF]at hopi
  exact hopi.1
 have fin:∀ {fr:List (Nat×AV)} {a':Act} {w':World} {h'':Hp} {be':Nat->Nat} {oe':Nat->Value} {H':Hp} {v:Value},Sub h' h''->a'=a.put o.dst v->Sim P h0 w0 be' oe' H' { st with fr:=fr } h'' a w' ->
   M6 st be oe st be' oe'->((A j).2.1=true->u04 st be' oe' h'' (A j).2.2 v)->((A j).2.1=false->v=undef)->S08 P h0 w0 ops st h A sk kp (listed.setIfInBounds j true) a' w':=by
  intro fr a' w' h'' be' oe' H' v hss ha s' gr2 hv hv2
  subst ha
  have gr':M6 { st with fr:=Z3 ops.toList st.fr } be oe { st with fr:=Z3 ops.toList st.fr } be' oe':=⟨gr2.bl,gr2.be,gr2.sm⟩
  have s1:Sim P h0 w0 be' oe' H' { st with fr:=Z3 ops.toList st.fr } h'' a w' :=
   s'.refr (fr:=Z3 ops.toList st.fr) λt=>C2.fr (st := { st with fr:=Z3 ops.toList st.fr }) ((s.fr t).grow gr')
  have s2:Sim P h0 w0 be' oe' H' { st with fr:=Z3 ops.toList st.fr } h'' (a.put o.dst v) w':=by
   cases hd:o.dst with
   |none=>exact s1
   |some d =>
    have hp:=s1.put (d:=d) (av := .dead) (v:=v) (hn o hmem d hd) trivial
    refine hp.refr (fr:=Z3 ops.toList st.fr) λt=>?_
    have g:=hp.fr t
    rw[T3]at g
    split at g
    ·rename_i e
     subst e
     rw[a02 hmem hd]
     trivial
    ·exact g
  have tk:∀ d,o.dst≠some d->(a.put o.dst v).tmps.getD d undef=a.tmps.getD d undef:=λd hd=>by
   cases hd':o.dst with
   |none=>rfl
   |some d'=>simp[Act.put,Array.getElem?_setIfInBounds_ne (λe=>hd (by rw[hd',e]):d'≠d)]
  refine⟨be',oe',H',h'',λb x hb=>hss b x (hs b x hb),s2,λp hp=>?_,λi oi d hsi h1 h2 h3=>?_⟩
  ·obtain⟨i,oi,k1,k2,k3⟩:=hskk p hp
   rw[tk p.1 λe=>?_]
   ·exact keep p hp
   ·have:=hD j i o oi p.1 hoL k1 e k2
    subst this
    rw[hskj]at k3;cases k3
  by_cases hij:j=i
  ·subst hij
   rw[ho]at h1;cases h1
   have hlt:d<a.tmps.size:=by rw[s.siz];exact hn o hmem d h2
   have:(a.put o.dst v).tmps.getD d undef=v:=by
    rw[h2]
    simp[Act.put,hlt]
   rw[this]
   exact⟨hv,hv2⟩
  ·have hl0:listed.getD i false=true:=by rw[getD_set_ne false hij]at h3;exact h3
   have hne:∀ d',o.dst=some d'->d'≠d:=λd' hd' e=>by
    subst e
    exact hij (hD j i o oi d' hoL (by simpa using h1) hd' h2)
   have:(a.put o.dst v).tmps.getD d undef=a.tmps.getD d undef:=by
    cases hd:o.dst with
    |none=>rfl
    |some d'=>simp[Act.put,Array.getElem?_setIfInBounds_ne (hne d' hd)]
   rw[this]
   obtain⟨old,old2⟩:=facts i oi d hsi h1 h2 hl0
   refine⟨λhc=>?_,old2⟩
   have old:=old hc
   cases hA:(A i).2.2 with
   |pu av=>rw[hA]at old;exact C2.grow gr2 old
   |ef F=>rw[hA]at old;exact stab i oi (by simpa using h1) F hA _ _ _ hss old
 refine⟨λhwt=>?_,λhwf=>?_⟩
 rotate_left
 ·have hc:(A j).2.1=false:=by rw[←hw];exact hwf
  exact fin (fr:=Z3 ops.toList st.fr) (λ_ _ h=>h) rfl s (M6.refl _ _ _) (λh=>by rw[hc]at h;cases h) (λ_=>rfl)
 have hc:(A j).2.1=true:=by rw[←hw];exact hwt
 rw[hc]at hcj hop
 have hcf':cB Bf (A j).1=some true:=by rw[hcf,hc]
 have slot:∀ t x,X02 Lj t=some x->c0h st be oe h' bj x (a.tmps.getD t undef)∨Operand.tmp t ∉ o.op.operands:=λt x hx=>by
  by_cases ht:Operand.tmp t∈o.op.operands
  ·refine .inl λhcx=>?_
   obtain⟨i,oi,g1,g2,g3,g4,g5⟩:=hpj.p1 t x (X03 hx)
   obtain⟨e,he,hb,hon⟩:=hdep o hmem t ht i oi g2 g3
   have hl:listed.getD i false=true:=by rw[←hon];exact hrd e he hb
   have hci:(A i).2.1=true:=by
    have h1:=hP.p3 i (List.getElem?_eq_some_iff.1 g2).1 (List.getElem?_eq_some_iff.1 g2).1
    rw[g4,hxj.c _ _ hcx]at h1
    exact(oJ h1).symm
   have hsi:sk i=false:=by
    cases e:sk i with
    |false=>rfl
    |true=>exact absurd ht (hskr i oi t g2 g3 e o hmem)
   have:=(facts i oi t hsi (by simpa using g2) g3 hl).1 hci
   rwa [g5]at this
  ·exact .inr ht
 have free:∀ t,Operand.tmp t∈o.op.operands->X02 Lj t=none->C2 st be oe (Z2 st.fr t) (a.tmps.getD t undef):=λt ht hno=>by
  have g:=s.fr t
  have hmiss:Z2 (Z3 ops.toList st.fr) t=Z2 st.fr t:=W00 λo' ho' hd=>by
   obtain⟨i,hi,e⟩:=List.getElem_of_mem ho'
   have hoi:ops.toList[i]?=some o':=by rw[List.getElem?_eq_getElem hi,e]
   obtain⟨ed,he,hb,hon⟩:=hdep o hmem t ht i o' hoi hd
   have hlt:=hB j o hoL ed he hb
   rw[hon]at hlt
   obtain⟨x,hx⟩:=hpj.p2 i o' t hlt hoi hd
   rw[hno]at hx;cases hx
  rw[←hmiss]
  exact C2.fr (st := { st with fr:=Z3 ops.toList st.fr }) (fr:=st.fr) g
 have opnd:∀ t,Operand.tmp t∈o.op.operands->(∀ x,X02 Lj t=some x->c0h st be oe h' bj x (a.tmps.getD t undef))/\(X02 Lj t=none->C2 st be oe (Z2 st.fr t) (a.tmps.getD t undef)):=λt ht =>
  ⟨λx hx=>(slot t x hx).resolve_right λhn=>hn ht,free t ht⟩
 have mk:∀ {fr:List (Nat×AV)},(∀ t,C2 st be oe (Z2 fr t) (a.tmps.getD t undef))->Sim P h0 w0 be oe H { st with fr:=fr } h' a w:=λ{fr} g=>s.refr (fr:=fr) λt=>C2.fr (g t)
 cases hA:(A j).2.2 with
 |pu av =>
  rw[hA]at hop
  rcases hop with hop|hop
  ·refine Oper.wp_mono (λa' w' hx=>?_) (s0o (be:=be) (oe:=oe) (H:=H) (h:=h') hop hcj (λt=>?_) (λx hx y hy=>?_) (λx hx=>?_) (λx hx=>?_) mk)
   ·obtain⟨v,be',oe',H',ha,⟨fr,s2⟩,gr,g2⟩:=hx
    exact fin (λ_ _ h=>h) ha s2 gr (λ_=>by rw[hA];exact g2) (λh=>by rw[hc]at h;cases h)
   ·by_cases ht:Operand.tmp t∈o.op.operands
    ·exact .inl (opnd t ht)
    ·exact .inr ht
   ·obtain⟨g1,⟨o',g2,g3⟩,g4,g5⟩:=hpj.p4 x hx
    obtain⟨i,oi,k1,k2,k3,k4,k5⟩:=hpj.p1 x.d y (X03 hy)
    have:i=x.j:=hD i x.j oi o' x.d k2 g2 k3 g3
    subst this
    exact Prod.ext (k4.symm.trans g4) (k5.symm.trans g5)
   ·have key:∀(l:List BE),x∈l->∃ b,h02 l x.j=some b:=by
     intro l
     induction l with
     |nil=>intro h;cases h
     |cons z l ih =>
      intro h
      simp only[h02]
      split
      ·exact⟨_,rfl⟩
      ·rename_i hb
       rcases List.mem_cons.1 h with rfl|h
       ·exact absurd rfl (Nat.ne_of_beq_eq_false hb)
       ·exact ih h
    obtain⟨b,hb⟩:=key bj hx
    obtain⟨hbm,hbj⟩:=f03 hb
    obtain⟨_,⟨o1,a1,a2⟩,a3,a4⟩:=hpj.p4 b hbm
    obtain⟨_,⟨o2,b1,b2⟩,b3,b4⟩:=hpj.p4 x hx
    rw[hbj]at a1 a3 a4
    rw[b1]at a1;cases a1
    rw[b2]at a2
    rw[b4]at a4
    have e1:x.d=b.d:=by simpa using a2
    have e2:x.ch=b.ch:=b3.symm.trans a3
    have e3:x.e=b.e:=by simpa using a4
    rw[hb]
    obtain⟨bj',bd',be',bc'⟩:=b
    obtain⟨xj',xd',xe',xc'⟩:=x
    simp only at hbj e1 e2 e3
    subst hbj e1 e2 e3
    rfl
   ·obtain⟨g1,⟨o',g2,g3⟩,_,_⟩:=hpj.p4 x hx
    exact hpj.p2 x.j o' x.d g1 g2 g3
  ·obtain⟨fr,he,g⟩:=J01 (acc:=[]) (be:=be) (oe:=oe) (val:=λt=>a.tmps.getD t undef) hcj (λt=>trivial) (λt ht=>opnd t (by simpa using ht)) (i07 (bs:=bj) (hop h' hs) rfl)
   refine Oper.wp_mono (λa' w' hx=>?_) (Q9 (mk g) he)
   obtain⟨av',st',h'',v,be',oe',H',⟨rfl,rfl,rfl⟩,ha,s2,g2,gr⟩:=hx
   exact fin (λ_ _ h=>h) ha s2 ⟨gr.bl,gr.be,gr.sm⟩ (λ_=>by rw[hA];exact C2.fr (st := { st with fr:=fr }) (fr:=st.fr) g2) (λh=>by rw[hc]at h;cases h)
 |ef F =>
  rw[hA]at hop
  obtain⟨_,hop⟩:=hop
  obtain⟨fr,he,g⟩:=J01 (acc:=[]) (be:=be) (oe:=oe) (val:=λt=>a.tmps.getD t undef) hcj (λt=>trivial) (λt ht=>opnd t (by simpa using ht)) (i07 (bs:=bj) (hop h' hs) rfl)
  refine Oper.wp_mono (λa' w' hx=>?_) (y0i (mk g) he)
  obtain⟨av',st',h'',v,be',oe',H',hk,ha,s2,g2,gr⟩:=hx
  obtain⟨st2,h2,⟨ht,k1,k2⟩,s3,gr3⟩:=B02 s2 g2 hk
  obtain⟨r,rfl⟩:=m0q ht
  have gr4:M6 st be oe st be' oe':=by
   have gx:=gr.trans gr3
   refine⟨gx.bl,gx.be,λi s0 hs0=>?_⟩
   obtain⟨s1,q1,q2,q3⟩:=gx.sm i s0 hs0
   have q4:stamp { n:=st.n,fr:=fr,bx:=st.bx,ow:=st.ow++r } i=some s0:=F0f (st := { st with fr:=fr }) hs0
   rw[q4]at q1
   cases q1
   exact⟨s0,hs0,Nat.le_refl _,λ_=>q3 rfl⟩
  have hbox:∀ i cs ty,nth st.bx i=some (.live cs ty)->∃ vs,U1 { st with fr:=fr } oe' cs vs/\H' (be' i)=some (.cells vs.toArray ty (0,0)):=λi cs ty hi=>by
   obtain⟨_,vs0,q1,_⟩:=s.box i cs ty hi
   obtain⟨_,vs,q3,q4⟩:=s3.box i cs ty hi
   refine⟨vs,?_,q4⟩
   have key:∀(cs:List l5) (vs0 vs:List Value),U1 { st with fr:=Z3 ops.toList st.fr } oe cs vs0->U1 { n:=st.n,fr:=fr,bx:=st.bx,ow:=st.ow++r } oe' cs vs->U1 { st with fr:=fr } oe' cs vs:=by
    intro cs
    induction cs with
    |nil=>intro vs0 vs _ g;cases vs with
     |nil=>trivial
     |cons v vs=>exact g.elim
    |cons c cs ih =>
     intro vs0 vs g0 g1
     cases vs0 with
     |nil=>exact g0.elim
     |cons v0 vs0 =>
      cases vs with
      |nil=>exact g1.elim
      |cons v1 vs =>
       refine⟨?_,ih vs0 vs g0.2 g1.2⟩
       cases c with
       |val x=>exact g1.1
       |own k s1 =>
        obtain⟨t0,r1,_,_⟩:=g0.1
        obtain⟨t1,r2,r3,r4⟩:=g1.1
        have r5:stamp { n:=st.n,fr:=fr,bx:=st.bx,ow:=st.ow++r } k=some t0:=F0f (st := { st with fr:=fr }) r1
        rw[r5]at r2
        cases r2
        exact⟨t0,r1,r3,r4⟩
   exact key cs vs0 vs q1 q3
  have s4:Sim P h0 w0 be' oe' H' { st with fr:=fr } h2 a w':=Sim.untail (st := { st with fr:=fr }) (t:=r) s3 (λu=>C2.grow (st := { st with fr:=fr }) (st' := { st with fr:=fr }) ⟨gr4.bl,gr4.be,gr4.sm⟩ (C2.fr (g u))) hbox
  exact fin (fr:=fr) k1 ha s4 gr4 (λ_=>by rw[hA];exact k2) (λh=>by rw[hc]at h;cases h)
theorem S08.start{ops:Array Oper}{st:St}{A:Asg}{sk:Nat->Bool}(s:Sim P h0 w0 be oe H st h a w):S08 P h0 w0 ops st h A sk [] (Array.replicate ops.size false) a w:=by
 refine⟨be,oe,H,h,λ_ _ h=>h,s.refr (fr:=Z3 ops.toList st.fr) λt=>?_,λp hp=>(by cases hp),λj o d _ h1 h2 h3=>?_⟩
 ·by_cases hx:∃ o∈ops.toList,o.dst=some t
  ·obtain⟨o,h1,h2⟩:=hx
   rw[a02 h1 h2]
   trivial
  ·rw[W00 λo ho hd=>hx ⟨o,ho,hd⟩]
   exact s.fr t
 ·simp[Array.getElem?_replicate]at h3
  split at h3<;>cases h3
theorem s0l{ops:Array Oper}{st:St}{A:Asg}{sk:Nat->Bool}{kp:List (Nat×Value)}{Lf:FL}{Bf:List BE}{K:St->Hp->Prop}{listed:Array Bool}
  (hskb:∀ i,sk i=true->(A i).2.2 = .pu (.val undef)) (hD:∀(i j:Nat) (oi oj:Oper) (d:Nat),ops.toList[i]?=some oi->ops.toList[j]?=some oj->oi.dst=some d->oj.dst=some d->i=j)
  (hP:e0f ops.toList A Lf Bf ops.toList.length) (hfin:∀ h',Sub h h'->q0c h' Lf st.fr λfr=>K { st with fr:=fr } h') (hl:∀ j,j<ops.size->listed.getD j false=true)
  (hi:S08 P h0 w0 ops st h A sk kp listed a w):∃ be oe H h' fr,K { st with fr:=fr } h'/\Sim P h0 w0 be oe H { st with fr:=Z3 ops.toList st.fr } h' a w/\(∀ p∈kp,a.tmps.getD p.1 undef=p.2) /\
   ∀ t,(∀(i:Nat) (oi:Oper),ops.toList[i]?=some oi->oi.dst=some t->sk i=false)->C2 st be oe (Z2 fr t) (a.tmps.getD t undef):=by
 obtain⟨be,oe,H,h',hs,s,keep,facts⟩:=hi
 have hdec:∀ t,(∃(i:Nat) (oi:Oper),ops.toList[i]?=some oi/\oi.dst=some t/\sk i=true) ∨ ¬ ∃(i:Nat) (oi:Oper),ops.toList[i]?=some oi/\oi.dst=some t/\sk i=true:=λt=>Classical.em _
 have hval:∃ val:Nat->Value,∀ t,((∃(i:Nat) (oi:Oper),ops.toList[i]?=some oi/\oi.dst=some t/\sk i=true)->val t=undef)/\((¬ ∃(i:Nat) (oi:Oper),ops.toList[i]?=some oi/\oi.dst=some t/\sk i=true)->val t=a.tmps.getD t undef) :=
  Classical.axiomOfChoice (r:=λt v=>((∃(i:Nat) (oi:Oper),ops.toList[i]?=some oi/\oi.dst=some t/\sk i=true)->v=undef)/\((¬ ∃(i:Nat) (oi:Oper),ops.toList[i]?=some oi/\oi.dst=some t/\sk i=true)->v=a.tmps.getD t undef)) λt=>by
   rcases hdec t with h|h
   ·exact⟨undef,λ_=>rfl,λn=>absurd h n⟩
   ·exact⟨_,λn=>absurd n h,λ_=>rfl⟩
 obtain⟨val,hval⟩:=hval
 obtain⟨fr,hk,g⟩:=E0f (st:=st) (be:=be) (oe:=oe) (val:=val) (λp hp hch=>by
  obtain⟨t,x⟩:=p
  obtain⟨i,oi,h0,h1,h2,h3,h4⟩:=hP.p1 t x hp
  cases hsk:sk i with
  |true =>
   have e:=(hval t).1 ⟨i,oi,h1,h2,hsk⟩
   have e2:=hskb i hsk
   rw[h4]at e2
   show u04 st be oe h' x.2 (val t)
   rw[e2,e];exact rfl
  |false =>
  have hno : ¬ ∃(i:Nat) (oi:Oper),ops.toList[i]?=some oi/\oi.dst=some t/\sk i=true:=λ⟨k,ok,k1,k2,k3⟩=>by
   have:=hD i k oi ok t h1 k1 h2 k2
   subst this
   rw[hsk]at k3;cases k3
  have hc:(A i).2.1=true:=by
   have:=hP.p3 i h0 h0
   rw[h3,show x.1 = [] from hch]at this
   exact(oJ this).symm
  have:=(facts i oi t hsk (by simpa using h1) h2 (hl i (by simpa using h0))).1 hc
  rw[h4]at this
  show u04 st be oe h' x.2 (val t)
  rw[(hval t).2 hno];exact this) (λt ht=>by
  have hno : ¬ ∃(i:Nat) (oi:Oper),ops.toList[i]?=some oi/\oi.dst=some t/\sk i=true:=λ⟨k,ok,k1,k2,k3⟩=>by
   obtain⟨x,hx⟩:=hP.p2 k ok t (List.getElem?_eq_some_iff.1 k1).1 k1 k2
   exact ht x (X03 hx)
  rw[(hval t).2 hno]
  have hmiss:Z2 (Z3 ops.toList st.fr) t=Z2 st.fr t:=W00 λo' ho' hd=>by
   obtain⟨i,hi,e⟩:=List.getElem_of_mem ho'
   obtain⟨x,hx⟩:=hP.p2 i o' t hi (by rw[List.getElem?_eq_getElem hi,e]) hd
   exact ht x (X03 hx)
  have:=s.fr t
  rw[hmiss]at this
  exact C2.fr (st := { st with fr:=Z3 ops.toList st.fr }) (fr:=st.fr) this) (hfin h' hs)
 refine⟨be,oe,H,h',fr,hk,s,keep,λt ht=>?_⟩
 have:=g t
 rw[(hval t).2 λ⟨k,ok,k1,k2,k3⟩=>by rw[ht k ok k1 k2]at k3;cases k3]at this
 exact this
theorem l06:∀ {l:List Oper},K0c l=true->∀ o∈l,∀ i w,o.guard=some (i,w)->H7 i o=true
 | [],h,o,ho=>by cases ho
 |y::r,h,o,ho=>by
  simp only[K0c,Bool.and_eq_true]at h
  rcases List.mem_cons.1 ho with rfl|ho
  ·intro i w hg
   have:=h.1
   rw[hg]at this
   exact this
  ·exact l06 h.2 o ho
theorem g0s{ops:Array Oper}{Q:Exit->Act->World->Prop}{Inv:Array Bool->Act->World->Prop}(hB:∀(k:Nat) (o:Oper),ops.toList[k]?=some o->∀ e∈o.after,Region.binds .any e=true->e.on<k)
  (hstep:∀ listed a w j o,ops[j]?=some o->(∀ e∈o.after,Region.binds .any e=true->listed.getD e.on false=true)->Inv listed a w ->
   (Region.wanted o (yielded ops a.tmps)=true->o.wp P a w (Inv (listed.setIfInBounds j true)) Q)/\(Region.wanted o (yielded ops a.tmps)=false->Inv (listed.setIfInBounds j true) (a.put o.dst undef) w))
  (hQ:∀ listed a w,(∀ j,j<ops.size->listed.getD j false=true)->Inv listed a w->Q .normal a w) :
  ∀(fuel:Nat) (listed:Array Bool) (a:Act) (w:World),listed.size=ops.size->listed.toList.count true+fuel=ops.size->Inv listed a w->wpAny P .any ops Q fuel listed a w
 |0,listed,a,w,hsz,hc,hi=>by
  have hall':∀ j,j<ops.size->listed.getD j false=true:=λj hj=>by
   have h1:∀ b∈listed.toList,true=b:=List.count_eq_length.1 (by simp only[Array.length_toList];omega)
   have hlt:j<listed.size:=by omega
   have:=h1 listed[j] (by simp)
   simp[hlt,←this]
  refine⟨?_,hQ listed a w hall' hi⟩
  cases hr:Region.ready .any ops listed with
  |nil=>rfl
  |cons j r =>
   have hj:j∈Region.ready .any ops listed:=by rw[hr];exact mS
   obtain⟨h1,o,h2,_⟩:=mem_ready.1 hj
   have hlt:j<ops.size:=(Array.getElem?_eq_some_iff.1 h2).1
   have:=hall' j hlt
   have hlt':j<listed.size:=by omega
   simp[hlt']at this h1
   rw[this]at h1;cases h1
 |fuel+1,listed,a,w,hsz,hc,hi=>by
  refine⟨λhr=>hQ listed a w (S0a hB hsz hr) hi,λj hj=>?_⟩
  obtain⟨h1,o,h2,h3⟩:=mem_ready.1 hj
  unfold wpOp
  simp only[h2]
  obtain⟨ht,hf⟩:=hstep listed a w j o h2 h3 hi
  have next:∀ a' w',Inv (listed.setIfInBounds j true) a' w'->wpAny P .any ops Q fuel (listed.setIfInBounds j true) a' w':=λa' w' hi'=>g0s hB hstep hQ fuel _ a' w' (by simpa using hsz) (by rw[count_set h1];omega) hi'
  cases hw:Region.wanted o (yielded ops a.tmps)with
  |true =>
   rw[if_pos rfl]
   exact .inl (Oper.wp_mono next (ht hw))
  |false =>
   rw[if_neg (by simp)]
   exact next _ _ (hf hw)
theorem Q0q{ops:Array Oper}{Q:Exit->Act->World->Prop}{Inv:Array Bool->Act->World->Prop}(hB:∀(k:Nat) (o:Oper),ops.toList[k]?=some o->∀ e∈o.after,Region.binds .any e=true->e.on<k)
  (hstep:∀ listed a w j o,ops[j]?=some o->(∀ e∈o.after,Region.binds .any e=true->listed.getD e.on false=true)->Inv listed a w ->
   (Region.wanted o (yielded ops a.tmps)=true->o.wp P a w (Inv (listed.setIfInBounds j true)) Q)/\(Region.wanted o (yielded ops a.tmps)=false->Inv (listed.setIfInBounds j true) (a.put o.dst undef) w))
  (hQ:∀ listed a w,(∀ j,j<ops.size->listed.getD j false=true)->Inv listed a w->Q .normal a w) :
  ∀(l:List Oper) (k:Nat) (listed:Array Bool) (a:Act) (w:World),(∀ j,l[j]?=ops.toList[k+j]?)->k+l.length=ops.size->listed.size=ops.size->(∀ j,j<k->listed.getD j false=true)->Inv listed a w->wpList P ops Q l a w
 | [],k,listed,a,w,hl,hk,hsz,hp,hi=>hQ listed a w (λj hj=>hp j (by simp at hk;omega)) hi
 |o::l,k,listed,a,w,hl,hk,hsz,hp,hi=>by
  have ho:ops.toList[k]?=some o:=by simpa using (hl 0).symm
  have hl':∀ j,l[j]?=ops.toList[k+1+j]?:=λj=>by have:=hl (j+1);simpa [Nat.add_assoc,Nat.add_comm 1 j] using this
  obtain⟨ht,hf⟩:=hstep listed a w k o (by simpa using ho) (λe he hb=>hp _ (hB k o ho e he hb)) hi
  have next:∀ a' w',Inv (listed.setIfInBounds k true) a' w'->wpList P ops Q l a' w':=λa' w' hi' =>
   Q0q hB hstep hQ l (k+1) _ a' w' hl' (by simp only[List.length_cons]at hk;omega) (by simpa using hsz) (λj hj=>by
    by_cases e:k=j
    ·subst e
     have:k<listed.size:=by simp only[List.length_cons]at hk;omega
     simp[this]
    ·rw[getD_set_ne false e];exact hp j (by omega)) hi'
  unfold wpList
  cases hw:Region.wanted o (yielded ops a.tmps)with
  |true =>
   rw[if_pos rfl]
   exact .inl (Oper.wp_mono next (ht hw))
  |false =>
   rw[if_neg (by simp)]
   exact next _ _ (hf hw)
theorem z0i{ops:Array Oper}{st:St}{K:St->Hp->Prop}{Q:Exit->Act->World->Prop}(hb:k03 st.n ops.toList=true)(he:evU P ops.toList 0 [] [] st h K)
  (hQ:∀ a w st h be oe H,K st h->Sim P h0 w0 be oe H st h a w->Q .normal a w) :
  (∀ {be:Nat->Nat} {oe:Nat->Value} {H:Hp} {a:Act} {w:World},Sim P h0 w0 be oe H st h a w->wpAny P .any ops Q ops.size (Array.replicate ops.size false) a w) /\
  (∀ {be:Nat->Nat} {oe:Nat->Value} {H:Hp} {a:Act} {w:World},Sim P h0 w0 be oe H st h a w->wpList P ops Q ops.toList a w):=by
 simp only[k03,s02,Bool.and_eq_true]at hb
 obtain⟨⟨⟨b1,b2⟩,b3⟩,b4⟩:=hb
 obtain⟨hn,hD⟩:=t04 b1
 have hB:∀(k:Nat) (o:Oper),ops.toList[k]?=some o->∀ e∈o.after,Region.binds .any e=true->e.on<k:=λk o hk e he' hb=>by
  have:=g03 b2 k o hk e he' hb
  omega
 have hdep:=j06 b3
 have hgd:=l06 b4
 obtain⟨A,Lf,Bf,_,_,hP,hall,hfin⟩:=y0d (ops:=ops.toList) hD ops.toList 0 [] [] (λ_=>([],true,.pu .dead)) (λj=>by simp) (by simp)
  ⟨λt x h=>(by cases h),λi oi d hi=>by omega,λi hi=>by omega,λx hx=>(by cases hx)⟩ he
 have step:∀ listed a w j o,ops[j]?=some o->(∀ e∈o.after,Region.binds .any e=true->listed.getD e.on false=true)->S08 P h0 w0 ops st h A (λ_=>false) [] listed a w ->
   (Region.wanted o (yielded ops a.tmps)=true->o.wp P a w (S08 P h0 w0 ops st h A (λ_=>false) [] (listed.setIfInBounds j true)) Q)/\(Region.wanted o (yielded ops a.tmps)=false->S08 P h0 w0 ops st h A (λ_=>false) [] (listed.setIfInBounds j true) (a.put o.dst undef) w) :=
  λlisted a w j o h1 h2 h3=>P0q hD hn hB hdep hgd hP (λj o ho=>hall j o (Nat.zero_le _) ho) rfl (λ_ _ _ _ _ h=>nomatch h) (λ_ h=>nomatch h) (λ_ hp=>nomatch hp) h1 h2 h3
 have done:∀ listed a w,(∀ j,j<ops.size->listed.getD j false=true)->S08 P h0 w0 ops st h A (λ_=>false) [] listed a w->Q .normal a w:=λlisted a w hl hi=>by
  obtain⟨be,oe,H,h',fr,hk,s,_,g⟩:=s0l (sk:=λ_=>false) (λ_ h=>nomatch h) hD hP hfin hl hi
  exact hQ a w _ h' be oe H hk (s.refr (fr:=fr) λt=>C2.fr (g t λ_ _ _ _=>rfl))
 refine⟨λs=>?_,λs=>?_⟩
 ·exact g0s hB step done ops.size _ _ _ (by simp) (by simp[List.count_replicate]) (S08.start s)
 ·exact Q0q hB step done ops.toList 0 _ _ _ (λj=>by simp) (by simp) (by simp) (λj hj=>by omega) (S08.start s)
end
end Go.H
namespace Go.H
set_option linter.unusedVariables false
set_option linter.unusedSimpArgs false
def u03(H:Hp):List (Nat×Obj)->Hp
 | []=>H
 |p::l=>(u03 H l).set p.1 p.2
theorem h03{H:Hp}{b:Nat}:∀ {l:List (Nat×Obj)},(∀ p∈l,p.1≠b)->u03 H l b=H b
 | [],_=>rfl
 |p::l,h=>by
  rw[u03,Hp.set_other _ _ λe=>h p mS e.symm]
  exact h03 λq hq=>h q (mC _ hq)
theorem w04{H:Hp}:∀ {l:List (Nat×Obj)},(l.map λp=>p.1).Nodup->∀ {p:Nat×Obj},p∈l->u03 H l p.1=some p.2
 | [],_,p,h=>nomatch h
 |q::l,hd,p,h=>by
  rw[List.map_cons,List.nodup_cons]at hd
  rcases List.mem_cons.1 h with rfl|h
  ·exact Hp.set_same _ _ _
  ·rw[u03,Hp.set_other _ _ λe=>hd.1 (List.mem_map.2 ⟨p,h,e⟩)]
   exact w04 hd.2 h
theorem l07{H:Hp}{l:List (Nat×Obj)}(b:Nat):(∃ p∈l,p.1=b)∨∀ p∈l,p.1≠b:=by
 by_cases h:∃ p∈l,p.1=b
 ·exact .inl h
 ·exact .inr λp hp e=>h ⟨p,hp,e⟩
theorem z0d{h1 H:Hp}{w1 w:World}{l:List (Nat×Obj)}(hv:Vis (u03 h1 l) w1)(hl:∀ p∈l,h1 p.1=none/\p.1<w1.heap.size)(hd:(l.map λp=>p.1).Nodup)(m:P2 h1 w1 H w):
  P2 (u03 h1 l) w1 (u03 H l) w:=by
 refine⟨m.os,m.tape,m.output,m.size,λb hb hn=>?_,λb o ho=>?_,λb hb=>?_,m.fz,m.dn⟩
 ·rcases l07 (H:=h1) (l:=l) b with⟨p,hp,rfl⟩|ho
  ·rw[w04 hd hp]at hn;cases hn
  ·rw[h03 ho]at hn;exact m.keep b hb hn
 ·rcases l07 (H:=h1) (l:=l) b with⟨p,hp,rfl⟩|h
  ·rw[w04 hd hp]at ho;cases ho
   rw[m.keep p.1 (hl p hp).2 (hl p hp).1]
   exact hv p.1 _ (w04 hd hp)
  ·rw[h03 h]at ho;exact m.vis b o ho
 ·rcases l07 (H:=h1) (l:=l) b with⟨p,hp,rfl⟩|h
  ·left;rw[w04 hd hp];simp
  ·rw[h03 h]at hb ⊢
   exact m.fresh b hb
section
variable {P:Program} {h0:Hp} {w0:World} {be:Nat->Nat} {oe:Nat->Value} {H:Hp} {h:Hp} {a:Act} {w:World}
theorem Sim.base{st:St}(s:Sim P h0 w0 be oe H st h a w){h1:Hp}{w1 w':World}(m:P2 h1 w1 H w'):Sim P h1 w1 be oe H st h a w' :=
 ⟨m,s.sub,s.box,s.pub,s.own,s.frz,s.bb,s.oo,s.bo,s.dfr,s.siz,s.fr⟩
theorem Sim.more{st:St}(s:Sim P h0 w0 be oe H st h a w){l:List (Nat×Obj)}(hl:∀ p∈l,H p.1=none){h1:Hp}{w1:World}(m:P2 h1 w1 (u03 H l) w):Sim P h1 w1 be oe (u03 H l) st h a w:=by
 have keep:∀ b,H b≠none->u03 H l b=H b:=λb hb=>h03 λp hp e=>hb (by rw[←e];exact hl p hp)
 refine⟨m,λb o hb=>by rw[keep b (by rw[s.sub b o hb];simp)];exact s.sub b o hb,λi cs ty hi=>?_,s.pub,λi s' e sz by_ nn xs hi=>?_,s.frz,s.bb,s.oo,s.bo,s.dfr,s.siz,s.fr⟩
 ·obtain⟨h2,vs,h3,h4⟩:=s.box i cs ty hi
  exact⟨h2,vs,h3,by rw[keep _ (by rw[h4];simp)];exact h4⟩
 ·refine(s.own i s' e sz by_ nn xs hi).keep λg hg=>?_
  obtain⟨k1,_,_,_,k3⟩:=(s.own i s' e sz by_ nn xs hi).block hg
  exact⟨keep g (by rw[k3];simp),k1⟩
theorem Sim.claim{st:St}(s:Sim P h0 w0 be oe H st h a w){cs:List l5}{vs:List Value}{t:TypeId}{b:Nat}(hg:U1 st oe cs vs)(hH:H b=some (.cells vs.toArray t (0,0)))(hh:h b=none)
  (Hb:∀ i cs ty,nth st.bx i=some (.live cs ty)->be i≠b) (Ho:∀ i s' e sz by_ nn xs g,nth st.ow i=some ⟨s',.live e sz by_ nn xs⟩->(oe i).ownBlock=some g->g≠b) :
  let be':=λj=>if j=st.bx.length then b else be j
  let st':St := { st with bx:=st.bx ++ [.live cs t] }
  Sim P h0 w0 be' oe H st' h a w/\M6 st be oe st' be' oe:=by
 intro be' st'
 have gr:M6 st be oe st' be' oe:=by
  refine⟨by simp[st'],λi hi=>?_,λi s hs=>⟨s,hs,Nat.le_refl _,λ_=>rfl⟩⟩
  simp[be',Nat.ne_of_lt hi]
 have old:∀ i cs ty,nth st.bx i=some (.live cs ty)->be' i=be i:=λi cs ty hi=>by simp[be',Nat.ne_of_lt (F01 hi)]
 have cases_:∀ i x,nth st'.bx i=some x->(i=st.bx.length/\x = .live cs t)∨(i≠st.bx.length/\nth st.bx i=some x):=by
  intro i x hi
  simp only[st',k02]at hi
  split at hi
  ·rename_i e;simp at hi;exact .inl ⟨e,hi.symm⟩
  ·rename_i e;exact .inr ⟨e,hi⟩
 refine⟨⟨s.mv,s.sub,?_,?_,s.own,s.frz,?_,s.oo,?_,s.dfr,s.siz,λt=>(s.fr t).grow gr⟩,gr⟩
 ·intro i cs' ty hi
  rcases cases_ i _ hi with⟨rfl,e⟩|⟨e,hi'⟩
  ·cases e
   exact⟨by simp[be',hh],vs,hg.grow gr,by simp[be',hH]⟩
  ·obtain⟨h1,vs',h2,h3⟩:=s.box i cs' ty hi'
   rw[old i cs' ty hi']
   exact⟨h1,vs',h2.grow gr,h3⟩
 ·intro i b' hi
  rcases cases_ i _ hi with⟨_,e⟩|⟨e,hi'⟩
  ·cases e
  ·simp[be',e,s.pub i b' hi']
 ·intro i j cs1 ty1 cs2 ty2 hi hj e
  rcases cases_ i _ hi with⟨rfl,e1⟩|⟨e1,hi'⟩<;>rcases cases_ j _ hj with⟨rfl,e2⟩|⟨e2,hj'⟩
  ·rfl
  ·rw[old j _ _ hj']at e;simp[be']at e;exact absurd e.symm (Hb j _ _ hj')
  ·rw[old i _ _ hi']at e;simp[be']at e;exact absurd e (Hb i _ _ hi')
  ·rw[old i _ _ hi',old j _ _ hj']at e;exact s.bb i j _ _ _ _ hi' hj' e
 ·intro i cs1 ty1 j s' e sz by_ nn xs hi hj hc
  rcases cases_ i _ hi with⟨rfl,e1⟩|⟨e1,hi'⟩
  ·simp[be']at hc;exact Ho j _ _ _ _ _ _ _ hj hc rfl
  ·rw[old i _ _ hi']at hc;exact s.bo i _ _ j _ _ _ _ _ _ hi' hj hc
def Q09(a:Act)(d:Nat):Nat:=match a.tmps.getD d undef with
 | .pointer (some ⟨b,_,_⟩)=>b
 |_=>0
theorem K05{a:Act}{d b:Nat}(e:a.tmps.getD d undef=ptr b 0):Q09 a d=b:=by
 unfold Q09;rw[e];rfl
def q0s(P:Program)(H h:Hp)(a:Act)(n:Nat)(o:Oper):Prop:=R03 o=true->∃ d t z,o.op = .alloc t/\o.dst=some d/\d<n/\z00 P t=some z/\a.tmps.getD d undef=ptr (Q09 a d) 0/\H (Q09 a d)=some (.cells z.cells t (0,0))/\h (Q09 a d)=none
def r0s(a:Act)(o o':Oper):Prop:=R03 o=true->R03 o'=true->∀ d d',o.dst=some d->o'.dst=some d'->Q09 a d≠Q09 a d'
theorem d0h{st:St}{h:Hp}{d:Nat}:X06 ⟨st,h,[],[]⟩ d=false:=rfl
theorem n0k{K:St->Hp->Prop}{fd:List (Nat×AV)}:∀(l:List Oper) (st:St) (be:Nat->Nat),Sim P h0 w0 be oe H { st with fr:=fd } h a w ->
  (∀ t,(∀ o∈l,R03 o=true->o.dst≠some t)->C2 st be oe (Z2 st.fr t) (a.tmps.getD t undef))->(∀ o∈l,q0s P H h a st.n o)->l.Pairwise (r0s a) ->
  (∀ i cs ty,nth st.bx i=some (.live cs ty)->∀ o∈l,R03 o=true->∀ d,o.dst=some d->be i≠Q09 a d) ->
  (∀ i s' e sz by_ nn xs g,nth st.ow i=some ⟨s',.live e sz by_ nn xs⟩->(oe i).ownBlock=some g->∀ o∈l,R03 o=true->∀ d,o.dst=some d->g≠Q09 a d) ->
  doA (r03 P) l st h K->∃ st' be',K st' h/\Sim P h0 w0 be' oe H st' h a w
 | [],st,be,s,hg,_,_,_,_,he=>⟨st,be,he,s.refr (fr:=st.fr) λt=>C2.fr (st:=st) (hg t λo ho=>nomatch ho)⟩
 |o::l,st,be,s,hg,hok,hne,hb,ho,he=>by
  rw[List.pairwise_cons]at hne
  have he:(match R03 o with
   |true=>r03 P o st h λst h=>doA (r03 P) l st h K
   |false=>doA (r03 P) l st h K):=he
  cases hal:R03 o with
  |false =>
   rw[hal]at he
   exact n0k l st be s (λt ht=>hg t λo' ho' ha=>by
    rcases List.mem_cons.1 ho' with rfl|ho'
    ·rw[hal]at ha;cases ha
    ·exact ht o' ho' ha) (λo' ho'=>hok o' (mC _ ho')) hne.2 (λi cs ty hi o' ho'=>hb i cs ty hi o' (mC _ ho')) (λi s' e sz by_ nn xs g hi hgg o' ho'=>ho i s' e sz by_ nn xs g hi hgg o' (mC _ ho')) he
  |true =>
   rw[hal]at he
   obtain⟨d,t,z,q1,q2,q3,q4,q5,q6,q7⟩:=hok o mS hal
   simp only[r03,F7,q1,q4,G0a,q2,c0d,d0h]at he
   have hblt:Nat.blt d (st.withBx (st.bx ++ [.live (vals z.cells.toList) t])).n=true:=by
    cases st;exact Nat.ble_eq_true_of_le q3
   simp only[hblt]at he
   obtain⟨n,fr,bx,ow⟩:=st
   have he2:doA (r03 P) l ⟨n,(d,.box bx.length 0)::fr,bx ++ [.live (vals z.cells.toList) t],ow⟩ h K:=he
   have harr:z.cells=z.cells.toList.toArray:=by simp
   rw[harr]at q6
   obtain⟨s2,gr⟩:=s.claim (U1.vals _ oe _) q6 q7 (λi cs ty hi=>hb i cs ty hi o mS hal d q2) (λi s' e sz by_ nn xs g hi hgg=>ho i s' e sz by_ nn xs g hi hgg o mS hal d q2)
   refine n0k l ⟨n,(d,.box bx.length 0)::fr,bx ++ [.live (vals z.cells.toList) t],ow⟩ _ s2 (λu hu=>?_) (λo' ho'=>hok o' (mC _ ho')) hne.2 (λi cs ty hi o' ho' hal' d' hd'=>?_) (λi s' e sz by_ nn xs g hi hgg o' ho'=>ho i s' e sz by_ nn xs g hi hgg o' (mC _ ho')) he2
   ·show C2 _ _ _ (Z2 ((d,.box bx.length 0)::fr) u) _
    rw[T3]
    split
    ·rename_i e
     subst e
     refine⟨by simp,?_⟩
     rw[q5];simp
    ·rename_i e
     have g1:=hg u λo' ho' ha hd=>by
      rcases List.mem_cons.1 ho' with rfl|ho'
      ·rw[q2]at hd;cases hd;exact e rfl
      ·exact hu o' ho' ha hd
     exact C2.fr (st:=⟨n,fd,bx ++ [.live (vals z.cells.toList) t],ow⟩) (C2.grow gr (C2.fr (st:=⟨n,fr,bx,ow⟩) (fr:=fd) g1))
   ·simp only[k02]at hi
    split at hi
    ·rename_i e
     subst e
     simp only[if_pos]
     exact hne.1 o' ho' hal hal' d d' q2 hd'
    ·rename_i e
     simp only[if_neg e]
     exact hb i cs ty hi o' (mC _ ho') hal' d' hd'
theorem c05{d:Nat}:∀ {l:List Operand},a07 d l=false->Operand.tmp d ∉ l
 | [],_,h=>nomatch h
 |x::r,hr,h=>by
  rcases List.mem_cons.1 h with e|h2
  ·subst e
   simp[a07]at hr
  ·cases x<;>simp only[a07,Bool.or_eq_false_iff]at hr
   ·exact c05 hr.2 h2
   all_goals exact c05 hr h2
theorem b0c{d:Nat}:∀ {l:List Oper},g0d d l=false->∀ o∈l,Operand.tmp d ∉ o.op.operands
 | [],_,o,h=>nomatch h
 |y::r,hr,o,h=>by
  simp only[g0d,Bool.or_eq_false_iff]at hr
  rcases List.mem_cons.1 h with rfl|h
  ·exact λhm=>c05 hr.1 (by simpa using hm)
  ·exact b0c hr.2 o h
theorem A0i{all:List Oper}:∀ {l:List Oper},okA P all l=true->∀ o∈l,R03 o=true->∃ t d z,o.op = .alloc t/\o.guard=none/\o.dst=some d/\z00 P t=some z/\∀ o'∈all,Operand.tmp d ∉ o'.op.operands
 | [],_,o,h,_=>nomatch h
 |y::r,hk,o,h,ha=>by
  simp only[okA,Bool.and_eq_true]at hk
  rcases List.mem_cons.1 h with rfl|h
  ·have h1:=hk.1
   unfold R03 at ha
   split at ha
   ·rename_i t ht
    rw[ht]at h1
    simp only at h1
    split at h1
    ·rename_i d z hg hd hz
     exact⟨t,d,z,ht,hg,hd,hz,b0c (by simpa using h1)⟩
    ·cases h1
   ·cases ha
  ·exact A0i hk.2 o h ha
theorem B0i{o:Oper}(h:R03 o=false):P9 o=o:=by
 unfold P9 R03 at *
 split
 ·rename_i t ht;rw[ht]at h;cases h
 ·rfl
theorem P7(o:Oper):(P9 o).dst=o.dst:=by unfold P9;split<;>rfl
theorem C0i(o:Oper):(P9 o).after=o.after:=by unfold P9;split<;>rfl
theorem D0i(o:Oper):(P9 o).guard=o.guard:=by unfold P9;split<;>rfl
theorem Q7:∀(l:List Oper) (i:Nat),(F5 l)[i]?=(l[i]?).map P9
 | [],i=>by simp[F5]
 |o::r,0=>by simp[F5]
 |o::r,i+1=>by simp[F5,Q7 r i]
theorem G0f:∀(l:List Oper),(F5 l).length=l.length
 | []=>rfl
 |o::r=>by simp[F5,G0f r]
theorem E0i{o:Oper}{d:Nat}(h:Operand.tmp d∈(P9 o).op.operands):Operand.tmp d∈o.op.operands:=by
 cases hal:R03 o with
 |false=>rwa [B0i hal]at h
 |true =>
  unfold R03 at hal
  split at hal
  ·rename_i t ht
   unfold P9 at h
   rw[ht]at h
   simp[Op.operands]at h
  ·cases hal
abbrev s0s:=List (Nat×Nat×Obj)
def skA(pre:List Oper)(i:Nat):Bool:=match pre[i]? with
 |some o=>R03 o
 |none=>false
def V0a(P:Program)(h0:Hp)(w0:World)(pre:List Oper)(st:St)(h:Hp)(A:Asg)(listed:Array Bool)(a:Act)(w:World):Prop :=
 ∃(pd:s0s) (h1:Hp) (w1:World),P2 h0 w0 (u03 h1 (pd.map λp=>p.2)) w1/\(∀ p∈pd,h1 p.2.1=none/\p.2.1<w1.heap.size)/\((pd.map λp=>p.2).map λp=>p.1).Nodup /\
  S08 P h1 w1 (F5 pre).toArray st h A (skA pre) (pd.map λp=>(p.1,ptr p.2.1 0)) listed a w /\
  (∀(j:Nat) (o:Oper) t d z,pre[j]?=some o->o.op = .alloc t->o.dst=some d->z00 P t=some z->listed.getD j false=true->∃ b,(d,b,Obj.cells z.cells t (0,0))∈pd) /\
  ∀ p∈pd,∃(j:Nat) (o:Oper),pre[j]?=some o/\R03 o=true/\o.dst=some p.1/\listed.getD j false=true
theorem V0a.start{pre:List Oper}{st:St}{A:Asg}{N:Nat}(s:Sim P h0 w0 be oe H st h a w):V0a P h0 w0 pre st h A (Array.replicate N false) a w:=by
 refine⟨[],H,w,s.mv,λp hp=>(by cases hp),by simp,?_,λj o t d z _ _ _ _ hl=>?_,λp hp=>(by cases hp)⟩
 ·have s':Sim P H w be oe H st h a w:=s.base (P2.refl s.mv.vis)
  refine⟨be,oe,H,h,λ_ _ h=>h,s'.refr (fr:=Z3 (F5 pre) st.fr) λt=>?_,λp hp=>(by cases hp),λj o d _ h1 h2 h3=>?_⟩
  ·by_cases hx:∃ o∈F5 pre,o.dst=some t
   ·obtain⟨o,h1,h2⟩:=hx
    rw[a02 h1 h2]
    trivial
   ·rw[W00 λo ho hd=>hx ⟨o,ho,hd⟩]
    exact s'.fr t
  ·simp[Array.getElem?_replicate]at h3
   split at h3<;>cases h3
 ·simp[Array.getElem?_replicate]at hl
  split at hl<;>cases hl
theorem R0q{pre:List Oper}{st:St}{A:Asg}{Lf:FL}{Bf:List BE}{listed:Array Bool}{j:Nat}{o:Oper}{Q:Exit->Act->World->Prop}
  (hD:∀(i j:Nat) (oi oj:Oper) (d:Nat),(F5 pre)[i]?=some oi->(F5 pre)[j]?=some oj->oi.dst=some d->oj.dst=some d->i=j)
  (hn:∀ o∈F5 pre,∀ d,o.dst=some d->d<st.n)
  (hB:∀(k:Nat) (o:Oper),(F5 pre)[k]?=some o->∀ e∈o.after,Region.binds .any e=true->e.on<k)
  (hdep:∀ o∈F5 pre,∀ t,Operand.tmp t∈o.op.operands->∀(i:Nat) (oi:Oper),(F5 pre)[i]?=some oi->oi.dst=some t->∃ e∈o.after,Region.binds .any e=true/\e.on=i)
  (hgd:∀ o∈F5 pre,∀ i w,o.guard=some (i,w)->H7 i o=true)
  (hP:e0f (F5 pre) A Lf Bf (F5 pre).length)
  (hall:∀ j o,(F5 pre)[j]?=some o->∃ Lj bj,c00 Bf o.guard=some (A j).1/\e0f (F5 pre) A Lj bj j/\j08 bj Bf/\cB bj (A j).1=some (A j).2.1/\(OpU P st h Lj bj o (A j).1 (A j).2.1 (A j).2.2/\∀ av,u08 P Lj bj (A j).1 o st=some av->(A j).2.2 = .pu av))
  (hsr:∀(i:Nat) (oi:Oper) (d:Nat),(F5 pre)[i]?=some oi->oi.dst=some d->skA pre i=true->∀ o'∈F5 pre,Operand.tmp d ∉ o'.op.operands)
  (hsb:∀ i,skA pre i=true->(A i).2.2 = .pu (.val undef)) (hal:∀ o∈pre,R03 o=true->∃ t d z,o.op = .alloc t/\o.guard=none/\o.dst=some d/\z00 P t=some z/\∀ o'∈pre,Operand.tmp d ∉ o'.op.operands)
  (hun:listed.getD j true=false)
  (ho:pre[j]?=some o) (hrd:∀ e∈o.after,Region.binds .any e=true->listed.getD e.on false=true) (hi:V0a P h0 w0 pre st h A listed a w) :
  (Region.wanted o (yielded (F5 pre).toArray a.tmps)=true->o.wp P a w (V0a P h0 w0 pre st h A (listed.setIfInBounds j true)) Q) /\
  (Region.wanted o (yielded (F5 pre).toArray a.tmps)=false->V0a P h0 w0 pre st h A (listed.setIfInBounds j true) (a.put o.dst undef) w):=by
 obtain⟨pd,h1,w1,m1,hp1,hnd,iu,hA1,hA2⟩:=hi
 have hmem:o∈pre:=List.mem_of_getElem? ho
 have hx:(F5 pre)[j]?=some (P9 o):=by rw[Q7,ho];rfl
 have hlj:listed.getD j false=false:=by
  have:j<listed.size:=by
   rcases Nat.lt_or_ge j listed.size with h|h
   ·exact h
   ·simp[Array.getElem?_eq_none h]at hun
  simp[this]at hun ⊢
  exact hun
 have hjs:j<listed.size:=by
  rcases Nat.lt_or_ge j listed.size with h|h
  ·exact h
  ·simp[Array.getElem?_eq_none h]at hun
 have hA2':∀ p∈pd,∃(i:Nat) (oi:Oper),(F5 pre)[i]?=some oi/\oi.dst=some p.1/\skA pre i=true:=λp hp=>by
  obtain⟨i,oi,q1,q2,q3,_⟩:=hA2 p hp
  exact⟨i,P9 oi,by rw[Q7,q1];rfl,by rw[P7];exact q3,by unfold skA;rw[q1];exact q2⟩
 cases hisa:R03 o with
 |false =>
  have hid:=B0i hisa
  rw[hid]at hx
  have hsj:skA pre j=false:=by unfold skA;rw[ho];exact hisa
  have up:∀ a' w',S08 P h1 w1 (F5 pre).toArray st h A (skA pre) (pd.map λp=>(p.1,ptr p.2.1 0)) (listed.setIfInBounds j true) a' w'->V0a P h0 w0 pre st h A (listed.setIfInBounds j true) a' w':=λa' w' iu'=>by
   refine⟨pd,h1,w1,m1,hp1,hnd,iu',λi oi t d z q1 q2 q3 q4 q5=>?_,λp hp=>?_⟩
   ·by_cases e:j=i
    ·subst e
     rw[ho]at q1;cases q1
     unfold R03 at hisa;rw[q2]at hisa;cases hisa
    ·rw[getD_set_ne false e]at q5
     exact hA1 i oi t d z q1 q2 q3 q4 q5
   ·obtain⟨i,oi,q1,q2,q3,q4⟩:=hA2 p hp
    exact⟨i,oi,q1,q2,q3,getD_set_true q4⟩
  have st2:=P0q (P:=P) (h0:=h1) (w0:=w1) (ops:=(F5 pre).toArray) (Q:=Q) (sk:=skA pre) (kp:=pd.map λp=>(p.1,ptr p.2.1 0)) (by simpa using hD) (by simpa using hn) (by simpa using hB) (by simpa using hdep) (by simpa using hgd) (by simpa using hP) (by simpa using hall) hsj (by simpa using hsr) hsb (λp hp=>by
   obtain⟨q,hq,rfl⟩:=List.mem_map.1 hp
   simpa using hA2' q hq) (by simpa using hx) hrd iu
  exact⟨λhw=>Oper.wp_mono (λa' w'=>up a' w') (st2.1 hw),λhw=>up _ _ (st2.2 hw)⟩
 |true =>
  obtain⟨t,d,z,k1,k2,k3,k4,k5⟩:=hal o hmem hisa
  refine⟨λ_=>?_,λhw=>?_⟩
  rotate_left
  ·unfold Region.wanted at hw;rw[k2]at hw;cases hw
  obtain⟨be,oe,H,h',hs,s,keep,facts⟩:=iu
  have m2:P2 h0 w0 (u03 H (pd.map λp=>p.2)) w:=m1.trans (z0d m1.vis (λp hp=>by
   obtain⟨q,hq,rfl⟩:=List.mem_map.1 hp
   exact hp1 q hq) hnd s.mv)
  have Hn:∀ p∈pd,H p.2.1=none:=λp hp=>s.mv.none_of (hp1 p hp).2 (hp1 p hp).1
  have hw:wpS P (execOp a.eval o) (u03 H (pd.map λp=>p.2)) (λn H'=>∃ b,u03 H (pd.map λp=>p.2) b=none/\n = .value (ptr b 0)/\H'=(u03 H (pd.map λp=>p.2)).set b (.cells z.cells t (0,0))):=by
   unfold execOp;rw[k1]
   refine E7 _ _ _ ?_
   simp only[Instr.alloc,newVar,newRow,newObj,G2,J09 k4,J2,wpS]
   exact λb hb=>⟨b,hb,rfl,rfl⟩
  obtain⟨n,H',w',hr,⟨b,hb,rfl,rfl⟩,hm⟩:=J9 _ _ _ m2.vis hw
  refine j7 hr ?_
  have hbn:∀ p∈pd,p.2.1≠b:=λp hp e=>by
   have:=w04 (H:=H) hnd (List.mem_map.2 ⟨p,hp,rfl⟩)
   rw[e,hb]at this;cases this
  have hHb:H b=none:=by
   rw[←hb,h03]
   intro p hp
   obtain⟨q,hq,rfl⟩:=List.mem_map.1 hp
   exact hbn q hq
  have hv:Vis H w':=λx ox hx'=>by
   refine hm.vis x ox ?_
   rw[Hp.set_other _ _ λe=>by subst e;rw[hHb]at hx';cases hx']
   rw[h03]
   ·exact hx'
   ·intro p hp e
    obtain⟨q,hq,rfl⟩:=List.mem_map.1 hp
    rw[←e,Hn q hq]at hx';cases hx'
  have hlt:d<a.tmps.size:=by rw[s.siz];exact hn (P9 o) (List.mem_of_getElem? hx) d (by rw[P7];exact k3)
  have tself:(a.put o.dst (ptr b 0)).tmps.getD d undef=ptr b 0:=by rw[k3];simp[Act.put,hlt]
  have tother:∀ u,u≠d->(a.put o.dst (ptr b 0)).tmps.getD u undef=a.tmps.getD u undef:=λu hu=>by
   rw[k3];simp[Act.put,Array.getElem?_setIfInBounds_ne (Ne.symm hu)]
  have pne:∀ p∈pd,p.1≠d:=λp hp e=>by
   obtain⟨i,oi,q1,q2,q3,q4⟩:=hA2 p hp
   have:=hD i j (P9 oi) (P9 o) d (by rw[Q7,q1];rfl) hx (by rw[P7,q3,e]) (by rw[P7];exact k3)
   subst this
   rw[hlj]at q4;cases q4
  have s1:Sim P H w' be oe H { st with fr:=Z3 (F5 pre) st.fr } h' a w':=(by simpa using s:Sim P h1 w1 be oe H { st with fr:=Z3 (F5 pre) st.fr } h' a w).base (P2.refl hv)
  have s2:Sim P H w' be oe H { st with fr:=Z3 (F5 pre) st.fr } h' (a.put o.dst (ptr b 0)) w':=by
   have hp:=s1.put (d:=d) (av := .dead) (v:=ptr b 0) (hn (P9 o) (List.mem_of_getElem? hx) d (by rw[P7];exact k3)) trivial
   rw[k3]
   refine hp.refr (fr:=Z3 (F5 pre) st.fr) λu=>?_
   have g:=hp.fr u
   rw[T3]at g
   split at g
   ·rename_i e
    subst e
    rw[a02 (List.mem_of_getElem? hx) (by rw[P7];exact k3)]
    trivial
   ·exact g
  refine⟨(d,b,.cells z.cells t (0,0))::pd,H,w',?_,λp hp=>?_,?_,⟨be,oe,H,h',hs,by simpa using s2,λp hp=>?_,λi oi u q0 q1 q2 q3=>?_⟩,λi oi t' d' z' q1 q2 q3 q4 q5=>?_,λp hp=>?_⟩
  ·exact m2.trans hm
  ·rcases List.mem_cons.1 hp with rfl|hp
   ·exact⟨hHb,hm.vis.lt (by rw[Hp.set_same];simp)⟩
   ·exact⟨Hn p hp,Nat.lt_of_lt_of_le (hp1 p hp).2 (Nat.le_trans s.mv.size hm.size)⟩
  ·rw[List.map_cons,List.map_cons,List.nodup_cons]
   refine⟨λhc=>?_,hnd⟩
   obtain⟨q,hq,e⟩:=List.mem_map.1 hc
   obtain⟨p,hp,rfl⟩:=List.mem_map.1 hq
   exact hbn p hp e
  ·rw[List.map_cons]at hp
   rcases List.mem_cons.1 hp with rfl|hp
   ·exact tself
   ·obtain⟨q,hq,rfl⟩:=List.mem_map.1 hp
    rw[tother _ (pne q hq)]
    exact keep _ hp
  ·have hij:j≠i:=λe=>by
    subst e
    have q9:R03 o=false:=by unfold skA at q0;rw[ho]at q0;exact q0
    rw[hisa]at q9;cases q9
   rw[getD_set_ne false hij]at q3
   have hud:u≠d:=λe=>by
    subst e
    exact hij (hD j i (P9 o) oi u hx (by simpa using q1) (by rw[P7];exact k3) q2)
   rw[tother u hud]
   exact facts i oi u q0 q1 q2 q3
  ·by_cases e:j=i
   ·subst e
    rw[ho]at q1;cases q1
    rw[k1]at q2;cases q2
    rw[k3]at q3;cases q3
    rw[k4]at q4;cases q4
    exact⟨b,mS⟩
   ·rw[getD_set_ne false e]at q5
    obtain⟨b',hb'⟩:=hA1 i oi t' d' z' q1 q2 q3 q4 q5
    exact⟨b',mC _ hb'⟩
  ·rcases List.mem_cons.1 hp with rfl|hp
   ·exact⟨j,o,ho,hisa,k3,by simp[hjs]⟩
   ·obtain⟨i,oi,q1,q2,q3,q4⟩:=hA2 p hp
    exact⟨i,oi,q1,q2,q3,getD_set_true q4⟩
theorem H0f{α β:Type}{f:α->β}:∀ {l:List α},(l.map f).Nodup->∀ {p q:α},p∈l->q∈l->f p=f q->p=q
 | [],_,p,q,h,_,_=>nomatch h
 |x::l,hd,p,q,hp,hq,e=>by
  rw[List.map_cons,List.nodup_cons]at hd
  rcases List.mem_cons.1 hp with e1|hp2<;>rcases List.mem_cons.1 hq with e2|hq2
  ·rw[e1,e2]
  ·exact absurd (List.mem_map.2 ⟨q,hq2,by rw[←e,e1]⟩) hd.1
  ·exact absurd (List.mem_map.2 ⟨p,hp2,by rw[e,e2]⟩) hd.1
  ·exact H0f hd.2 hp2 hq2 e
theorem o0q{pre:List Oper}{st:St}{A:Asg}{Lf:FL}{Bf:List BE}{K:St->Hp->Prop}{listed:Array Bool}
  (hD:∀(i j:Nat) (oi oj:Oper) (d:Nat),(F5 pre)[i]?=some oi->(F5 pre)[j]?=some oj->oi.dst=some d->oj.dst=some d->i=j)
  (hn:∀ o∈F5 pre,∀ d,o.dst=some d->d<st.n)
  (hsb:∀ i,skA pre i=true->(A i).2.2 = .pu (.val undef)) (hal:∀ o∈pre,R03 o=true->∃ t d z,o.op = .alloc t/\o.guard=none/\o.dst=some d/\z00 P t=some z/\∀ o'∈pre,Operand.tmp d ∉ o'.op.operands)
  (hP:e0f (F5 pre) A Lf Bf (F5 pre).length) (hfin:∀ h',Sub h h'->q0c h' Lf st.fr λfr=>doA (r03 P) pre { st with fr:=fr } h' K) (hl:∀ j,j<pre.length->listed.getD j false=true)
  (hi:V0a P h0 w0 pre st h A listed a w):∃ st' h' be oe H,K st' h'/\Sim P h0 w0 be oe H st' h' a w:=by
 obtain⟨pd,h1,w1,m1,hp1,hnd,iu,hA1,hA2⟩:=hi
 obtain⟨be,oe,H,h',fr,hk,s,keep,g⟩:=s0l (K:=λst h=>doA (r03 P) pre st h K) (ops:=(F5 pre).toArray) hsb (by simpa using hD) (by simpa using hP) hfin (λj hj=>hl j (by simpa [G0f] using hj)) iu
 have m2:P2 h0 w0 (u03 H (pd.map λp=>p.2)) w:=m1.trans (z0d m1.vis (λp hp=>by
  obtain⟨q,hq,rfl⟩:=List.mem_map.1 hp
  exact hp1 q hq) hnd s.mv)
 have Hn:∀ p∈pd,H p.2.1=none:=λp hp=>s.mv.none_of (hp1 p hp).2 (hp1 p hp).1
 have s':=s.more (l:=pd.map λp=>p.2) (λp hp=>by
  obtain⟨q,hq,rfl⟩:=List.mem_map.1 hp
  exact Hn q hq) m2
 have each:∀ o∈pre,R03 o=true->∃ t d z b,o.op = .alloc t/\o.dst=some d/\z00 P t=some z/\(d,b,Obj.cells z.cells t (0,0))∈pd/\a.tmps.getD d undef=ptr b 0:=λo ho ha=>by
  obtain⟨t,d,z,k1,k2,k3,k4,k5⟩:=hal o ho ha
  obtain⟨j,hj⟩:=List.getElem?_of_mem ho
  obtain⟨b,hb⟩:=hA1 j o t d z hj k1 k3 k4 (hl j (List.getElem?_eq_some_iff.1 hj).1)
  exact⟨t,d,z,b,k1,k3,k4,hb,keep _ (List.mem_map.2 ⟨_,hb,rfl⟩)⟩
 have hnone:∀ b,H b=none->h' b=none:=λb hb=>by
  cases e:h' b with
  |none=>rfl
  |some o=>rw[s.sub b o e]at hb;cases hb
 refine(n0k (K:=K) (fd:=Z3 (F5 pre).toArray.toList st.fr) pre { st with fr:=fr } be s' (λt ht=>?_) (λo ho ha=>?_) ?_ (λi cs ty hi o ho ha d hd=>?_) (λi s0 e sz by_ nn xs gb hi hgb o ho ha d hd=>?_) hk).elim λst' hx=>hx.elim λbe' hx=>⟨st',h',be',oe,_,hx.1,hx.2⟩
 ·refine C2.fr (st:=st) (fr:=fr) (g t λi oi q1 q2=>?_)
  have q1:(F5 pre)[i]?=some oi:=by simpa using q1
  rw[Q7]at q1
  cases e:pre[i]? with
  |none=>rw[e]at q1;cases q1
  |some o0 =>
   rw[e]at q1;cases q1
   cases hal0:R03 o0 with
   |false=>unfold skA;rw[e];exact hal0
   |true=>exact absurd (by rw[←P7];exact q2) (ht o0 (List.mem_of_getElem? e) hal0)
 ·obtain⟨t,d,z,b,k1,k2,k3,k4,k5⟩:=each o ho ha
  have eb:=K05 k5
  obtain⟨j,hj⟩:=List.getElem?_of_mem ho
  refine⟨d,t,z,k1,k2,hn (P9 o) (List.mem_of_getElem? (i:=j) (by rw[Q7,hj];rfl)) d (by rw[P7];exact k2),k3,by rw[eb];exact k5,by rw[eb];exact w04 hnd (List.mem_map.2 ⟨_,k4,rfl⟩),by rw[eb];exact hnone b (Hn _ k4)⟩
 ·rw[List.pairwise_iff_getElem]
  intro i j hi hj hij ha ha' d d' hd hd' e
  obtain⟨t,d1,z,b,k1,k2,k3,k4,k5⟩:=each _ (List.getElem_mem hi) ha
  obtain⟨t',d2,z',b',q1,q2,q3,q4,q5⟩:=each _ (List.getElem_mem hj) ha'
  rw[k2]at hd;cases hd
  rw[q2]at hd';cases hd'
  rw[K05 k5,K05 q5]at e
  subst e
  have:=H0f (f:=λp:Nat×Nat×Obj=>p.2.1) (by have:=hnd;rw[List.map_map]at this;exact this) k4 q4 rfl
  have ed:d=d':=congrArg Prod.fst this
  subst ed
  have:=hD i j (P9 pre[i]) (P9 pre[j]) d (by rw[Q7,List.getElem?_eq_getElem hi];rfl) (by rw[Q7,List.getElem?_eq_getElem hj];rfl) (by rw[P7];exact k2) (by rw[P7];exact q2)
  omega
 ·obtain⟨t,d1,z,b,k1,k2,k3,k4,k5⟩:=each o ho ha
  rw[k2]at hd;cases hd
  rw[K05 k5]
  intro e
  obtain⟨_,vs,_,h3⟩:=s.box i cs ty hi
  rw[e,Hn _ k4]at h3;cases h3
 ·obtain⟨t,d1,z,b,k1,k2,k3,k4,k5⟩:=each o ho ha
  rw[k2]at hd;cases hd
  rw[K05 k5]
  intro e'
  obtain⟨_,_,_,_,h3⟩:=(s.own i s0 e sz by_ nn xs hi).block hgb
  rw[e',Hn _ k4]at h3;cases h3
theorem h0s{ops:Array Oper}{Q:Exit->Act->World->Prop}{Inv:Array Bool->Act->World->Prop}(hB:∀(k:Nat) (o:Oper),ops.toList[k]?=some o->∀ e∈o.after,Region.binds .any e=true->e.on<k)
  (hstep:∀ listed a w j o,listed.size=ops.size->listed.getD j true=false->ops[j]?=some o->(∀ e∈o.after,Region.binds .any e=true->listed.getD e.on false=true)->Inv listed a w ->
   (Region.wanted o (yielded ops a.tmps)=true->o.wp P a w (Inv (listed.setIfInBounds j true)) Q)/\(Region.wanted o (yielded ops a.tmps)=false->Inv (listed.setIfInBounds j true) (a.put o.dst undef) w))
  (hQ:∀ listed a w,(∀ j,j<ops.size->listed.getD j false=true)->Inv listed a w->Q .normal a w) :
  ∀(fuel:Nat) (listed:Array Bool) (a:Act) (w:World),listed.size=ops.size->listed.toList.count true+fuel=ops.size->Inv listed a w->wpAny P .any ops Q fuel listed a w
 |0,listed,a,w,hsz,hc,hi=>by
  have hall':∀ j,j<ops.size->listed.getD j false=true:=λj hj=>by
   have h1:∀ b∈listed.toList,true=b:=List.count_eq_length.1 (by simp only[Array.length_toList];omega)
   have hlt:j<listed.size:=by omega
   have:=h1 listed[j] (by simp)
   simp[hlt,←this]
  refine⟨?_,hQ listed a w hall' hi⟩
  cases hr:Region.ready .any ops listed with
  |nil=>rfl
  |cons j r =>
   have hj:j∈Region.ready .any ops listed:=by rw[hr];exact mS
   obtain⟨h1,o,h2,_⟩:=mem_ready.1 hj
   have hlt:j<ops.size:=(Array.getElem?_eq_some_iff.1 h2).1
   have:=hall' j hlt
   have hlt':j<listed.size:=by omega
   simp[hlt']at this h1
   rw[this]at h1;cases h1
 |fuel+1,listed,a,w,hsz,hc,hi=>by
  refine⟨λhr=>hQ listed a w (S0a hB hsz hr) hi,λj hj=>?_⟩
  obtain⟨h1,o,h2,h3⟩:=mem_ready.1 hj
  unfold wpOp
  simp only[h2]
  obtain⟨ht,hf⟩:=hstep listed a w j o hsz h1 h2 h3 hi
  have next:∀ a' w',Inv (listed.setIfInBounds j true) a' w'->wpAny P .any ops Q fuel (listed.setIfInBounds j true) a' w':=λa' w' hi'=>h0s hB hstep hQ fuel _ a' w' (by simpa using hsz) (by rw[count_set h1];omega) hi'
  cases hw:Region.wanted o (yielded ops a.tmps)with
  |true =>
   rw[if_pos rfl]
   exact .inl (Oper.wp_mono next (ht hw))
  |false =>
   rw[if_neg (by simp)]
   exact next _ _ (hf hw)
theorem W0a{x:Nat}:∀ {l:List Nat},f0k x l=true↔x∈l
 | []=>by simp[f0k]
 |y::r=>by
  simp only[f0k,Bool.or_eq_true,List.mem_cons,W0a (l:=r)]
  constructor
  ·rintro(h|h)
   ·exact .inl (Nat.eq_of_beq_eq_true h)
   ·exact .inr h
  ·rintro(rfl|h)
   ·exact .inl (Nat.beq_refl _)
   ·exact .inr h
theorem I0f{ops:List Oper}{i:Nat}:∀ {l:List Nat},c0q ops i l=true->∃ j o,j∈l/\ops[j]?=some o/\H7 i o=true
 | [],h=>by cases h
 |j::r,h=>by
  simp only[c0q,Bool.or_eq_true]at h
  rcases h with h|h
  ·split at h
   ·rename_i o ho
    rw[l04]at ho
    exact⟨j,o,mS,ho,h⟩
   ·cases h
  ·obtain⟨j',o,h1,h2⟩:=I0f h
   exact⟨j',o,mC _ h1,h2⟩
theorem T08{ops:List Oper}{G:Nat->Prop}(hG:∀ i j o,G j->ops[j]?=some o->H7 i o=true->G i):∀(n:Nat) (acc:List Nat),(∀ j∈acc,G j)->∀ i∈v0f ops n acc,G i
 |0,acc,h=>h
 |n+1,acc,h=>by
  unfold v0f
  split
  ·rename_i hh
   obtain⟨j,o,h1,h2,h3⟩:=I0f hh
   exact T08 hG n _ λi hi=>by
    rcases List.mem_cons.1 hi with rfl|hi
    ·exact hG _ j o (h j h1) h2 h3
    ·exact h i hi
  ·exact T08 hG n acc h
theorem U08{d:Nat}:∀ {l:List Oper},w08 d l=false->∀ o∈l,o.dst≠some d
 | [],_,o,h=>nomatch h
 |y::r,hp,o,h=>by
  simp only[w08,Bool.or_eq_false_iff]at hp
  rcases List.mem_cons.1 h with rfl|h
  ·intro hd
   rw[hd]at hp
   have:=hp.1
   simp at this
  ·exact U08 hp.2 o h
theorem o05{ml:List Nat}{t:Nat}:∀ {l:List Oper} {k:Nat},k04 ml t l k=true->∀(i:Nat) (o:Oper),l[i]?=some o->o.dst=some t->k+i∈ml
 | [],k,_,i,o,h,_=>by simp at h
 |y::r,k,hw,i,o,h,hd=>by
  simp only[k04,Bool.and_eq_true]at hw
  cases i with
  |zero =>
   simp at h;subst h
   have h1:=hw.1
   rw[hd]at h1
   simp at h1
   exact W0a.1 h1
  |succ i =>
   have:=o05 hw.2 i o (by simpa using h) hd
   rw[show k+(i+1)=k+1+i by omega];exact this
theorem D08{i d:Nat}:∀ {l:List Oper},z05 i d l=true->∀ o∈l,Operand.tmp d∈o.op.operands->H7 i o=true
 | [],_,o,h,_=>nomatch h
 |y::r,hr,o,h,hm=>by
  simp only[z05,Bool.and_eq_true,Bool.or_eq_true]at hr
  rcases List.mem_cons.1 h with rfl|h
  ·rcases hr.1 with h1|h1
   ·have h2:a07 d o.op.operands.toList=false:=by simpa using h1
    exact absurd (show Operand.tmp d∈o.op.operands.toList by simpa using hm) (c05 h2)
   ·exact h1
  ·exact D08 hr.2 o h hm
theorem A0d:∀ {l:List Oper},e0i l=true->∀ o∈l,u09 o.op=false
 | [],_,o,h=>nomatch h
 |y::r,hs,o,h=>by
  simp only[e0i,Bool.and_eq_true]at hs
  rcases List.mem_cons.1 h with rfl|h
  ·simpa using hs.1
  ·exact A0d hs.2 o h
def D02(o:Oper)(f:Operand->Value):Option Value:=match o.op with
 | .extract x k=>match f x with
  | .tuple vs=>vs[k]?
  |_=>none
 | .move x=>some (f x)
 | .assign x=>some (f x)
 | .pick c x y=>match f c with
  | .bool q=>some (if q=true then f x else f y)
  |_=>none
 |_=>none
theorem Y03{x:Operand}{a b:Act}(h:∀ t∈J0a x,a.tmps.getD t undef=b.tmps.getD t undef):a.eval x=b.eval x:=by
 cases x with
 |tmp t=>exact h t (List.mem_singleton.2 rfl)
 |const v=>rfl
 |global g=>rfl
 |func f=>rfl
theorem v03{o:Oper}{ts:List Nat}(h:v08 o=some ts):o.guard=none/\((∃ x k,o.op = .extract x k/\ts=J0a x)∨(∃ x,o.op = .move x/\ts=J0a x)∨(∃ x,o.op = .assign x/\ts=J0a x)∨∃ c x y,o.op = .pick c x y/\ts=J0a c++(J0a x++J0a y)):=by
 unfold v08 at h
 split at h
 ·cases h
 ·rename_i hg
  refine⟨hg,?_⟩
  split at h
  ·rename_i x k e;cases h;exact .inl ⟨x,k,e,rfl⟩
  ·rename_i x e;cases h;exact .inr (.inl ⟨x,e,rfl⟩)
  ·rename_i x e;cases h;exact .inr (.inr (.inl ⟨x,e,rfl⟩))
  ·rename_i c x y e;cases h;exact .inr (.inr (.inr ⟨c,x,y,e,rfl⟩))
  ·cases h
theorem m07{o:Oper}{ts:List Nat}{a b:Act}(h:v08 o=some ts)(e:∀ t∈ts,a.tmps.getD t undef=b.tmps.getD t undef):D02 o a.eval=D02 o b.eval:=by
 obtain⟨_,⟨x,k,e1,rfl⟩|⟨x,e1,rfl⟩|⟨x,e1,rfl⟩|⟨c,x,y,e1,rfl⟩⟩:=v03 h
 ·unfold D02;rw[e1];simp only[Y03 e]
 ·unfold D02;rw[e1];simp only[Y03 e]
 ·unfold D02;rw[e1];simp only[Y03 e]
 ·unfold D02;rw[e1]
  simp only[Y03 (x:=c) λt ht=>e t (List.mem_append_left _ ht),Y03 (x:=x) λt ht=>e t (List.mem_append_right _ (List.mem_append_left _ ht)),Y03 (x:=y) λt ht=>e t (List.mem_append_right _ (List.mem_append_right _ ht))]
theorem B0d{o:Oper}{ts:List Nat}{a:Act}{v:Value}(h:v08 o=some ts)(hv:D02 o a.eval=some v)(w:World):(execOp a.eval o).run P w = .ok (.value v) w:=by
 obtain⟨_,⟨x,k,e,_⟩|⟨x,e,_⟩|⟨x,e,_⟩|⟨c,x,y,e,_⟩⟩:=v03 h
 ·unfold D02 at hv;rw[e]at hv
  simp only at hv
  split at hv
  ·rename_i vs hx
   unfold execOp;rw[e]
   simp only[Instr.extract,hx,hv]
   rfl
  ·cases hv
 ·unfold D02 at hv;rw[e]at hv;cases hv
  unfold execOp;rw[e];rfl
 ·unfold D02 at hv;rw[e]at hv;cases hv
  unfold execOp;rw[e];rfl
 ·unfold D02 at hv;rw[e]at hv
  simp only at hv
  split at hv
  ·rename_i q hx
   cases hv
   unfold execOp;rw[e]
   simp only[hx,asBool]
   cases q<;>rfl
  ·cases hv
theorem p0q{o:Oper}{ts:List Nat}{a:Act}{w:World}{N:Act->World->Prop}(h:v08 o=some ts)(hw:o.wp P a w N λ_ _ _=>False):∃ v,D02 o a.eval=some v/\N (a.put o.dst v) w:=by
 obtain⟨_,⟨x,k,e,_⟩|⟨x,e,_⟩|⟨x,e,_⟩|⟨c,x,y,e,_⟩⟩:=v03 h
 ·cases hx:D02 o a.eval with
  |some v =>
   refine⟨v,rfl,?_⟩
   unfold Oper.wp at hw
   rw[B0d h hx w]at hw
   exact hw
  |none =>
   exfalso
   unfold D02 at hx;rw[e]at hx
   simp only at hx
   unfold Oper.wp execOp at hw;rw[e]at hw
   simp only[Instr.extract]at hw
   split at hx
   ·rename_i vs hvs
    rw[hvs]at hw
    simp only[hx]at hw
    exact hw
   ·rename_i hno
    generalize a.eval x=z at hw hno
    cases z<;>first|exact hw|exact absurd rfl (hno _)
 ·refine⟨_,by unfold D02;rw[e],?_⟩
  unfold Oper.wp execOp at hw;rw[e]at hw
  exact hw
 ·refine⟨_,by unfold D02;rw[e],?_⟩
  unfold Oper.wp execOp at hw;rw[e]at hw
  exact hw
 ·cases hx:D02 o a.eval with
  |some v =>
   refine⟨v,rfl,?_⟩
   unfold Oper.wp at hw
   rw[B0d h hx w]at hw
   exact hw
  |none =>
   exfalso
   unfold D02 at hx;rw[e]at hx
   simp only at hx
   unfold Oper.wp execOp at hw;rw[e]at hw
   simp only at hw
   split at hx
   ·cases hx
   ·rename_i hno
    generalize a.eval c=z at hw hno
    cases z<;>first|exact hw|exact absurd rfl (hno _)
def C0d(as a:Act)(D:Nat->Prop):Prop:=as.tmps.size=a.tmps.size/\as.defers=a.defers/\∀ d,¬ D d->as.tmps.getD d undef=a.tmps.getD d undef
theorem w03(a:Act)(d u:Nat)(v:Value):(a.put (some d) v).tmps.getD u undef=if d=u/\d<a.tmps.size then v else a.tmps.getD u undef:=by
 by_cases e:d=u
 ·subst e
  by_cases h:d<a.tmps.size
  ·simp[Act.put,h]
  ·simp[Act.put,h]
 ·rw[if_neg λh=>e h.1]
  simp[Act.put,Array.getElem?_setIfInBounds_ne e]
theorem C0d.put{as a:Act}{D:Nat->Prop}(l:C0d as a D)(d:Option Nat)(v:Value):C0d (as.put d v) (a.put d v) D:=by
 cases d with
 |none=>exact l
 |some d =>
  refine⟨by simp[Act.put,l.1],l.2.1,λu hu=>?_⟩
  rw[w03,w03,l.1,l.2.2 u hu]
theorem q0q{o:Oper}{as a:Act}{w:World}{D:Nat->Prop}{N:Act->World->Prop}{Q:Exit->Act->World->Prop}(l:C0d as a D)(hs:u09 o.op=false)(hr:∀ d,Operand.tmp d∈o.op.operands -> ¬ D d)
  (hw:o.wp P as w N λ_ _ _=>False):o.wp P a w (λa' w'=>∃ as',N as' w'/\C0d as' a' D/\(∃ v,as'=as.put o.dst v∨∃ x,as' = { as with defers:=x }.put o.dst v)/\∃ v,a'=a.put o.dst v∨∃ x,a' = { a with defers:=x }.put o.dst v) Q:=by
 have he:execOp as.eval o=execOp a.eval o:=execOp_congr o (λcs b e=>by rw[e]at hs;cases hs) λx hx=>by
  cases x with
  |tmp d=>exact l.2.2 d (hr d hx)
  |_=>rfl
 unfold Oper.wp at *
 rw[he]at hw
 generalize (execOp a.eval o).run P w=r at hw
 have fin:∀(v:Value) (w':World),N (as.put o.dst v) w'->∃ as',N as' w'/\C0d as' (a.put o.dst v) D/\(∃ v,as'=as.put o.dst v∨∃ x,as' = { as with defers:=x }.put o.dst v)/\∃ v',a.put o.dst v=a.put o.dst v'∨∃ x,a.put o.dst v = { a with defers:=x }.put o.dst v' :=
  λv w' h=>⟨_,h,l.put o.dst v,⟨v,.inl rfl⟩,v,.inl rfl⟩
 cases r with
 |ok n w' =>
  cases n with
  |value v=>exact fin v w' hw
  |skip=>exact fin undef w' hw
  |defer d =>
   refine⟨_,hw,C0d.put (as := { as with defers:=d::as.defers }) (a := { a with defers:=d::a.defers }) ⟨l.1,by simp[l.2.1],l.2.2⟩ o.dst undef,⟨_,.inr ⟨_,rfl⟩⟩,_,.inr ⟨_,rfl⟩⟩
  |enter f args =>
   refine Calls.mono hw λe w'' h=>?_
   cases e with
   |returned v=>exact fin v w'' h
   |panicked c=>exact h.elim
   |outgrown=>obtain⟨_,_,h⟩:=h;exact h.elim
  |row row args=>exact Rows.mono hw λv w'' h=>fin v w'' h
  |_=>exact hw.elim
 |halt hh w'=>cases hh<;>exact hw.elim
theorem Sim.like{st:St}{as a:Act}{h0:Hp}{w0:World}{be:Nat->Nat}{oe:Nat->Value}{H h:Hp}{w:World}(s:Sim P h0 w0 be oe H st h as w){D:Nat->Prop}(l:C0d as a D)(hD:∀ d,¬ D d):Sim P h0 w0 be oe H st h a w :=
 ⟨s.mv,s.sub,s.box,s.pub,s.own,s.frz,s.bb,s.oo,s.bo,by rw[←l.2.1];exact s.dfr,by rw[←l.1];exact s.siz,λt=>by rw[←l.2.2 t (hD t)];exact s.fr t⟩
theorem J0f:∀ {l:List Oper} {k:Nat},a0o k l=true->(∀ o∈l,o.guard=none)/\∀(i:Nat) (o:Oper),l[i+1]?=some o->H7 (k+i) o=true
 | [],k,h=>⟨λo ho=>(nomatch ho),λi o hi=>(nomatch hi)⟩
 | [x],k,h=>by
  rw[a0o]at h
  simp only[Bool.and_eq_true]at h
  refine⟨λo ho=>?_,λi o hi=>nomatch hi⟩
  simp at ho;subst ho
  have h1:=h.1.1
  split at h1
  ·assumption
  ·cases h1
 |x::y::r,k,h=>by
  rw[a0o]at h
  simp only[Bool.and_eq_true]at h
  obtain⟨g1,g2⟩:=J0f (l:=y::r) h.2
  refine⟨λo ho=>?_,λi o hi=>?_⟩
  ·rcases List.mem_cons.1 ho with rfl|ho
   ·have h1:=h.1.1
    split at h1
    ·assumption
    ·cases h1
   ·exact g1 o ho
  ·cases i with
   |zero=>simp at hi;subst hi;exact h.1.2
   |succ i =>
    have:=g2 i o (by simpa using hi)
    rw[show k+(i+1)=k+1+i by omega];exact this
theorem F0i{o:Oper}{st:St}{K:St->Hp->Prop}{Q:Exit->Act->World->Prop}(s:Sim P h0 w0 be oe H st h a w)(he:r03 P o st h K):
  o.wp P a w (λa' w'=>∃ st' h' be' oe' H',K st' h'/\Sim P h0 w0 be' oe' H' st' h' a' w') Q:=by
 refine Oper.wp_mono (λa' w' hn=>?_) (Q9 s he)
 obtain⟨av,st',h',v,be',oe',H',hk,rfl,s',g,gr⟩:=hn
 obtain⟨rs',k1,k2,k3,k4⟩:=r04 (ops := #[o]) (i:=0) (rs:=⟨st',h',[],[]⟩) (ch:=[]) (c:=true) (v:=v) s' ⟨(λx hx=>nomatch hx),(λx hx=>nomatch hx),(λd ch av hl=>nomatch hl)⟩ (by rfl) rfl (λ_=>g) (λh=>by cases h) hk
 exact⟨rs'.st,rs'.h,be',oe',H',k1,k4⟩
theorem R09{pre tl:List Oper}{ml:List Nat}:∀ {l:List Oper} {k:Nat},L0c pre tl ml l k=true->∀(i:Nat) (o:Oper),l[i]?=some o->f0k (k+i) ml=true∨k0l pre tl ml (k+i) o=true
 | [],k,_,i,o,h=>by simp at h
 |y::r,k,hw,i,o,h=>by
  simp only[L0c,Bool.and_eq_true,Bool.or_eq_true]at hw
  cases i with
  |zero=>simp at h;subst h;exact hw.1
  |succ i =>
   have:=R09 hw.2 i o (by simpa using h)
   rw[show k+(i+1)=k+1+i by omega];exact this
theorem D0d{pre tl:List Oper}{ml:List Nat}:∀ {ts:List Nat},j0l pre tl ml ts=true->∀ t∈ts,w08 t tl=false/\k04 ml t pre 0=true
 | [],_,t,h=>by cases h
 |x::r,hw,t,h=>by
  simp only[j0l,Bool.and_eq_true,Bool.not_eq_true']at hw
  rcases List.mem_cons.1 h with rfl|h
  ·exact hw.1
  ·exact D0d hw.2 t h
theorem o0k{pre tl:List Oper}{ml:List Nat}{i:Nat}{o:Oper}(h:k0l pre tl ml i o=true):∃ ts d,v08 o=some ts/\o.dst=some d/\w08 d tl=false/\(∀ t∈ts,w08 t tl=false/\k04 ml t pre 0=true)/\z05 i d tl=true:=by
 unfold k0l at h
 split at h
 ·rename_i t d h1 h2
  simp only[Bool.and_eq_true,Bool.not_eq_true']at h
  exact⟨t,d,h1,h2,h.1.1,D0d h.1.2,h.2⟩
 ·cases h
theorem T0m{ops:Array Oper}{m:Nat}{st:St}{K:St->Hp->Prop}{Q:Exit->Act->World->Prop}(hb:okZ P st.n m ops.toList=true)(he:evT P (r03 P) m ops.toList st h K)
  (hQ:∀ a w st h be oe H,K st h->Sim P h0 w0 be oe H st h a w->Q .normal a w) (s:Sim P h0 w0 be oe H st h a w):wpAny P .any ops Q ops.size (Array.replicate ops.size false) a w:=by
 simp only[okZ,k03,s02,Bool.and_eq_true,Bool.or_eq_true]at hb
 obtain⟨⟨⟨⟨⟨⟨⟨b1,b2⟩,b3⟩,b4⟩,b5⟩,b6⟩,b7⟩,b8⟩:=hb
 generalize hpre:ops.toList.take m=pre at b1 b2 b3 b4 b5 b8
 obtain⟨hn,hD⟩:=t04 b1
 have hB:∀(k:Nat) (o:Oper),(F5 pre)[k]?=some o->∀ e∈o.after,Region.binds .any e=true->e.on<k:=λk o hk e he' hb=>by
  have:=g03 b2 k o hk e he' hb
  omega
 have hdep:=j06 b3
 have hgd:=l06 b4
 have hal:=A0i b5
 have hBB:∀(k:Nat) (o:Oper),ops.toList[k]?=some o->∀ e∈o.after,Region.binds .any e=true->e.on<k:=λk o hk e he' hb=>by
  have:=g03 b6 k o hk e he' hb
  omega
 obtain⟨sq1,sq2⟩:=J0f b7
 unfold evT at he
 rw[hpre]at he
 obtain⟨A,Lf,Bf,_,_,hP,hall,hfin⟩:=y0d (ops:=F5 pre) hD (F5 pre) 0 [] [] (λ_=>([],true,.pu .dead)) (λj=>by simp) (by simp)
  ⟨λt x h=>(by cases h),λi oi d hi=>by omega,λi hi=>by omega,λx hx=>(by cases hx)⟩ he
 have hpl:pre.length=min m ops.size:=by rw[←hpre];simp
 have hpg:∀ j,j<m->ops.toList[j]?=pre[j]?:=λj hj=>by rw[←hpre,List.getElem?_take,if_pos hj]
 have hdg:∀ j,(ops.toList.drop m)[j]?=ops.toList[m+j]?:=λj=>List.getElem?_drop
 have hsr:∀(i:Nat) (oi:Oper) (d:Nat),(F5 pre)[i]?=some oi->oi.dst=some d->skA pre i=true->∀ o'∈F5 pre,Operand.tmp d ∉ o'.op.operands:=λi oi d q1 q2 q3 o' ho' hc=>by
  rw[Q7]at q1
  unfold skA at q3
  cases e:pre[i]? with
  |none=>rw[e]at q1;cases q1
  |some o0 =>
   rw[e]at q1 q3
   cases q1
   obtain⟨t,d1,z,k1,k2,k3,k4,k5⟩:=hal o0 (List.mem_of_getElem? e) q3
   rw[P7,k3]at q2;cases q2
   obtain⟨j,hj⟩:=List.getElem?_of_mem ho'
   rw[Q7]at hj
   cases e2:pre[j]? with
   |none=>rw[e2]at hj;cases hj
   |some o1 =>
    rw[e2]at hj;cases hj
    exact k5 o1 (List.mem_of_getElem? e2) (E0i hc)
 have hsb:∀ i,skA pre i=true->(A i).2.2 = .pu (.val undef):=λi q3=>by
  unfold skA at q3
  cases e:pre[i]? with
  |none=>rw[e]at q3;cases q3
  |some o0 =>
   rw[e]at q3
   obtain⟨t,d1,z,k1,k2,k3,k4,k5⟩:=hal o0 (List.mem_of_getElem? e) q3
   obtain⟨Lj,bj,_,_,_,_,_,hu⟩:=hall i (P9 o0) (Nat.zero_le _) (by rw[Q7,e];rfl)
   refine hu _ ?_
   unfold P9
   rw[k1]
   rfl
 let Rest:Nat->Act->World->Prop:=λk a w=>∃ st' h' be oe H,doT (r03 P) (ops.toList.drop k) st' h' K/\Sim P h0 w0 be oe H st' h' a w
 let ml:=v0f ops.toList m [m]
 let Dl:Array Bool->Nat->Prop:=λlisted u=>∃(i:Nat) (o:Oper),pre[i]?=some o/\listed.getD i false=false/\o.dst=some u
 let Lat:Array Bool->Act->Act->Prop:=λlisted as a=>∀(i:Nat) (o:Oper) (t:List Nat) (d:Nat),pre[i]?=some o->listed.getD i false=false->v08 o=some t->o.dst=some d->D02 o a.eval=some (as.tmps.getD d undef)
 let Inv:Array Bool->Act->World->Prop:=λlisted a w=>(∀(j:Nat) (o:Oper),ops[j]?=some o->listed.getD j false=true->∀ e∈o.after,Region.binds .any e=true->listed.getD e.on false=true) /\
  (((∀ k,m<=k->listed.getD k false=false)/\V0a P h0 w0 pre st h A listed a w)∨∃ k as,m<k/\k<=ops.size/\(∀ i,i<k->listed.getD i false=true∨(i<m/\i ∉ ml))/\(∀ i,k<=i->listed.getD i false=false)/\Rest k as w/\C0d as a (Dl listed)/\Lat listed as a)
 have lateOf:m<ops.size->∀(i:Nat) (o:Oper),pre[i]?=some o->i ∉ ml->∃ t d,v08 o=some t/\o.dst=some d/\w08 d (ops.toList.drop m)=false/\(∀ x∈t,w08 x (ops.toList.drop m)=false/\k04 ml x pre 0=true)/\z05 i d (ops.toList.drop m)=true:=λhm i o hi hml=>by
  rcases b8 with h|h
  ·exfalso
   have:ops.toList.drop m = []:=by
    cases e:ops.toList.drop m with
    |nil=>rfl
    |cons x r=>rw[e]at h;cases h
   have:=List.drop_eq_nil_iff.1 this
   simp at this;omega
  ·have:=R09 h.1 i o hi
   rw[Nat.zero_add]at this
   rcases this with h1|h1
   ·exact absurd (W0a.1 h1) hml
   ·exact o0k h1
 have noselT:m<ops.size->e0i (ops.toList.drop m)=true:=λhm=>by
  rcases b8 with h|h
  ·exfalso
   have:ops.toList.drop m = []:=by
    cases e:ops.toList.drop m with
    |nil=>rfl
    |cons x r=>rw[e]at h;cases h
   have:=List.drop_eq_nil_iff.1 this
   simp at this;omega
  ·exact h.2
 have preD:∀(i j:Nat) (oi oj:Oper) (d:Nat),pre[i]?=some oi->pre[j]?=some oj->oi.dst=some d->oj.dst=some d->i=j:=λi j oi oj d h1 h2 h3 h4 =>
  hD i j (P9 oi) (P9 oj) d (by rw[Q7,h1];rfl) (by rw[Q7,h2];rfl) (by rw[P7];exact h3) (by rw[P7];exact h4)
 have preN:∀(i:Nat) (o:Oper) (d:Nat),pre[i]?=some o->o.dst=some d->d<st.n:=λi o d h1 h2 =>
  hn (P9 o) (List.mem_of_getElem? (i:=i) (by rw[Q7,h1];rfl)) d (by rw[P7];exact h2)
 have unl:∀ {listed:Array Bool} {j:Nat},listed.getD j true=false->listed.getD j false=false/\j<listed.size:=λ{listed j} hj=>by
  rcases Nat.lt_or_ge j listed.size with h|h
  ·simp[h]at hj ⊢;exact hj
  ·simp[Array.getElem?_eq_none h]at hj
 have allpre:∀ {listed:Array Bool} {a:Act} {w:World},(∀ j,j<pre.length->listed.getD j false=true)->V0a P h0 w0 pre st h A listed a w->Rest m a w:=λ{listed a w} hl hi =>
  o0q (K:=λst h=>doT (r03 P) (ops.toList.drop m) st h K) hD hn hsb hal hP hfin hl hi
 have tail:∀ {Q:Exit->Act->World->Prop} {k:Nat} {o:Oper} {a:Act} {w:World},ops[k]?=some o->Rest k a w->o.wp P a w (Rest (k+1)) Q:=λ{Q k o a w} ho hr=>by
  obtain⟨st',h',be,oe,H,hd,s'⟩:=hr
  have hk:k<ops.toList.length:=by simpa using (Array.getElem?_eq_some_iff.1 ho).1
  have e:ops.toList.drop k=o::ops.toList.drop (k+1):=by
   rw[List.drop_eq_getElem_cons hk]
   congr 1
   have:ops.toList[k]?=some o:=by simpa using ho
   rw[List.getElem?_eq_getElem hk]at this
   exact oJ this
  rw[e]at hd
  exact F0i s' hd
 have virt:m<ops.size->∀ {listed:Array Bool} {a:Act} {w:World},listed.size=ops.size->(∀ i,i<m->i∈ml->listed.getD i false=true)->V0a P h0 w0 pre st h A listed a w ->
   ∀ k,k<=pre.length->∃ l2 as,l2.size=ops.size/\(∀ i,i<k->l2.getD i false=true)/\(∀ i,k<=i->l2.getD i false=listed.getD i false)/\V0a P h0 w0 pre st h A l2 as w /\
    C0d as a (λu=>∃(i:Nat) (o:Oper),i<k/\pre[i]?=some o/\listed.getD i false=false/\o.dst=some u) /\
    ∀(i:Nat) (o:Oper) (t:List Nat) (d:Nat),i<k->pre[i]?=some o->listed.getD i false=false->v08 o=some t->o.dst=some d->D02 o a.eval=some (as.tmps.getD d undef):=by
  intro hmN listed a w hsz hml hA k
  induction k with
  |zero=>exact λ_=>⟨listed,a,hsz,λi hi=>by omega,λi _=>rfl,hA,⟨rfl,rfl,λ_ _=>rfl⟩,λi o t d hi=>by omega⟩
  |succ k ih =>
   intro hk
   obtain⟨l2,as,z1,z2,z3,z4,z5,z6⟩:=ih (by omega)
   cases hlk:listed.getD k false with
   |true =>
    refine⟨l2,as,z1,λi hi=>?_,λi hi=>z3 i (by omega),z4,⟨z5.1,z5.2.1,λu hu=>z5.2.2 u λ⟨i,o,q1,q2⟩=>hu ⟨i,o,by omega,q2⟩⟩,λi o t d hi q1 q2 q3 q4=>?_⟩
    ·by_cases e:i=k
     ·subst e;rw[z3 i (Nat.le_refl _)];exact hlk
     ·exact z2 i (by omega)
    ·have:i≠k:=λe=>by subst e;rw[hlk]at q2;cases q2
     exact z6 i o t d (by omega) q1 q2 q3 q4
   |false =>
    obtain⟨o,ho⟩:∃ o,pre[k]?=some o:=⟨pre[k],List.getElem?_eq_getElem (by omega)⟩
    have hkm:k<m:=by omega
    have hkml:k ∉ ml:=λh=>by rw[hml k hkm h]at hlk;cases hlk
    obtain⟨t,d,y1,y2,y3,y5,y6⟩:=lateOf hmN k o ho hkml
    have hg:=(v03 y1).1
    have hl2k:l2.getD k false=false:=by rw[z3 k (Nat.le_refl _)];exact hlk
    have hks:k<l2.size:=by rw[z1];omega
    have hun2:l2.getD k true=false:=by
     simp[hks]at hl2k ⊢;exact hl2k
    have hoL:ops.toList[k]?=some o:=by rw[hpg k hkm];exact ho
    have st1:=(R0q (Q:=λ_ _ _=>False) hD hn hB hdep hgd hP (λj o ho=>hall j o (Nat.zero_le _) ho) hsr hsb hal hun2 ho (λe he1 he2=>z2 e.on (hBB k o hoL e he1 he2)) z4).1 (by unfold Region.wanted;rw[hg])
    obtain⟨v,v1,v2⟩:=p0q y1 st1
    have hasz:as.tmps.size=st.n:=by
     obtain⟨_,_,_,_,_,_,iu,_,_⟩:=z4
     obtain⟨_,_,_,_,_,s,_⟩:=iu
     exact s.siz
    have htne:∀ x∈t,¬ ∃(i:Nat) (o:Oper),i<k/\pre[i]?=some o/\listed.getD i false=false/\o.dst=some x:=λx hx ⟨i,o',q1,q2,q3,q4⟩=>by
     have:=o05 (y5 x hx).2 i o' q2 q4
     rw[Nat.zero_add]at this
     rw[hml i (by omega) this]at q3;cases q3
    rw[m07 y1 λx hx=>z5.2.2 x (htne x hx)]at v1
    rw[y2]at v2
    refine⟨l2.setIfInBounds k true,as.put (some d) v,by simpa using z1,λi hi=>?_,λi hi=>?_,v2,⟨by simp[Act.put,z5.1],z5.2.1,λu hu=>?_⟩,λi o' t' d' hi q1 q2 q3 q4=>?_⟩
    ·by_cases e:k=i
     ·subst e;simp[hks]
     ·rw[getD_set_ne false e];exact z2 i (by omega)
    ·rw[getD_set_ne false (by omega)];exact z3 i (by omega)
    ·rw[w03,if_neg λe=>hu ⟨k,o,by omega,ho,hlk,by rw[y2,e.1]⟩]
     exact z5.2.2 u λ⟨i,o',q1,q2⟩=>hu ⟨i,o',by omega,q2⟩
    ·rw[w03]
     by_cases e:i=k
     ·subst e
      rw[ho]at q1;cases q1
      rw[y1]at q3;cases q3
      rw[y2]at q4;cases q4
      rw[if_pos ⟨rfl,by rw[hasz];exact preN i o d ho y2⟩]
      exact v1
     ·rw[if_neg λh=>e (preD i k o' o d' q1 ho q4 (by rw[y2,h.1]))]
      exact z6 i o' t' d' (by omega) q1 q2 q3 q4
 refine h0s (Inv:=Inv) hBB (λlisted a w j o hsz hun ho hrd hi=>?_) (λlisted a w hl hi=>?_) ops.size _ a w (by simp) (by simp[List.count_replicate]) ⟨λj o _ h=>?_,.inl ⟨λk _=>?_,V0a.start s⟩⟩
 rotate_left 2
 ·simp[Array.getElem?_replicate]at h
  split at h<;>cases h
 ·simp[Array.getElem?_replicate]
  split<;>simp
 rotate_left 1
 ·rcases hi.2 with⟨hm,hA⟩|⟨k,as,k1,k2,k3,k4,hr,lk,lt⟩
  ·have hms:ops.size<=m:=by
    rcases Nat.lt_or_ge m ops.size with h|h
    ·have:=hm m (Nat.le_refl _)
     rw[hl m h]at this;cases this
    ·exact h
   obtain⟨st',h',be,oe,H,hd,s'⟩:=allpre (λj hj=>hl j (by omega)) hA
   rw[List.drop_eq_nil_of_le (by simpa using hms)]at hd
   exact hQ a w st' h' be oe H hd s'
  ·have hk:k=ops.size:=by
    rcases Nat.lt_or_ge k ops.size with h|h
    ·have:=k4 k (Nat.le_refl _)
     rw[hl k h]at this;cases this
    ·omega
   subst hk
   obtain⟨st',h',be,oe,H,hd,s'⟩:=hr
   rw[List.drop_eq_nil_of_le (by simp)]at hd
   refine hQ a w st' h' be oe H hd (s'.like lk λu ⟨i,o,q1,q2,q3⟩=>?_)
   have:=(List.getElem?_eq_some_iff.1 q1).1
   rw[hl i (by omega)]at q2;cases q2
 ·obtain⟨hcl,hi⟩:=hi
  obtain⟨hjf,hjs⟩:=unl hun
  have hcl':∀(i:Nat) (oi:Oper),ops[i]?=some oi->(listed.setIfInBounds j true).getD i false=true->∀ e∈oi.after,Region.binds .any e=true->(listed.setIfInBounds j true).getD e.on false=true:=λi oi h1 h2 e he1 he2=>by
   by_cases hij:j=i
   ·subst hij
    rw[ho]at h1;cases h1
    exact getD_set_true (hrd e he1 he2)
   ·rw[getD_set_ne false hij]at h2
    exact getD_set_true (hcl i oi h1 h2 e he1 he2)
  have hoL:ops.toList[j]?=some o:=by simpa using ho
  have hjlt:j<ops.size:=(Array.getElem?_eq_some_iff.1 ho).1
  by_cases hjm:j<m
  ·rcases hi with⟨hm,hA⟩|⟨k,as,k1,k2,k3,k4,hr,lk,lt⟩
   ·have hop:pre[j]?=some o:=by rw[←hpg j hjm];exact hoL
    have st1:=R0q (Q:=Q) hD hn hB hdep hgd hP (λj o ho=>hall j o (Nat.zero_le _) ho) hsr hsb hal hun hop hrd hA
    have hyd:Region.wanted o (yielded ops a.tmps)=Region.wanted o (yielded (F5 pre).toArray a.tmps):=by
     unfold Region.wanted
     cases hg:o.guard with
     |none=>rfl
     |some p =>
      obtain⟨i,wv⟩:=p
      obtain⟨e,he1,he2,he3⟩:=l7 (hgd (P9 o) (List.mem_of_getElem? (i:=j) (by rw[Q7,hop];rfl)) i wv (by rw[D0i];exact hg))
      rw[C0i]at he1
      have hlt:=hBB j o hoL e he1 he2
      rw[he3]at hlt
      have hig:=hpg i (by omega)
      have:yielded ops a.tmps i=yielded (F5 pre).toArray a.tmps i:=by
       unfold yielded
       have e1:ops[i]?=pre[i]?:=by rw[←hig];simp
       have e2:(F5 pre).toArray[i]?=(pre[i]?).map P9:=by simp[Q7]
       rw[e1,e2]
       cases pre[i]? with
       |none=>rfl
       |some o0=>simp[P7]
      simp only[this]
    rw[hyd]
    have up:∀ a' w',V0a P h0 w0 pre st h A (listed.setIfInBounds j true) a' w'->Inv (listed.setIfInBounds j true) a' w':=λa' w' hx=>⟨hcl',.inl ⟨λk hk=>by rw[getD_set_ne false (by omega)];exact hm k hk,hx⟩⟩
    exact⟨λhw=>Oper.wp_mono up (st1.1 hw),λhw=>up _ _ (st1.2 hw)⟩
   ·have hop:pre[j]?=some o:=by rw[←hpg j hjm];exact hoL
    have hjml:j ∉ ml:=by
     rcases k3 j (by omega)with h|h
     ·rw[hjf]at h;cases h
     ·exact h.2
    obtain⟨t,d,y1,y2,y3,y5,y6⟩:=lateOf (by omega) j o hop hjml
    have hg:=(v03 y1).1
    refine⟨λ_=>?_,λhw=>by unfold Region.wanted at hw;rw[hg]at hw;cases hw⟩
    unfold Oper.wp
    rw[B0d y1 (lt j o t d hop hjf y1 y2) w]
    refine⟨hcl',.inr ⟨k,as,k1,k2,λi hi=>?_,λi hi=>?_,hr,⟨by rw[y2];simp[Act.put,lk.1],by rw[y2];exact lk.2.1,λu hu=>?_⟩,λi o' t' d' q1 q2 q3 q4=>?_⟩⟩
    ·rcases k3 i hi with h|h
     ·exact .inl (getD_set_true h)
     ·exact .inr h
    ·rw[getD_set_ne false (by omega)];exact k4 i hi
    ·rw[y2,w03]
     by_cases e:d=u
     ·subst e
      by_cases hlt:d<a.tmps.size
      ·rw[if_pos ⟨rfl,hlt⟩]
      ·rw[if_neg λh=>hlt h.2]
       have e1:∀(x:Act),¬ d<x.tmps.size->x.tmps.getD d undef=undef:=λx hx=>by
        simp[Array.getElem?_eq_none (Nat.le_of_not_lt hx)]
       rw[e1 a hlt,e1 as (by rw[lk.1];exact hlt)]
     ·rw[if_neg λh=>e h.1]
      refine lk.2.2 u λ⟨i,o',q1,q2,q3⟩=>?_
      by_cases e2:j=i
      ·subst e2
       rw[hop]at q1;cases q1
       rw[y2]at q3;cases q3
       exact e rfl
      ·exact hu ⟨i,o',q1,by rw[getD_set_ne false e2];exact q2,q3⟩
    ·have e2:j≠i:=λe2=>by subst e2;simp[hjs]at q2
     rw[getD_set_ne false e2]at q2
     have hi':=(List.getElem?_eq_some_iff.1 q1).1
     have himl:i ∉ ml:=by
      rcases k3 i (by omega)with h|h
      ·rw[q2]at h;cases h
      ·exact h.2
     obtain⟨t2,d2,x1,x2,x3,x5,x6⟩:=lateOf (by omega) i o' q1 himl
     rw[q3]at x1;cases x1
     rw[←lt i o' t' d' q1 q2 q3 q4]
     refine m07 q3 λx hx=>?_
     rw[y2,w03,if_neg λh=>?_]
     have:=o05 (x5 x hx).2 j o hop (by rw[y2,h.1])
     rw[Nat.zero_add]at this
     exact hjml this
  ·have hg:o.guard=none:=sq1 o (List.mem_of_getElem? (i:=j-m) (by rw[hdg];rw[show m+(j-m)=j by omega];exact hoL))
   have prev:m<j->listed.getD (j-1) false=true:=λhlt=>by
    have:=sq2 (j-m-1) o (by rw[hdg];rw[show m+(j-m-1+1)=j by omega];exact hoL)
    obtain⟨e,he1,he2,he3⟩:=l7 this
    have:=hrd e he1 he2
    rw[he3,show m+(j-m-1)=j-1 by omega]at this
    exact this
   refine⟨λ_=>?_,λhw=>by unfold Region.wanted at hw;rw[hg]at hw;cases hw⟩
   have hmt:o∈ops.toList.drop m:=List.mem_of_getElem? (i:=j-m) (by rw[hdg,show m+(j-m)=j by omega];exact hoL)
   have go:∀ as,(∀ i,i<j->listed.getD i false=true∨(i<m/\i ∉ ml))->(∀ i,j<=i->listed.getD i false=false)->Rest j as w->C0d as a (Dl listed)->Lat listed as a->o.wp P a w (Inv (listed.setIfInBounds j true)) Q:=λas q1 q2 hr lk lt=>by
    have hjD:∀ u,Dl (listed.setIfInBounds j true) u↔Dl listed u:=λu=>by
     constructor
     ·rintro⟨i,o',p1,p2,p3⟩
      have:=(List.getElem?_eq_some_iff.1 p1).1
      rw[getD_set_ne false (by omega)]at p2
      exact⟨i,o',p1,p2,p3⟩
     ·rintro⟨i,o',p1,p2,p3⟩
      have:=(List.getElem?_eq_some_iff.1 p1).1
      exact⟨i,o',p1,by rw[getD_set_ne false (by omega)];exact p2,p3⟩
    have lateU:∀(i:Nat) (o':Oper),pre[i]?=some o'->listed.getD i false=false->i ∉ ml:=λi o' p1 p2=>by
     have:=(List.getElem?_eq_some_iff.1 p1).1
     rcases q1 i (by omega)with h|h
     ·rw[p2]at h;cases h
     ·exact h.2
    refine Oper.wp_mono (λa' w' hx=>?_) (q0q (Q:=Q) lk (A0d (noselT (by omega)) o hmt) (λu hu ⟨i,o',p1,p2,p3⟩=>?_) (tail (Q:=λ_ _ _=>False) ho hr))
    ·obtain⟨as',hr',lk',⟨v1,hv1⟩,v2,hv2⟩:=hx
     have e1:∀ u,o.dst≠some u->as'.tmps.getD u undef=as.tmps.getD u undef:=λu hu=>by
      cases hd:o.dst with
      |none =>
       rw[hd]at hv1
       rcases hv1 with h|⟨x,h⟩<;>rw[h]<;>rfl
      |some d =>
       rw[hd]at hv1 hu
       rcases hv1 with h|⟨x,h⟩<;>rw[h,w03,if_neg λh=>hu (by rw[h.1])]
     have e2:∀ u,o.dst≠some u->a'.tmps.getD u undef=a.tmps.getD u undef:=λu hu=>by
      cases hd:o.dst with
      |none =>
       rw[hd]at hv2
       rcases hv2 with h|⟨x,h⟩<;>rw[h]<;>rfl
      |some d =>
       rw[hd]at hv2 hu
       rcases hv2 with h|⟨x,h⟩<;>rw[h,w03,if_neg λh=>hu (by rw[h.1])]
     refine⟨hcl',.inr ⟨j+1,as',by omega,by omega,λi hi=>?_,λi hi=>?_,hr',⟨lk'.1,lk'.2.1,λu hu=>lk'.2.2 u λh=>hu ((hjD u).2 h)⟩,λi o' t d p1 p2 p3 p4=>?_⟩⟩
     ·by_cases e:j=i
      ·subst e;left;simp[hjs]
      ·rw[getD_set_ne false e];exact q1 i (by omega)
     ·rw[getD_set_ne false (by omega)];exact q2 i (by omega)
     ·have hi':=(List.getElem?_eq_some_iff.1 p1).1
      rw[getD_set_ne false (by omega)]at p2
      obtain⟨t2,d2,x1,x2,x3,x5,x6⟩:=lateOf (by omega) i o' p1 (lateU i o' p1 p2)
      rw[p3]at x1;cases x1
      rw[p4]at x2;cases x2
      rw[e1 d (U08 x3 o hmt),m07 p3 λx hx=>e2 x (U08 (x5 x hx).1 o hmt)]
      exact lt i o' t d p1 p2 p3 p4
    ·obtain⟨t2,d2,x1,x2,x3,x5,x6⟩:=lateOf (by omega) i o' p1 (lateU i o' p1 p2)
     rw[p3]at x2;cases x2
     obtain⟨e,he1,he2,he3⟩:=l7 (D08 x6 o hmt hu)
     have:=hrd e he1 he2
     rw[he3,p2]at this;cases this
   rcases hi with⟨hm,hA⟩|⟨k,as,k1,k2,k3,k4,hr,lk,lt⟩
   ·have hjm':j=m:=by
     rcases Nat.lt_or_ge m j with h|h
     ·have:=prev h
      rw[hm (j-1) (by omega)]at this;cases this
     ·omega
    subst hjm'
    have hml:∀ i,i<j->i∈ml->listed.getD i false=true:=λi hi hmi=>by
     have:=T08 (G:=λi=>i=j∨listed.getD i false=true) (ops:=ops.toList) (λi' j' o' hG ho' he'=>?_) j [j] (λx hx => .inl (by simpa using hx)) i hmi
     ·rcases this with h|h
      ·omega
      ·exact h
     ·obtain⟨e,he1,he2,he3⟩:=l7 he'
      rw[←he3]
      right
      rcases hG with rfl|hG
      ·rw[hoL]at ho';cases ho'
       exact hrd e he1 he2
      ·exact hcl j' o' (by simpa using ho') hG e he1 he2
    obtain⟨l2,as,z1,z2,z3,z4,z5,z6⟩:=virt hjlt (by assumption) hml hA pre.length (Nat.le_refl _)
    refine go as (λi hi=>?_) hm (allpre (λi hi=>z2 i hi) z4) ⟨z5.1,z5.2.1,λu hu=>z5.2.2 u λ⟨i,o',p1,p2⟩=>hu ⟨i,o',p2⟩⟩ (λi o' t d p1 p2 p3 p4=>z6 i o' t d (List.getElem?_eq_some_iff.1 p1).1 p1 p2 p3 p4)
    by_cases h:i∈ml
    ·exact .inl (hml i hi h)
    ·exact .inr ⟨hi,h⟩
   ·have hjk:j=k:=by
     have h1:k<=j:=by
      rcases Nat.lt_or_ge j k with h|h
      ·rcases k3 j h with h2|h2
       ·rw[hjf]at h2;cases h2
       ·omega
      ·exact h
     rcases Nat.lt_or_ge k j with h|h
     ·have:=prev (by omega)
      rw[k4 (j-1) (by omega)]at this;cases this
     ·omega
    subst hjk
    exact go as k3 k4 hr lk lt
end
end Go.H
namespace Go.H
set_option linter.unusedVariables false
set_option linter.unusedSimpArgs false
section
variable {P:Program} {h0:Hp} {w0:World} {Q:Exit->Act->World->Prop} {ops:Array Oper} {K:RS->Prop}
theorem G0i{be:Nat->Nat}{oe:Nat->Value}{H:Hp}{rs:RS}{a:Act}{w:World}{o:Oper}{i:Nat}{Kr:RS->Prop}(s:Sim P h0 w0 be oe H rs.st rs.h a w)(r:h07 ops be oe rs a i)(ho:ops[i]?=some o)
  {ch:List (Nat×Bool)} {c:Bool} (hch:c00 rs.bs o.guard=some ch) (hc:cB rs.bs ch=some c) (he:evG P o ch c rs λav=>c0d o.dst i ch av rs Kr) :
  ∃ v rs',Kr rs'/\h07 ops be oe rs' (a.put o.dst v) (i+1)/\Sim P h0 w0 be oe H rs'.st rs'.h (a.put o.dst v) w/\Region.wanted o (yielded ops a.tmps)=c /\
   (c=true->∀ w',CW H w w'->o.quietAt P a (CW H w) w' v)/\(c=false->v=undef):=by
 obtain⟨av,hk,hq⟩:=M0m s r hc he
 have hw:=L0m r hch hc
 cases c with
 |true =>
  obtain⟨v,hg,hqv⟩:=hq rfl
  obtain⟨rs',k1,_,k3,k4⟩:=r04 s r ho hc (λ_=>hg) (λh=>by cases h) hk
  exact⟨v,rs',k1,k3,k4,hw,λ_=>hqv,λh=>by cases h⟩
 |false =>
  obtain⟨rs',k1,_,k3,k4⟩:=r04 (v:=undef) s r ho hc (λh=>by cases h) (λ_=>rfl) hk
  exact⟨undef,rs',k1,k3,k4,hw,(λh=>nomatch h),λ_=>rfl⟩
theorem d05(hQ:∀ rs a w be oe H,K rs->Sim P h0 w0 be oe H rs.st rs.h a w->Q .normal a w):∀(l:List Oper) (i:Nat) (rs:RS) (a:Act) (w:World) (be:Nat->Nat) (oe:Nat->Value) (H:Hp),
  (∀ j,l[j]?=ops[i+j]?)->Sim P h0 w0 be oe H rs.st rs.h a w->h07 ops be oe rs a i->R0b P l i rs K->wpList P ops Q l a w
 | [],i,rs,a,w,be,oe,H,_,s,_,he=>hQ rs a w be oe H he s
 |o::l,i,rs,a,w,be,oe,H,hl,s,r,he=>by
  have ho:ops[i]?=some o:=by simpa using (hl 0).symm
  have hl':∀ j,l[j]?=ops[i+1+j]?:=λj=>by have:=hl (j+1);simpa [Nat.add_assoc,Nat.add_comm 1 j] using this
  have gen:∀ ch c,c00 rs.bs o.guard=some ch->cB rs.bs ch=some c->(evG P o ch c rs λav=>c0d o.dst i ch av rs λrs=>R0b P l (i+1) rs K)->wpList P ops Q (o::l) a w:=by
   intro ch c hch hc he
   obtain⟨v,rs',k1,k2,k3,hw,hq,hn⟩:=G0i s r ho hch hc he
   unfold wpList
   rw[hw]
   cases c with
   |false =>
    rw[if_neg (by simp),←hn rfl]
    exact d05 hQ l (i+1) rs' _ w be oe H hl' k3 k2 k1
   |true =>
    rw[if_pos rfl]
    refine .inl (Oper.wp_of_quiet (C:=CW H w) (K:=λa'=>a'=a.put o.dst v) (P2.refl s.mv.vis) (λa' w' m e=>?_) ⟨v,hq rfl,rfl⟩)
    subst e
    exact d05 hQ l (i+1) rs' _ w' be oe H hl' (k3.still (hf:=H) (λ_ _ h=>h) m) k2 k1
  simp only[R0b]at he
  split at he
  ·rename_i hg hp
   have hw:Region.wanted o (yielded ops a.tmps)=true:=by unfold Region.wanted;rw[hg]
   unfold wpList
   rw[if_pos hw]
   refine .inl (Oper.wp_mono (λa' w' hn=>?_) (Q9 (Q:=Q) s he))
   obtain⟨av,st',h',v,be',oe',H',hk,rfl,s',g,gr⟩:=hn
   obtain⟨rs',k1,_,k3,k4⟩:=r04 (rs := { rs with st:=st',h:=h' }) (ch:=[]) (c:=true) (v:=v) s' (r.grow gr) ho rfl (λ_=>g) (λh=>by cases h) hk
   exact d05 hQ l (i+1) rs' _ w' be' oe' H' hl' k4 k3 k1
  ·split at he
   ·rename_i ch hch
    split at he
    ·rename_i c hc
     exact gen ch c hch hc he
    ·exact he.elim
   ·exact he.elim
theorem K0f{be:Nat->Nat}{oe:Nat->Value}{H:Hp}{w:World}(hQ:∀ rs a w be oe H,K rs->Sim P h0 w0 be oe H rs.st rs.h a w->Q .normal a w):∀(l:List Oper) (i:Nat) (rs:RS) (a:Act),
  (∀ j,l[j]?=ops[i+j]?)->Sim P h0 w0 be oe H rs.st rs.h a w->h07 ops be oe rs a i->evQ P l i rs K->wpQuiet P ops (CW H w) (λa'=>∀ w',CW H w w'->Q .normal a' w') l a
 | [],i,rs,a,_,s,_,he=>λw' m=>hQ rs a w' be oe H he (s.still (hf:=H) (λ_ _ h=>h) m)
 |o::l,i,rs,a,hl,s,r,he=>by
  have ho:ops[i]?=some o:=by simpa using (hl 0).symm
  have hl':∀ j,l[j]?=ops[i+1+j]?:=λj=>by have:=hl (j+1);simpa [Nat.add_assoc,Nat.add_comm 1 j] using this
  simp only[evQ]at he
  split at he
  ·rename_i ch hch
   split at he
   ·rename_i c hc
    obtain⟨v,rs',k1,k2,k3,hw,hq,hn⟩:=G0i s r ho hch hc he
    have ih:=K0f hQ l (i+1) rs' _ hl' k3 k2 k1
    unfold wpQuiet
    rw[hw]
    cases c with
    |false=>rw[if_neg (by simp),←hn rfl];exact ih
    |true=>rw[if_pos rfl];exact⟨v,hq rfl,ih⟩
   ·exact he.elim
  ·exact he.elim
theorem h07.init{be:Nat->Nat}{oe:Nat->Value}{st:St}{h:Hp}{a:Act}:h07 ops be oe ⟨st,h,[],[]⟩ a 0 :=
 ⟨(λx hx=>nomatch hx),(λx hx=>nomatch hx),(λd ch av hl=>nomatch hl)⟩
def e0h(P:Program)(h0:Hp)(w0:World)(Q:Ex->St->Hp->Prop):Exit->Act->World->Prop
 | .normal,a,w=>∃ st h be oe H,Q .normal st h/\Sim P h0 w0 be oe H st h a w
 | .exit i,a,w=>∃ st h be oe H,Q (.exit i) st h/\Sim P h0 w0 be oe H st h a w
 | .ret,a,w=>∃ st h be oe H,Q .ret st h/\Sim P h0 w0 be oe H st h a w
 |_,_,_=>False
variable {be:Nat->Nat} {oe:Nat->Value} {H:Hp} {st:St} {h:Hp} {a:Act} {w:World}
theorem f0h{Q:Ex->St->Hp->Prop}{id:Nat}{d:Bool}(s:Sim P h0 w0 be oe H st h a w)(he:ev P (.region id ops d) Q st h):(Code.region id ops d).wp P (e0h P h0 w0 Q) a w:=by
 cases d with
 |false =>
  simp only[ev]at he
  split at he
  ·exact wp_region_list ((z0i (h0:=h0) (w0:=w0) he.1 he.2 λa w st h be oe H hk s=>⟨st,h,be,oe,H,hk,s⟩).2 s)
  ·exact wp_region_list (d05 (K:=λrs=>Q .normal rs.st rs.h) (λrs a w be oe H hk s=>⟨rs.st,rs.h,be,oe,H,hk,s⟩) _ 0 ⟨st,h,[],[]⟩ a w be oe H (λj=>by simp) s h07.init he)
 |true =>
  rcases he with⟨⟨h1,h2⟩,he⟩|he|he|⟨⟨h1,h2⟩,he⟩|⟨m,⟨h1,h2⟩,he⟩
  ·refine wp_region_quiet (C:=CW H w) h1 h2 (P2.drawn s.mv.vis _ (by first|exact Nat.le_succ _|exact Nat.le_add_right _ _|exact Nat.le_refl _)) ?_
   exact K0f (K:=λrs=>Q .normal rs.st rs.h) (λrs a w be oe H hk s=>⟨rs.st,rs.h,be,oe,H,hk,s⟩) _ 0 ⟨st,h,[],[]⟩ a (λj=>by simp) s h07.init he
  ·exact he.elim
  ·split at he
   ·obtain⟨⟨h1,h2⟩,he⟩:=he
    exact wp_region_any h1 (P0m (s.still (hf:=H) (λ_ _ h=>h) (P2.drawn s.mv.vis _ (by first|exact Nat.le_succ _|exact Nat.le_add_right _ _|exact Nat.le_refl _))) h2 he λa w st h be oe H hk s=>⟨st,h,be,oe,H,hk,s⟩)
   ·rename_i o hp
    obtain⟨⟨h1,h2⟩,he⟩:=he
    simp only[Bool.and_eq_true]at h2
    obtain⟨e1,hg,hall⟩:=R0m hp
    have s':=s.still (hf:=H) (λ_ _ h=>h) (P2.drawn s.mv.vis (w.drawn+1) (by first|exact Nat.le_succ _|exact Nat.le_add_right _ _|exact Nat.le_refl _))
    obtain⟨Inv,k1,k2,k3,k4⟩:=v0i (ops:=(T00 ops.toList).toArray) (Q:=e0h P h0 w0 Q) (R:=λa w=>o.wp P a w (λa w=>e0h P h0 w0 Q .normal a w) (e0h P h0 w0 Q)) s' (by simpa using h2.1) (by simpa using he) λa w st h be oe H hk s=>by
     refine Oper.wp_mono (λa' w' hn=>?_) (Q9 (Q:=e0h P h0 w0 Q) s hk)
     obtain⟨av,st',h',v,be',oe',H',hk,rfl,s',g,gr⟩:=hn
     obtain⟨rs',k1,k2,k3,k4⟩:=r04 (ops := #[o]) (i:=0) (rs:=⟨st',h',[],[]⟩) (ch:=[]) (c:=true) (v:=v) s' h07.init (by rfl) rfl (λ_=>g) (λh=>by cases h) hk
     exact⟨rs'.st,rs'.h,be',oe',H',k1,k4⟩
    exact wp_region_any h1 (f0s (ops0:=(T00 ops.toList).toArray) (o:=o) (Inv:=Inv) (by simpa using e1) (λk o hk e he' hb=>by
     have:=g03 h2.2 k o hk e he' hb
     omega) hg (λk hk=>n05 hall k (by simpa using hk) (by simp at hk;omega)) k2 k3 k4)
  ·exact wp_region_any h1 ((z0i (h0:=h0) (w0:=w0) h2 he λa w st h be oe H hk s=>⟨st,h,be,oe,H,hk,s⟩).1 (s.still (hf:=H) (λ_ _ h=>h) (P2.drawn s.mv.vis _ (by first|exact Nat.le_succ _|exact Nat.le_add_right _ _|exact Nat.le_refl _))))
  ·exact wp_region_any h1 (T0m h2 he (λa w st h be oe H hk s=>⟨st,h,be,oe,H,hk,s⟩) (s.still (hf:=H) (λ_ _ h=>h) (P2.drawn s.mv.vis _ (by first|exact Nat.le_succ _|exact Nat.le_add_right _ _|exact Nat.le_refl _))))
end
end Go.H
namespace Go.H
set_option linter.unusedVariables false
set_option linter.unusedSimpArgs false
theorem x03(x:Nat):∀ l:List Nat,i08 x l=true↔x∈l
 | []=>by simp[i08]
 |y::r=>by
  simp only[i08]
  cases h:Nat.beq x y with
  |true=>simp[Nat.eq_of_beq_eq_true h]
  |false=>simp[x03 x r,Nat.ne_of_beq_eq_false h]
theorem m06{x:Nat}{l:List Nat}(h:i08 x l=false):x ∉ l:=λhm=>by rw[(x03 x l).2 hm]at h;cases h
theorem L0f:∀(l:List Nat) (K:List Nat->Prop),K0a l K=K l
 | [],K=>rfl
 |x::r,K=>by simp only[K0a,L0f r]
theorem S09:∀(n:Nat) {K:List Value->Prop},C09 n K->∀ vs:List Value,vs.length=n->K vs
 |0,K,h,vs,hl=>by rw[List.length_eq_zero_iff.1 hl];exact h
 |n+1,K,h,[],hl=>by cases hl
 |n+1,K,h,v::vs,hl=>S09 n (h v) vs (by simpa using hl)
theorem T09:∀(n:Nat) {K:List (List (List Value))->Prop},D09 n K->∀ os:List (List (List Value)),os.length=n->K os
 |0,K,h,vs,hl=>by rw[List.length_eq_zero_iff.1 hl];exact h
 |n+1,K,h,[],hl=>by cases hl
 |n+1,K,h,v::vs,hl=>T09 n (h v) vs (by simpa using hl)
theorem V08{α:Type}:∀(a b:List α) (K:List α->List α->Prop),b07 a.length (a++b) K=K a b
 | [],b,K=>rfl
 |x::a,b,K=>by simp only[List.length_cons,List.cons_append,b07,V08 a b]
theorem X0a(e:St):∀(l:List Nat) {K:List Value->Prop},d0q l e K->∃ vs,vs.length=l.length/\K vs /\
  ∀ acc t,(Z2 (L0a l vs acc) t=Z2 acc t/\t ∉ l)∨(∃ v,Z2 (L0a l vs acc) t = .val v/\rdA e (Z2 e.fr t) = .val v)
 | [],K,h=>⟨[],rfl,h,λacc t => .inl ⟨rfl,by simp⟩⟩
 |s::r,K,h=>by
  simp only[d0q]at h
  split at h
  ·rename_i v hv
   obtain⟨vs,h1,h2,h3⟩:=X0a e r h
   refine⟨v::vs,by simp[h1],h2,λacc t=>?_⟩
   rcases h3 ((s,.val v)::acc) t with⟨h4,h5⟩|h4
   ·by_cases e':s=t
    ·subst e'
     exact .inr ⟨v,by simp only[L0a,h4,T3,if_true],hv⟩
    ·exact .inl ⟨by simp only[L0a,h4,T3,if_neg e'],by simp[h5,Ne.symm e']⟩
   ·exact .inr h4
  ·exact h.elim
def x04(B:Nat->Nat->Prop):List l5->Prop
 | []=>True
 | .val _::r=>x04 B r
 | .own i k::r=>B i k/\x04 B r
def ShC(e:St):List l5->List l5->Prop
 | [],[]=>True
 | .val _::r,.val _::r'=>ShC e r r'
 | .own i _::r,.own j k'::r'=>i=j/\(∃ b,rdA e (.own j k') = .own j b)/\ShC e r r'
 |_,_=>False
def EqC(e:St):List l5->List l5->Prop
 | [],[]=>True
 | .val v::r,.val v'::r'=>v=v'/\EqC e r r'
 | .own i _::r,.own j k'::r'=>i=j/\(∃ b,rdA e (.own j k') = .own j b)/\EqC e r r'
 |_,_=>False
theorem EqC.sh{e:St}:∀ {cs cs':List l5},EqC e cs cs'->ShC e cs cs'
 | [],[],_=>trivial
 | .val _::r,.val _::r',h=>EqC.sh (cs:=r) (cs':=r') h.2
 | .own i _::r,.own j k'::r',h=>⟨h.1,h.2.1,EqC.sh (cs:=r) (cs':=r') h.2.2⟩
 | [],_::_,h=>h.elim
 | .val _::_,[],h=>h.elim
 | .own _ _::_,[],h=>h.elim
 | .val _::_,.own _ _::_,h=>h.elim
 | .own _ _::_,.val _::_,h=>h.elim
theorem U09{e:St}{i k a b:Nat}(h:rdA e (.own i k) = .own a b):a=i/\b=k:=by
 simp only[rdA]at h
 split at h
 ·split at h
  ·split at h
   ·cases h;exact⟨rfl,rfl⟩
   ·cases h
  ·cases h
 ·cases h
theorem n06{hd e:St}:∀(cs cs':List l5),D05 hd e cs cs'=true->ShC e cs cs'
 | [],[],_=>trivial
 | .val _::r,.val _::r',h=>n06 r r' h
 | .own i _::r,.own j k'::r',h=>by
  simp only[D05]at h
  split at h
  ·rename_i a b hb hr
   obtain⟨rfl,_⟩:=U09 hr
   exact⟨Nat.eq_of_beq_eq_true hb,⟨_,hr⟩,n06 r r' h⟩
  ·cases h
 | [],_::_,h=>by cases h
 | .val _::_,[],h=>by cases h
 | .own _ _::_,[],h=>by cases h
 | .val _::_,.own _ _::_,h=>by cases h
 | .own _ _::_,.val _::_,h=>by cases h
theorem Y0a(e:St):∀(cs cs':List l5),ShC e cs cs'->∀ {K:List Value->Prop},h0i cs' e K->∃ vs,K vs/\∃ cs2,(∀(rest:List Value) (K2:List l5->List Value->Prop),l03 cs (vs++rest) K2=K2 cs2 rest)/\EqC e cs2 cs' /\
  (∀ B,x04 B cs->x04 B cs2)
 | [],[],_,K,h=>⟨[],h,[],λ_ _=>rfl,trivial,λ_ h=>h⟩
 | .val _::r,.val v::r',hs,K,h=>by
  obtain⟨vs,h1,cs2,h2,h3,h4⟩:=Y0a e r r' hs (K:=λvs=>K (v::vs)) h
  exact⟨v::vs,h1,.val v::cs2,λrest K2=>by simp only[List.cons_append,l03,h2],⟨rfl,h3⟩,λB hB=>h4 B hB⟩
 | .own i k::r,.own j k'::r',hs,K,h=>by
  obtain⟨vs,h1,cs2,h2,h3,h4⟩:=Y0a e r r' hs.2.2 (K:=K) h
  exact⟨vs,h1,.own i k::cs2,λrest K2=>by simp only[l03,h2],⟨hs.1,hs.2.1,h3⟩,λB hB=>⟨hB.1,h4 B hB.2⟩⟩
 | [],_::_,h,_,_=>h.elim
 | .val _::_,[],h,_,_=>h.elim
 | .own _ _::_,[],h,_,_=>h.elim
 | .val _::_,.own _ _::_,h,_,_=>h.elim
 | .own _ _::_,.val _::_,h,_,_=>h.elim
theorem Z0a(e:St):∀(cs:List l5) {K:List Value->Prop},h0i cs e K->∃ vs,K vs/\∀(rest:List Value) (K2:List l5->List Value->Prop),l03 cs (vs++rest) K2=K2 cs rest
 | [],K,h=>⟨[],h,λ_ _=>rfl⟩
 | .val v::r,K,h=>by
  obtain⟨vs,h1,h2⟩:=Z0a e r (K:=λvs=>K (v::vs)) h
  exact⟨v::vs,h1,λrest K2=>by simp only[List.cons_append,l03,h2]⟩
 | .own i k::r,K,h=>by
  obtain⟨vs,h1,h2⟩:=Z0a e r (K:=K) h
  exact⟨vs,h1,λrest K2=>by simp only[l03,h2]⟩
theorem M0f{α:Type}(l:List α)(i:Nat)(x:α)(h:nth l i=some x):r00 l i x=l:=by
 rw[l04]at h
 obtain⟨hi,hx⟩:=List.getElem?_eq_some_iff.1 h
 rw[F09,←hx]
 exact List.set_getElem_self hi
theorem t0l(e:St):∀(is:List Nat) {K:List Value->Prop},k0d is e K->∃ ws,K ws/\∀ K2,A05 is ws e.bx K2=K2 e.bx
 | [],K,h=>⟨[],h,λ_=>rfl⟩
 |i::r,K,h=>by
  simp only[k0d]at h
  split at h
  ·rename_i cs ty hn
   obtain⟨vs,h1,h2⟩:=Z0a e cs h
   obtain⟨ws,h3,h4⟩:=t0l e r h1
   refine⟨vs++ws,h3,λK2=>?_⟩
   simp only[A05,hn,h2,M0f _ _ _ hn,h4]
  ·exact h.elim
theorem u0l(e:St):∀(is:List Nat) {K:List (List (List Value))->Prop},w0f is e K->∃ os,os.length=is.length/\K os/\∀ K2,B05 is os e.ow K2=K2 e.ow
 | [],K,h=>⟨[],rfl,h,λ_=>rfl⟩
 |i::r,K,h=>by
  simp only[w0f]at h
  split at h
  ·rename_i s ty sz by_ nn xs hn
   obtain⟨ws,h2,h3,h4⟩:=u0l e r h
   refine⟨xs::ws,by simp[h2],h3,λK2=>?_⟩
   simp only[B05,hn,M0f _ _ _ hn,h4]
  ·exact h.elim
theorem v0l(e:St):∀(is:List Nat) (bx:List BSt),(∀ i∈is,∃ cs ty cs',nth bx i=some (.live cs ty)/\nth e.bx i=some (.live cs' ty)/\ShC e cs cs')->∀ {K:List Value->Prop},k0d is e K ->
  ∃ ws,K ws/\∃ bx2,(∀ K2,A05 is ws bx K2=K2 bx2)/\bx2.length=bx.length/\(∀ i,i ∉ is->nth bx2 i=nth bx i) /\
   (∀ i∈is,∃ cs2 ty cs',nth bx2 i=some (.live cs2 ty)/\nth e.bx i=some (.live cs' ty)/\EqC e cs2 cs') /\
   (∀ B,(∀ i cs ty,nth bx i=some (.live cs ty)->x04 B cs)->(∀ i cs ty,nth bx2 i=some (.live cs ty)->x04 B cs))
 | [],bx,_,K,h=>⟨[],h,bx,λ_=>rfl,rfl,λ_ _=>rfl,by simp,λ_ h=>h⟩
 |i::r,bx,hs,K,h=>by
  obtain⟨cs,ty,cs',h1,h2,h3⟩:=hs i mS
  simp only[k0d,h2]at h
  obtain⟨vs,k1,cs2,k2,k3,k4⟩:=Y0a e cs cs' h3 h
  have hlt:=F01 h1
  have hs1:∀ j∈r,∃ cs1 ty1 cs1',nth (r00 bx i (.live cs2 ty)) j=some (.live cs1 ty1)/\nth e.bx j=some (.live cs1' ty1)/\ShC e cs1 cs1':=λj hj=>by
   rw[Z6 _ _ _ hlt]
   by_cases ej:j=i
   ·subst ej
    rw[if_pos rfl]
    exact⟨cs2,ty,cs',rfl,h2,k3.sh⟩
   ·rw[if_neg ej]
    exact hs j (mC _ hj)
  obtain⟨ws,m1,bx2,m2,m3,m4,m5,m6⟩:=v0l e r _ hs1 k1
  refine⟨vs++ws,m1,bx2,λK2=>by simp only[A05,h1,k2,m2],by rw[m3,U04],λj hj=>?_,λj hj=>?_,λB hB=>m6 B λj cs3 ty3 hj=>?_⟩
  ·simp only[List.mem_cons,not_or]at hj
   rw[m4 j hj.2,Z6 _ _ _ hlt,if_neg hj.1]
  ·by_cases hr:j∈r
   ·exact m5 j hr
   ·rcases List.mem_cons.1 hj with rfl|hj
    ·refine⟨cs2,ty,cs',?_,h2,k3⟩
     rw[m4 j hr,Z6 _ _ _ hlt,if_pos rfl]
    ·exact absurd hj hr
  ·rw[Z6 _ _ _ hlt]at hj
   split at hj
   ·cases hj
    exact k4 B (hB i cs ty h1)
   ·exact hB j cs3 ty3 hj
theorem w0l(en:St):∀(is:List Nat) (ow:List Own),(∀ i∈is,∃ s e sz by_ nn xs0 s' nn' xs,nth ow i=some ⟨s,.live e sz by_ nn xs0⟩/\nth en.ow i=some ⟨s',.live e sz by_ nn' xs⟩/\(nn=true->nn'=true)) ->
  ∀ {K:List (List (List Value))->Prop},w0f is en K->∃ os,os.length=is.length/\K os/\∃ ow2,(∀ K2,B05 is os ow K2=K2 ow2)/\(∀ i,i ∉ is->nth ow2 i=nth ow i) /\
   (∀ i∈is,∃ s e sz by_ nn s' nn' xs,nth ow2 i=some ⟨s,.live e sz by_ nn xs⟩/\nth en.ow i=some ⟨s',.live e sz by_ nn' xs⟩/\(nn=true->nn'=true)) /\
   (∀ i,(nth ow2 i).map (·.stamp)=(nth ow i).map (·.stamp))
 | [],ow,_,K,h=>⟨[],rfl,h,ow,λ_=>rfl,λ_ _=>rfl,by simp,λ_=>rfl⟩
 |i::r,ow,hs,K,h=>by
  obtain⟨s,e,sz,by_,nn,xs0,s',nn',xs,h1,h2,h3⟩:=hs i mS
  simp only[w0f,h2]at h
  have hlt:=F01 h1
  have hs1:∀ j∈r,∃ s0 e0 sz0 by0 nn0 xs0 s' nn' xs',nth (r00 ow i ⟨s,.live e sz by_ nn xs⟩) j=some ⟨s0,.live e0 sz0 by0 nn0 xs0⟩/\nth en.ow j=some ⟨s',.live e0 sz0 by0 nn' xs'⟩/\(nn0=true->nn'=true):=λj hj=>by
   rw[Z6 _ _ _ hlt]
   by_cases ej:j=i
   ·subst ej
    rw[if_pos rfl]
    exact⟨s,e,sz,by_,nn,xs,s',nn',xs,rfl,h2,h3⟩
   ·rw[if_neg ej]
    exact hs j (mC _ hj)
  obtain⟨os,m0,m1,ow2,m2,m4,m5,m6⟩:=w0l en r _ hs1 h
  refine⟨xs::os,by simp[m0],m1,ow2,λK2=>by simp only[B05,h1,m2],λj hj=>?_,λj hj=>?_,λj=>?_⟩
  ·simp only[List.mem_cons,not_or]at hj
   rw[m4 j hj.2,Z6 _ _ _ hlt,if_neg hj.1]
  ·by_cases hr:j∈r
   ·exact m5 j hr
   ·rcases List.mem_cons.1 hj with rfl|hj
    ·refine⟨s,e,sz,by_,nn,s',nn',xs,?_,h2,h3⟩
     rw[m4 j hr,Z6 _ _ _ hlt,if_pos rfl]
    ·exact absurd hj hr
  ·rw[m6 j,Z6 _ _ _ hlt]
   split
   ·rename_i e';subst e';rw[h1];rfl
   ·rfl
theorem n07{A:Ann}{hd e:St}:∀(i:Nat) (bx bx':List BSt),M0a A hd e i bx bx'->∀ k b,nth bx k=some b ->
  (i+k∈A.boxes/\∃ cs ty cs',b = .live cs ty/\nth bx' k=some (.live cs' ty)/\ShC e cs cs')∨(i+k ∉ A.boxes/\nth bx' k=some b/\i0k A.owns b=true)
 |i,[],_,_,k,b,hk=>by cases k<;>cases hk
 |i,x::r,[],h,_,_,_=>by cases h
 |i,x::r,y::r',h,k,b,hk=>by
  simp only[M0a]at h
  split at h
  ·rename_i hm
   split at h
   ·rename_i cs ty cs' ty'
    split at h
    ·rename_i hb hc
     have:=Nat.eq_of_beq_eq_true hb
     subst this
     cases k with
     |zero=>cases hk;exact .inl ⟨(x03 _ _).1 hm,cs,ty,cs',rfl,rfl,n06 _ _ hc⟩
     |succ k=>have:=n07 (i+1) r r' h k b hk;rwa [show i+1+k=i+(k+1) from by omega]at this
    ·exact h.elim
   ·exact h.elim
  ·rename_i hm
   split at h
   ·rename_i hcl
    obtain⟨rfl,h⟩:=h
    cases k with
    |zero=>cases hk;exact .inr ⟨m06 hm,rfl,hcl⟩
    |succ k=>have:=n07 (i+1) r r' h k b hk;rwa [show i+1+k=i+(k+1) from by omega]at this
   ·exact h.elim
theorem o07{A:Ann}:∀(i:Nat) (ow ow':List Own),N0a A i ow ow'->∀ k b,nth ow k=some b ->
  (i+k∈A.owns/\∃ s e sz by_ nn xs0 s' nn' xs,b=⟨s,.live e sz by_ nn xs0⟩/\nth ow' k=some ⟨s',.live e sz by_ nn' xs⟩/\(nn=true->nn'=true)/\(i+k∈A.kept->s=s'))∨(i+k ∉ A.owns/\nth ow' k=some b)
 |i,[],_,_,k,b,hk=>by cases k<;>cases hk
 |i,x::r,[],h,_,_,_=>by cases h
 |i,x::r,y::r',h,k,b,hk=>by
  simp only[N0a]at h
  split at h
  ·rename_i hm
   split at h
   ·rename_i s e sz by_ nn xs0 s' e' sz' by' nn' xs
    split at h
    ·rename_i hb1 hb2 hb3 hb4 hb5
     have:=Nat.eq_of_beq_eq_true hb1
     subst this
     have:=Nat.eq_of_beq_eq_true hb2
     subst this
     have:=Nat.eq_of_beq_eq_true hb3
     subst this
     cases k with
     |zero=>cases hk;exact .inl ⟨(x03 _ _).1 hm,_,_,_,_,_,_,_,_,_,rfl,rfl,(λh=>by subst h;exact hb4),λh=>by rw[show i08 i A.kept=true from(x03 _ _).2 h]at hb5;exact Nat.eq_of_beq_eq_true hb5⟩
     |succ k=>have:=o07 (i+1) r r' h k b hk;rwa [show i+1+k=i+(k+1) from by omega]at this
    ·exact h.elim
   ·exact h.elim
  ·rename_i hm
   obtain⟨rfl,h⟩:=h
   cases k with
   |zero=>cases hk;exact .inr ⟨m06 hm,rfl⟩
   |succ k=>have:=o07 (i+1) r r' h k b hk;rwa [show i+1+k=i+(k+1) from by omega]at this
end Go.H
namespace Go.H
set_option linter.unusedVariables false
set_option linter.unusedSimpArgs false
def V09(A:Ann)(st:St):AV->Prop
 | .val _ | .hel _ _ _ _ | .dead=>True
 | .agg cs=>l0l cs=true
 | .box i _=>i<st.bx.length
 | .own i k=>(i ∉ A.owns∨i∈A.kept)/\stamp st i=some k
 | .oel _ _ _ _ _=>False
theorem x0l{st:St}{av:AV}{i off:Nat}(h:rdA st av = .box i off):i<st.bx.length:=by
 cases av with
 |box j o =>
  simp only[rdA]at h
  split at h
  ·rename_i hn;cases h;exact F01 hn
  ·cases h
  ·cases h
 |own j k =>
  simp only[rdA]at h
  split at h
  ·split at h
   ·split at h<;>cases h
   ·cases h
  ·cases h
 |oel j s idx sz k =>
  simp only[rdA]at h
  split at h
  ·split at h<;>cases h
  ·cases h
 |_=>cases h
theorem a0b{st:St}{av:AV}{i k:Nat}(h:rdA st av = .own i k):stamp st i=some k:=by
 obtain⟨e,sz,by_,nn,xs,hn⟩:=b06 h
 simp[stamp,hn]
theorem W08(A:Ann)(ds:List Nat)(st:St):∀(l:List (Nat×AV)) {K:List (Nat×AV)->Prop},C05 A ds st l K->∃ sta,K sta/\∀ t,t ∉ ds ->
  Z2 sta t = .dead∨(Z2 sta t=rdA st (Z2 l t)/\V09 A st (Z2 sta t))
 | [],K,h=>⟨[],h,λt _ => .inl rfl⟩
 |(s,av)::r,K,h=>by
  have put:∀ av',(av' = .dead∨(av'=rdA st av/\V09 A st av'))->(C05 A ds st r λl=>K ((s,av')::l))->∃ sta,K sta/\∀ t,t ∉ ds ->
    Z2 sta t = .dead∨(Z2 sta t=rdA st (Z2 ((s,av)::r) t)/\V09 A st (Z2 sta t)):=by
   intro av' hav h
   obtain⟨sta,h1,h2⟩:=W08 A ds st r h
   refine⟨_,h1,λt ht=>?_⟩
   rw[T3,T3]
   by_cases e:s=t
   ·rw[if_pos e,if_pos e];exact hav
   ·rw[if_neg e,if_neg e];exact h2 t ht
  simp only[C05]at h
  split at h
  ·rename_i hm
   obtain⟨sta,h1,h2⟩:=W08 A ds st r h
   refine⟨sta,h1,λt ht=>?_⟩
   rw[T3,if_neg (λe=>ht (by rw[←e];exact(x03 _ _).1 hm))]
   exact h2 t ht
  ·split at h
   ·rename_i i k hr
    split at h
    ·exact put _ (.inl rfl) h
    ·rename_i hm
     refine put _ (.inr ⟨hr.symm,?_,a0b hr⟩) h
     cases h1:i08 i A.owns with
     |false=>exact .inl (m06 h1)
     |true =>
      cases h2:i08 i A.kept with
      |true=>exact .inr ((x03 _ _).1 h2)
      |false=>exact absurd h2 (hm h1)
   ·exact put _ (.inl rfl) h
   ·rename_i cs hr
    split at h
    ·rename_i hno
     exact put _ (.inr ⟨hr.symm,hno⟩) h
    ·exact put _ (.inl rfl) h
   ·rename_i h1 h2 h3
    refine put _ (.inr ⟨rfl,?_⟩) h
    cases hr:rdA st av with
    |own i k=>exact absurd hr (h1 i k)
    |oel i s0 idx sz k=>exact absurd hr (h2 i s0 idx sz k)
    |agg cs=>exact absurd hr (h3 cs)
    |box i o=>exact x0l hr
    |val v=>trivial
    |hel s0 idx sz k=>trivial
    |dead=>trivial
def H0i(st:St)(t:Nat)(av:AV):Prop :=
 av = .dead∨(∃ i k,av = .own i k/\stamp st i=some k/\rdA st (Z2 st.fr t) = .own i k)∨(∃ i o,av = .box i o/\i<st.bx.length/\rdA st (Z2 st.fr t) = .box i o)
theorem X08(A:Ann)(st:St):∀(l:List Nat) (acc:List (Nat×AV)) {K:List (Nat×AV)->Prop},x08 A st l acc K->(∀ p∈acc,H0i st p.1 p.2) ->
  ∃ dyn,K dyn/\(∀ p∈dyn,p.1∈l∨p∈acc)/\(∀ p∈dyn,H0i st p.1 p.2)/\(∀ t∈l,t ∉ A.vars->∃ av,(t,av)∈dyn)/\(∀ p∈acc,p∈dyn)
 | [],acc,K,h,ha=>⟨acc,h,λp hp => .inr hp,ha,by simp,λ_ h=>h⟩
 |s::r,acc,K,h,ha=>by
  have put:∀ av',H0i st s av'->x08 A st r ((s,av')::acc) K->∃ dyn,K dyn/\(∀ p∈dyn,p.1∈s::r∨p∈acc)/\(∀ p∈dyn,H0i st p.1 p.2)/\(∀ t∈s::r,t ∉ A.vars->∃ av,(t,av)∈dyn)/\(∀ p∈acc,p∈dyn):=by
   intro av' hav h
   obtain⟨dyn,h1,h2,h3,h4,h5⟩:=X08 A st r _ h (λp hp=>by
    rcases List.mem_cons.1 hp with rfl|hp
    ·exact hav
    ·exact ha p hp)
   refine⟨dyn,h1,λp hp=>?_,h3,λt ht hv=>?_,λp hp=>h5 p (mC _ hp)⟩
   ·rcases h2 p hp with h|h
    ·exact .inl (mC _ h)
    ·rcases List.mem_cons.1 h with rfl|h
     ·exact .inl mS
     ·exact .inr h
   ·rcases List.mem_cons.1 ht with rfl|ht
    ·exact⟨av',h5 _ mS⟩
    ·exact h4 t ht hv
  simp only[x08]at h
  split at h
  ·rename_i hm
   obtain⟨dyn,h1,h2,h3,h4,h5⟩:=X08 A st r _ h ha
   refine⟨dyn,h1,λp hp=>(h2 p hp).imp (mC _) id,h3,λt ht hv=>?_,h5⟩
   rcases List.mem_cons.1 ht with rfl|ht
   ·exact absurd ((x03 _ _).1 hm) hv
   ·exact h4 t ht hv
  ·split at h
   ·rename_i i k hr
    exact put _ (.inr (.inl ⟨i,k,rfl,a0b hr,hr⟩)) h
   ·rename_i i o hr
    exact put _ (.inr (.inr ⟨i,o,rfl,x0l hr,hr⟩)) h
   ·exact put _ (.inl rfl) h
theorem E0d:∀(dyn sta:List (Nat×AV)) (t:Nat),(∃ av,(t,av)∈dyn/\Z2 (dyn++sta) t=av)∨((∀ av,(t,av) ∉ dyn)/\Z2 (dyn++sta) t=Z2 sta t)
 | [],sta,t => .inr ⟨by simp,rfl⟩
 |(s,av)::r,sta,t=>by
  simp only[List.cons_append]
  rw[T3]
  by_cases e:s=t
  ·subst e
   exact .inl ⟨av,mS,if_pos rfl⟩
  ·rw[if_neg e]
   rcases E0d r sta t with⟨av',h1,h2⟩|⟨h1,h2⟩
   ·exact .inl ⟨av',mC _ h1,h2⟩
   ·exact .inr ⟨λav' h=>by
     rcases List.mem_cons.1 h with h|h
     ·cases h;exact e rfl
     ·exact h1 av' h,h2⟩
theorem F0d{hd e:St}:∀(dyn:List (Nat×AV)),U0b hd e dyn=true->∀ t av,(t,av)∈dyn->(∀ i k,av = .own i k->∃ k',rdA e (Z2 e.fr t) = .own i k')/\(∀ i o,av = .box i o->rdA e (Z2 e.fr t) = .box i o)
 | [],_,t,av,h=>by cases h
 |(s,x)::r,hs,t,av,h=>by
  have key:U0b hd e r=true/\(∀ i k,x = .own i k->∃ k',rdA e (Z2 e.fr s) = .own i k')/\(∀ i o,x = .box i o->rdA e (Z2 e.fr s) = .box i o):=by
   simp only[U0b]at hs
   split at hs
   ·split at hs
    ·rename_i hr
     split at hs
     ·rename_i hb
      refine⟨hs,λi k hx=>?_,(λi o hx=>nomatch hx)⟩
      cases hx
      exact⟨_,by rw[hr,Nat.eq_of_beq_eq_true hb]⟩
     ·cases hs
    ·cases hs
   ·split at hs
    ·rename_i hr
     split at hs
     ·rename_i hb1 hb2
      refine⟨hs,(λi k hx=>nomatch hx),λi o hx=>?_⟩
      cases hx
      rw[hr,Nat.eq_of_beq_eq_true hb1,Nat.eq_of_beq_eq_true hb2]
     ·cases hs
    ·cases hs
   ·rename_i h1 h2
    exact⟨hs,λi k hx=>absurd hx (h1 i k),λi o hx=>absurd hx (h2 i o)⟩
  rcases List.mem_cons.1 h with h|h
  ·cases h;exact key.2
  ·exact F0d r key.1 t av h
theorem Y08{fr:List (Nat×AV)}:∀(sta:List (Nat×AV)),x0f fr sta=F0m sta->∀ t,Z2 sta t = .dead∨Z2 fr t=Z2 sta t
 | [],_,t => .inl rfl
 |(s,av)::r,h,t=>by
  rw[T3]
  simp only[x0f,F0m]at h
  cases hd:h0k av with
  |true =>
   rw[hd]at h
   by_cases e:s=t
   ·rw[if_pos e]
    left
    cases av<;>first|rfl|cases hd
   ·rw[if_neg e]
    exact Y08 r h t
  |false =>
   rw[hd]at h
   simp only[List.cons.injEq]at h
   by_cases e:s=t
   ·subst e
    rw[if_pos rfl]
    exact .inr h.1
   ·rw[if_neg e]
    exact Y08 r h.2 t
theorem b0b{e st2:St}{be:Nat->Nat}{oe:Nat->Value}:∀ {cs2 cs':List l5} {vs:List Value},EqC e cs2 cs'->x04 (λj k=>∃ s,stamp st2 j=some s/\k<=s) cs2->U1 e oe cs' vs->U1 st2 oe cs2 vs
 | [],[],[],_,_,_=>trivial
 | .val v::r,.val v'::r',x::vs,h,ha,g=>⟨by rw[show x=v' from g.1,h.1];rfl,b0b (be:=be) h.2 ha g.2⟩
 | .own i k::r,.own j k'::r',x::vs,h,ha,g=>by
  obtain⟨hij,⟨b,hr⟩,h⟩:=h
  subst hij
  obtain⟨⟨s,s1,s2⟩,ha⟩:=ha
  refine⟨⟨s,s1,s2,λ_=>?_⟩,b0b (be:=be) h ha g.2⟩
  obtain⟨_,hb⟩:=U09 hr
  subst hb
  obtain⟨s',t1,t2,t3⟩:=g.1
  rw[a0b hr]at t1
  cases t1
  exact t3 rfl
 | [],_::_,_,h,_,_=>h.elim
 | .val _::_,[],_,h,_,_=>h.elim
 | .own _ _::_,[],_,h,_,_=>h.elim
 | .val _::_,.own _ _::_,_,h,_,_=>h.elim
 | .own _ _::_,.val _::_,_,h,_,_=>h.elim
 |_,_::_,[],_,_,g=>g.elim
 |_,[],_::_,_,_,g=>g.elim
theorem o06{os:List Nat}{e st2:St}{oe:Nat->Value}(hst:∀ j,j ∉ os->∀ s,stamp st2 j=some s->stamp e j=some s):∀ {cs:List l5} {vs:List Value},B09 os cs=true ->
  x04 (λj k=>∃ s,stamp st2 j=some s/\k<=s) cs->U1 e oe cs vs->U1 st2 oe cs vs
 | [],[],_,_,_=>trivial
 | .val v::r,x::vs,h,ha,g=>⟨g.1,o06 hst h ha g.2⟩
 | .own i k::r,x::vs,h,ha,g=>by
  simp only[B09]at h
  split at h
  ·cases h
  ·rename_i hm
   obtain⟨⟨s,s1,s2⟩,ha⟩:=ha
   refine⟨⟨s,s1,s2,λhk=>?_⟩,o06 hst h ha g.2⟩
   obtain⟨s',t1,t2,t3⟩:=g.1
   rw[hst i (m06 hm) s s1]at t1
   cases t1
   exact t3 hk
 | [],_::_,_,_,g=>g.elim
 |_::_,[],_,_,g=>g.elim
section
variable {P:Program} {h0:Hp} {w0:World} {be:Nat->Nat} {oe:Nat->Value} {H:Hp} {h:Hp} {a:Act} {w:World}
theorem t0o{A:Ann}{e st2:St}(s:Sim P h0 w0 be oe H e h a w)(hn:e.n=st2.n)
  (hb:∀ i b,nth st2.bx i=some b->(∃ cs2 ty cs',b = .live cs2 ty/\nth e.bx i=some (.live cs' ty)/\EqC e cs2 cs')∨(nth e.bx i=some b/\i0k A.owns b=true))
  (ho:∀ i o,nth st2.ow i=some o->(∃ s t sz by_ nn s' nn' xs,o=⟨s,.live t sz by_ nn xs⟩/\nth e.ow i=some ⟨s',.live t sz by_ nn' xs⟩/\(nn=true->nn'=true))/\i∈A.owns∨(nth e.ow i=some o/\i ∉ A.owns))
  (bd:∀ i cs ty,nth st2.bx i=some (.live cs ty)->x04 (λj k=>∃ s,stamp st2 j=some s/\k<=s) cs)
  (hf:∀ t,C2 st2 be oe (Z2 st2.fr t) (a.tmps.getD t undef)):Sim P h0 w0 be oe H st2 h a w:=by
 have hst:∀ j,j ∉ A.owns->∀ s,stamp st2 j=some s->stamp e j=some s:=λj hj s0 hs=>by
  unfold stamp at hs ⊢
  cases ho':nth st2.ow j with
  |none=>rw[ho']at hs;cases hs
  |some o =>
   rw[ho']at hs
   rcases ho j o ho' with⟨_,h⟩|⟨h,_⟩
   ·exact absurd h hj
   ·rw[h];exact hs
 have hlive:∀ i cs ty,nth st2.bx i=some (.live cs ty)->∃ cs',nth e.bx i=some (.live cs' ty):=λi cs ty hi=>by
  rcases hb i _ hi with⟨cs2,ty2,cs',he,h2,_⟩|⟨h2,_⟩
  ·cases he;exact⟨cs',h2⟩
  ·exact⟨cs,h2⟩
 have hol:∀ i s0 t sz by_ nn xs,nth st2.ow i=some ⟨s0,.live t sz by_ nn xs⟩->∃ s' nn',nth e.ow i=some ⟨s',.live t sz by_ nn' xs⟩/\(nn=true->nn'=true):=λi s0 t sz by_ nn xs hi=>by
  rcases ho i _ hi with⟨⟨s1,t1,sz1,by1,nn1,s',nn',xs1,he,h2,h3⟩,_⟩|⟨h2,_⟩
  ·cases he;exact⟨s',nn',h2,h3⟩
  ·exact⟨s0,nn,h2,id⟩
 refine⟨s.mv,s.sub,λi cs ty hi=>?_,λi b hi=>?_,λi s0 t sz by_ nn xs hi=>?_,λi s0 v hi=>?_,λi j cs ty cs' ty' hi hj=>?_,λi j s0 t sz by_ nn xs s1 t1 sz1 by1 nn1 xs1 g hi hj=>?_,λi cs ty j s0 t sz by_ nn xs hi hj=>?_,s.dfr,by rw[s.siz,hn],hf⟩
 ·rcases hb i _ hi with⟨cs2,ty2,cs',he,h2,h3⟩|⟨h2,h3⟩
  ·cases he
   obtain⟨k1,vs,k2,k3⟩:=s.box i cs' ty h2
   exact⟨k1,vs,b0b (be:=be) h3 (bd i _ _ hi) k2,k3⟩
  ·obtain⟨k1,vs,k2,k3⟩:=s.box i cs ty h2
   exact⟨k1,vs,o06 hst h3 (bd i _ _ hi) k2,k3⟩
 ·rcases hb i _ hi with⟨cs2,ty2,cs',he,h2,h3⟩|⟨h2,h3⟩
  ·cases he
  ·exact s.pub i b h2
 ·obtain⟨s',nn',h2,h3⟩:=hol i _ _ _ _ _ _ hi
  obtain⟨k1,k2⟩:=s.own i _ _ _ _ _ _ h2
  refine⟨k1,k2.imp (λ⟨a1,a2,a3⟩=>⟨a1,a2,?_⟩) id⟩
  cases nn with
  |false=>rfl
  |true=>rw[h3 rfl]at a3;cases a3
 ·rcases ho i _ hi with⟨⟨s1,t1,sz1,by1,nn1,s',nn',xs1,he,h2,h3⟩,_⟩|⟨h2,_⟩
  ·cases he
  ·exact s.frz i s0 v h2
 ·obtain⟨c1,h1⟩:=hlive i cs ty hi
  obtain⟨c2,h2⟩:=hlive j cs' ty' hj
  exact s.bb i j _ _ _ _ h1 h2
 ·obtain⟨_,_,h1,_⟩:=hol i _ _ _ _ _ _ hi
  obtain⟨_,_,h2,_⟩:=hol j _ _ _ _ _ _ hj
  exact s.oo i j _ _ _ _ _ _ _ _ _ _ _ _ g h1 h2
 ·obtain⟨c1,h1⟩:=hlive i cs ty hi
  obtain⟨_,_,h2,_⟩:=hol j _ _ _ _ _ _ hj
  exact s.bo i _ _ j _ _ _ _ _ _ h1 h2
end
end Go.H
namespace Go.H
set_option linter.unusedVariables false
set_option linter.unusedSimpArgs false
section
variable {P:Program} {h0:Hp} {w0:World} {be:Nat->Nat} {oe:Nat->Value} {H:Hp} {st:St} {h:Hp} {a:Act} {w:World}
theorem u0o(s:Sim P h0 w0 be oe H st h a w):∀ i cs ty,nth st.bx i=some (.live cs ty)->x04 (λj k=>∃ s,stamp st j=some s/\k<=s) cs:=by
 intro i cs ty hi
 obtain⟨_,vs,g,_⟩:=s.box i cs ty hi
 have:∀(cs:List l5) (vs:List Value),U1 st oe cs vs->x04 (λj k=>∃ s,stamp st j=some s/\k<=s) cs:=by
  intro cs
  induction cs with
  |nil=>intro vs _;trivial
  |cons c r ih =>
   intro vs g
   cases vs with
   |nil=>exact g.elim
   |cons v vs =>
    cases c with
    |val x=>exact ih vs g.2
    |own j k =>
     obtain⟨s',h1,h2,_⟩:=g.1
     exact⟨⟨s',h1,h2⟩,ih vs g.2⟩
 exact this cs vs g
theorem I0i(p:Nat->Prop)(h:∃ n,p n):∃ n,p n/\∀ m,p m->n<=m:=by
 obtain⟨n,hn⟩:=h
 induction n using Nat.strongRecOn with
 |_ n ih =>
  by_cases hx:∃ m,m<n/\p m
  ·obtain⟨m,hm,hp⟩:=hx
   exact ih m hm hp
  ·exact⟨n,hn,λm hm=>Nat.le_of_not_lt λhlt=>hx ⟨m,hlt,hm⟩⟩
theorem y0l:∀(a b:List Value),e0q a b=true->a.length=b.length
 | [],[],_=>rfl
 |_::r,_::r',h=>by simp[y0l r r' h]
 | [],_::_,h=>by cases h
 |_::_,[],h=>by cases h
theorem A0r{A:Ann}{ds:List Nat}{st e st2:St}{dyn sta:List (Nat×AV)}{v1':List Value}{av1:∀ t,(Z2 (L0a A.vars v1' (dyn++sta)) t=Z2 (dyn++sta) t/\t ∉ A.vars)∨(∃ v,Z2 (L0a A.vars v1' (dyn++sta)) t = .val v/\rdA e (Z2 e.fr t) = .val v)}
  (s:Sim P h0 w0 be oe H e h a w) (hfr:st2.fr=L0a A.vars v1' (dyn++sta)) (hlb:st2.bx.length=st.bx.length) (hlow:∀ i,stamp st2 i=stamp st i)
  (hoa:∀ i k,(i ∉ A.owns∨i∈A.kept)->stamp st i=some k->stamp e i=stamp st2 i)
  (d1:∀ p∈dyn,p.1∈ds) (d2:∀ p∈dyn,H0i st p.1 p.2) (d3:∀ t∈ds,t ∉ A.vars->∃ av,(t,av)∈dyn)
  (s1:∀ t,t ∉ ds->V09 A st (Z2 sta t)) (hsd:∀ t av,(t,av)∈dyn->(∀ i k,av = .own i k->∃ k',rdA e (Z2 e.fr t) = .own i k')/\(∀ i o,av = .box i o->rdA e (Z2 e.fr t) = .box i o))
  (htail:∀ t,Z2 sta t = .dead∨Z2 e.fr t=Z2 sta t):∀ t,C2 st2 be oe (Z2 st2.fr t) (a.tmps.getD t undef):=by
 intro t
 rw[hfr]
 have gt:=s.fr t
 have gr:=s.rdA gt
 rcases av1 t with⟨h1,hv⟩|⟨v,h1,h2⟩
 ·rw[h1]
  rcases E0d dyn sta t with⟨av,m1,m2⟩|⟨m1,m2⟩
  ·rw[m2]
   obtain⟨q1,q2⟩:=hsd t av m1
   rcases d2 _ m1 with rfl|⟨i,k,rfl,hs,_⟩|⟨i,o,rfl,hb,_⟩
   ·trivial
   ·obtain⟨k',hk'⟩:=q1 i k rfl
    rw[hk']at gr
    refine⟨k,by rw[hlow,hs],Nat.le_refl _,λ_=>?_⟩
    obtain⟨e1,sz1,by1,nn1,xs1,hn1⟩:=b06 hk'
    exact gr.own_cur hn1
   ·rw[q2 i o rfl]at gr
    exact⟨by rw[hlb];exact hb,gr.2⟩
  ·rw[m2]
   have htd:t ∉ ds:=λhd=>by
    obtain⟨av,hm⟩:=d3 t hd hv
    exact m1 av hm
   rcases htail t with hdd|e1
   ·rw[hdd];trivial
   have hs:=s1 t htd
   rw[e1]at gt
   cases hl:Z2 sta t with
   |val v=>rw[hl]at gt;exact gt
   |hel s0 idx sz k=>rw[hl]at gt;exact gt
   |dead=>trivial
   |agg cs =>
    rw[hl]at gt hs
    obtain⟨vs,k1,k2⟩:=gt
    refine⟨vs,k1,?_⟩
    have:∀(cs:List l5) (vs:List Value),l0l cs=true->U1 e oe cs vs->U1 st2 oe cs vs:=by
     intro cs
     induction cs with
     |nil=>intro vs _ g;cases vs<;>exact g
     |cons c r ih =>
      intro vs hno g
      cases vs with
      |nil=>exact g.elim
      |cons v vs =>
       cases c with
       |val x=>exact⟨g.1,ih vs hno g.2⟩
       |own j k=>cases hno
    exact this cs vs hs k2
   |box i o =>
    rw[hl]at gt hs
    exact⟨by rw[hlb];exact hs,gt.2⟩
   |own i k =>
    rw[hl]at gt hs
    obtain⟨hs1,hs2⟩:=hs
    obtain⟨s',k1,k2,k3⟩:=gt
    refine⟨k,by rw[hlow,hs2],Nat.le_refl _,λ_=>?_⟩
    have:stamp e i=stamp st2 i:=hoa i k hs1 hs2
    rw[this,hlow,hs2]at k1
    cases k1
    exact k3 rfl
   |oel i s0 idx sz k=>rw[hl]at hs;exact hs.elim
 ·rw[h1]
  rw[h2]at gr
  exact gr
theorem c0c:∀(l:List (Nat×Nat×Nat×Nat)) (st:St) (oe:Nat->Value) {K:St->Prop},Sim P h0 w0 be oe H st h a w->f0i l st K->∃ st' oe',K st'/\Sim P h0 w0 be oe' H st' h a w
 | [],st,oe,K,s,he=>⟨st,oe,he,s⟩
 |(t,e,sz,by_)::r,⟨n,fr,bx,ow⟩,oe,K,s,he=>by
  simp only[f0i]at he
  split at he
  ·rename_i hr hlt
   rw[w09]at he
   have gv:=s.rdA (s.fr t)
   have hv:a.tmps.getD t undef = .slice none 0 0:=by
    have:rdA ⟨n,fr,bx,ow⟩ (Z2 fr t) = .val (.slice none 0 0):=hr
    rw[show rdA ⟨n,fr,bx,ow⟩ (Z2 (St.mk n fr bx ow).fr t) = .val (.slice none 0 0) from this]at gv
    exact gv
   have hO:E05 h H (.slice none 0 0) e sz false []:=⟨by simp,.inl ⟨rfl,rfl,rfl⟩⟩
   obtain⟨s1,gr⟩:=s.newOwn (by_:=by_) (λb o hb=>hb) (P2.refl s.mv.vis) hO (by simp[Value.ownBlock])
   refine c0c r _ _ (s1.refr (fr:=(t,.own ow.length 0)::fr) λu=>?_) he
   rw[T3]
   by_cases eu:t=u
   ·subst eu
    rw[if_pos rfl,hv]
    exact⟨0,by simp[stamp,k02],Nat.le_refl _,λ_=>by simp⟩
   ·rw[if_neg eu]
    exact s1.fr u
  ·exact he.elim
theorem W09:∀(l:List (Nat×Nat×Nat×Nat×Nat)) (st:St) (oe:Nat->Value) {K:St->Prop},Sim P h0 w0 be oe H st h a w->j0d l st K->∃ st' oe',K st'/\Sim P h0 w0 be oe' H st' h a w
 | [],st,oe,K,s,he=>⟨st,oe,he,s⟩
 |(i,k,e,sz,by_)::r,⟨n,fr,bx,ow⟩,oe,K,s,he=>by
  simp only[j0d]at he
  split at he
  rotate_left
  ·exact he.elim
  rename_i cs ty hn
  split at he
  rotate_left
  ·exact he.elim
  rename_i hk
  rw[w09]at he
  have hO:E05 h H (.slice none 0 0) e sz false []:=⟨by simp,.inl ⟨rfl,rfl,rfl⟩⟩
  obtain⟨s1,gr⟩:=s.newOwn (by_:=by_) (λb o hb=>hb) (P2.refl s.mv.vis) hO (by simp[Value.ownBlock])
  have hlt:=F01 hn
  refine W09 r _ (λj=>if j=ow.length then .slice none 0 0 else oe j) ?_ he
  have gr2:M6 ⟨n,fr,bx,ow ++ [⟨0,.live e sz by_ false []⟩]⟩ be (λj=>if j=ow.length then .slice none 0 0 else oe j) ⟨n,fr,r00 bx i (.live (r00 cs k (.own ow.length 0)) ty),ow ++ [⟨0,.live e sz by_ false []⟩]⟩ be (λj=>if j=ow.length then .slice none 0 0 else oe j) :=
   ⟨by simp[U04],λ_ _=>rfl,λi s h=>⟨s,h,Nat.le_refl _,λ_=>rfl⟩⟩
  have hlive:∀ j cs' ty',nth (r00 bx i (.live (r00 cs k (.own ow.length 0)) ty)) j=some (.live cs' ty')->∃ cs0,nth bx j=some (.live cs0 ty'):=λj cs' ty' hj=>by
   rw[Z6 _ _ _ hlt]at hj
   split at hj
   ·rename_i e';subst e';cases hj;exact⟨cs,hn⟩
   ·exact⟨cs',hj⟩
  refine⟨s1.mv,s1.sub,λj cs' ty' hj=>?_,λj b hj=>?_,s1.own,s1.frz,λj j' c1 t1 c2 t2 h1 h2=>?_,s1.oo,λj cs' ty' j' s0 e0 sz0 by0 nn xs hj hj'=>?_,s1.dfr,s1.siz,λt=>(s1.fr t).grow gr2⟩
  ·rw[Z6 _ _ _ hlt]at hj
   split at hj
   ·rename_i e'
    subst e'
    cases hj
    obtain⟨k1,vs,k2,k3⟩:=s1.box j cs ty hn
    refine⟨k1,vs,?_,k3⟩
    obtain⟨v,v1,v2⟩:=k2.nth hk
    have hv:v = .slice none 0 0:=v2
    have:=(k2.grow gr2).upd (k:=k) (c := .own ow.length 0) (v:=v) (by rw[hv];exact⟨0,by simp[stamp,k02],Nat.le_refl _,λ_=>by simp⟩)
    rwa [show vs.set k v=vs from by
     obtain⟨hi,hx⟩:=List.getElem?_eq_some_iff.1 v1
     rw[←hx];exact List.set_getElem_self hi]at this
   ·obtain⟨k1,vs,k2,k3⟩:=s1.box j cs' ty' hj
    exact⟨k1,vs,k2.grow gr2,k3⟩
  ·rw[Z6 _ _ _ hlt]at hj
   split at hj
   ·cases hj
   ·exact s1.pub j b hj
  ·obtain⟨c1',h1'⟩:=hlive _ _ _ h1
   obtain⟨c2',h2'⟩:=hlive _ _ _ h2
   exact s1.bb j j' _ _ _ _ h1' h2'
  ·obtain⟨c1',h1'⟩:=hlive _ _ _ hj
   exact s1.bo j _ _ j' _ _ _ _ _ _ h1' hj'
theorem Z08:∀(l:List Nat) {st:St} {h:Hp} {K:St->Hp->Prop},Sim P h0 w0 be oe H st h a w->g0i l st h K->∃ st' h',K st' h'/\Sim P h0 w0 be oe H st' h' a w
 | [],st,h,K,s,he=>⟨st,h,he,s⟩
 |t::r,st,h,K,s,he=>by
  simp only[g0i]at he
  obtain⟨⟨n,fr,bx,ow⟩,h',hk,s1,_⟩:=B02 s (s.rdA (s.fr t)) he
  dsimp only at hk
  split at hk
  ·refine Z08 r (s1.refr (fr:=(t,.val (a.tmps.getD t undef))::fr) λu=>?_) hk
   rw[T3]
   by_cases eu:t=u
   ·subst eu
    rw[if_pos rfl]
    rfl
   ·rw[if_neg eu]
    exact s1.fr u
  ·exact hk.elim
set_option maxHeartbeats 1000000 in
theorem p0k{body:Code}{ds0:List Nat}{Q:Ex->St->Hp->Prop}
  (ih:∀(Q:Ex->St->Hp->Prop) (st:St) (h:Hp) (a:Act) (w:World) (be:Nat->Nat) (oe:Nat->Value) (H:Hp),Sim P h0 w0 be oe H st h a w->ev P body Q st h->body.wp P (e0h P h0 w0 Q) a w)
  (s:Sim P h0 w0 be oe H st h a w) (he:m0l (λQ=>ev P body Q) ds0 Q st h):(Code.loop body).wp P (e0h P h0 w0 Q) a w:=by
 obtain⟨A,I,μ,he⟩:=he
 obtain⟨st,oe,he,s⟩:=c0c _ _ _ s he
 obtain⟨st,oe,he,s⟩:=W09 _ _ _ s he
 obtain⟨st,h,he,s⟩:=Z08 _ s he
 unfold g0k at he
 obtain⟨v1,hv1,he,hz⟩:=X0a st _ he
 obtain⟨v2,he,hbx⟩:=t0l st _ he
 obtain⟨os0,hos,⟨hI,he⟩,how⟩:=u0l st _ he
 rw[L0f]at he
 obtain⟨dyn,he,d1,d2,d3,_⟩:=X08 A st _ _ he (by simp)
 obtain⟨sta,hbody,s1⟩:=W08 A ds0 st _ he
 have d1':∀ p∈dyn,p.1∈ds0:=λp hp=>(d1 p hp).resolve_right (by simp)
 have s1':∀ t,t ∉ ds0->V09 A st (Z2 sta t):=λt ht=>by
  rcases s1 t ht with h|⟨_,h⟩
  ·rw[h];trivial
  ·exact h
 have hrun:=λ(vs:List Value) (hvs:vs.length=(v1++v2).length) (os:List (List (List Value))) (hosl:os.length=os0.length)=>T09 _ (S09 _ hbody vs hvs) os hosl
 let hd:List Value->List BSt->List Own->St:=λv1 bx ow=>⟨st.n,L0a A.vars v1 (dyn++sta),bx,ow⟩
 let Inv:Nat->Act->World->Prop:=λm a w=>∃(vs:List Value) (os:List (List (List Value))) (u1 u2:List Value) (bx:List BSt) (ow:List Own) (h':Hp) (be:Nat->Nat) (oe:Nat->Value) (H:Hp),
  vs.length=(v1++v2).length/\os.length=os0.length/\vs=u1++u2/\u1.length=A.vars.length/\(∀ K2,A05 A.boxes u2 st.bx K2=K2 bx)/\(∀ K2,B05 A.owns os st.ow K2=K2 ow) /\
   atI A I μ m vs os h'/\Sim P h0 w0 be oe H (hd u1 bx ow) h' a w
 have bd0:=u0o s
 have hbase:∀ m a w,Inv m a w->body.wp P (Exit.then (λa w=>∃ m',Inv m' a w/\m'<m) (e0h P h0 w0 Q)) a w:=by
  rintro m a w ⟨vs,os,u1,u2,bx,ow,h',be,oe,H,hvs,hosl,rfl,hu1,hsb,hso,hI,hS⟩
  have hr:=c0o (hrun _ hvs os hosl) hI
  rw[←hu1,V08,hsb,hso]at hr
  refine Code.wp_mono (λe a' w' hp=>?_) (ih _ _ _ _ _ _ _ _ hS hr)
  cases e with
  |normal =>
   obtain⟨e,h2,be2,oe2,H2,hend,s2⟩:=hp
   dsimp only at hend
   obtain⟨e,h2,hend,s2⟩:=Z08 _ s2 hend
   unfold d0o at hend
   split at hend
   ·rename_i hbn hsd
    obtain⟨hpop,hsx,hsw,hg⟩:=hend
    have hn:=Nat.eq_of_beq_eq_true hbn
    have hx:=n07 0 _ _ hsx
    have hw':=o07 0 _ _ hsw
    simp only[Nat.zero_add]at hx hw'
    unfold g0k at hg
    obtain⟨x1,hx1,hg,hz2⟩:=X0a e _ hg
    have hin:∀(is:List Nat) {K:List Value->Prop},k0d is e K->(∀ i∈is,i∈A.boxes)->(∀ i∈is,(nth st.bx i).isSome=true) ->
      ∀ i∈is,∃ cs ty cs',nth st.bx i=some (.live cs ty)/\nth e.bx i=some (.live cs' ty)/\ShC e cs cs':=by
     intro is K _ hA hsome i hi
     cases hb:nth st.bx i with
     |none=>have:=hsome i hi;rw[hb]at this;cases this
     |some b =>
      rcases hx i b hb with⟨_,cs,ty,cs',rfl,h2,h3⟩|⟨h1,_⟩
      ·exact⟨cs,ty,cs',rfl,h2,h3⟩
      ·exact absurd (hA i hi) h1
    have hsome:∀ i∈A.boxes,(nth st.bx i).isSome=true:=by
     have gen:∀(is:List Nat) (vs:List Value) (bx:List BSt),(A05 is vs bx λ_=>True)->∀ i∈is,(nth bx i).isSome=true:=by
      intro is
      induction is with
      |nil=>intro vs bx _ i hi;cases hi
      |cons j r ih =>
       intro vs bx hs i hi
       simp only[A05]at hs
       split at hs
       ·rename_i cs ty hn
        rcases List.mem_cons.1 hi with rfl|hi
        ·rw[hn];rfl
        ·have hc:∀(cs:List l5) (vs:List Value) (K:List l5->List Value->Prop),l03 cs vs K->∃ a b,K a b:=by
          intro cs
          induction cs with
          |nil=>intro vs K h;exact⟨_,_,h⟩
          |cons c r ih =>
           intro vs K h
           cases c with
           |val v =>
            cases vs with
            |nil=>exact h.elim
            |cons v' vs=>obtain⟨a,b,h⟩:=ih _ _ h;exact⟨_,_,h⟩
           |own i k=>obtain⟨a,b,h⟩:=ih _ _ h;exact⟨_,_,h⟩
         obtain⟨a,b,hs⟩:=hc _ _ _ hs
         have:=ih _ _ hs i hi
         rw[Z6 _ _ _ (F01 hn)]at this
         split at this
         ·rename_i e';rw[e',hn];rfl
         ·exact this
       ·exact hs.elim
     exact gen A.boxes v2 st.bx (by rw[hbx];trivial)
    have hsomeO:∀ i∈A.owns,(nth st.ow i).isSome=true:=by
     have gen:∀(is:List Nat) (vs:List (List (List Value))) (ow:List Own),(B05 is vs ow λ_=>True)->∀ i∈is,(nth ow i).isSome=true:=by
      intro is
      induction is with
      |nil=>intro vs bx _ i hi;cases hi
      |cons j r ih =>
       intro vs ow hs i hi
       cases vs with
       |nil=>exact hs.elim
       |cons x vs =>
        simp only[B05]at hs
        split at hs
        ·rename_i hn
         rcases List.mem_cons.1 hi with rfl|hi
         ·rw[hn];rfl
         ·have:=ih _ _ hs i hi
          rw[Z6 _ _ _ (F01 hn)]at this
          split at this
          ·rename_i e';rw[e',hn];rfl
          ·exact this
        ·exact hs.elim
     exact gen A.owns os0 st.ow (by rw[how];trivial)
    obtain⟨x2,hg,bx2,t1,t2,t3,t4,t5⟩:=v0l e A.boxes st.bx (hin _ hg (λ_ h=>h) hsome) hg
    have hinO:∀ i∈A.owns,∃ s e1 sz by_ nn xs0 s' nn' xs,nth st.ow i=some ⟨s,.live e1 sz by_ nn xs0⟩/\nth e.ow i=some ⟨s',.live e1 sz by_ nn' xs⟩/\(nn=true->nn'=true):=λi hi=>by
     cases hb:nth st.ow i with
     |none=>have:=hsomeO i hi;rw[hb]at this;cases this
     |some b =>
      rcases hw' i b hb with⟨_,s,e1,sz,by_,nn,xs0,s',nn',xs,rfl,h2,h3,_⟩|⟨h1,_⟩
      ·exact⟨s,e1,sz,by_,nn,xs0,s',nn',xs,rfl,h2,h3⟩
      ·exact absurd hi h1
    obtain⟨os2,o0,hg,ow2,o1,o2,o3,o4⟩:=w0l e A.owns st.ow hinO hg
    split at hg
    rotate_left
    ·exact hg.elim
    rename_i hlen
    rw[←hx1,V08,t1,o1]at hg
    obtain⟨m2,hI2,hlt⟩:=g0q hg
    have hstamp:∀ i,stamp (hd x1 bx2 ow2) i=stamp st i:=λi=>by
     have:=o4 i
     unfold stamp
     simp only[hd]
     cases h1:nth ow2 i<;>cases h2:nth st.ow i<;>rw[h1,h2]at this<;>simp at this<;>simp[this]
    refine⟨m2,⟨x1++x2,os2,x1,x2,bx2,ow2,h2,be2,oe2,H2,?_,?_,rfl,hx1,t1,o1,hI2,?_⟩,hlt⟩
    ·rw[←hvs];exact y0l _ _ hlen
    ·rw[o0]
     have:os0.length=A.owns.length:=hos
     rw[this]
    ·refine t0o (A:=A) s2 hn ?_ ?_ ?_ ?_
     ·intro i b hi
      by_cases hm:i∈A.boxes
      ·obtain⟨cs2,ty,cs',k1,k2,k3⟩:=t4 i hm
       have:nth bx2 i=some b:=hi
       rw[k1]at this
       cases this
       exact .inl ⟨cs2,ty,cs',rfl,k2,k3⟩
      ·have:nth bx2 i=some b:=hi
       rw[t3 i hm]at this
       rcases hx i b this with⟨h1,_⟩|⟨_,h2,h3⟩
       ·exact absurd h1 hm
       ·exact .inr ⟨h2,h3⟩
     ·intro i o hi
      by_cases hm:i∈A.owns
      ·obtain⟨s0,e1,sz,by_,nn,s',nn',xs,k1,k2,k3⟩:=o3 i hm
       have:nth ow2 i=some o:=hi
       rw[k1]at this
       cases this
       exact .inl ⟨⟨s0,e1,sz,by_,nn,s',nn',xs,rfl,k2,k3⟩,hm⟩
      ·have:nth ow2 i=some o:=hi
       rw[o2 i hm]at this
       rcases hw' i o this with⟨h1,_⟩|⟨_,h2⟩
       ·exact absurd h1 hm
       ·exact .inr ⟨h2,hm⟩
     ·intro i cs ty hi
      have:=t5 _ bd0 i cs ty hi
      have hh:(λj k=>∃ s,stamp (hd x1 bx2 ow2) j=some s/\k<=s)=(λj k=>∃ s,stamp st j=some s/\k<=s):=by
       funext j k;rw[hstamp]
      rw[hh]
      exact this
     ·refine A0r (A:=A) (ds:=ds0) (st:=st) (av1:=λt=>hz2 (dyn++sta) t) s2 rfl t2 hstamp ?_ d1' d2 d3 s1' (F0d dyn hsd) (Y08 _ hpop)
      intro i k hi hk
      show stamp e i=stamp (hd x1 bx2 ow2) i
      rw[hstamp i]
      cases hb:nth st.ow i with
      |none=>unfold stamp at hk;rw[hb]at hk;cases hk
      |some b =>
       rcases hw' i b hb with⟨h1,s0,e1,sz,by_,nn,xs0,s',nn',xs,rfl,h2,_,h4⟩|⟨_,h2⟩
       ·have:=h4 (hi.resolve_left (λh=>h h1))
        simp[stamp,hb,h2,this]
       ·unfold stamp
        rw[hb,h2]
   ·exact hend.elim
  |exit i=>exact hp
  |ret=>exact hp
  |_=>exact hp
 have hS0:Sim P h0 w0 be oe H (hd v1 st.bx st.ow) h a w:=by
  refine s.refr (fr:=L0a A.vars v1 (dyn++sta)) λt=>?_
  have gt:=s.fr t
  have gr:=s.rdA gt
  rcases hz (dyn++sta) t with⟨h1,hv⟩|⟨v,h1,h2⟩
  ·rw[h1]
   rcases E0d dyn sta t with⟨av,m1,m2⟩|⟨m1,m2⟩
   ·rw[m2]
    rcases d2 _ m1 with rfl|⟨i,k,rfl,_,hr⟩|⟨i,o,rfl,_,hr⟩
    ·trivial
    ·rw[hr]at gr;exact gr
    ·rw[hr]at gr;exact gr
   ·rw[m2]
    have htd:t ∉ ds0:=λhd=>by
     obtain⟨av,hm⟩:=d3 t hd hv
     exact m1 av hm
    rcases s1 t htd with h|⟨h,_⟩
    ·rw[h];trivial
    ·rw[h];exact gr
  ·rw[h1]
   rw[h2]at gr
   exact gr
 obtain⟨m0,hI⟩:=b0o (μ:=μ) hI
 have hI0:Inv m0 a w:=⟨v1++v2,os0,v1,v2,st.bx,st.ow,h,be,oe,H,rfl,rfl,rfl,hv1,hbx,how,hI,hS0⟩
 classical
 let M:Act->World->Nat:=λa w=>if hx:∃ m,Inv m a w then Classical.choose (I0i _ hx)else 0
 refine wp_loop (λa w=>∃ m,Inv m a w) M ⟨_,hI0⟩ λa w hx=>?_
 have hM:M a w=Classical.choose (I0i _ hx):=by simp only[M,dif_pos hx]
 refine Code.wp_mono (λe a' w' hq=>?_) (hbase _ a w (Classical.choose_spec (I0i _ hx)).1)
 cases e with
 |normal =>
  obtain⟨m',hm',hlt⟩:=hq
  refine⟨⟨m',hm'⟩,?_⟩
  have hx':∃ m,Inv m a' w':=⟨m',hm'⟩
  have:M a' w'=Classical.choose (I0i _ hx'):=by simp only[M,dif_pos hx']
  rw[hM,this]
  exact Nat.lt_of_le_of_lt ((Classical.choose_spec (I0i _ hx')).2 m' hm') hlt
 |_=>exact hq
end
end Go.H
namespace Go.H
set_option linter.unusedVariables false
set_option linter.unusedSimpArgs false
section
variable {P:Program} {h0:Hp} {w0:World} {be:Nat->Nat} {oe:Nat->Value} {H:Hp} {st:St} {h:Hp} {a:Act} {w:World}
theorem v0o(c:Code):∀(Q:Ex->St->Hp->Prop) (st:St) (h:Hp) (a:Act) (w:World) (be:Nat->Nat) (oe:Nat->Value) (H:Hp),Sim P h0 w0 be oe H st h a w->ev P c Q st h->c.wp P (e0h P h0 w0 Q) a w:=by
 induction c with
 |skip=>exact λQ st h a w be oe H s he=>wp_skip ⟨st,h,be,oe,H,he,s⟩
 |region id ops d=>exact λQ st h a w be oe H s he=>f0h s he
 |seq x y ihx ihy =>
  intro Q st h a w be oe H s he
  refine wp_seq (Code.wp_mono (λe a w hp=>?_) (ihx _ _ _ _ _ _ _ _ s he))
  cases e with
  |normal=>obtain⟨st,h,be,oe,H,k,s⟩:=hp;exact ihy _ _ _ _ _ _ _ _ s k
  |exit i=>exact hp
  |ret=>exact hp
  |_=>exact hp
 |cond c x y ihx ihy =>
  intro Q st h a w be oe H s he
  simp only[ev]at he
  split at he
  ·rename_i b hb
   have g:=s.rdO c
   rw[hb]at g
   exact wp_cond_split g (λe=>ihx _ _ _ _ _ _ _ _ s (he.1 e)) (λe=>ihy _ _ _ _ _ _ _ _ s (he.2 e))
  ·exact he.elim
 |block id c ih =>
  intro Q st h a w be oe H s he
  refine wp_block (Code.wp_mono (λe a w hp=>?_) (ih _ _ _ _ _ _ _ _ s he))
  cases e with
  |normal=>exact hp
  |exit i =>
   obtain⟨st,h,be,oe,H,k,s⟩:=hp
   simp only[Exit.inBlock]
   dsimp only at k
   cases hb:Nat.beq i id with
   |true =>
    rw[hb]at k
    rw[if_pos (Nat.eq_of_beq_eq_true hb)]
    exact⟨st,h,be,oe,H,k,s⟩
   |false =>
    rw[hb]at k
    rw[if_neg (Nat.ne_of_beq_eq_false hb)]
    exact⟨st,h,be,oe,H,k,s⟩
  |ret=>exact hp
  |_=>exact hp
 |loop c ih=>exact λQ st h a w be oe H s he=>p0k ih s he
 |exit i=>exact λQ st h a w be oe H s he=>wp_exit ⟨st,h,be,oe,H,he,s⟩
 |ret=>exact λQ st h a w be oe H s he=>wp_ret ⟨st,h,be,oe,H,he,s⟩
 |_=>exact λQ st h a w be oe H s he=>he.elim
def r0q(tmps:Array Value):ResultVar->Sem Value
 | .tmp t=>pure (tmps.getD t undef)
 | .cell a t=>do loadVar t (←asAddr (tmps.getD a undef))
theorem a09:∀(l:List ResultVar) (st:St) (h:Hp) {K:List Value->St->Hp->Prop},Sim P h0 w0 be oe H st h a w->j0k P l st h K ->
  ∃ vs st' h',K vs st' h'/\Sim P h0 w0 be oe H st' h' a w/\(l.mapM (r0q a.tmps)).run P w = .ok vs w
 | [],st,h,K,s,he=>⟨[],st,h,he,s,rfl⟩
 | .tmp t::r,st,h,K,s,he=>by
  obtain⟨st1,h1,e1,s1,_⟩:=B02 s (s.rdA (s.fr t)) he
  obtain⟨vs,st2,h2,e2,s2,hr⟩:=a09 r st1 h1 s1 e1
  refine⟨_,st2,h2,e2,s2,?_⟩
  simp only[List.mapM_cons,Sem.run_bind,r0q,Sem.run_pure,Result.andThen_ok,hr]
 | .cell t ty::r,st,h,K,s,he=>by
  simp only[j0k]at he
  split at he
  ·rename_i i off hr
   split at he
   ·rename_i cs ty' hn
    have g:=s.rdA (s.fr t)
    rw[hr]at g
    obtain⟨h1,vs,h2,h3⟩:=s.box i cs ty' hn
    obtain⟨av,v,k1,k2,k3⟩:=R.load_row (H:=H) (b:=be i) (o:=0) (be:=be) he h2 (λj v hj=>by simp[Hp.cell,h3,hj])
    obtain⟨st1,h1,e1,s1,_⟩:=B02 s k2 k1
    obtain⟨vs',st2,h2',e2,s2,hr'⟩:=a09 r st1 h1 s1 e1
    refine⟨_,st2,h2',e2,s2,?_⟩
    have hld:(loadVar ty ⟨be i,off,none⟩).run P w = .ok v w:=by
     obtain⟨x,hx,e⟩:=R.wpR_sound _ _ w s.mv.vis (k3 (λx _=>x=v) rfl)
     rw[Nat.zero_add]at hx
     rw[hx,e]
    have hx:a.tmps.getD t undef=ptr (be i) off:=g.2
    simp only[List.mapM_cons,Sem.run_bind,r0q,hx,ptr,asAddr,Sem.run_pure,Result.andThen_ok,hld,hr']
   ·exact he.elim
  ·exact he.elim
theorem N0f:∀(args:List Value) (i s:Nat),Z2 (E09 i args) s = .dead∨Z2 (E09 i args) s = .val (if i<=s then args.getD (s-i) undef else undef)
 | [],i,s => .inl rfl
 |v::r,i,s=>by
  simp only[E09]
  rw[T3]
  by_cases e:i=s
  ·subst e;right;simp
  ·rw[if_neg e]
   rcases N0f r (i+1) s with h'|h'
   ·exact .inl h'
   right
   rw[h']
   by_cases h:i<=s
   ·rw[if_pos h,if_pos (by omega)]
    have:s-i=(s-(i+1))+1:=by omega
    rw[this,List.getD_cons_succ]
   ·rw[if_neg h,if_neg (by omega)]
theorem P2.less{h h' H:Hp}{w w':World}(m:P2 h w H w')(hs:∀ b o,h' b=some o->H b=some o):P2 h w h' w':=by
 refine⟨m.os,m.tape,m.output,m.size,m.keep,λb o hb=>m.vis b o (hs b o hb),λb hb=>?_,m.fz,m.dn⟩
 cases hc:h' b with
 |none=>exact absurd hc hb
 |some o=>exact m.fresh b (by rw[hs b o hc];simp)
theorem q0k{f:FuncId}{fn:Func}{args:List Value}{T:Value->Hp->Prop}(hf:P.funcs[f]?=some fn)(he:s0r P fn args h T):Tr P f args.toArray h T:=by
 refine⟨λw hv=>?_⟩
 unfold s0r at he
 split at he
 ·rename_i c hb
  split at he
  ·rename_i hle
   have hle:=Nat.le_of_ble_eq_true hle
   have s0:Sim P h w (λ_=>0) (λ_=>undef) h ⟨fn.ntmps,E09 0 args,[],[]⟩ h { tmps:=args.toArray++Array.replicate (fn.ntmps-args.toArray.size) undef,defers:=[] } w:=by
    refine⟨P2.refl hv,λ_ _ h=>h,(λi cs ty hi=>nomatch hi),(λi b hi=>nomatch hi),(λi s e sz by_ nn xs hi=>nomatch hi),(λi s v hi=>nomatch hi),(λi j cs ty cs' ty' hi=>nomatch hi),
     (λi j s e sz by_ nn xs s' e' sz' by' nn' xs' g hi=>nomatch hi),(λi cs ty j s e sz by_ nn xs hi=>nomatch hi),rfl,by simp;omega,λs=>?_⟩
    rcases N0f args 0 s with h'|h'
    ·exact(show C2 _ _ _ (Z2 (E09 0 args) s) _ from by rw[h'];trivial)
    show C2 _ _ _ (Z2 (E09 0 args) s) _
    rw[h']
    simp only[Nat.zero_le,if_true,Nat.sub_zero]
    show _=_
    simp only[Array.getD_eq_getD_getElem?]
    rw[Array.getElem?_append]
    simp only[List.size_toArray,List.getElem?_toArray]
    split
    ·simp[List.getD_eq_getElem?_getD]
    ·rename_i hn
     rw[List.getD_eq_getElem?_getD,List.getElem?_eq_none (by omega)]
     rw[Array.getElem?_replicate]
     split<;>rfl
   refine calls_of_wp hf hb (Code.wp_mono (λe a' w' hp=>?_) (v0o c _ _ _ _ _ _ _ _ s0 he))
   have fin:∀ {st h' be oe H},j0k P fn.results.toList st h' (λvs _ h=>T (k0i vs) h)->Sim P h w be oe H st h' a' w'->a'.defers = []/\∃ v,(results fn a'.tmps).run P w' = .ok v w'/\∃ v' h',Ending.returned v = .returned v'/\T v' h'/\P2 h w h' w':=by
    intro st h' be oe H hk s
    obtain⟨vs,st2,h2,e2,s2,hr⟩:=a09 _ _ _ s hk
    refine⟨s.dfr,k0i vs,?_,k0i vs,h2,rfl,e2,s2.mv.less s2.sub⟩
    have hres:results fn a'.tmps=(fn.results.mapM (r0q a'.tmps) >>= λvs=>pure (if h:vs.size=1 then vs[0]else .tuple vs)):=by
     unfold results
     congr 1
    rw[hres,Array.mapM_eq_mapM_toList]
    simp only[Sem.run_bind,Sem.run_map,hr,Result.andThen_ok,Sem.run_pure]
    cases vs with
    |nil=>rfl
    |cons x r=>cases r<;>rfl
   cases e with
   |normal=>obtain⟨st,h',be,oe,H,hk,s⟩:=hp;exact fin hk s
   |ret=>obtain⟨st,h',be,oe,H,hk,s⟩:=hp;exact fin hk s
   |exit i=>obtain⟨st,h',be,oe,H,hk,s⟩:=hp;exact hk.elim
   |_=>exact hp.elim
  ·exact he.elim
 ·exact he.elim
end
end Go.H
namespace Go.H
open Go.RowKit Go.ChangeShapes Go.WideShapes Go.ChangeAt
set_option linter.unusedVariables false
theorem Tr.val{P:Program}{f:FuncId}{args:Array Value}{h:Hp}{x:Value}{T:Value->Hp->Prop}(t:Tr P f args h λv h'=>v=x/\h'=h)(hx:T x h):Tr P f args h T :=
 t.mono λ_ _ ⟨e1,e2⟩=>by rw[e1,e2];exact hx
theorem Tr.calls{P:Program}{f:FuncId}{args:Array Value}{W:World}{x:Value}(t:Tr P f args (λb=>W.heap[b]?) λv h'=>v=x/\∀ b o,W.heap[b]?=some o->h' b=some o):
  Calls P f args W λe W'=>e = .returned x/\Below W.heap.size W W'/\∀ a:Addr,a.block<W.heap.size->W'.frozen? a=W.frozen? a:=by
 refine(t.run W (λb o h=>h)).mono ?_
 rintro e W' ⟨v,h',rfl,⟨rfl,hh⟩,m⟩
 refine⟨rfl,⟨m.os,m.tape,m.output,m.size,λk hk=>?_⟩,m.fz⟩
 have:W.heap[k]?=some W.heap[k]:=by simp[hk]
 rw[this]
 exact m.vis _ _ (hh k _ this)
theorem w64{x:Int}(h1 : -9223372036854775808<=x)(h2:x<=9223372036854775807):IntKind.i64.wrap x=x:=by
 simp[IntKind.wrap,IntKind.signed,IntKind.bits]
 omega
theorem U0m{n:Nat}(h:n<=maxLen):n<=9223372036854775807:=by
 simp[maxLen]at h
 omega
def P0(x:Int):Prop := -9223372036854775808<=x/\x<=9223372036854775807
theorem t0s{x:Int}(h:(Lit.int .i64 x).wf=true):P0 x:=by
 simpa [Lit.wf,IntKind.min,IntKind.max,IntKind.signed,IntKind.bits,P0] using h
section
variable {H:Type} {enc:TypeId×Value->H} {P:Program}
theorem E08(hl:laidOutB P=true){W W':World}(hb:Below W.heap.size W W'){sp:Nat->Bool}:∀ {ts:List TypeId} {vs:List Value} {ds:List (DataW H)} {ps:List MemPlace},
  (∀ t∈ts,P.readableRec t=true/\t<P.types.size)->DataW.TrodAll enc P W 0 (λ_=>true) true ts vs ds ps->(∀ p∈ps,p.block<W.heap.size)->(∀ p∈ps,sp p.block=true) ->
  DataW.TrodAll enc P W' 0 sp true ts vs ds ps
 | [],vs,ds,ps,_,h,_,_=>by
  obtain⟨rfl,rfl,rfl⟩:=trodAll_nil h
  exact rfl
 |t::ts,vs,ds,ps,ht,h,hlt,hs=>by
  obtain⟨v,vs',d,ds',p,q,rfl,rfl,rfl,h1,h2⟩:=trodAll_cons h
  obtain⟨r1,r2⟩:=ht t mS
  refine⟨p,q,WideElems.Trod_stays hl r1 r2 h1 (λx hx=>hb.same (hlt x (List.mem_append_left _ hx))) (λx hx=>hs x (List.mem_append_left _ hx)),?_,rfl⟩
  exact E08 hl hb (λt ht'=>ht t (mC _ ht')) h2 (λx hx=>hlt x (List.mem_append_right _ hx)) (λx hx=>hs x (List.mem_append_right _ hx))
theorem r0c{f:Func}{s:ChangeSpec}{apart fresh handsOn again:Bool}{W W':World}{args:Array Value}{v:Value}{ds gs:List (DataW H)}{before pa pv:List MemPlace}
  (hW:DataW.Whole enc P f.params.toList s.vars apart W args.toList ds gs before)
  (hres:∀(b:Nat) (sp:Nat->Bool) (hd:Bool),DataW.TrodAll enc P W' b sp hd f.resultTypes.toList (v.resultList f.resultTypes.size) (s.fn H (ds++gs)).results [])
  (hargs:∀ sp:Nat->Bool,(∀ p∈before,sp p.block=true)->DataW.TrodAll enc P W' 0 sp true f.params.toList args.toList (s.fn H (ds++gs)).args pa)
  (hvars:∀ sp:Nat->Bool,(∀ p∈before,sp p.block=true)->DataW.TrodVars enc P W' sp s.vars (s.fn H (ds++gs)).vars pv)
  (hps:before=pa++pv) (hk:W.keptBut W' (·∈before)) (hfz:∀ a:Addr,a.block<W.heap.size->W'.frozen? a=W.frozen? a)
  (hok:∀(j:Nat) (t:TypeId) (r:Value),f.resultTypes[j]?=some t->(v.resultList f.resultTypes.size)[j]?=some r->Value.okWide P W' .any 0 t r) :
  s.post enc P f apart fresh handsOn again W args v W':=by
 have hlt:=λp hp=>hW.lt (p:=p) hp
 refine⟨ds,gs,before,[],pa,pv,hW,hres _ _ _,hargs _ (λp hp=>by simpa using hlt p hp),hvars _ (λp hp=>by simpa using hlt p hp),World.keptBut_mono (λp hp=>⟨hp,.inr (by rwa [hps,List.mem_append]at hp)⟩) hk,λ_=>?_⟩
 obtain⟨_,_,_,_,_,hz,hn⟩:=hW
 have hq:([]++pa)++pv=before:=by simp[hps]
 refine⟨hok,_,_,([]++pa)++pv,⟨[]++pa,pv,trodAll_append (hargs _ (λ_ _=>rfl)) (hres _ _ _),hvars _ (λ_ _=>rfl),rfl,?_,?_⟩,λp hp _=>by rwa [hq]at hp⟩
 ·intro b off hp
  rw[hq]at hp
  rw[hfz _ (hlt _ hp)]
  exact hz b off hp
 ·intro ha
  rw[hq]
  exact hn ha
theorem w0o{f:Func}{s:ChangeSpec}{apart fresh handsOn again:Bool}{W W':World}{args:Array Value}{ds gs:List (DataW H)}{before:List MemPlace}{tb:TypeId}
  (hl:laidOutB P=true) (ht:∀ t∈f.params.toList,P.readableRec t=true/\t<P.types.size) (hv:s.vars = []) (hfn:s.fn H (ds++gs) = { results:=[.lit (.bool true)],args:=ds })
  (hr:f.resultTypes = #[tb]) (htb:P.underlying tb=some .bool) (hW:DataW.Whole enc P f.params.toList s.vars apart W args.toList ds gs before)
  (hB:Below W.heap.size W W') (hfz:∀ a:Addr,a.block<W.heap.size->W'.frozen? a=W.frozen? a):s.post enc P f apart fresh handsOn again W args (.bool true) W':=by
 have hlt:=λp hp=>hW.lt (p:=p) hp
 have hW':=hW
 obtain⟨p,q,hA,hV,rfl,_,_⟩:=hW
 rw[hv]at hV
 obtain⟨rfl,rfl⟩:=trodVars_none hV
 refine r0c (pa:=p) (pv:=[]) hW' (λ_ _ _=>?_) (λsp hsp=>?_) (λsp hsp=>?_) rfl (hB.frame _) hfz (ok_one hr rfl (okWide_bool_mk htb _))
 ·rw[hfn,hr]
  exact trodAll_mk1 (shut_bool htb _)
 ·rw[hfn]
  exact E08 hl hB ht hA (λx hx=>hlt x (List.mem_append_left _ hx)) (λx hx=>hsp x (List.mem_append_left _ hx))
 ·rw[hfn,hv]
  exact rfl
end
end Go.H
