/- The library of the walks, part HD: plain laws over the model. -/
import Derived.Test.YtkjhghloldgioaaGreatHC
import Derived.ProofKit
namespace Go.H
set_option linter.unusedVariables false
set_option linter.unusedSimpArgs false
theorem L5{i:Nat}{o:Oper}(h:E6 i o=true):∃ e∈o.after,Region.binds .any e=true/\e.on=i:=by
 unfold E6 at h
 rw[List.any_eq_true]at h
 obtain⟨e,a,h⟩:=h
 simp only[Bool.and_eq_true]at h
 exact⟨e,by simpa using a,h.1,Nat.eq_of_beq_eq_true h.2⟩
theorem I02{o:Oper}{t:Nat}:∀ {l:List Oper} {i:Nat},l8 o t l i=true->∀ k x,l[k]?=some x->x.dst=some t->E6 (i+k) o=true
 | [],i,h,k,x,a,b=>by simp at a
 |d::r,i,h,0,x,a,b=>by
  simp at a
  subst a
  simp only[l8,b,Nat.beq_refl,Bool.and_eq_true]at h
  exact h.1
 |d::r,i,h,k+1,x,a,b=>by
  simp only[List.getElem?_cons_succ]at a
  have c:l8 o t r (i+1)=true:=by
   simp only[l8]at h
   split at h
   ·split at h
    ·simp only[Bool.and_eq_true]at h;exact h.2
    ·exact h
   ·exact h
  have:=I02 c k x a b
  rwa [show i+1+k=i+(k+1) from by omega]at this
theorem b9{o:Oper}{ops:List Oper}:∀ {l:List Operand},l04 o ops l=true->∀ t,Operand.tmp t∈l->l8 o t ops 0=true
 | [],h,t,a=>by cases a
 | .tmp u::r,h,t,a=>by
  simp only[l04,Bool.and_eq_true]at h
  rcases List.mem_cons.1 a with e|a
  ·cases e;exact h.1
  ·exact b9 h.2 t a
 | .const v::r,h,t,a=>by
  rcases List.mem_cons.1 a with e|a
  ·cases e
  ·exact b9 (l:=r) h t a
 | .global v::r,h,t,a=>by
  rcases List.mem_cons.1 a with e|a
  ·cases e
  ·exact b9 (l:=r) h t a
 | .func v::r,h,t,a=>by
  rcases List.mem_cons.1 a with e|a
  ·cases e
  ·exact b9 (l:=r) h t a
theorem S01{ops:List Oper}:∀ {l:List Oper},E0c ops l=true->∀ o∈l,∀ t,Operand.tmp t∈o.op.operands->∀ k x,ops[k]?=some x->x.dst=some t->∃ e∈o.after,Region.binds .any e=true/\e.on=k
 | [],h,o,a=>by cases a
 |f::r,h,o,a=>by
  simp only[E0c,Bool.and_eq_true]at h
  rcases List.mem_cons.1 a with rfl|a
  ·intro t d k x c b
   have:=I02 (b9 h.1 t (by simpa using d)) k x c b
   rw[Nat.zero_add]at this
   exact L5 this
  ·exact S01 h.2 o a
theorem f01{d:Nat}:∀ {l:List Oper},z02 d l=true->∀ o∈l,o.dst≠some d
 | [],h,o,a=>by cases a
 |f::r,h,o,a=>by
  simp only[z02]at h
  split at h
  ·rename_i c b
   simp only[Bool.and_eq_true,Bool.not_eq_true']at h
   rcases List.mem_cons.1 a with rfl|a
   ·intro e;rw[b]at e;cases e;exact Nat.ne_of_beq_eq_false h.1 rfl
   ·exact f01 h.2 o a
  ·rename_i b
   rcases List.mem_cons.1 a with rfl|a
   ·intro e;rw[b]at e;cases e
   ·exact f01 h o a
theorem x00{n:Nat}:∀ {l:List Oper},o0a n l=true->(∀ o∈l,∀ d,o.dst=some d->d<n) /\
  ∀(i j:Nat) (f g:Oper) (d:Nat),l[i]?=some f->l[j]?=some g->f.dst=some d->g.dst=some d->i=j
 | [],h=>⟨by simp,λi j f g d a=>by simp at a⟩
 |z::r,h=>by
  simp only[o0a]at h
  split at h
  ·rename_i d m
   simp only[Bool.and_eq_true]at h
   obtain⟨⟨v,x⟩,y⟩:=h
   obtain⟨s,t⟩:=x00 y
   have u:=f01 x
   refine⟨λo q k p=>?_,λi j f g k a b c e=>?_⟩
   ·rcases List.mem_cons.1 q with rfl|q
    ·rw[m]at p;cases p
     have w:Nat.ble (d+1) n=true:=v
     exact Nat.le_of_ble_eq_true w
    ·exact s o q k p
   ·cases i with
    |zero =>
     simp at a
     cases j with
     |zero=>rfl
     |succ j =>
      simp at b
      subst a
      rw[m]at c;cases c
      exact absurd e (u g (List.mem_of_getElem? b))
    |succ i =>
     simp at a
     cases j with
     |zero =>
      simp at b
      subst b
      rw[m]at e;cases e
      exact absurd c (u f (List.mem_of_getElem? a))
     |succ j =>
      simp at b
      rw[t i j f g k a b c e]
  ·rename_i m
   obtain⟨s,t⟩:=x00 h
   refine⟨λo q k p=>?_,λi j f g k a b c e=>?_⟩
   ·rcases List.mem_cons.1 q with rfl|q
    ·rw[m]at p;cases p
    ·exact s o q k p
   ·cases i with
    |zero=>simp at a;subst a;rw[m]at c;cases c
    |succ i =>
     simp at a
     cases j with
     |zero=>simp at b;subst b;rw[m]at e;cases e
     |succ j=>simp at b;rw[t i j f g k a b c e]
theorem y9:∀ {l:List Oper} {j:Nat},Z05 l j=true->∀ k o,l[k]?=some o->∀ e∈o.after,Region.binds .any e=true->e.on<j+k
 | [],j,h,k,o,a=>by simp at a
 |d::r,j,h,k,o,a=>by
  simp only[Z05,Bool.and_eq_true,List.all_eq_true]at h
  cases k with
  |zero =>
   simp at a
   subst a
   intro e c b
   have:=h.1 e (by simpa using c)
   simp[b,Nat.blt]at this
   omega
  |succ k =>
   simp at a
   intro e c b
   have:=y9 h.2 k o a e c b
   omega
def O3:List Oper->List (Nat×AV)->List (Nat×AV)
 | [],fr=>fr
 |o::r,fr=>match o.dst with
  |some d=>(d,.dead)::O3 r fr
  |none=>O3 r fr
theorem Z7{t:Nat}:∀ {l:List Oper} {fr:List (Nat×AV)},(∀ o∈l,o.dst≠some t)->A2 (O3 l fr) t=A2 fr t
 | [],fr,h=>rfl
 |o::r,fr,h=>by
  have a:=Z7 (fr:=fr) λf c=>h f (mC _ c)
  simp only[O3]
  split
  ·rename_i d b
   rw[E3,if_neg (λe=>h o mS (by rw[b,e]))]
   exact a
  ·exact a
theorem R8{t:Nat}:∀ {l:List Oper} {fr:List (Nat×AV)} {o:Oper},o∈l->o.dst=some t->A2 (O3 l fr) t = .dead
 | [],fr,o,h,_=>by cases h
 |e::r,fr,o,h,b=>by
  simp only[O3]
  split
  ·rename_i d a
   rw[E3]
   split
   ·rfl
   ·rename_i c
    rcases List.mem_cons.1 h with rfl|h
    ·rw[b]at a;cases a;exact absurd rfl c
    ·exact R8 h b
  ·rename_i a
   rcases List.mem_cons.1 h with rfl|h
   ·rw[b]at a;cases a
   ·exact R8 h b
theorem G7(d:Nat)(f:w5)(r:List (Nat×w5))(s:Nat):Y2 ((d,f)::r) s=if d=s then some f else Y2 r s:=by
 simp only[Y2]
 cases h:Nat.beq d s with
 |true=>rw[if_pos (Nat.eq_of_beq_eq_true h)]
 |false=>rw[if_neg (Nat.ne_of_beq_eq_false h)]
section
variable {P:Program} {h0:Hp} {w0:World} {be:Nat->Nat} {oe:Nat->Value} {H:Hp} {h:Hp} {a:Act} {w:World}
theorem Sim.refr{st:St}(b:Sim P h0 w0 be oe H st h a w){fr:List (Nat×AV)}(hf:∀ t,J1 st be oe (A2 fr t) (a.tmps.getD t undef)):Sim P h0 w0 be oe H { st with fr:=fr } h a w:=by
 have c:U4 st be oe { st with fr:=fr } be oe:=⟨Nat.le_refl _,λ_ _=>rfl,λi b h=>⟨b,h,Nat.le_refl _,λ_=>rfl⟩⟩
 refine⟨b.mv,b.sub,λi cs ty g=>?_,b.pub,b.own,b.frz,b.bb,b.oo,b.bo,b.dfr,b.siz,λt=>(hf t).grow c⟩
 obtain⟨d,vs,e,f⟩:=b.box i cs ty g
 exact⟨d,vs,e.grow c,f⟩
def t05(st:St)(be:Nat->Nat)(oe:Nat->Value)(h:Hp):w5->Value->Prop
 | .pu av,v=>J1 st be oe av v
 | .ef F,v=>F v h
theorem J1.fr{st:St}{fr:List (Nat×AV)}{av:AV}{v:Value}(g:J1 st be oe av v):J1 { st with fr:=fr } be oe av v:=by
 obtain⟨n,a,bx,ow⟩:=st
 show J1 ⟨n,fr,bx,ow⟩ be oe av v
 exact J1.grow (st:=⟨n,a,bx,ow⟩) (st':=⟨n,fr,bx,ow⟩) (be:=be) (oe:=oe) (be':=be) (oe':=oe) (av:=av) (x:=v) ⟨Nat.le_refl _,λ_ _=>rfl,λi b h=>⟨b,h,Nat.le_refl _,λ_=>rfl⟩⟩ g
theorem u05{ops:Array Oper}(b:∀(k:Nat) (o:Oper),ops.toList[k]?=some o->∀ e∈o.after,Region.binds .any e=true->e.on<k){listed:Array Bool}(i:listed.size=ops.size)(g:Region.ready .any ops listed = []):
  ∀ j,j<ops.size->listed.getD j false=true:=by
 intro j
 induction j using Nat.strongRecOn with
 |_ j h =>
  intro a
  cases hl:listed.getD j false with
  |true=>rfl
  |false =>
   have f:j<listed.size:=by omega
   have:j∈Region.ready .any ops listed:=by
    refine mem_ready.2 ⟨?_,ops[j],by simp[a],λe d c=>?_⟩
    ·simp[f]at hl ⊢;exact hl
    ·have:=b j ops[j] (by simp[a]) e d c
     exact h e.on this (by omega)
   rw[g]at this
   cases this
theorem count_set{listed:Array Bool}{j:Nat}(a:listed.getD j true=false):(listed.setIfInBounds j true).toList.count true=listed.toList.count true+1:=by
 have b:j<listed.size:=by
  rcases Nat.lt_or_ge j listed.size with h|h
  ·exact h
  ·simp[Array.getElem?_eq_none h]at a
 have c:listed[j]=false:=by simpa [b] using a
 rw[Array.toList_setIfInBounds,List.count_set (by simpa using b)]
 simp[c]
end
end Go.H
namespace Go.H
set_option linter.unusedVariables false
set_option linter.unusedSimpArgs false
theorem G0g{P:Program}{t:TypeId}{cs:List i4}{off:Nat}{av:AV}(h:n0a P t cs off=some av):H00 P t cs off λa=>a=av:=by
 unfold n0a at h
 unfold H00
 cases hA:h0a P t with
 |none=>rw[hA]at h;cases h
 |some b =>
  rw[hA]at h
  cases b with
  |true =>
   cases hT:E4 P t with
   |none=>rw[hT]at h;cases h
   |some m =>
    rw[hT]at h
    simp only at h ⊢
    split at h
    ·rename_i d
     cases h
     rw[d]
    ·cases h
  |false =>
   simp only at h ⊢
   split at h
   ·rename_i c e
    cases h
    rw[e]
   ·cases h
section
variable {P:Program} {h0:Hp} {w0:World} {be:Nat->Nat} {oe:Nat->Value} {H:Hp} {h:Hp} {a:Act} {w:World}
theorem w01{L:List (Nat×w5)}{st stX:St}{x:Operand}
  (d:∀ t,x = .tmp t->(∀ av,Y2 L t=some (.pu av)->J1 stX be oe av (a.tmps.getD t undef))/\(Y2 L t=none->J1 stX be oe (A2 st.fr t) (a.tmps.getD t undef))):J1 stX be oe (e01 L st x) (a.eval x):=by
 cases x with
 |tmp t =>
  obtain⟨b,c⟩:=d t rfl
  show J1 stX be oe (e01 L st (.tmp t)) (a.tmps.getD t undef)
  simp only[e01]
  split
  ·rename_i av e;exact b av e
  ·trivial
  ·rename_i e;exact c e
 |const v=>exact rfl
 |global g=>trivial
 |func f=>trivial
theorem T01{L:List (Nat×w5)}{st stX:St}:∀(l:List Operand) {vs:List (Nat×Value)},(∀ t,Operand.tmp t∈l->J1 stX be oe (e01 L st (.tmp t)) (a.tmps.getD t undef))->a06 L st l=some vs ->
  (∀ p∈vs,p.2=a.eval (.tmp p.1))/\(∀ x∈l,(∃ t v,x = .tmp t/\(t,v)∈vs)∨(∀ q,rho q x=a.eval x))
 | [],vs,G,h=>by cases h;simp
 | .tmp t::r,vs,G,h=>by
  simp only[a06]at h
  split at h
  ·rename_i v m
   split at h
   ·rename_i s k
    cases h
    obtain⟨c,d⟩:=T01 r (λu e=>G u (mC _ e)) k
    have g:=G t mS
    rw[m]at g
    have g:a.tmps.getD t undef=v:=g
    refine⟨λp i=>?_,λx b=>?_⟩
    ·rcases List.mem_cons.1 i with rfl|i
     ·exact g.symm
     ·exact c p i
    ·rcases List.mem_cons.1 b with rfl|b
     ·exact .inl ⟨t,v,rfl,mS⟩
     ·rcases d x b with⟨n,o,rfl,j⟩|hf
      ·exact .inl ⟨n,o,rfl,mC _ j⟩
      ·exact .inr hf
   ·cases h
  ·cases h
 | .global _::r,vs,G,h=>by cases h
 | .const v::r,vs,G,h=>by
  obtain⟨c,d⟩:=T01 r (vs:=vs) (λu e=>G u (mC _ e)) h
  exact⟨c,λx b=>by
   rcases List.mem_cons.1 b with rfl|b
   ·exact .inr λ_=>rfl
   ·exact d x b⟩
 | .func f::r,vs,G,h=>by
  obtain⟨c,d⟩:=T01 r (vs:=vs) (λu e=>G u (mC _ e)) h
  exact⟨c,λx b=>by
   rcases List.mem_cons.1 b with rfl|b
   ·exact .inr λ_=>rfl
   ·exact d x b⟩
theorem E0a{L:List (Nat×w5)}{st stX:St}{o:Oper}{av:AV}(b:N0b P L o st=some av)
  (i:∀ t,Operand.tmp t∈o.op.operands->(∀ av,Y2 L t=some (.pu av)->J1 stX be oe av (a.tmps.getD t undef))/\(Y2 L t=none->J1 stX be oe (A2 st.fr t) (a.tmps.getD t undef))) :
  ∃ v,(execOp a.eval o).run P w = .ok (.value v) w/\J1 stX be oe av v:=by
 unfold N0b at b
 split at b
 ·rename_i vs f j
  obtain⟨d,e⟩:=T01 (a:=a) (stX:=stX) (be:=be) (oe:=oe) _ (λt g=>w01 (x := .tmp t) λu h=>by cases h;exact i t (by simpa using g)) j
  split at b
  ·cases b
  ·split at b
   ·rename_i v c
    cases b
    rw[W06,q05 f d e]at c
    exact⟨v,N0c _ c w,rfl⟩
   ·cases b
 ·cases b
theorem R00{L b:List (Nat×w5)}{st:St}:∀ {l:List Operand},(∀ t,Operand.tmp t∈l->Y2 L t=Y2 b t)->a06 L st l=a06 b st l
 | [],h=>rfl
 | .tmp t::r,h=>by simp only[a06,e01,h t mS,R00 λu a=>h u (mC _ a)]
 | .global _::r,h=>rfl
 | .const _::r,h=>R00 (l:=r) λu a=>h u (mC _ a)
 | .func _::r,h=>R00 (l:=r) λu a=>h u (mC _ a)
theorem f07{L:List (Nat×w5)}{st:St}{o:Oper}{t:TypeId}{x:Operand}{i off:Nat}(b:o.op = .load t x)(a:e01 L st x = .box i off):∀ {l:List Oper},o∈l->i∈X6 L st l
 | [],h=>nomatch h
 |c::r,h=>by
  rcases List.mem_cons.1 h with rfl|h
  ·simp only[X6,b,a]
   exact mS
  ·have:=f07 b a h
   simp only[X6]
   split
   ·split
    ·exact mC _ this
    ·exact this
   ·exact this
theorem z08{bx a:List BSt}{i:Nat}:∀ {l:List Nat},u03 bx l=u03 a l->i∈l->nth bx i=nth a i
 | [],_,h=>nomatch h
 |b::r,e,h=>by
  simp only[u03,List.cons.injEq]at e
  rcases List.mem_cons.1 h with rfl|h
  ·exact e.1
  ·exact z08 e.2 h
theorem c0e{L:List (Nat×w5)}{st stX:St}{o:Oper}{av:AV}(m:Sim P h0 w0 be oe H stX h a w)(s:∀ t x i off,o.op = .load t x->e01 L st x = .box i off->nth stX.bx i=nth st.bx i)(c:t03 P L o st=some av)
  (f:∀ t,Operand.tmp t∈o.op.operands->(∀ av,Y2 L t=some (.pu av)->J1 stX be oe av (a.tmps.getD t undef))/\(Y2 L t=none->J1 stX be oe (A2 st.fr t) (a.tmps.getD t undef))) :
  ∃ v,(execOp a.eval o).run P w = .ok (.value v) w/\J1 stX be oe av v:=by
 unfold t03 at c
 split at c
 ·rename_i x d
  split at c
  ·cases c
   refine⟨a.eval x,?_,w01 λt e=>f t (by rw[d];simp[Op.operands,e])⟩
   unfold execOp;rw[d];rfl
  ·cases c
 ·rename_i x d
  split at c
  ·cases c
   refine⟨a.eval x,?_,w01 λt e=>f t (by rw[d];simp[Op.operands,e])⟩
   unfold execOp;rw[d];rfl
  ·cases c
 ·rename_i t x d
  have g:=w01 (L:=L) (st:=st) (stX:=stX) (be:=be) (oe:=oe) (a:=a) (x:=x) λt e=>f t (by rw[d];simp[Op.operands,e])
  split at c
  ·rename_i i off l
   rw[l]at g
   split at c
   ·rename_i cs ty z
    split at c
    ·rename_i D u
     split at c
     ·cases c
      obtain⟨F,vs,p,q⟩:=m.box i cs ty (by rw[s t x i off d l];exact z)
      obtain⟨E,v,A,B,C⟩:=R.load_row (H:=H) (b:=be i) (o:=0) (be:=be) (G0g u) p (λj v y=>by simp[Hp.cell,q,y])
      subst A
      exact⟨v,R.run_of (R.exec_load d g.2 (by simpa using C)) w (g0f m),B⟩
     ·cases c
    ·cases c
   ·cases c
  ·cases c
 ·rename_i t x k d
  have g:=w01 (L:=L) (st:=st) (stX:=stX) (be:=be) (oe:=oe) (a:=a) (x:=x) λt e=>f t (by rw[d];simp[Op.operands,e])
  split at c
  ·rename_i i off n l e
   rw[l]at g
   cases c
   exact⟨ptr (be i) (off+n),R.run_of (R.exec_fieldAddr d e g.2) w (g0f m),g.1,rfl⟩
  ·cases c
 ·split at c
  ·exact E0a c f
  ·cases c
 ·split at c
  ·split at c
   ·exact E0a c f
   ·cases c
  ·cases c
 ·cases c
theorem a8{L:List (Nat×w5)}{st stX:St}{val:Nat->Value}{K:List (Nat×AV)->Prop}:∀ {l:List Operand} {acc:List (Nat×AV)},
  (∀ t,J1 stX be oe (A2 acc t) (val t))->(∀ t,Operand.tmp t∈l->(∀ av,Y2 L t=some (.pu av)->J1 stX be oe av (val t))/\(Y2 L t=none->J1 stX be oe (A2 st.fr t) (val t))) ->
  L00 L st.fr l acc K->∃ fr,K fr/\∀ t,J1 stX be oe (A2 fr t) (val t)
 | [],acc,b,c,a=>⟨acc,a,b⟩
 | .tmp t::r,acc,b,c,a=>by
  have f:∀ u,Operand.tmp u∈r->_:=λu d=>c u (mC _ d)
  have h:=c t mS
  have put:∀ av,J1 stX be oe av (val t)->∀ u,J1 stX be oe (A2 ((t,av)::acc) u) (val u):=λav g u=>by
   rw[E3]
   split
   ·rename_i e;subst e;exact g
   ·exact b u
  simp only[L00]at a
  split at a
  ·rename_i av e
   exact a8 (put av (h.1 _ e)) f a
  ·rename_i F e
   exact a8 (put .dead trivial) f a
  ·rename_i e
   exact a8 (put _ (h.2 e)) f a
 | .const v::r,acc,b,c,a=>a8 (l:=r) b (λu d=>c u (mC _ d)) a
 | .global v::r,acc,b,c,a=>a8 (l:=r) b (λu d=>c u (mC _ d)) a
 | .func v::r,acc,b,c,a=>a8 (l:=r) b (λu d=>c u (mC _ d)) a
theorem v05:∀(L:List (Nat×w5)) (fr:List (Nat×AV)) (t:Nat),A2 (O0b L fr) t=match Y2 L t with
  |some (.pu av)=>av
  |some (.ef _) => .dead
  |none=>A2 fr t
 | [],fr,t=>rfl
 |(d,.pu av)::r,fr,t=>by
  simp only[O0b]
  rw[E3,G7]
  split
  ·rfl
  ·exact v05 r fr t
 |(d,.ef F)::r,fr,t=>by
  simp only[O0b]
  rw[E3,G7]
  split
  ·rfl
  ·exact v05 r fr t
theorem F0a{L d:List (Nat×w5)}{o:Oper}{st:St}(h:∀ t,Operand.tmp t∈o.op.operands->Y2 L t=Y2 d t):t03 P L o st=t03 P d o st:=by
 have c:∀ x:Operand,(∀ t,x = .tmp t->Operand.tmp t∈o.op.operands)->e01 L st x=e01 d st x:=λx b=>by
  cases x with
  |tmp t=>simp only[e01,h t (b t rfl)]
  |_=>rfl
 have e:N0b P L o st=N0b P d o st:=by
  unfold N0b
  rw[R00 (l:=o.op.operands.toList) λt a=>h t (by simpa using a)]
 unfold t03
 split
 ·rename_i x b;rw[c x λt a=>by rw[b];simp[Op.operands,a]]
 ·rename_i x b;rw[c x λt a=>by rw[b];simp[Op.operands,a]]
 ·rename_i t x b;rw[c x λt a=>by rw[b];simp[Op.operands,a]]
 ·rename_i t x k b;rw[c x λt a=>by rw[b];simp[Op.operands,a]]
 ·rename_i i t x g m b
  rw[c x λt a=>by rw[b];simp[Op.operands,a],c g λt a=>by rw[b];simp[Op.operands,a],e]
 ·rename_i as j b
  split
  ·rename_i x f
   rw[c x λt a=>by
    rw[b]
    have:x∈as.toList:=by rw[f];exact mS
    rw[a]at this
    simp[Op.operands,Call.operands]
    simpa using this,e]
  ·rfl
 ·rfl
theorem c8{L c:List (Nat×w5)}{f:List (Nat×AV)}{K:List (Nat×AV)->Prop}:∀ {l:List Operand} {acc:List (Nat×AV)},(∀ t,Operand.tmp t∈l->Y2 L t=Y2 c t)->L00 L f l acc K->L00 c f l acc K
 | [],acc,a,h=>h
 | .tmp t::r,acc,a,h=>by
  have e:=a t mS
  have d:∀ u,Operand.tmp u∈r->Y2 L u=Y2 c u:=λu b=>a u (mC _ b)
  simp only[L00]at h ⊢
  rw[←e]
  split at h
  ·exact c8 d h
  ·exact c8 d h
  ·exact c8 d h
 | .const _::r,acc,a,h=>c8 (l:=r) (λu b=>a u (mC _ b)) h
 | .func _::r,acc,a,h=>c8 (l:=r) (λu b=>a u (mC _ b)) h
 | .global _::r,acc,a,h=>c8 (l:=r) (λu b=>a u (mC _ b)) h
structure S00 (P:Program) (st:St) (h:Hp) (ops:List Oper) (k:Nat) (L:List (Nat×w5)) (X E:List (Nat×Oper)):Prop where
 key:∀ t f,Y2 L t=some f->∃(i:Nat) (oi:Oper),i<k/\ops[i]?=some oi/\oi.dst=some t
 cov:∀(i:Nat) (oi:Oper) (d:Nat),i<k->ops[i]?=some oi->oi.dst=some d->∃ f,Y2 L d=some f
 each:∀(j:Nat) (o:Oper),j<k->ops[j]?=some o->o.guard=none/\((j,o)∈E∨((∀ p∈E,p.1≠j)/\∃ av,(t03 P L o st=some av∨((j,o)∈X/\p0a P st h L o av))/\∀ d,o.dst=some d->Y2 L d=some (.pu av)))
 eff:∀ p∈E,p.1<k/\ops[p.1]?=some p.2/\∀ d,p.2.dst=some d->∃ F,Y2 L d=some (.ef F)
 nd:(E.map λp=>p.1).Nodup
 xx:∀ p∈X,p.1<k/\ops[p.1]?=some p.2
theorem S00.add{st:St}{h:Hp}{ops:List Oper}{k:Nat}{L:List (Nat×w5)}{X A E C:List (Nat×Oper)}{o:Oper}{f:w5}
  (S:∀(i j:Nat) (q l:Oper) (d:Nat),ops[i]?=some q->ops[j]?=some l->q.dst=some d->l.dst=some d->i=j)
  (N:∀(j:Nat) (o:Oper) (t i:Nat) (q:Oper),ops[j]?=some o->Operand.tmp t∈o.op.operands->ops[i]?=some q->q.dst=some t->i<j)
  (s:S00 P st h ops k L X E) (u:ops[k]?=some o) (G:o.guard=none) (M:A=X∨A=X ++ [(k,o)])
  (B:(C=E/\∃ av,f = .pu av/\(t03 P L o st=some av∨((k,o)∈A/\p0a P st h L o av)))∨(C=E ++ [(k,o)]/\∃ F,f = .ef F)):S00 P st h ops (k+1) (y02 o.dst f L) A C:=by
 have no:∀ d,o.dst=some d->Y2 L d=none:=λd c=>by
  cases h:Y2 L d with
  |none=>rfl
  |some g =>
   obtain⟨i,q,w,m,D⟩:=s.key d g h
   have:=S i k q o d m u D c
   omega
 have up:∀ t g,Y2 L t=some g->Y2 (y02 o.dst f L) t=some g:=λt g b=>by
  cases c:o.dst with
  |none=>exact b
  |some d =>
   show Y2 ((d,f)::L) t=some g
   rw[G7]
   split
   ·rename_i e;subst e;rw[no d c]at b;cases b
   ·exact b
 have I:∀ d,o.dst=some d->Y2 (y02 o.dst f L) d=some f:=λd c=>by
  rw[c];show Y2 ((d,f)::L) d=some f;rw[G7,if_pos rfl]
 have dn:∀ t g,Y2 (y02 o.dst f L) t=some g->Y2 L t=some g∨(o.dst=some t/\g=f):=λt g b=>by
  cases c:o.dst with
  |none=>rw[c]at b;exact .inl b
  |some d =>
   rw[c]at b
   change Y2 ((d,f)::L) t=some g at b
   rw[G7]at b
   split at b
   ·rename_i e;subst e;cases b;exact .inr ⟨rfl,rfl⟩
   ·exact .inl b
 have J:∀(j:Nat) (l:Oper),j<=k->ops[j]?=some l->t03 P L l st=t03 P (y02 o.dst f L) l st:=λj l O v=>F0a λt b=>by
  cases c:o.dst with
  |none=>rfl
  |some d =>
   show Y2 L t=Y2 ((d,f)::L) t
   rw[G7]
   split
   ·rename_i e
    subst e
    have:=N j l d k o v b u c
    omega
   ·rfl
 have K:∀(j:Nat) (l:Oper) (av:AV),j<=k->ops[j]?=some l->p0a P st h L l av->p0a P st h (y02 o.dst f L) l av:=λj l av O v H=>by
  obtain⟨n,fr,bx,ow⟩:=st
  intro R U
  refine c8 (λt b=>?_) (H R U)
  cases c:o.dst with
  |none=>rfl
  |some d =>
   show Y2 L t=Y2 ((d,f)::L) t
   rw[G7]
   split
   ·rename_i e
    subst e
    have:=N j l d k o v (by simpa using b) u c
    omega
   ·rfl
 have W:∀ p,p∈X->p∈A:=λp a=>by
  rcases M with rfl|rfl
  ·exact a
  ·exact List.mem_append_left _ a
 refine⟨λt g b=>?_,λi q d aa w m=>?_,λj l O v=>?_,λp a=>?_,?_,λp a=>?_⟩
 rotate_left 5
 ·rcases M with rfl|rfl
  ·obtain⟨w,m⟩:=s.xx p a
   exact⟨by omega,m⟩
  ·rcases List.mem_append.1 a with a|a
   ·obtain⟨w,m⟩:=s.xx p a
    exact⟨by omega,m⟩
   ·simp at a
    subst a
    exact⟨by simp,u⟩
 rotate_left 4
 ·rcases B with⟨rfl,_⟩|⟨rfl,_⟩
  ·exact s.nd
  ·rw[List.map_append,List.nodup_append]
   refine⟨s.nd,by simp,λx H ab V e=>?_⟩
   obtain⟨p,a,rfl⟩:=List.mem_map.1 H
   have:=(s.eff p a).1
   simp at V
   omega
 ·rcases dn t g b with h|⟨h,_⟩
  ·obtain⟨i,q,w,m⟩:=s.key t g h
   exact⟨i,q,by omega,m⟩
  ·exact⟨k,o,by omega,u,h⟩
 ·rcases Nat.lt_or_ge i k with h|h
  ·obtain⟨g,G⟩:=s.cov i q d h w m
   exact⟨g,up d g G⟩
  ·have:i=k:=by omega
   subst this
   rw[u]at w;cases w
   exact⟨f,I d m⟩
 ·rcases Nat.lt_or_ge j k with h|h
  ·obtain⟨Y,y⟩:=s.each j l h v
   refine⟨Y,?_⟩
   rcases y with y|⟨y,av,z,Z⟩
   ·left
    rcases B with⟨rfl,_⟩|⟨rfl,_⟩
    ·exact y
    ·exact List.mem_append_left _ y
   ·right
    refine⟨λp a=>?_,av,z.imp (λz=>by rw[←J j l (by omega) v];exact z) (λz=>⟨W _ z.1,K j l av (by omega) v z.2⟩),λd c=>up d _ (Z d c)⟩
    rcases B with⟨rfl,_⟩|⟨rfl,_⟩
    ·exact y p a
    ·rcases List.mem_append.1 a with a|a
     ·exact y p a
     ·simp at a;rw[a];show k≠j;omega
  ·have:j=k:=by omega
   subst this
   rw[u]at v;cases v
   refine⟨G,?_⟩
   rcases B with⟨rfl,av,rfl,a⟩|⟨rfl,F,rfl⟩
   ·right
    exact⟨λp a=>by have:=(s.eff p a).1;omega,av,a.imp (λa=>by rw[←J _ o (Nat.le_refl _) u];exact a) (λa=>⟨a.1,K _ o av (Nat.le_refl _) u a.2⟩),I⟩
   ·left
    exact List.mem_append_right _ (List.mem_singleton.2 rfl)
 ·have Q:p∈E->p.1<k+1/\ops[p.1]?=some p.2/\∀ d,p.2.dst=some d->∃ F,Y2 (y02 o.dst f L) d=some (.ef F):=λa=>by
   obtain⟨w,m,D⟩:=s.eff p a
   exact⟨by omega,m,λd c=>by obtain⟨F,T⟩:=D d c;exact⟨F,up d _ T⟩⟩
  rcases B with⟨rfl,_⟩|⟨rfl,F,rfl⟩
  ·exact Q a
  ·rcases List.mem_append.1 a with a|a
   ·exact Q a
   ·simp at a
    subst a
    exact⟨by omega,u,λd c=>⟨F,I d c⟩⟩
theorem T00{ops:List Oper}{st:St}{h:Hp}{K:List (Nat×w5)->List (Nat×Oper)->List (Nat×Oper)->Prop}
  (g:∀(i j:Nat) (b A:Oper) (d:Nat),ops[i]?=some b->ops[j]?=some A->b.dst=some d->A.dst=some d->i=j)
  (m:∀(j:Nat) (o:Oper) (t i:Nat) (b:Oper),ops[j]?=some o->Operand.tmp t∈o.op.operands->ops[i]?=some b->b.dst=some t->i<j) :
  ∀(l:List Oper) (k:Nat) (L:List (Nat×w5)) (X E:List (Nat×Oper)),(∀ j,l[j]?=ops[k+j]?)->S00 P st h ops k L X E->t9 P st h l k L X E K->∃ y z x,K y z x/\S00 P st h ops ops.length y z x
 | [],k,L,X,E,n,c,a=>by
  refine⟨L,X,E,a,?_⟩
  have G:ops.length<=k:=by
   have:=n 0
   simpa using this
  have lt:∀(i:Nat) (b:Oper),ops[i]?=some b->i<ops.length:=λi b h=>(List.getElem?_eq_some_iff.1 h).1
  exact⟨λt f h=>by obtain⟨i,b,_,e,q⟩:=c.key t f h;exact⟨i,b,lt i b e,e,q⟩,λi b d D=>c.cov i b d (by omega),λj o F=>c.each j o (by omega),
   λp w=>by obtain⟨_,e,q⟩:=c.eff p w;exact⟨lt _ _ e,e,q⟩,c.nd,λp w=>by obtain⟨_,e⟩:=c.xx p w;exact⟨lt _ _ e,e⟩⟩
 |o::l,k,L,X,E,n,c,a=>by
  have v:ops[k]?=some o:=by simpa using (n 0).symm
  have u:∀ j,l[j]?=ops[k+1+j]?:=λj=>by have:=n (j+1);simpa [Nat.add_assoc,Nat.add_comm 1 j] using this
  simp only[t9]at a
  split at a
  ·exact a.elim
  ·rename_i s
   split at a
   ·rename_i av B
    rw[O8]at a
    exact T00 g m l (k+1) _ _ _ u (c.add g m v s (.inl rfl) (.inl ⟨rfl,av,rfl,.inl B⟩)) a
   ·rcases a with⟨av,C,a⟩|a
    ·rw[O8]at a
     exact T00 g m l (k+1) _ _ _ u (c.add g m v s (.inr rfl) (.inl ⟨rfl,av,rfl,.inr ⟨by simp,C⟩⟩)) a
    ·exact T00 g m l (k+1) _ _ _ u (c.add g m v s (.inl rfl) (.inr ⟨rfl,_,rfl⟩)) a
theorem g07:∀(r:List (Nat×Oper)) (q:Nat×Oper),n00 r=true->q∈r.tail->∃ p∈r,E6 p.1 q.2=true
 | [],q,_,h=>by cases h
 | [x],q,_,h=>by cases h
 |(i,o)::(j,d)::r,q,a,h=>by
  simp only[n00,Bool.and_eq_true]at a
  rcases List.mem_cons.1 h with rfl|h
  ·exact⟨(i,o),mS,a.1⟩
  ·obtain⟨p,c,b⟩:=g07 ((j,d)::r) q a.2 h
   exact⟨p,mC _ c,b⟩
theorem c9:∀(d r:List (Nat×Oper)),n00 (d++r)=true->n00 r=true
 | [],r,h=>h
 | [x],[],h=>rfl
 | [(i,o)],(j,a)::r,h=>by simp only[List.singleton_append,n00,Bool.and_eq_true]at h;exact h.2
 |(i,o)::(j,a)::d,r,h=>by
  simp only[List.cons_append,n00,Bool.and_eq_true]at h
  exact c9 ((j,a)::d) r h.2
theorem g01{i:Nat}{o:Oper}:∀ {a:Nat},o00 a i o=true->∀ k,k<a->k≠i->∃ e∈o.after,Region.binds .any e=true/\e.on=k
 |0,_,k,c,_=>by omega
 |a+1,h,k,c,b=>by
  simp only[o00,Bool.and_eq_true,Bool.or_eq_true]at h
  by_cases e:k=a
  ·subst e
   rcases h.1 with g|g
   ·exact absurd (Nat.eq_of_beq_eq_true g) b
   ·exact L5 g
  ·exact g01 h.2 k (by omega) b
def m0f(P:Program)(h0:Hp)(w0:World)(ops:Array Oper)(n:Nat)(fr:List (Nat×AV))(f:List BSt)(g:List Own)(i:Hp)(c:Nat)(F:List (Nat×Oper))(b:List (Nat×w5))(EV:List (Nat×Oper)->List (Nat×Oper)->List (Nat×w5)->St->Hp->Prop)(listed:Array Bool)(a:Act)(w:World):Prop :=
 ∃(dn r:List (Nat×Oper)) (L:List (Nat×w5)) (bx:List BSt) (ow:List Own) (h:Hp) (be:Nat->Nat) (oe:Nat->Value) (H:Hp),F=dn++r/\(dn.length<=c->ow=g/\Sub i h/\(bx=f∨∀ k,k<ops.size->listed.getD k false=true))/\(∀(j:Nat) (o:Oper),ops[j]?=some o->listed.getD j false=true->∀ e∈o.after,Region.binds .any e=true->listed.getD e.on false=true)/\(∀ p∈r,listed.getD p.1 true=false)/\(∀ p∈dn,listed.getD p.1 false=true) /\
  (u03 bx (X6 b ⟨n,fr,f,g⟩ ops.toList)=u03 f (X6 b ⟨n,fr,f,g⟩ ops.toList)∨∀ k,k<ops.size->listed.getD k false=true)/\Sim P h0 w0 be oe H ⟨n,O3 ops.toList fr,bx,ow⟩ h a w/\EV dn r L ⟨n,fr,bx,ow⟩ h /\
  (∀ t,(Y2 b t=none->Y2 L t=none)/\∀ av,Y2 b t=some (.pu av)->Y2 L t=some (.pu av)) /\
  ∀(j:Nat) (o:Oper) (d:Nat),ops[j]?=some o->o.dst=some d->listed.getD j false=true->∃ av,Y2 L d=some (.pu av)/\J1 ⟨n,fr,bx,ow⟩ be oe av (a.tmps.getD d undef)
abbrev d0e(P:Program)(h0:Hp)(w0:World)(ops:Array Oper)(n:Nat)(fr:List (Nat×AV))(d:List BSt)(e:List Own)(f:Hp)(c:Nat)(E:List (Nat×Oper))(b:List (Nat×w5))(K:St->Hp->Prop)(listed:Array Bool)(a:Act)(w:World):Prop :=
 m0f P h0 w0 ops n fr d e f c E b (λdn r L st h=>evC (X6 b ⟨n,fr,d,e⟩ ops.toList) ops.size P (c-dn.length) r L st h K) listed a w
theorem O0h{ops:Array Oper}{Q:Exit->Act->World->Prop}{Inv:Array Bool->Act->World->Prop}(n:∀(k:Nat) (o:Oper),ops.toList[k]?=some o->∀ e∈o.after,Region.binds .any e=true->e.on<k)
  (q:∀ listed a w j o,listed.size=ops.size->listed.getD j true=false->ops[j]?=some o->(∀ e∈o.after,Region.binds .any e=true->listed.getD e.on false=true)->Inv listed a w->o.guard=none/\o.wp P a w (Inv (listed.setIfInBounds j true)) Q)
  (i:∀ listed a w,(∀ j,j<ops.size->listed.getD j false=true)->Inv listed a w->Q .normal a w) :
  ∀(fuel:Nat) (listed:Array Bool) (a:Act) (w:World),listed.size=ops.size->listed.toList.count true+fuel=ops.size->Inv listed a w->wpAny P .any ops Q fuel listed a w
 |0,listed,a,w,h,u,f=>by
  have p:∀ j,j<ops.size->listed.getD j false=true:=λj g=>by
   have c:∀ b∈listed.toList,true=b:=List.count_eq_length.1 (by simp only[Array.length_toList];omega)
   have l:j<listed.size:=by omega
   have:=c listed[j] (by simp)
   simp[l,←this]
  refine⟨?_,i listed a w p f⟩
  cases m:Region.ready .any ops listed with
  |nil=>rfl
  |cons j r =>
   have g:j∈Region.ready .any ops listed:=by rw[m];exact mS
   obtain⟨c,o,d,_⟩:=mem_ready.1 g
   have l:j<ops.size:=(Array.getElem?_eq_some_iff.1 d).1
   have:=p j l
   have y:j<listed.size:=by omega
   simp[y]at this c
   rw[this]at c;cases c
 |fuel+1,listed,a,w,h,u,f=>by
  refine⟨λm=>i listed a w (u05 n h m) f,λj g=>?_⟩
  obtain⟨c,o,d,t⟩:=mem_ready.1 g
  unfold wpOp
  simp only[d]
  obtain⟨v,A⟩:=q listed a w j o h c d t f
  have z:Region.wanted o (yielded ops a.tmps)=true:=by unfold Region.wanted;rw[v]
  rw[if_pos z]
  exact .inl (Oper.wp_mono (λs B x=>O0h n q i fuel _ s B (by simpa using h) (by rw[count_set c];omega) x) A)
theorem z04{ops:Array Oper}{listed:Array Bool}{X:List (Nat×Oper)}
  (g:∀(k:Nat) (o:Oper),ops[k]?=some o->listed.getD k false=true->∀ e∈o.after,Region.binds .any e=true->listed.getD e.on false=true)
  (s:∀ b∈X,ops[b.1]?=some b.2):∀(n i a:Nat) (q:Oper),ops[a]?=some q->listed.getD a false=true->p09 X n i q=true->listed.getD i false=true
 |0,i,a,q,j,h,l=>by
  obtain⟨e,c,d,f⟩:=L5 l
  have:=g a q j h e c d
  rwa [f]at this
 |n+1,i,a,q,j,h,l=>by
  simp only[p09,Bool.or_eq_true,List.any_eq_true,Bool.and_eq_true]at l
  rcases l with m|⟨b,u,m,t⟩
  ·obtain⟨e,c,d,f⟩:=L5 m
   have:=g a q j h e c d
   rwa [f]at this
  ·obtain⟨e,c,d,f⟩:=L5 m
   have p:=g a q j h e c d
   rw[f]at p
   exact z04 g s n i b.1 b.2 (s b u) p t
theorem w05{E:List (Nat×Oper)}{listed:Array Bool}{j:Nat}{o:Oper}(n:∀ e∈o.after,Region.binds .any e=true->listed.getD e.on false=true)
  (h:∀ dn r,E=dn++r->n00 r=true) {dn r:List (Nat×Oper)} (f:E=dn++r) (t:∀ p∈r,listed.getD p.1 true=false) (d:(j,o)∈r):∃ a,r=(j,o)::a:=by
 obtain⟨q,a,rfl⟩:∃ q a,r=q::a:=by
  cases r with
  |nil=>cases d
  |cons q a=>exact⟨q,a,rfl⟩
 rcases List.mem_cons.1 d with e|u
 ·exact⟨a,by rw[e]⟩
 ·exfalso
  obtain⟨p,s,m⟩:=g07 (q::a) (j,o) (h dn _ f) u
  obtain⟨e,i,k,l⟩:=L5 m
  have b:=n e i k
  have c:=t p s
  rw[l]at b
  rcases Nat.lt_or_ge p.1 listed.size with g|g
  ·simp[g]at b c
   rw[b]at c;cases c
  ·simp[Array.getElem?_eq_none g]at b
theorem R0c{ops:Array Oper}{n:Nat}{fr:List (Nat×AV)}{Y:List BSt}{aj:List Own}{aX:Hp}{c:Nat}{X E F:List (Nat×Oper)}{ad:List (Nat×w5)}{EV:List (Nat×Oper)->List (Nat×Oper)->List (Nat×w5)->St->Hp->Prop}{Q:Exit->Act->World->Prop}{listed:Array Bool}{j:Nat}{o:Oper}
  (ba:∀(i j:Nat) (m bq:Oper) (d:Nat),ops.toList[i]?=some m->ops.toList[j]?=some bq->m.dst=some d->bq.dst=some d->i=j)
  (bh:∀ o∈ops.toList,∀ d,o.dst=some d->d<n) (am:S00 P ⟨n,fr,Y,aj⟩ aX ops.toList ops.toList.length ad X E) (aQ:∀ x∈F,x∈E) (bw:(j,o)∈E->(j,o)∈F) (bz:(F.map λp=>p.1).Nodup)
  (bT:∀ dn r,F=dn++r->(∀ p∈dn,listed.getD p.1 false=true)->(∀ p∈r,listed.getD p.1 true=false)->(j,o)∈r->∃ J,r=(j,o)::J)
  (aV:∀ dn J L bx ow h,F=dn++(j,o)::J->(∀ p∈dn,listed.getD p.1 false=true)->EV dn ((j,o)::J) L ⟨n,fr,bx,ow⟩ h->L00 L fr o.op.operands.toList [] λT=>v6 P o ⟨n,T,bx,ow⟩ h λav st' Z=>match st' with
   |⟨_,_,A,C⟩=>q09 (c-dn.length) ow C h Z/\H0c (c-dn.length) (R06 ops.size j o J) (X6 ad ⟨n,fr,Y,aj⟩ ops.toList) bx A/\U7 av λav=>w6 A λA=>w6 C λC=>EV (dn ++ [(j,o)]) J (y02 o.dst (.pu av) L) ⟨n,fr,A,C⟩ Z)
  (aU:O06 X (X++E) (F.drop c)=true)
  (aa:listed.getD j true=false) (ay:ops[j]?=some o) (bZ:listed.size=ops.size)
  (bf:∀ t,Operand.tmp t∈o.op.operands->∀(i:Nat) (m:Oper),ops.toList[i]?=some m->m.dst=some t->listed.getD i false=true)
  (bg:∀ e∈o.after,Region.binds .any e=true->listed.getD e.on false=true)
  (aW:m0f P h0 w0 ops n fr Y aj aX c F ad EV listed a w):o.guard=none/\o.wp P a w (m0f P h0 w0 ops n fr Y aj aX c F ad EV (listed.setIfInBounds j true)) Q:=by
 obtain⟨dn,r,L,bx,ow,Z,be,oe,H,M,aq,bd,aH,ae,bD,W,af,N,an⟩:=aW
 have az:ops.toList[j]?=some o:=by simpa using ay
 have aG:o∈ops.toList:=List.mem_of_getElem? az
 have ax:j<ops.toList.length:=(List.getElem?_eq_some_iff.1 az).1
 have au:j<listed.size:=by simpa [bZ] using ax
 have aJ : ¬ ∀ k,k<ops.size->listed.getD k false=true:=λe=>by
  have l:=e j (by simpa using ax)
  simp[au]at l aa
  rw[l]at aa;cases aa
 have aR:u03 bx (X6 ad ⟨n,fr,Y,aj⟩ ops.toList)=u03 Y (X6 ad ⟨n,fr,Y,aj⟩ ops.toList):=by
  rcases bD with e|e
  ·exact e
  ·exact absurd e aJ
 obtain⟨bI,bN⟩:=am.each j o ax az
 refine⟨bI,?_⟩
 have bt:∀ t,Y2 L t≠none->∃(i:Nat) (m:Oper),ops.toList[i]?=some m/\m.dst=some t:=λt y=>by
  cases h0':Y2 ad t with
  |none=>exact absurd ((N t).1 h0') y
  |some f=>obtain⟨i,m,_,s,O⟩:=am.key t f h0';exact⟨i,m,s,O⟩
 have frame:∀ t,(∀ aB∈ops.toList,aB.dst≠some t)->J1 ⟨n,fr,bx,ow⟩ be oe (A2 fr t) (a.tmps.getD t undef):=λt y=>by
  have g:=W.fr t
  change J1 _ be oe (A2 (O3 ops.toList fr) t) _ at g
  rw[Z7 y]at g
  exact J1.fr (st:=⟨n,O3 ops.toList fr,bx,ow⟩) (fr:=fr) g
 have aC:∀ t,Operand.tmp t∈o.op.operands->(∀ av,Y2 L t=some (.pu av)->J1 ⟨n,fr,bx,ow⟩ be oe av (a.tmps.getD t undef))/\(Y2 L t=none->J1 ⟨n,fr,bx,ow⟩ be oe (A2 fr t) (a.tmps.getD t undef)):=λt y=>by
  refine⟨λav bc=>?_,λbS=>frame t λaB bU G=>?_⟩
  ·obtain⟨i,m,l,s⟩:=bt t (by rw[bc];simp)
   obtain⟨K,B,D⟩:=an i m t (by simpa using l) s (bf t y i m l s)
   rw[bc]at B;cases B
   exact D
  ·obtain⟨i,aW,e⟩:=List.getElem_of_mem bU
   have l:ops.toList[i]?=some aB:=by rw[List.getElem?_eq_getElem aW,e]
   obtain⟨K,B,_⟩:=an i aB t (by simpa using l) G (bf t y i aB l G)
   rw[bS]at B;cases B
 have ac:∀ i,i≠j->∀ d,(listed.setIfInBounds j true).getD i d=listed.getD i d:=λi z d=>getD_set_ne d (Ne.symm z)
 have a0:∀ {A:List BSt} {C:List Own} {U:Hp} {be':Nat->Nat} {oe':Nat->Value} {S:Hp} {v:Value} {ak:World},Sim P h0 w0 be' oe' S ⟨n,O3 ops.toList fr,A,C⟩ U a ak->Sim P h0 w0 be' oe' S ⟨n,O3 ops.toList fr,A,C⟩ U (a.put o.dst v) ak:=by
  intro A C U be' oe' S v ak s1
  cases G:o.dst with
  |none=>exact s1
  |some d =>
   have u:=s1.put (d:=d) (av := .dead) (v:=v) (bh o aG d G) trivial
   refine u.refr (fr:=O3 ops.toList fr) λt=>?_
   have g:=u.fr t
   change J1 _ _ _ (A2 ((d,.dead)::O3 ops.toList fr) t) _ at g
   rw[E3]at g
   split at g
   ·rename_i e
    subst e
    rw[R8 aG G]
    trivial
   ·exact g
 have a1:∀(v:Value) (i:Nat) (m:Oper) (d:Nat),ops[i]?=some m->m.dst=some d->i≠j->(a.put o.dst v).tmps.getD d undef=a.tmps.getD d undef:=λv i m d l s z=>by
  cases G:o.dst with
  |none=>rfl
  |some a3 =>
   have ag:a3≠d:=λe=>by subst e;exact z (ba i j m o a3 (by simpa using l) az s G)
   simp[Act.put,Array.getElem?_setIfInBounds_ne ag]
 have a2:∀(v:Value) (d:Nat),o.dst=some d->(a.put o.dst v).tmps.getD d undef=v:=λv d G=>by
  have ax:d<a.tmps.size:=by rw[W.siz];exact bh o aG d G
  rw[G]
  simp[Act.put,ax]
 have aS:∀(i:Nat) (m:Oper),ops[i]?=some m->(listed.setIfInBounds j true).getD i false=true->∀ e∈m.after,Region.binds .any e=true->(listed.setIfInBounds j true).getD e.on false=true:=λi m l s e aE aF=>by
  by_cases z:i=j
  ·subst z
   rw[ay]at l;cases l
   exact getD_set_true (bg e aE aF)
  ·rw[ac i z]at s
   exact getD_set_true (bd i m l s e aE aF)
 rcases bN with ar|⟨bj,av,bV|⟨bK,bO⟩,bb⟩
 ·
  have bM:(j,o)∈r:=by
   have ar:=bw ar
   rw[M]at ar
   rcases List.mem_append.1 ar with ah|ah
   ·have l:=ae _ ah
    simp[au]at l aa
    rw[l]at aa;cases aa
   ·exact ah
  obtain⟨J,rfl⟩:=bT dn r M ae aH bM
  have af:=aV dn J L bx ow Z M ae af
  obtain⟨T,af,aL⟩:=a8 (acc:=[]) (st:=⟨n,fr,bx,ow⟩) (stX:=⟨n,fr,bx,ow⟩) (be:=be) (oe:=oe) (val:=λt=>a.tmps.getD t undef) (λt=>trivial) (λt y=>aC t (by simpa using y)) af
  have aY:Sim P h0 w0 be oe H ⟨n,T,bx,ow⟩ Z a w:=W.refr (fr:=T) λt=>J1.fr (st:=⟨n,fr,bx,ow⟩) (fr:=O3 ops.toList fr) (aL t)
  refine Oper.wp_mono (λbu ak ah=>?_) (F7 aY af)
  obtain⟨K,⟨V,a4,A,C⟩,U,v,be',oe',S,al,rfl,s2,aM,I⟩:=ah
  obtain⟨aT,R,al⟩:=al
  rw[O8,j8,j8]at al
  have bR:V=n:=by
   have B:a.tmps.size=V:=s2.siz
   have D:a.tmps.size=n:=W.siz
   omega
  subst bR
  have aN:U4 ⟨V,fr,bx,ow⟩ be oe ⟨V,fr,A,C⟩ be' oe':=⟨I.bl,I.be,I.sm⟩
  have aO:U4 ⟨V,O3 ops.toList fr,bx,ow⟩ be oe ⟨V,O3 ops.toList fr,A,C⟩ be' oe':=⟨I.bl,I.be,I.sm⟩
  have aZ:Sim P h0 w0 be' oe' S ⟨V,O3 ops.toList fr,A,C⟩ U a ak :=
   s2.refr (fr:=O3 ops.toList fr) λt=>J1.fr (st:=⟨V,O3 ops.toList fr,A,C⟩) (fr:=a4) ((W.fr t).grow aO)
  have b0:∀ d,o.dst=some d->Y2 (y02 o.dst (.pu K) L) d=some (.pu K):=λd G=>by
   rw[G];show Y2 ((d,.pu K)::L) d=_;rw[G7,if_pos rfl]
  have bk:∀ t,o.dst≠some t->Y2 (y02 o.dst (.pu K) L) t=Y2 L t:=λt y=>by
   cases G:o.dst with
   |none=>rfl
   |some d =>
    show Y2 ((d,.pu K)::L) t=_
    rw[G7,if_neg λe=>y (by rw[G,e])]
  have bp:R06 ops.size j o J=true->∀ k,k<ops.size->(listed.setIfInBounds j true).getD k false=true:=λab k al=>by
   have bA:o00 ops.size j o=true:=by
    cases J with
    |nil=>exact ab
    |cons q b3=>cases ab
   by_cases hkj:k=j
   ·subst hkj;simp[au]
   ·rw[ac k hkj]
    obtain⟨e,aE,aF,rfl⟩:=g01 bA k al hkj
    exact bg e aE aF
  refine⟨dn ++ [(j,o)],J,y02 o.dst (.pu K) L,A,C,U,be',oe',S,by rw[M];simp,λaw=>(by
   have b2:dn.length<c:=by simp only[List.length_append,List.length_singleton]at aw;omega
   obtain⟨B,D,ap⟩:=aq (by omega)
   obtain⟨aK,bE⟩:∃ aK,c-dn.length=aK+1:=⟨c-dn.length-1,by omega⟩
   rw[bE]at aT R
   refine⟨aT.1.trans B,λb o bB=>aT.2 b o (D b o bB),?_⟩
   cases ab:R06 ops.size j o J with
   |true=>exact .inr (bp ab)
   |false =>
    rw[ab]at R
    rcases ap with ap|ap
    ·exact .inl (R.trans ap)
    ·exact absurd ap aJ),aS,λp u=>?_,λp u=>?_,?_,a0 aZ,al,λt=>?_,λi m d l s O=>?_⟩
  ·have ag:p.1≠j:=λe=>by
    have bi:=bz
    rw[M,List.map_append,List.nodup_append]at bi
    have s:=bi.2.1
    rw[List.map_cons,List.nodup_cons]at s
    exact s.1 (List.mem_map.2 ⟨p,u,e⟩)
   rw[ac _ ag]
   exact aH p (mC _ u)
  ·rcases List.mem_append.1 u with u|u
   ·exact getD_set_true (ae p u)
   ·simp at u
    subst u
    simp[au]
  ·cases ab:R06 ops.size j o J with
   |false =>
    rw[ab]at R
    left
    rw[←aR]
    cases hc:c-dn.length with
    |zero=>rw[hc]at R;exact R
    |succ aK =>
     rw[hc]at R
     have R:A=bx:=R
     rw[R]
   |true=>exact .inr (bp ab)
  ·by_cases y:o.dst=some t
   ·obtain⟨_,_,aD⟩:=am.eff (j,o) ar
    obtain⟨F,aD⟩:=aD t y
    exact⟨λe=>(by rw[aD]at e;cases e),λav e=>(by rw[aD]at e;cases e)⟩
   ·rw[bk t y]
    exact N t
  ·by_cases z:i=j
   ·subst z
    rw[ay]at l;cases l
    exact⟨K,b0 d s,by rw[a2 v d s];exact J1.fr (st:=⟨V,a4,A,C⟩) (fr:=fr) aM⟩
   ·rw[ac _ z]at O
    obtain⟨ao,B,D⟩:=an i m d l s O
    have bF:o.dst≠some d:=λe=>z (ba i j m o d (by simpa using l) az s e)
    exact⟨ao,by rw[bk d bF];exact B,by rw[a1 v i m d l s z];exact D.grow aN⟩
 ·
  have br:∀ {av:AV} {x:Value},J1 ⟨n,fr,bx,ow⟩ be oe av x->J1 ⟨n,O3 ops.toList fr,bx,ow⟩ be oe av x:=λg=>J1.fr (st:=⟨n,fr,bx,ow⟩) (fr:=O3 ops.toList fr) g
  obtain⟨v,bY,bv⟩:=c0e (st:=⟨n,fr,Y,aj⟩) (stX:=⟨n,O3 ops.toList fr,bx,ow⟩) W (λb4 x i off B D=>z08 aR (f07 B D aG)) bV (λt y=>⟨λav e=>br ((aC t y).1 av ((N t).2 av e)),λe=>br ((aC t y).2 ((N t).1 e))⟩)
  refine A5 bY ?_
  refine⟨dn,r,L,bx,ow,Z,be,oe,H,M,(λaw=>⟨(aq aw).1,(aq aw).2.1,.inl ((aq aw).2.2.resolve_right aJ)⟩),aS,λp u=>?_,λp u=>getD_set_true (ae p u),.inl aR,a0 W,af,N,λi m d l s O=>?_⟩
  ·have ag:p.1≠j:=bj p (aQ _ (by rw[M];exact List.mem_append_right _ u))
   rw[ac _ ag]
   exact aH p u
  ·by_cases z:i=j
   ·subst z
    rw[ay]at l;cases l
    exact⟨av,(N d).2 av (bb d s),by rw[a2 v d s];exact J1.fr (st:=⟨n,O3 ops.toList fr,bx,ow⟩) (fr:=fr) bv⟩
   ·rw[ac _ z]at O
    obtain⟨ao,B,D⟩:=an i m d l s O
    exact⟨ao,B,by rw[a1 v i m d l s z];exact D⟩
 ·
  have bG:dn.length<=c:=by
   rcases Nat.lt_or_ge c dn.length with bP|bJ
   ·exfalso
    obtain⟨⟨ai,q⟩,bm⟩:∃ b1,dn[c]?=some b1:=⟨_,List.getElem?_eq_getElem bP⟩
    have bn:(ai,q)∈dn:=List.mem_of_getElem? bm
    have bH:∃ t,F.drop c=(ai,q)::t:=by
     obtain⟨bQ,D⟩:=List.getElem?_eq_some_iff.1 bm
     refine⟨(dn++r).drop (c+1),?_⟩
     rw[M,List.drop_eq_getElem_cons (by simp;omega),List.getElem_append_left bQ,D]
    have bL:listed.getD j false=false:=by simp[au]at aa ⊢;exact aa
    have bW:listed.getD ai false=true:=ae (ai,q) bn
    have bX:ops[ai]?=some q:=by
     have:=(am.eff (ai,q) (aQ _ (by rw[M];exact List.mem_append_left _ bn))).2.1
     simpa using this
    obtain⟨t,y⟩:=bH
    rw[y]at aU
    simp only[O06,List.all_eq_true]at aU
    have:=z04 (X:=X++E) bd (λbs aA=>by
     rcases List.mem_append.1 aA with aA|aA
     ·have aP:=(am.xx bs aA).2;simpa using aP
     ·have aP:=(am.eff bs aA).2.1;simpa using aP) 8 j ai q bX bW (aU (j,o) bK)
    rw[bL]at this;cases this
   ·exact bJ
  obtain⟨rfl,bo,bC⟩:=aq bG
  obtain rfl:=bC.resolve_right aJ
  obtain⟨T,aV,aL⟩:=a8 (acc:=[]) (st:=⟨n,fr,bx,ow⟩) (stX:=⟨n,fr,bx,ow⟩) (be:=be) (oe:=oe) (val:=λt=>a.tmps.getD t undef) (λt=>trivial)
   (λt y=>⟨λav e=>(aC t (by simpa using y)).1 av ((N t).2 av e),λe=>(aC t (by simpa using y)).2 ((N t).1 e)⟩) (bO Z bo)
  have aY:Sim P h0 w0 be oe H ⟨n,T,bx,ow⟩ Z a w:=W.refr (fr:=T) λt=>J1.fr (st:=⟨n,fr,bx,ow⟩) (fr:=O3 ops.toList fr) (aL t)
  refine Oper.wp_mono (λbu ak ah=>?_) (F7 aY aV)
  obtain⟨K,st',U,v,be',oe',S,⟨rfl,rfl,rfl⟩,rfl,s2,aM,I⟩:=ah
  have aN:U4 ⟨n,fr,bx,ow⟩ be oe ⟨n,fr,bx,ow⟩ be' oe':=⟨I.bl,I.be,I.sm⟩
  have aO:U4 ⟨n,O3 ops.toList fr,bx,ow⟩ be oe ⟨n,O3 ops.toList fr,bx,ow⟩ be' oe':=⟨I.bl,I.be,I.sm⟩
  have aZ:Sim P h0 w0 be' oe' S ⟨n,O3 ops.toList fr,bx,ow⟩ U a ak :=
   s2.refr (fr:=O3 ops.toList fr) λt=>J1.fr (st:=⟨n,O3 ops.toList fr,bx,ow⟩) (fr:=T) ((W.fr t).grow aO)
  refine⟨dn,r,L,bx,ow,U,be',oe',S,M,λ_=>⟨rfl,bo,.inl rfl⟩,aS,λp u=>?_,λp u=>getD_set_true (ae p u),.inl rfl,a0 aZ,af,N,λi m d l s O=>?_⟩
  ·have ag:p.1≠j:=bj p (aQ _ (by rw[M];exact List.mem_append_right _ u))
   rw[ac _ ag]
   exact aH p u
  ·by_cases z:i=j
   ·subst z
    rw[ay]at l;cases l
    exact⟨K,(N d).2 K (bb d s),by rw[a2 v d s];exact J1.fr (st:=⟨n,T,bx,ow⟩) (fr:=fr) aM⟩
   ·rw[ac _ z]at O
    obtain⟨ao,B,D⟩:=an i m d l s O
    exact⟨ao,B,by rw[a1 v i m d l s z];exact D.grow aN⟩
theorem q0i{ops:Array Oper}{n:Nat}{fr:List (Nat×AV)}{k:List BSt}{m:List Own}{l:Hp}{c:Nat}{X E:List (Nat×Oper)}{g:List (Nat×w5)}{K:St->Hp->Prop}{Q:Exit->Act->World->Prop}{listed:Array Bool}{j:Nat}{o:Oper}
  (v:∀(i j:Nat) (b s:Oper) (d:Nat),ops.toList[i]?=some b->ops.toList[j]?=some s->b.dst=some d->s.dst=some d->i=j)
  (G:∀ o∈ops.toList,∀ d,o.dst=some d->d<n) (u:S00 P ⟨n,fr,k,m⟩ l ops.toList ops.toList.length g X E) (y:n00 E=true) (B:O06 X (X++E) (E.drop c)=true)
  (D:listed.getD j true=false) (H:ops[j]?=some o) (J:listed.size=ops.size)
  (z:∀ t,Operand.tmp t∈o.op.operands->∀(i:Nat) (b:Oper),ops.toList[i]?=some b->b.dst=some t->listed.getD i false=true)
  (q:∀ e∈o.after,Region.binds .any e=true->listed.getD e.on false=true)
  (C:d0e P h0 w0 ops n fr k m l c E g K listed a w):o.guard=none/\o.wp P a w (d0e P h0 w0 ops n fr k m l c E g K (listed.setIfInBounds j true)) Q:=by
 refine R0c v G u (λx M=>M) id u.nd (λdn r f A I F=>?_) (λdn N L bx ow h f A p=>?_) B D H J z q C
 ·exact w05 q (λdn r f=>c9 dn r (by rw[←f];exact y)) f I F
 ·simp only[evC]at p
  have e:c-(dn ++ [(j,o)]).length=c-dn.length-1:=by simp;omega
  simp only[e]
  exact p
theorem h07:∀ {k:Nat} {E:List (Nat×Oper)} {f:Nat×Oper} {a:List (Nat×Oper)},s08 k E=some (f,a)->∃ A B,E=A++f::B/\a=A++B
 |_,[],f,a,h=>by simp[s08]at h
 |0,x::r,f,a,h=>by
  simp only[s08,Option.some.injEq,Prod.mk.injEq]at h
  obtain⟨rfl,rfl⟩:=h
  exact⟨[],r,rfl,rfl⟩
 |k+1,x::r,f,a,h=>by
  simp only[s08]at h
  split at h
  ·rename_i c d b
   simp only[Option.some.injEq,Prod.mk.injEq]at h
   obtain⟨rfl,rfl⟩:=h
   obtain⟨A,B,rfl,rfl⟩:=h07 b
   exact⟨x::A,B,rfl,rfl⟩
  ·cases h
theorem A08{f:Nat×Oper}:∀ {p:Nat} {E:List (Nat×Oper)},U0d f p E=true->∃ q,E[p]?=some q/\E6 f.1 q.2=true
 |_,[],h=>by simp[U0d]at h
 |0,(i,q)::r,h=>⟨(i,q),rfl,by simpa [U0d] using h⟩
 |p+1,x::r,h=>by
  obtain⟨q,a,b⟩:=A08 (E:=r) (p:=p) (by simpa [U0d] using h)
  exact⟨q,by simpa using a,b⟩
theorem n0f:∀ {X:List (Nat×Oper)},noX X=true->X = []
 | [],_=>rfl
 |_::_,h=>by simp[noX]at h
theorem x05{Y:List (Nat×Oper)}:∀(E:List (Nat×Oper)),O06 [] Y E=true
 | []=>rfl
 |_::_=>rfl
theorem B06{l:Array Bool}{j:Nat}(h:l.getD j true=false):l.getD j false=false:=by
 rcases Nat.lt_or_ge j l.size with g|g
 ·simp[g]at h ⊢;exact h
 ·simp[Array.getElem?_eq_none g]at h
theorem y05{listed:Array Bool}:∀ {A B dn r:List (Nat×Oper)},A++B=dn++r->(∀ p∈A,listed.getD p.1 false=true)->(∀ p∈r,listed.getD p.1 true=false)->∃ C,dn=A++C/\B=C++r
 | [],B,dn,r,h,_,_=>⟨dn,rfl,by simpa using h⟩
 |x::A,B,[],r,h,c,d=>by
  exfalso
  have b:=c x mS
  have a:=B06 (d x (by rw[show r=x::A++B from by simpa using h.symm];simp))
  rw[b]at a;cases a
 |x::A,B,f::dn,r,h,c,d=>by
  simp only[List.cons_append,List.cons.injEq]at h
  obtain⟨rfl,h⟩:=h
  obtain⟨C,b,a⟩:=y05 h (λp e=>c p (mC _ e)) d
  exact⟨C,by rw[b];rfl,a⟩
theorem G0a{g:List Nat}{d c:Nat}{L:List (Nat×w5)}{K:St->Hp->Prop}{dn f:List (Nat×Oper)}{j:Nat}{o:Oper}{n:Nat}{fr:List (Nat×AV)}{bx:List BSt}{ow:List Own}{h:Hp}
  (k:evC g d P (c-dn.length) ((j,o)::f) L ⟨n,fr,bx,ow⟩ h K):L00 L fr o.op.operands.toList [] λl=>v6 P o ⟨n,l,bx,ow⟩ h λav st' i=>match st' with
   |⟨_,_,a,b⟩=>q09 (c-dn.length) ow b h i/\H0c (c-dn.length) (R06 d j o f) g bx a/\U7 av λav=>w6 a λa=>w6 b λb=>evC g d P (c-(dn ++ [(j,o)]).length) f (y02 o.dst (.pu av) L) ⟨n,fr,a,b⟩ i K:=by
 simp only[evC]at k
 have e:c-(dn ++ [(j,o)]).length=c-dn.length-1:=by simp;omega
 simp only[e]
 exact k
theorem o0f{f:Nat×Oper}{b:List Nat}{a:Nat}{K:St->Hp->Prop}{h:Hp}{st:St}{L:List (Nat×w5)}:∀ {p:Nat} {E:List (Nat×Oper)},y0g f b a P p E L st h K->evC b a P 0 (f::E) L st h K
 |0,_,h=>h
 |_+1,_,h=>h.1
theorem r0i{ops:Array Oper}{n:Nat}{fr:List (Nat×AV)}{bx:List BSt}{ow:List Own}{z:Hp}{c:Nat}{X E F:List (Nat×Oper)}{s:List (Nat×w5)}{K:St->Hp->Prop}{R:Act->World->Prop}{listed:Array Bool}
  (B:S00 P ⟨n,fr,bx,ow⟩ z ops.toList ops.toList.length s X E) (M:∀ x∈F,x∈E)
  (N:∀ a w st h be oe H,K st h->Sim P h0 w0 be oe H st h a w->R a w) (u:∀ j,j<ops.size->listed.getD j false=true)
  (o:d0e P h0 w0 ops n fr bx ow z c F s K listed a w):R a w:=by
  obtain⟨dn,r,L,bx,Y,I,be,oe,H,J,_,_,T,Z,_,A,y,C,v⟩:=o
  have U:r = []:=by
   cases r with
   |nil=>rfl
   |cons p aa =>
    have b:=T p mS
    have m:=(B.eff p (M _ (by rw[J];simp))).1
    have d:=u p.1 (by simpa using m)
    rcases Nat.lt_or_ge p.1 listed.size with g|g
    ·simp[g]at b d
     rw[d]at b;cases b
    ·simp[Array.getElem?_eq_none g]at d
  subst U
  simp only[evC,j8]at y
  refine N a w _ I be oe H y (A.refr (fr:=O0b L fr) λt=>?_)
  rw[v05]
  have W:∀ t,Y2 L t≠none->∃(i:Nat) (k:Oper),ops[i]?=some k/\k.dst=some t/\i<ops.size:=λt V=>by
   cases h0':Y2 s t with
   |none=>exact absurd ((C t).1 h0') V
   |some f =>
    obtain⟨i,k,b,m,d⟩:=B.key t f h0'
    exact⟨i,k,by simpa using m,d,by simpa using b⟩
  cases hL:Y2 L t with
  |none =>
   have Q:∀ q∈ops.toList,q.dst≠some t:=λq S O=>by
    obtain⟨i,o,e⟩:=List.getElem_of_mem S
    have b:ops[i]?=some q:=by rw[←e];simp at o ⊢
    obtain⟨D,l,_⟩:=v i q t b O (u i (by simpa using o))
    rw[hL]at l;cases l
   have g:=A.fr t
   change J1 _ be oe (A2 (O3 ops.toList fr) t) _ at g
   rw[Z7 Q]at g
   exact g
  |some f =>
   cases f with
   |ef F=>trivial
   |pu av =>
    obtain⟨i,k,b,m,d⟩:=W t (by rw[hL];simp)
    obtain⟨D,l,G⟩:=v i k t b m (u i d)
    rw[hL]at l;cases l
    exact J1.fr (st:=⟨n,fr,bx,Y⟩) (fr:=O3 ops.toList fr) G
theorem H0a{ops:Array Oper}{st:St}{K:St->Hp->Prop}{Q:Exit->Act->World->Prop}{R:Act->World->Prop}(aN:Sim P h0 w0 be oe H st h a w)(U:E8 st.n ops.toList=true)
  (M:t9 P st h ops.toList 0 [] [] [] λL X E=>evD (X6 L st ops.toList) ops.size P X E L st h K)
  (aD:∀ a w st h be oe H,K st h->Sim P h0 w0 be oe H st h a w->R a w) :
  ∃ Inv:Array Bool->Act->World->Prop,(∀(k:Nat) (o:Oper),ops.toList[k]?=some o->∀ e∈o.after,Region.binds .any e=true->e.on<k) /\
   (∀ listed a w j o,listed.size=ops.size->listed.getD j true=false->ops[j]?=some o->(∀ e∈o.after,Region.binds .any e=true->listed.getD e.on false=true)->Inv listed a w->o.guard=none/\o.wp P a w (Inv (listed.setIfInBounds j true)) Q) /\
   (∀ listed a w,(∀ j,j<ops.size->listed.getD j false=true)->Inv listed a w->R a w)/\Inv (Array.replicate ops.size false) a w:=by
 simp only[E8,Bool.and_eq_true]at U
 obtain⟨⟨aQ,aR⟩,aS⟩:=U
 obtain⟨al,aa⟩:=x00 aQ
 have am:∀(k:Nat) (o:Oper),ops.toList[k]?=some o->∀ e∈o.after,Region.binds .any e=true->e.on<k:=λk o ar e ao U=>by
  have:=y9 aR k o ar e ao U
  omega
 have aE:=S01 aS
 obtain⟨J,X,E,O,I⟩:=T00 (ops:=ops.toList) aa (λj o t i S u m D aX=>by
  obtain⟨e,ao,U,rfl⟩:=aE o (List.mem_of_getElem? u) t m i S D aX
  exact am j o u e ao U) ops.toList 0 [] [] [] (λj=>by simp) ⟨λt f h=>(by cases h),λi S d G=>by omega,λj o bC=>by omega,λp s=>(by cases s),by simp,λp s=>(by cases s)⟩ M
 obtain⟨n,fr,bx,ow⟩:=st
 have ae:∀(listed:Array Bool) (j:Nat) (o:Oper),ops[j]?=some o->(∀ e∈o.after,Region.binds .any e=true->listed.getD e.on false=true)->∀ t,Operand.tmp t∈o.op.operands->∀(i:Nat) (S:Oper),ops.toList[i]?=some S->S.dst=some t->listed.getD i false=true:=λlisted j o m D t bi i S a4 aq=>by
  obtain⟨e,ah,ai,rfl⟩:=aE o (List.mem_of_getElem? (i:=j) (by simpa using m)) t bi i S a4 aq
  exact D e ah ai
 have init:∀(c:Nat) (F:List (Nat×Oper)) (EV:List (Nat×Oper)->List (Nat×Oper)->List (Nat×w5)->St->Hp->Prop),(∀ x∈F,x∈E)->EV [] F J ⟨n,fr,bx,ow⟩ h->m0f P h0 w0 ops n fr bx ow h c F J EV (Array.replicate ops.size false) a w:=λc F EV aY ab=>by
  refine⟨[],F,J,bx,ow,h,be,oe,H,rfl,λ_=>⟨rfl,λ_ _ h=>h,.inl rfl⟩,λj o u m=>by(simp[Array.getElem?_replicate]at m;split at m<;>cases m),λp s=>?_,λp s=>(by cases s),.inl rfl,aN.refr (fr:=O3 ops.toList fr) λt=>?_,ab,λt=>⟨id,λav=>id⟩,λj o d u m D=>?_⟩
  ·have:=(I.eff p (aY p s)).1
   have m:p.1<ops.size:=by simpa using this
   simp[m]
  ·by_cases b:∃ o∈ops.toList,o.dst=some t
   ·obtain⟨o,u,m⟩:=b
    rw[R8 u m]
    trivial
   ·rw[Z7 λo bd O=>b ⟨o,bd,O⟩]
    exact aN.fr t
  ·simp[Array.getElem?_replicate]at D
   split at D<;>cases D
 rcases O with⟨c,⟨af,a1⟩,ab⟩|⟨k,p,O⟩
 ·refine⟨d0e P h0 w0 ops n fr bx ow h c E J K,am,(λlisted a w j o W u m D G=>q0i aa al I af a1 u m W (ae listed j o m D) D G),(λlisted a w ak G=>r0i I (λx b=>b) aD ak G),init c E _ (λx b=>b) ab⟩
 ·split at O
  ·rename_i f bA ar
   obtain⟨⟨aZ,af,a3⟩,ab⟩:=O
   obtain rfl:=n0f aZ
   obtain⟨A,B,rfl,rfl⟩:=h07 ar
   obtain⟨q,V,bg⟩:=A08 a3
   have a2:f∈A++f::B:=by simp
   have aG:=I.eff f a2
   have ap:ops[f.1]?=some f.2:=by simpa using aG.2.1
   have aK:f.1<ops.size:=by simpa using aG.1
   have aw:∀ x∈A++B,x∈A++f::B:=λx b=>by
    rcases List.mem_append.1 b with b|b
    ·exact List.mem_append_left _ b
    ·exact List.mem_append_right _ (mC _ b)
   have bm:((A++B).map λp=>p.1).Nodup:=by
    have:=I.nd
    rw[List.map_append,List.nodup_append]at this ⊢
    obtain⟨bk,aM,bl⟩:=this
    rw[List.map_cons,List.nodup_cons]at aM
    exact⟨bk,aM.2,λx b bq bj=>bl x b bq (by rw[List.map_cons];exact mC _ bj)⟩
   have perm:∀ l y,A++B=l++y->((l++f::y).map λp=>p.1).Nodup:=λl y e=>by
    have u:(A++f::B).Perm (l++f::y):=List.perm_middle.trans ((List.Perm.cons f (by rw[e])).trans List.perm_middle.symm)
    exact(u.map _).nodup I.nd
   have ac:∀ l y,A++B=l++y->∀ x,x∈l++f::y↔x∈A++f::B:=λl y e x=>by
    have u:x∈A++B↔x∈l++y:=by rw[e]
    simp only[List.mem_append,List.mem_cons]at u ⊢
    constructor
    ·rintro(h|h|h)
     ·rcases u.2 (.inl h)with h|h
      ·exact .inl h
      ·exact .inr (.inr h)
     ·exact .inr (.inl h)
     ·rcases u.2 (.inr h)with h|h
      ·exact .inl h
      ·exact .inr (.inr h)
    ·rintro(h|h|h)
     ·rcases u.1 (.inl h)with h|h
      ·exact .inl h
      ·exact .inr (.inr h)
     ·exact .inr (.inl h)
     ·rcases u.1 (.inr h)with h|h
      ·exact .inl h
      ·exact .inr (.inr h)
   let bp:=X6 J ⟨n,fr,bx,ow⟩ ops.toList
   let ad:List (Nat×Oper)->List (Nat×Oper)->List (Nat×w5)->St->Hp->Prop:=λdn r L st h=>y0g f bp ops.size P (p-dn.length) r L st h K
   refine⟨λlisted a w=>(listed.getD f.1 true=false/\m0f P h0 w0 ops n fr bx ow h 0 (A++B) J ad listed a w) ∨
    (listed.getD f.1 false=true/\∃ l y,A++B=l++y/\(∀ p∈l,listed.getD p.1 false=true)/\d0e P h0 w0 ops n fr bx ow h 0 (l++f::y) J K listed a w),am,(λlisted a w j o W u m D G=>?_),(λlisted a w ak G=>?_),.inl ⟨by simp[aK],init 0 (A++B) ad aw ab⟩⟩
   ·have bc:j<listed.size:=by rw[W];exact(Array.getElem?_eq_some_iff.1 m).1
    have au:∀ {x:Nat},listed.getD x false=true->(listed.setIfInBounds j true).getD x false=true:=λh=>getD_set_true h
    rcases G with⟨hf,G⟩|⟨hf,l,y,v,an,G⟩
    ·have aH:=B06 hf
     by_cases aj:j=f.1
     ·
      subst aj
      rw[ap]at m;cases m
      obtain⟨dn,r,L,aT,bn,aW,be',oe',aP,v,br,ay,bs,az,bt,bu,bv,bw,bz⟩:=G
      have aq:d0e P h0 w0 ops n fr bx ow h 0 (dn++f::r) J K listed a w :=
       ⟨dn,f::r,L,aT,bn,aW,be',oe',aP,rfl,br,ay,λp s=>by
        rcases List.mem_cons.1 s with rfl|s
        ·exact hf
        ·exact bs p s,az,bt,bu,by show evC _ _ _ (0-dn.length) _ _ _ _ _;rw[Nat.zero_sub];exact o0f bv,bw,bz⟩
      have:=R0c (F:=dn++f::r) (j:=f.1) (o:=f.2) (Q:=Q) aa al I (λx b=>(ac dn r v x).1 b) (λb=>(ac dn r v _).2 b) (perm dn r v) (λaU Y e aB N aC=>by
       obtain⟨C,T,Z⟩:=y05 (listed:=listed) e az N
       cases C with
       |nil=>exact⟨r,by simpa using Z.symm⟩
       |cons z C =>
        exfalso
        simp only[List.cons_append,List.cons.injEq]at Z
        have:=aB f (by rw[T,Z.1];simp)
        rw[aH]at this;cases this) (λdn Y L bx ow h v ag M=>G0a M) (x05 _) u ap W (ae listed f.1 f.2 ap D) D aq
      exact⟨this.1,Oper.wp_mono (λaA aO b => .inr ⟨by simp[bc],dn,r,v,λp s=>au (az p s),b⟩) this.2⟩
     ·have ba:(j,o)≠f:=λe=>aj (by rw[←e])
      have a0:∀(j:Nat) (o:Oper),ops[j]?=some o->listed.getD j false=true->∀ e∈o.after,Region.binds .any e=true->listed.getD e.on false=true:=by
       obtain⟨_,_,_,_,_,_,_,_,_,_,_,ay,_⟩:=G
       exact ay
      have:=R0c (F:=A++B) (Q:=Q) (EV:=ad) aa al I aw (λb=>by
       rcases List.mem_append.1 b with b|b
       ·exact List.mem_append_left _ b
       ·rcases List.mem_cons.1 b with b|b
        ·exact absurd b ba
        ·exact List.mem_append_right _ b) bm (λdn r v ag bh bb=>w05 D (λdn r v=>c9 dn r (by rw[←v];exact af)) v bh bb) (λdn Y L bB bE h v ag M=>by
       have bD:dn.length<p:=by
        rcases Nat.lt_or_ge dn.length p with g|g
        ·exact g
        ·exfalso
         have aJ:listed.getD f.1 false=true:=by
          rw[v]at V
          obtain⟨e,ah,ai,aF⟩:=L5 bg
          rcases Nat.lt_or_ge p dn.length with N|N
          ·rw[List.getElem?_append_left N]at V
           have aL:q∈dn:=List.mem_of_getElem? V
           have:=(I.eff q (aw q (by rw[v];exact List.mem_append_left _ aL))).2.1
           have:=a0 q.1 q.2 (by simpa using this) (ag q aL) e ah ai
           rwa [aF]at this
          ·have T:p=dn.length:=by omega
           rw[T,List.getElem?_append_right (Nat.le_refl _)]at V
           simp at V
           subst V
           have:=D e ah ai
           rwa [aF]at this
         rw[aH]at aJ;cases aJ
       obtain⟨ax,bf⟩:∃ ax,p-dn.length=ax+1:=⟨p-dn.length-1,by omega⟩
       have T:p-(dn ++ [(j,o)]).length=ax:=by simp;omega
       simp only[ad,bf,T,Nat.zero_sub]at M ⊢
       exact M.2) (x05 _) u m W (ae listed j o m D) D G
      exact⟨this.1,Oper.wp_mono (λaA aO b => .inl ⟨by rw[getD_set_ne true aj];exact hf,b⟩) this.2⟩
    ·have aj:j≠f.1:=λe=>by
      subst e
      have:=B06 u
      rw[hf]at this;cases this
     have:=R0c (F:=l++f::y) (Q:=Q) aa al I (λx b=>(ac l y v x).1 b) (λb=>(ac l y v _).2 b) (perm l y v) (λaU Y e aB N aC=>by
      obtain⟨C,T,Z⟩:=y05 (listed:=listed) (A:=l ++ [f]) (B:=y) (by simpa using e) (λp s=>by
       rcases List.mem_append.1 s with s|s
       ·exact an p s
       ·simp at s;rw[s];exact hf) N
      exact w05 (E:=Y) (dn:=[]) D (λdn bo aV=>c9 dn bo (by rw[←aV];exact c9 (l++C) Y (by rw[List.append_assoc,←Z,←v];exact af))) rfl N aC) (λdn Y L bx ow h v ag M=>G0a M) (x05 _) u m W (ae listed j o m D) D G
     exact⟨this.1,Oper.wp_mono (λaA aO b => .inr ⟨au hf,l,y,v,λp s=>au (an p s),b⟩) this.2⟩
   ·rcases G with⟨hf,G⟩|⟨hf,l,y,v,an,G⟩
    ·have:=ak f.1 aK
     rw[B06 hf]at this;cases this
    ·exact r0i I (λx b=>(ac l y v x).1 b) aD ak G
  ·exact O.elim
theorem e0e{ops:Array Oper}{st:St}{K:St->Hp->Prop}{Q:Exit->Act->World->Prop}(j:Sim P h0 w0 be oe H st h a w)(g:E8 st.n ops.toList=true)
  (i:t9 P st h ops.toList 0 [] [] [] λL X E=>evD (X6 L st ops.toList) ops.size P X E L st h K)
  (f:∀ a w st h be oe H,K st h->Sim P h0 w0 be oe H st h a w->Q .normal a w):wpAny P .any ops Q ops.size (Array.replicate ops.size false) a w:=by
 obtain⟨Inv,b,c,d,e⟩:=H0a (Q:=Q) (R:=λa w=>Q .normal a w) j g i f
 exact O0h (Inv:=Inv) b c d ops.size _ a w (by simp) (by simp[List.count_replicate]) e
theorem A04{L l:Array Bool}{x:Bool}(h:L.toList=l.toList ++ [x]){j:Nat}(a:j<l.size)(b:Bool):L.getD j b=l.getD j b:=by
 rw[Array.getD_eq_getD_getElem?,Array.getD_eq_getD_getElem?,←Array.getElem?_toList,←Array.getElem?_toList,h,List.getElem?_append_left (by simpa using a)]
theorem f0e{L l:Array Bool}{x:Bool}(h:L.toList=l.toList ++ [x])(b:Bool):L.getD l.size b=x:=by
 rw[Array.getD_eq_getD_getElem?,←Array.getElem?_toList,h,List.getElem?_append_right (by simp)];simp
theorem s0i{ops ops0:Array Oper}{o:Oper}{Q:Exit->Act->World->Prop}{Inv:Array Bool->Act->World->Prop}{a:Act}{w:World}(s:ops.toList=ops0.toList ++ [o])
  (v:∀(k:Nat) (o:Oper),ops.toList[k]?=some o->∀ e∈o.after,Region.binds .any e=true->e.on<k)
  (D:o.guard=none) (H:∀ k,k<ops0.size->∃ e∈o.after,Region.binds .any e=true/\e.on=k)
  (K:∀ listed a w j o,listed.size=ops0.size->listed.getD j true=false->ops0[j]?=some o->(∀ e∈o.after,Region.binds .any e=true->listed.getD e.on false=true)->Inv listed a w->o.guard=none/\o.wp P a w (Inv (listed.setIfInBounds j true)) Q)
  (C:∀ listed a w,(∀ j,j<ops0.size->listed.getD j false=true)->Inv listed a w->o.wp P a w (λa w=>Q .normal a w) Q)
  (h0:Inv (Array.replicate ops0.size false) a w):wpAny P .any ops Q ops.size (Array.replicate ops.size false) a w:=by
 have J:ops.size=ops0.size+1:=by
  have:=congrArg List.length s
  simpa using this
 refine O0h (Inv:=λL a w=>(∃ l:Array Bool,l.size=ops0.size/\L.toList=l.toList ++ [false]/\Inv l a w)∨((∀ j,j<ops.size->L.getD j false=true)/\Q .normal a w)) v (λL a w j p M f b u d=>?_) (λL a w g d=>?_) ops.size _ a w (by simp) (by simp[List.count_replicate]) (.inl ⟨_,by simp,by simp[J,List.replicate_succ'],h0⟩)
 ·rcases d with⟨l,h,c,d⟩|⟨g,_⟩
  ·have q:j<ops.size:=(Array.getElem?_eq_some_iff.1 b).1
   by_cases hj:j<ops0.size
   ·have B:ops0[j]?=some p:=by
     rw[←Array.getElem?_toList]at b ⊢
     rw[s,List.getElem?_append_left (by simpa using hj)]at b;exact b
    obtain⟨z,A⟩:=K l a w j p h (by rw[←A04 c (by omega)];exact f) B (λe n m=>by
     have:=v j p (by rw[Array.getElem?_toList];exact b) e n m
     rw[←A04 c (by omega)];exact u e n m) d
    refine⟨z,Oper.wp_mono (λy N E => .inl ⟨_,by simpa using h,?_,E⟩) A⟩
    rw[Array.toList_setIfInBounds,c,List.set_append_left _ _ (by simpa [h] using hj),Array.toList_setIfInBounds]
   ·have F:j=ops0.size:=by omega
    have I:p=o:=by
     rw[←Array.getElem?_toList,s,List.getElem?_append_right (by simp;omega)]at b
     rw[F]at b;simp at b;exact b.symm
    subst I
    have g:∀ k,k<ops0.size->l.getD k false=true:=λk x=>by
     obtain⟨e,n,m,rfl⟩:=H k x
     rw[←A04 c (by omega)];exact u e n m
    refine⟨D,Oper.wp_mono (λy N t => .inr ⟨λk x=>?_,t⟩) (C l a w g d)⟩
    by_cases hkj:k=j
    ·rw[hkj];simp[Array.getD_eq_getD_getElem?,M,q]
    ·have G:k<ops0.size:=by omega
     have:=g k G
     rw[←A04 c (by omega)]at this
     rw[Array.getD_eq_getD_getElem?,Array.getElem?_setIfInBounds_ne (by omega),←Array.getD_eq_getD_getElem?];exact this
  ·have q:j<ops.size:=(Array.getElem?_eq_some_iff.1 b).1
   have i:=g j q
   rw[Array.getD_eq_getD_getElem?]at i f
   rw[Array.getElem?_eq_getElem (by omega)]at i f
   simp at i f
   rw[i]at f;cases f
 ·rcases d with⟨l,h,c,d⟩|⟨_,t⟩
  ·have:=g ops0.size (by omega)
   rw[←h,f0e c]at this;cases this
  ·exact t
theorem g06{o:Oper}:∀(ops:List Oper),Q06 ops=some o->ops=C7 ops ++ [o]
 | [],h=>by simp[Q06]at h
 | [x],h=>by simp only[Q06,Option.some.injEq]at h;rw[h];simp[C7]
 |x::y::r,h=>by
  simp only[Q06]at h
  have:=g06 (y::r) (by simp only[Q06];exact h)
  rw[show C7 (x::y::r)=x::C7 (y::r) by simp only[C7],List.cons_append,←this]
theorem g0e{ops:List Oper}{o:Oper}(h:X0e ops=some o):ops=C7 ops ++ [o]/\o.guard=none/\o00 (C7 ops).length (C7 ops).length o=true:=by
 unfold X0e at h
 split at h
 ·rename_i f c
  split at h
  ·rename_i d b e
   split at h
   ·rename_i a
    cases h
    simp only[Bool.and_eq_true]at a
    exact⟨g06 _ c,b,a.2⟩
   ·cases h
  ·cases h
 ·cases h
end
end Go.H
namespace Go.H
set_option linter.unusedVariables false
set_option linter.unusedSimpArgs false
theorem g00:∀ {L:FL} {t:Nat} {x:List (Nat×Bool)×w5},o9 L t=some x->(t,x)∈L
 | [],t,x,h=>by cases h
 |(d,b)::r,t,x,h=>by
  simp only[o9]at h
  split at h
  ·rename_i a
   cases h
   rw[Nat.eq_of_beq_eq_true a]
   exact mS
  ·exact mC _ (g00 h)
theorem Q03:∀ {L:FL} {t:Nat} {x:List (Nat×Bool)×w5},(t,x)∈L->∃ a,o9 L t=some a
 |(d,a)::r,t,x,h=>by
  simp only[o9]
  split
  ·exact⟨_,rfl⟩
  ·rename_i b
   rcases List.mem_cons.1 h with e|h
   ·cases e;exact absurd rfl (Nat.ne_of_beq_eq_false b)
   ·exact Q03 h
theorem h0e{bs:List BE}{x:BE}(e:∀ f∈bs,f.j≠x.j){j:Nat}{b:BE}(h:N8 bs j=some b):N8 (x::bs) j=some b:=by
 simp only[N8]
 split
 ·rename_i d
  obtain⟨a,c⟩:=w9 h
  exact absurd (c.trans (Nat.eq_of_beq_eq_true d).symm) (e b a)
 ·exact h
abbrev Asg:=Nat->List (Nat×Bool)×Bool×w5
structure l08 (ops:List Oper) (A:Asg) (L:FL) (bs:List BE) (k:Nat):Prop where
 p1:∀ t x,(t,x)∈L->∃ i oi,i<k/\ops[i]?=some oi/\oi.dst=some t/\(A i).1=x.1/\(A i).2.2=x.2
 p2:∀ i oi d,i<k->ops[i]?=some oi->oi.dst=some d->∃ x,o9 L d=some x
 p3:∀ i,i<k->i<ops.length->cB bs (A i).1=some (A i).2.1
 p4:∀ x∈bs,x.j<k/\(∃ o,ops[x.j]?=some o/\o.dst=some x.d)/\(A x.j).1=x.ch/\(A x.j).2.2 = .pu (.val (.bool x.e))
structure p03 (bs bs':List BE):Prop where
 c:∀ ch c,cB bs ch=some c->cB bs' ch=some c
 e:∀ j b,N8 bs j=some b->N8 bs' j=some b
theorem p03.refl(bs:List BE):p03 bs bs:=⟨λ_ _ h=>h,λ_ _ h=>h⟩
theorem p03.trans{a b c:List BE}(d:p03 a b)(f:p03 b c):p03 a c:=⟨λch x h=>f.c ch x (d.c ch x h),λj b h=>f.e j b (d.e j b h)⟩
def OpU(P:Program)(st:St)(h:Hp)(L:FL)(bs:List BE)(o:Oper)(ch:List (Nat×Bool))(c:Bool):w5->Prop
 | .pu av=>v03 P L bs ch o st=some av∨∀ a,Sub h a->imp ch c (j02 L st a ch o.op.operands.toList [] λfr=>v6 P o { st with fr:=fr } a (G0c av { st with fr:=fr } a))
 | .ef F=>(∀ v b d,Sub b d->F v b->F v d)/\∀ a,Sub h a->imp ch c (j02 L st a ch o.op.operands.toList [] λfr=>q0a P o { st with fr:=fr } a (Y0e { st with fr:=fr } a F))
theorem p0f{d:Option Tmp}{ch:List (Nat×Bool)}{f:w5}{L:FL}{p:Nat×List (Nat×Bool)×w5}(h:p∈h08 d ch f L):(∃ s,d=some s/\p=(s,ch,f))∨p∈L:=by
 cases d with
 |none=>exact .inr h
 |some s =>
  rcases List.mem_cons.1 h with h|h
  ·exact .inl ⟨s,rfl,h⟩
  ·exact .inr h
theorem q0f{i:Nat}{d:Option Tmp}{ch:List (Nat×Bool)}{av:AV}{bs:List BE}{x:BE}(h:x∈r09 i d ch av bs):(∃ s e,d=some s/\av = .val (.bool e)/\x=⟨i,s,e,ch⟩)∨x∈bs:=by
 unfold r09 at h
 split at h
 ·split at h
  ·rcases List.mem_cons.1 h with h|h
   ·exact .inl ⟨_,_,rfl,rfl,h⟩
   ·exact .inr h
  ·exact .inr h
 ·exact .inr h
theorem r0f{i:Nat}{d:Option Tmp}{ch:List (Nat×Bool)}{av:AV}{bs:List BE}(f:∀ a∈bs,a.j<i):p03 bs (r09 i d ch av bs):=by
 unfold r09
 split
 ·split
  ·refine⟨λg c h=>W0b (λa e=>?_) h,λj b h=>h0e (λa e=>?_) h⟩<;>(have:=f a e;simp only;omega)
  ·exact p03.refl _
 ·exact p03.refl _
theorem H0g(P:Program)(i:Nat)(L:FL)(bs:List BE)(st:St)(h:Hp)(K:St->Hp->Prop):evU P [] i L bs st h K=∀ a,Sub h a->S06 a L st.fr λfr=>K { st with fr:=fr } a:=by
 obtain⟨n,fr,bx,ow⟩:=st;rfl
theorem s0f(P:Program)(o:Oper)(l:List Oper)(i:Nat)(L:FL)(bs:List BE)(st:St)(h:Hp)(K:St->Hp->Prop)(b:evU P (o::l) i L bs st h K):
    ∃ ch c f,K6 bs o.guard=some ch/\cB bs ch=some c/\(OpU P st h L bs o ch c f/\∀ av,v03 P L bs ch o st=some av->f = .pu av)/\∃ k,k=(match f with
      | .pu av=>r09 i o.dst ch av bs
      | .ef _=>bs)/\evU P l (i+1) (h08 o.dst ch f L) k st h K:=by
  obtain⟨n,fr,bx,ow⟩:=st
  change (match K6 bs o.guard with
        |some ch=>match cB bs ch with
          |some c=>match v03 P L bs ch o ⟨n,fr,bx,ow⟩with
            |some av=>U7 av λav=>evU P l (i+1) (h08 o.dst ch (.pu av) L) (r09 i o.dst ch av bs) ⟨n,fr,bx,ow⟩ h K
            |none=>(∃ av,(∀ a,Sub h a->imp ch c (j02 L ⟨n,fr,bx,ow⟩ a ch o.op.operands.toList [] λfr=>v6 P o ⟨n,fr,bx,ow⟩ a (G0c av ⟨n,fr,bx,ow⟩ a))) /\
                  U7 av λav=>evU P l (i+1) (h08 o.dst ch (.pu av) L) (r09 i o.dst ch av bs) ⟨n,fr,bx,ow⟩ h K) ∨
                (∃ F:Value->Hp->Prop,(∀ v e d,Sub e d->F v e->F v d) /\
                  (∀ a,Sub h a->imp ch c (j02 L ⟨n,fr,bx,ow⟩ a ch o.op.operands.toList [] λfr=>q0a P o ⟨n,fr,bx,ow⟩ a (Y0e ⟨n,fr,bx,ow⟩ a F))) /\
                  evU P l (i+1) (h08 o.dst ch (.ef F) L) bs ⟨n,fr,bx,ow⟩ h K)
          |none=>False
        |none=>False)at b
  split at b
  · rename_i ch j
    split at b
    · rename_i c g
      split at b
      · rename_i av m
        rw[O8]at b
        exact⟨ch,c,.pu av,j,g,⟨.inl m,λt a=>by rw[m]at a;cases a;rfl⟩,_,rfl,b⟩
      · rename_i s
        have p:∀(f:w5) av,v03 P L bs ch o ⟨n,fr,bx,ow⟩=some av->f = .pu av:=λf av a=>by rw[s]at a;cases a
        rcases b with⟨av,e,d⟩|⟨F,e,d,q⟩
        · rw[O8]at d
          exact⟨ch,c,.pu av,j,g,⟨.inr e,p _⟩,_,rfl,d⟩
        · exact⟨ch,c,.ef F,j,g,⟨⟨e,d⟩,p _⟩,_,rfl,q⟩
    · exact b.elim
  · exact b.elim
theorem i07{P:Program}{ops:List Oper}{st:St}{h:Hp}{K:St->Hp->Prop}(ao:∀(i j:Nat) (q S:Oper) (d:Nat),ops[i]?=some q->ops[j]?=some S->q.dst=some d->S.dst=some d->i=j):
  ∀(l:List Oper) (k:Nat) (L:FL) (bs:List BE) (y:Asg),(∀ j,l[j]?=ops[k+j]?)->k+l.length=ops.length->l08 ops y L bs k->evU P l k L bs st h K ->
   ∃(A:Asg) (O:FL) (D:List BE),(∀ i,i<k->A i=y i)/\p03 bs D/\l08 ops A O D ops.length /\
    (∀ j o,k<=j->ops[j]?=some o->∃ T J,K6 D o.guard=some (A j).1/\l08 ops A T J j/\p03 J D/\cB J (A j).1=some (A j).2.1/\(OpU P st h T J o (A j).1 (A j).2.1 (A j).2.2/\∀ av,v03 P T J (A j).1 o st=some av->(A j).2.2 = .pu av)) /\
    (∀ Y,Sub h Y->S06 Y O st.fr λfr=>K { st with fr:=fr } Y)
 | [],k,L,bs,y,ab,Z,m,R=>by
  have aa:k=ops.length:=by simpa using Z
  subst aa
  refine⟨y,L,bs,λ_ _=>rfl,p03.refl _,m,λj o aw I=>?_,by rw[H0g]at R;exact R⟩
  have:=(List.getElem?_eq_some_iff.1 I).1
  omega
 |o::l,k,L,bs,y,ab,Z,m,R=>by
  have I:ops[k]?=some o:=by simpa using (ab 0).symm
  have ax:∀ j,l[j]?=ops[k+1+j]?:=λj=>by have:=ab (j+1);simpa [Nat.add_assoc,Nat.add_comm 1 j] using this
  have aa:k+1+l.length=ops.length:=by simp only[List.length_cons]at Z;omega
  obtain⟨ch,c,f,B,ai,ay,W,ah,au⟩:=s0f P o l k L bs st h K R
  let C:Asg:=λi=>if i=k then(ch,c,f)else y i
  have E:C k=(ch,c,f):=by simp[C]
  have z:∀ i,i<k->C i=y i:=λi n=>by simp[C,Nat.ne_of_lt n]
  have ar:∀ af∈bs,af.j<k:=λaf aA=>(m.p4 af aA).1
  have N:p03 bs W:=by
   subst ah
   cases f with
   |pu av=>exact r0f ar
   |ef F=>exact p03.refl _
  have az:l08 ops C (h08 o.dst ch f L) W (k+1):=by
   refine⟨λt x g=>?_,λi q d n M Q=>?_,λi n ac=>?_,λx g=>?_⟩
   ·rcases p0f g with⟨ak,ae,e⟩|g
    ·cases e
     exact⟨k,o,nS _,I,ae,by rw[E],by rw[E]⟩
    ·obtain⟨i,q,a,s,u,v,X⟩:=m.p1 t x g
     exact⟨i,q,Nat.lt_succ_of_lt a,s,u,by rw[z i a];exact v,by rw[z i a];exact X⟩
   ·rcases Nat.lt_or_ge i k with H|H
    ·obtain⟨x,g⟩:=m.p2 i q d H M Q
     cases hd:o.dst with
     |none=>exact⟨x,g⟩
     |some ak=>exact Q03 (x:=x) (mC _ (g00 g))
    ·have:i=k:=by omega
     subst this
     rw[I]at M;cases M
     rw[Q]
     exact Q03 mS
   ·rcases Nat.lt_or_ge i k with H|H
    ·rw[z i H];exact N.c _ _ (m.p3 i H ac)
    ·have:i=k:=by omega
     subst this
     rw[E];exact N.c _ _ ai
   ·subst ah
    cases f with
    |ef F =>
     obtain⟨a,s,u,v⟩:=m.p4 x g
     exact⟨Nat.lt_succ_of_lt a,s,by rw[z _ a];exact u,by rw[z _ a];exact v⟩
    |pu av =>
     rcases q0f g with⟨ak,e,ae,ap,rfl⟩|g
     ·refine⟨nS _,⟨o,I,ae⟩,by rw[E],?_⟩
      rw[E,ap]
     ·obtain⟨a,s,u,v⟩:=m.p4 x g
      exact⟨Nat.lt_succ_of_lt a,s,by rw[z _ a];exact u,by rw[z _ a];exact v⟩
  obtain⟨A,O,D,ag,U,al,am,an⟩:=i07 ao l (k+1) _ W C ax aa az au
  have V:A k=(ch,c,f):=by rw[ag k (nS _),E]
  have G:∀ i,i<k->A i=y i:=λi n=>by rw[ag i (Nat.lt_succ_of_lt n),z i n]
  refine⟨A,O,D,G,N.trans U,al,λj S aw ad=>?_,an⟩
  rcases Nat.lt_or_ge k j with aj|aj
  ·exact am j S aj ad
  ·have:j=k:=by omega
   subst this
   rw[I]at ad;cases ad
   refine⟨L,bs,?_,⟨λt x g=>?_,λi q d n M Q=>m.p2 i q d n M Q,λi n ac=>?_,λx g=>?_⟩,N.trans U,by rw[V];exact ai,by rw[V];exact ay⟩
   ·rw[V]
    cases hg:o.guard with
    |none=>rw[hg]at B;exact B
    |some p =>
     obtain⟨aB,w⟩:=p
     rw[hg]at B
     simp only[K6]at B ⊢
     split at B
     ·rename_i b aq
      rw[(N.trans U).e _ _ aq]
      exact B
     ·cases B
   ·obtain⟨i,q,a,s,u,v,X⟩:=m.p1 t x g
    exact⟨i,q,a,s,u,by rw[G i a];exact v,by rw[G i a];exact X⟩
   ·rw[G i n];exact m.p3 i n ac
   ·obtain⟨a,s,u,v⟩:=m.p4 x g
    exact⟨a,s,by rw[G _ a];exact u,by rw[G _ a];exact v⟩
section
variable {P:Program} {h0:Hp} {w0:World} {be:Nat->Nat} {oe:Nat->Value} {H:Hp} {st:St} {h:Hp} {a:Act} {w:World} {o:Oper} {K:AV->St->Hp->Prop} {Q:Exit->Act->World->Prop}
theorem I0a(j:Sim P h0 w0 be oe H st h a w){t n:Nat}{f:Array (Nat×Operand)}(p:o.op = .buildSlice t n f)(q:f.toList = [])(c:Z0e P t n st h K):o.wp P a w (Nx P h0 w0 st be oe K a o.dst) Q:=by
 unfold Z0e at c
 split at c
 rotate_left
 ·exact c.elim
 rename_i e x
 split at c
 rotate_left
 ·exact c.elim
 rename_i sz v l
 have m:=Nat.eq_of_beq_eq_true l
 subst m
 have s:f = #[]:=by apply Array.ext';simpa using q
 subst s
 have y:wpS P (execOp a.eval o) h (λi g=>∃ b,h b=none/\i = .value (.slice (some ⟨b,0,none⟩) 0 0)/\g=h.set b (.cells #[] e (0,0))):=by
  unfold execOp;rw[p]
  refine C5 _ _ _ ?_
  simp only[Instr.buildSlice,Z0,L3 (l6 x),W7 v,Nat.zero_mul,K1]
  rw[if_neg (by omega)]
  simp only[K1,if_true,Instr.fill,Array.map_empty,Z0,newRow,newObj,wpS]
  exact λb d=>⟨b,d,rfl,by rw[show Array.range 0 = #[] from rfl,Array.map_empty]⟩
 obtain⟨i,g,B,u,⟨b,d,rfl,rfl⟩,k⟩:=O6 _ _ _ (z03 j) y
 obtain⟨A,z⟩:=j.moved k
 exact A5 u ⟨_,_,_,_,_,_,_,c b d,rfl,z,rfl,U4.refl _ _ _⟩
theorem J0a(m:Sim P h0 w0 be oe H st h a w){t:TypeId}{p q:Operand}{as:Array Operand}{S:Array TypeId}(M:o.op = .call { callee := .builtin .append,args:=as,argTypes:=S })
  (I:as = #[p,q]) (N:S = #[t,t]) (d:a0f P t p q st h K):o.wp P a w (Nx P h0 w0 st be oe K a o.dst) Q:=by
 unfold a0f at d
 split at d
 rotate_left
 ·exact d.elim
 rename_i e ac
 split at d
 rotate_left
 ·exact d.elim
 rename_i sz by_ z ab T ae
 split at d
 rotate_left
 ·exact d.elim
 rename_i af
 obtain⟨i,B,E,R,aj⟩:=P03 ab T ae
 have C:=l6 ac
 have ag:z.cells.size=i.size:=by rw[E];simpa using Z8 _ _ af
 have g:=m.rdO p
 split at d
 rotate_left
 ·exact d.elim
 rename_i n y aa
 rw[aa]at g
 have A:a.eval p = .slice (some ⟨n,y,none⟩) 0 0:=g
 obtain⟨b,⟨v,Y,L⟩,l⟩:=s00 m (Nat.succ_pos sz) d
 have ah:i.size=sz+1:=E
 have ai:i.bytes=by_+1:=R
 rw[←E]at l
 rw[←ah]at L
 rw[←ai]at v
 have U:0<i.bytes:=by rw[R];exact Nat.succ_pos _
 have am:b.length<=140737488355328:=Nat.le_trans (Nat.le_mul_of_pos_right _ U) v
 have Z:((0+b.length:Nat):Int)<=9223372036854775807:=by omega
 have s:=Y7 b (λx D=>(l.1 x D).1)
 have O:=z03 m
 by_cases hn:b = []
 ·have k:(Builtin.append_ #[t,t] o.type #[.slice (some ⟨n,y,none⟩) 0 0,a.eval q]).run P w = .ok (.slice (some ⟨n,y,none⟩) 0 0) w:=by
   subst hn
   rcases l.2 with⟨F,c,f,J⟩|⟨c,f,_⟩
   ·rw[f]
    simp[Builtin.append_,run_underlying C,sizeOf,typeInfo,B,Builtin.lenOf,Builtin.firstCells,loadCells,loadCellsFrom,storeCells]
   ·rw[f]
    simp[Builtin.append_,run_underlying C,sizeOf,typeInfo,B,Builtin.lenOf,Builtin.firstCells,storeCells]
  rw[←A]at k
  exact A5 (Q8 M I N k) ⟨_,_,h,_,_,_,_,Y hn,rfl,m,A,U4.refl _ _ _⟩
 ·rcases l.2 with⟨F,G,f,J⟩|⟨G,f,ad⟩
  rotate_left
  ·exact absurd ad hn
  have an:0<b.length:=by
   cases b with
   |nil=>exact absurd rfl hn
   |cons ao r=>simp
  have k:=run_append_grow (P:=P) w t o.type e i z C B aj ⟨n,y,none⟩ 0 0 [] (by simp) (λj u X=>by simp at X) F b.length G b.flatten s J (by omega) Z (growslice_fits (by omega) (by unfold n01 at v;simpa using v))
  have W:=grownCap_ge w (0+b.length) 0 e
  have V:grownCap w (0+b.length) 0 e<=maxLen:=grownCap_le_maxLen w _ 0 e (by unfold maxLen;omega)
  rw[←f,←A]at k
  obtain⟨al,ak⟩:=m.moved (L1.newD O (.cells ([].toArray++b.flatten.toArray++Builtin.zeroCells z.cells (grownCap w (0+b.length) 0 e-(0+b.length))) e (0,0)) rfl)
  refine A5 (Q8 M I N k) ⟨_,_,_,_,_,_,_,L _ _ ⟨λx D=>l.1 x D,.inr ⟨w.heap.size,grownCap w (0+b.length) 0 e,_,?_,A8 O,rfl,by omega,V,?_,?_⟩⟩,rfl,ak,rfl,U4.refl _ _ _⟩
  ·rw[Nat.zero_add]
  ·simp only[Array.size_append,List.size_toArray,s,size_zeroCells,ag,List.length_nil,←Nat.add_mul,Nat.zero_add]
   rw[Nat.zero_add]at W
   congr 1;omega
  ·simp only[Array.toList_append,List.append_assoc,List.nil_append]
   rw[List.take_append_of_le_length (by simp[s]),List.take_of_length_le (by simp[s])]
theorem K0a(c:Sim P h0 w0 be oe H st h a w)(b:q0a P o st h K):o.wp P a w (Nx P h0 w0 st be oe K a o.dst) Q:=by
 unfold q0a at b
 split at b
 ·rename_i t n j d
  split at b
  ·rename_i g;exact I0a c d g b
  ·exact F7 c b
 ·rename_i as l d
  split at b
  ·rename_i x m t k e i
   split at b
   ·rename_i f
    have:=Nat.eq_of_beq_eq_true f
    subst this
    exact J0a c d (by apply Array.ext';simpa using e) (by apply Array.ext';simpa using i) b
   ·exact b.elim
  ·exact b.elim
 ·exact F7 c b
end
section
variable {P:Program} {h0:Hp} {w0:World} {be:Nat->Nat} {oe:Nat->Value} {H:Hp} {h:Hp} {a:Act} {w:World}
def D09(st:St)(be:Nat->Nat)(oe:Nat->Value)(h:Hp)(bs:List BE)(x:List (Nat×Bool)×w5)(v:Value):Prop:=cB bs x.1=some true->t05 st be oe h x.2 v
theorem d8{L:FL}{st:St}{h:Hp}{bs:List BE}{ch:List (Nat×Bool)}{val:Nat->Value}{K:List (Nat×AV)->Prop}(d:cB bs ch=some true):∀ {l:List Operand} {acc:List (Nat×AV)},
  (∀ t,J1 st be oe (A2 acc t) (val t))->(∀ t,Operand.tmp t∈l->(∀ x,o9 L t=some x->D09 st be oe h bs x (val t))/\(o9 L t=none->J1 st be oe (A2 st.fr t) (val t))) ->
  j02 L st h ch l acc K->∃ fr,K fr/\∀ t,J1 st be oe (A2 fr t) (val t)
 | [],acc,b,c,a=>⟨acc,a,b⟩
 | .tmp t::r,acc,b,c,a=>by
  have j:∀ u,Operand.tmp u∈r->_:=λu i=>c u (mC _ i)
  have k:=c t mS
  have put:∀ av,J1 st be oe av (val t)->∀ u,J1 st be oe (A2 ((t,av)::acc) u) (val u):=λav g u=>by
   rw[E3]
   split
   ·rename_i e;subst e;exact g
   ·exact b u
  simp only[j02]at a
  split at a
  ·rename_i n f e
   split at a
   ·rename_i m
    have hf:=k.1 _ e (i03 m d)
    cases f with
    |pu av=>exact d8 d (put av hf) j a
    |ef F=>exact d8 d (put (.val (val t)) rfl) j (a _ hf)
   ·exact a.elim
  ·rename_i e
   exact d8 d (put _ (k.2 e)) j a
 | .const v::r,acc,b,c,a=>d8 (l:=r) d b (λu i=>c u (mC _ i)) a
 | .global v::r,acc,b,c,a=>d8 (l:=r) d b (λu i=>c u (mC _ i)) a
 | .func v::r,acc,b,c,a=>d8 (l:=r) d b (λu i=>c u (mC _ i)) a
theorem B08{st:St}{val:Nat->Value}{K:List (Nat×AV)->Prop}:∀ {L:FL} {fr:List (Nat×AV)},(∀ p∈L,p.2.1 = []->t05 st be oe h p.2.2 (val p.1)) ->
  (∀ t,(∀ x,(t,x) ∉ L)->J1 st be oe (A2 fr t) (val t))->S06 h L fr K->∃ fr,K fr/\∀ t,J1 st be oe (A2 fr t) (val t)
 | [],fr,b,c,a=>⟨fr,a,λt=>c t (by simp)⟩
 |(d,ch,f)::r,fr,b,c,a=>by
  have step:∀ av,J1 st be oe av (val d)->S06 h r ((d,av)::fr) K->∃ fr,K fr/\∀ t,J1 st be oe (A2 fr t) (val t):=λav g a =>
   B08 (L:=r) (fr:=(d,av)::fr) (λp k=>b p (mC _ k)) (λt l=>by
    rw[E3]
    split
    ·rename_i e;subst e;exact g
    ·rename_i j
     exact c t λx i=>by
      rcases List.mem_cons.1 i with e|i
      ·cases e;exact j rfl
      ·exact l x i) a
  cases ch with
  |nil =>
   have hf:=b (d,[],f) mS rfl
   cases f with
   |pu av=>exact step av hf a
   |ef F=>exact step (.val (val d)) rfl (a _ hf)
  |cons p q =>
   refine step .dead trivial ?_
   cases f<;>exact a
theorem t0f{st:St}{L:FL}{bs:List BE}{ch:List (Nat×Bool)}{o:Oper}{av:AV}(c:v03 P L bs ch o st=some av)(C:cB bs ch=some true)
  (az:∀ t,(∀ x,o9 L t=some x->D09 st be oe h bs x (a.tmps.getD t undef))/\(o9 L t=none->J1 st be oe (A2 st.fr t) (a.tmps.getD t undef))∨Operand.tmp t ∉ o.op.operands)
  (ay:∀ x∈bs,∀ B,o9 L x.d=some B->B=(x.ch,.pu (.val (.bool x.e)))) (au:∀ x∈bs,N8 bs x.j=some x) (ap:∀ x∈bs,∃ B,o9 L x.d=some B)
  (aa:∀ {fr:List (Nat×AV)},(∀ t,J1 st be oe (A2 fr t) (a.tmps.getD t undef))->Sim P h0 w0 be oe H { st with fr:=fr } h a w) {Q:Exit->Act->World->Prop} :
  o.wp P a w (λG l=>∃ v be' oe' E,G=a.put o.dst v/\(∃ fr,Sim P h0 w0 be' oe' E { st with fr:=fr } h a l)/\U4 st be oe st be' oe'/\J1 st be' oe' av v) Q:=by
 have N:Sim P h0 w0 be oe H { st with fr:=[] } h a w:=aa (λt=>trivial)
 have z:∀(x:Operand) (O:List (Nat×Bool)),cB bs O=some true->(∀ t,x = .tmp t->Operand.tmp t∈o.op.operands)->J1 st be oe (rdU L st O x) (a.eval x):=by
  intro x O aq f
  cases x with
  |tmp t =>
   have af:=(az t).resolve_right (λD=>D (f t rfl))
   simp only[rdU]
   split
   ·rename_i aH A e
    split
    ·rename_i M
     have:=af.1 _ e (i03 M aq)
     have g:J1 st be oe A (a.tmps.getD t undef):=this
     have y:=N.rdA (J1.fr (st:=st) (fr:=[]) g)
     have s:rdA { st with fr:=[] } A=rdA st A:=by obtain⟨n,fr,bx,ow⟩:=st;cases A<;>rfl
     rw[s]at y
     exact J1.fr (st := { st with fr:=[] }) (fr:=st.fr) y
    ·trivial
   ·trivial
   ·rename_i e
    have g:=af.2 e
    have y:=N.rdA (J1.fr (st:=st) (fr:=[]) g)
    have s:rdA { st with fr:=[] } (A2 st.fr t)=rdA st (A2 st.fr t):=by obtain⟨n,fr,bx,ow⟩:=st;cases A2 fr t<;>rfl
    rw[s]at y
    exact J1.fr (st := { st with fr:=[] }) (fr:=st.fr) y
  |const v=>exact rfl
  |global v=>trivial
  |func v=>exact rfl
 have done:∀ {v:Value},(∀ l,(execOp a.eval o).run P l = .ok (.value v) l ∨ ¬ Vis H l)->J1 st be oe av v->o.wp P a w (λG l=>∃ v be' oe' E,G=a.put o.dst v/\(∃ fr,Sim P h0 w0 be' oe' E { st with fr:=fr } h a l)/\U4 st be oe st be' oe'/\J1 st be' oe' av v) Q:=λ{v} p g =>
  A5 ((p w).resolve_right λD=>D N.mv.vis) ⟨v,be,oe,H,rfl,⟨[],N⟩,U4.refl _ _ _,g⟩
 unfold v03 at c
 split at c
 ·rename_i x f
  have g:=z x ch C (λt e=>by rw[f];simp[Op.operands,e])
  refine done (v:=a.eval x) (λl => .inl (by unfold execOp;rw[f];rfl)) ?_
  revert c
  cases p:rdU L st ch x<;>intro c<;>first|(cases c;done)|(cases c;rw[p]at g;exact g)
 ·rename_i x f
  have g:=z x ch C (λt e=>by rw[f];simp[Op.operands,e])
  refine done (v:=a.eval x) (λl => .inl (by unfold execOp;rw[f];rfl)) ?_
  revert c
  cases p:rdU L st ch x<;>intro c<;>first|(cases c;done)|(cases c;rw[p]at g;exact g)
 ·rename_i t x f
  have g:=z x ch C (λt e=>by rw[f];simp[Op.operands,e])
  split at c
  ·rename_i i off p
   rw[p]at g
   split at c
   ·rename_i cs ty D
    have aB:∃ u,x = .tmp u:=by
     cases x with
     |tmp u=>exact⟨u,rfl⟩
     |const v=>simp[rdU,rdO]at p
     |global v=>simp[rdU,rdO]at p
     |func v=>simp[rdU,rdO]at p
    obtain⟨u,rfl⟩:=aB
    have ar:v6 P o { st with fr:=[(u,.box i off)] } h λZ st' al=>Z=av/\st' = { st with fr:=[(u,.box i off)] }/\al=h:=by
     have K:rdO { st with fr:=[(u,.box i off)] } (.tmp u) = .box i off:=by
      show rdA _ (A2 [(u,AV.box i off)] u)=_
      rw[E3,if_pos rfl]
      simp only[rdA,D]
     simp only[v6,f,K,D]
     unfold n0a at c
     unfold H00
     cases hA:h0a P t with
     |none=>rw[hA]at c;cases c
     |some ah =>
      rw[hA]at c
      cases ah with
      |true =>
       cases hT:E4 P t with
       |none=>rw[hT]at c;cases c
       |some m =>
        rw[hT]at c
        simp only at c ⊢
        split at c
        ·rename_i am
         cases c
         rw[am]
         simp
        ·cases c
      |false =>
       simp only at c ⊢
       split at c
       ·rename_i aG an
        cases c
        rw[an]
        simp
       ·cases c
    have s1:=aa (fr:=[(u,.box i off)]) (λaK=>by
     rw[E3]
     split
     ·rename_i e;subst e;exact g
     ·trivial)
    refine Oper.wp_mono (λG l f=>?_) (F7 s1 ar)
    obtain⟨Z,st',aJ,v,be',oe',E,⟨S,s,aj⟩,ao,s2,y,I⟩:=f
    rw[s,aj]at s2
    rw[S,s]at y
    rw[s]at I
    exact⟨v,be',oe',E,ao,⟨_,s2⟩,⟨I.bl,I.be,I.sm⟩,J1.fr (st := { st with fr:=[(u,.box i off)] }) (fr:=st.fr) y⟩
   ·cases c
  ·cases c
 ·rename_i t x k f
  have g:=z x ch C (λt e=>by rw[f];simp[Op.operands,e])
  split at c
  ·rename_i i off T p X
   rw[p]at g
   cases c
   refine done (v:=ptr (be i) (off+T)) (λl=>?_) ⟨g.1,rfl⟩
   by_cases hvis:Vis H l
   ·exact .inl (R.run_of (R.exec_fieldAddr (H:=H) f X g.2) l hvis)
   ·exact .inr hvis
  ·rename_i sl j sz aE T p X
   rw[p]at g
   cases c
   obtain⟨b,ag,n,ai,S,s⟩:=g
   refine done (v:=ptr b (ag+(j.toNat*sz+aE)+T)) (λl=>?_) ⟨b,ag,n,ai,S,by simp[Nat.add_assoc]⟩
   by_cases hvis:Vis H l
   ·exact .inl (R.run_of (R.exec_fieldAddr (H:=H) f X s) l hvis)
   ·exact .inr hvis
  ·cases c
 ·rename_i Y x B f
  have g:=z (.tmp Y) ch C (λt e=>by rw[f];cases e;simp[Op.operands])
  split at c
  ·rename_i e q M aw
   rw[M]at g
   have ak:a.eval (.tmp Y) = .bool e:=g
   split at c
   ·rename_i ae
    obtain⟨W,ax⟩:=s05 aw
    have ac:=i03 ae C
    have ad:q.e=e:=by
     have K:rdU L st ch (.tmp Y) = .val (.bool e):=M
     obtain⟨aF,J⟩:=ap q W
     have aC:=ay q W aF J
     rw[aC]at J
     rw[ax]at J
     simp only[rdU,J,ae,Go.H.rdA]at K
     cases K;rfl
    have ab:=au q W
    split at c
    ·rename_i bx by_ aA aD
     cases c
     refine done (v := .bool (cond e bx by_)) (λl => .inl ?_) rfl
     unfold execOp;rw[f]
     simp only[ak,Sem.run_bind,asBool,Sem.run_pure,Result.andThen_ok]
     cases e with
     |true =>
      have V:cB bs ((q.j,true)::q.ch)=some true:=by
       rw[e00,ab,ac];simp[lit,ad]
      have F:=z x _ V (λt e=>by rw[f];simp[Op.operands,e])
      rw[aA]at F
      have U:a.eval x = .bool bx:=F
      simp[U]
     |false =>
      have V:cB bs ((q.j,false)::q.ch)=some true:=by
       rw[e00,ab,ac];simp[lit,ad]
      have F:=z B _ V (λt e=>by rw[f];simp[Op.operands,e])
      rw[aD]at F
      have U:a.eval B = .bool by_:=F
      simp[U]
    ·cases c
   ·cases c
  ·cases c
 ·cases c
theorem Sim.untail{st:St}{t:List Own}(c:Sim P h0 w0 be oe H { st with ow:=st.ow++t } h a w)(hf:∀ u,J1 st be oe (A2 st.fr u) (a.tmps.getD u undef))
  (m:∀ i cs ty,nth st.bx i=some (.live cs ty)->∃ vs,Y0 st oe cs vs/\H (be i)=some (.cells vs.toArray ty (0,0))):Sim P h0 w0 be oe H st h a w:=by
 have up:∀ i o,nth st.ow i=some o->nth (st.ow++t) i=some o:=λi o b=>by
  rw[q00]at b ⊢
  rw[List.getElem?_append_left (List.getElem?_eq_some_iff.1 b).1]
  exact b
 refine⟨c.mv,c.sub,λi cs ty b=>⟨(c.box i cs ty b).1,m i cs ty b⟩,c.pub,λi f e sz by_ nn xs b=>c.own i f e sz by_ nn xs (up i _ b),λi f v b=>c.frz i f v (up i _ b),c.bb,
  λi j s1 e sz by_ nn xs s2 l p k n q g b d=>c.oo i j s1 e sz by_ nn xs s2 l p k n q g (up i _ b) (up j _ d),λi cs ty j s1 e sz by_ nn xs b d=>c.bo i cs ty j s1 e sz by_ nn xs b (up j _ d),c.dfr,c.siz,hf⟩
def R03(P:Program)(h0:Hp)(w0:World)(ops:Array Oper)(st:St)(h:Hp)(A:Asg)(sk:Nat->Bool)(kp:List (Nat×Value))(listed:Array Bool)(a:Act)(w:World):Prop :=
 ∃ be oe H b,Sub h b/\Sim P h0 w0 be oe H { st with fr:=O3 ops.toList st.fr } b a w/\(∀ p∈kp,a.tmps.getD p.1 undef=p.2) /\
  ∀ j o d,sk j=false->ops[j]?=some o->o.dst=some d->listed.getD j false=true->((A j).2.1=true->t05 st be oe b (A j).2.2 (a.tmps.getD d undef))/\((A j).2.1=false->a.tmps.getD d undef=undef)
theorem I0g{st st':St}(t:P0b st st'):∃ r,st' = { st with ow:=st.ow++r }:=by
 obtain⟨n,fr,bx,ow⟩:=st
 obtain⟨g,f,e,h⟩:=st'
 obtain⟨a,b,c,r,d⟩:=t
 simp only at a b c d
 subst a b c d
 exact⟨r,rfl⟩
theorem J0g{b:Type}{l r:List b}{i:Nat}(a:i<l.length):nth (l++r) i=nth l i:=by
 rw[q00,q00,List.getElem?_append_left a]
theorem C08{st:St}{r:List Own}{i b:Nat}(a:stamp st i=some b):stamp { st with ow:=st.ow++r } i=some b:=by
 unfold stamp at a ⊢
 cases hn:nth st.ow i with
 |none=>rw[hn]at a;cases a
 |some o=>rw[hn]at a;rw[J0g (V7 hn),hn];exact a
theorem n0h{ops:Array Oper}{st:St}{A:Asg}{sk:Nat->Bool}{kp:List (Nat×Value)}{bp:FL}{ak:List BE}{listed:Array Bool}{j:Nat}{o:Oper}{Q:Exit->Act->World->Prop}
  (aG:∀(i j:Nat) (f bj:Oper) (d:Nat),ops.toList[i]?=some f->ops.toList[j]?=some bj->f.dst=some d->bj.dst=some d->i=j)
  (am:∀ o∈ops.toList,∀ d,o.dst=some d->d<st.n)
  (bC:∀(k:Nat) (o:Oper),ops.toList[k]?=some o->∀ e∈o.after,Region.binds .any e=true->e.on<k)
  (ba:∀ o∈ops.toList,∀ t,Operand.tmp t∈o.op.operands->∀(i:Nat) (f:Oper),ops.toList[i]?=some f->f.dst=some t->∃ e∈o.after,Region.binds .any e=true/\e.on=i)
  (bK:∀ o∈ops.toList,∀ i w,o.guard=some (i,w)->E6 i o=true)
  (au:l08 ops.toList A bp ak ops.toList.length)
  (a3:∀ j o,ops.toList[j]?=some o->∃ T E,K6 ak o.guard=some (A j).1/\l08 ops.toList A T E j/\p03 E ak/\cB E (A j).1=some (A j).2.1/\(OpU P st h T E o (A j).1 (A j).2.1 (A j).2.2/\∀ av,v03 P T E (A j).1 o st=some av->(A j).2.2 = .pu av))
  (bU:sk j=false) (bW:∀(i:Nat) (f:Oper) (d:Nat),ops.toList[i]?=some f->f.dst=some d->sk i=true->∀ C∈ops.toList,Operand.tmp d ∉ C.op.operands)
  (bT:∀ i,sk i=true->(A i).2.2 = .pu (.val undef)) (bV:∀ p∈kp,∃(i:Nat) (f:Oper),ops.toList[i]?=some f/\f.dst=some p.1/\sk i=true)
  (bd:ops[j]?=some o) (bg:∀ e∈o.after,Region.binds .any e=true->listed.getD e.on false=true) (ah:R03 P h0 w0 ops st h A sk kp listed a w) :
  (Region.wanted o (yielded ops a.tmps)=true->o.wp P a w (R03 P h0 w0 ops st h A sk kp (listed.setIfInBounds j true)) Q) /\
  (Region.wanted o (yielded ops a.tmps)=false->R03 P h0 w0 ops st h A sk kp (listed.setIfInBounds j true) (a.put o.dst undef) w):=by
 obtain⟨be,oe,H,aa,aL,ae,keep,aD⟩:=ah
 have ai:ops.toList[j]?=some o:=by simpa using bd
 have ad:o∈ops.toList:=List.mem_of_getElem? ai
 have bc:j<ops.toList.length:=(List.getElem?_eq_some_iff.1 ai).1
 obtain⟨T,E,V,W,b0,aw,L,_⟩:=a3 j o ai
 have ag:cB ak (A j).1=some (A j).2.1:=au.p3 j bc bc
 have bi:Region.wanted o (yielded ops a.tmps)=(A j).2.1:=by
  unfold Region.wanted
  cases hg:o.guard with
  |none =>
   rw[hg]at V
   cases hch':(A j).1 with
   |nil=>rw[hch']at ag;exact oJ ag
   |cons p q=>rw[hch']at V;cases V
  |some p =>
   obtain⟨i,aW⟩:=p
   rw[hg]at V
   simp only[K6]at V
   split at V
   ·rename_i b B
    obtain⟨bN,rfl⟩:=w9 B
    obtain⟨G,⟨C,m,I⟩,al,Y⟩:=au.p4 b bN
    have aK:listed.getD b.j false=true:=by
     obtain⟨e,R,bE,an⟩:=L5 (bK o ad b.j aW hg)
     rw[←an];exact bg e R bE
    have bS:sk b.j=false:=by
     cases e:sk b.j with
     |false=>rfl
     |true=>rw[bT b.j e]at Y;cases Y
    have hf:=aD b.j C b.d bS (by simpa using m) I aK
    have a4:=au.p3 b.j G G
    rw[al]at a4
    have ac:b.d<a.tmps.size:=by rw[ae.siz];exact am C (List.mem_of_getElem? m) b.d I
    have aO:a.tmps[b.d]?=some (if(A b.j).2.1=true then .bool b.e else undef):=by
     rw[Array.getElem?_eq_getElem ac]
     have bb:a.tmps.getD b.d undef=a.tmps[b.d]:=by simp[ac]
     cases D:(A b.j).2.1 with
     |true =>
      have:=hf.1 D
      rw[Y,bb]at this
      have K:a.tmps[b.d] = .bool b.e:=this
      rw[K];rfl
     |false =>
      have:=hf.2 D
      rw[bb]at this
      rw[this];rfl
    have aP:yielded ops a.tmps b.j=if(A b.j).2.1=true then some b.e else none:=by
     unfold yielded
     have:ops[b.j]?=some C:=by simpa using m
     simp only[this,I,oB,aO]
     cases (A b.j).2.1<;>rfl
    have bH:(A j).1=(b.j,aW)::b.ch:=by
     have:=oJ V
     exact this.symm
    rw[bH,e00,B,a4]at ag
    simp only[Option.some.injEq]at ag
    simp only[aP,←ag]
    cases (A b.j).2.1<;>cases aW<;>cases b.e<;>rfl
   ·cases V
 have cb:∀ i f,ops.toList[i]?=some f->∀ F,(A i).2.2 = .ef F->∀ v J K,Sub J K->F v J->F v K:=λi f ax F bD=>by
  obtain⟨ce,ci,_,_,_,_,bf,_⟩:=a3 i f ax
  rw[bD]at bf
  exact bf.1
 have fin:∀ {fr:List (Nat×AV)} {af:Act} {S:World} {N:Hp} {be':Nat->Nat} {oe':Nat->Value} {M:Hp} {v:Value},Sub aa N->af=a.put o.dst v->Sim P h0 w0 be' oe' M { st with fr:=fr } N a S ->
   U4 st be oe st be' oe'->((A j).2.1=true->t05 st be' oe' N (A j).2.2 v)->((A j).2.1=false->v=undef)->R03 P h0 w0 ops st h A sk kp (listed.setIfInBounds j true) af S:=by
  intro fr af S N be' oe' M v bh ab b7 aq aO bX
  subst ab
  have bA:U4 { st with fr:=O3 ops.toList st.fr } be oe { st with fr:=O3 ops.toList st.fr } be' oe':=⟨aq.bl,aq.be,aq.sm⟩
  have s1:Sim P h0 w0 be' oe' M { st with fr:=O3 ops.toList st.fr } N a S :=
   b7.refr (fr:=O3 ops.toList st.fr) λt=>J1.fr (st := { st with fr:=O3 ops.toList st.fr }) ((ae.fr t).grow bA)
  have s2:Sim P h0 w0 be' oe' M { st with fr:=O3 ops.toList st.fr } N (a.put o.dst v) S:=by
   cases O:o.dst with
   |none=>exact s1
   |some d =>
    have ao:=s1.put (d:=d) (av := .dead) (v:=v) (am o ad d O) trivial
    refine ao.refr (fr:=O3 ops.toList st.fr) λt=>?_
    have g:=ao.fr t
    rw[E3]at g
    split at g
    ·rename_i e
     subst e
     rw[R8 ad O]
     trivial
    ·exact g
  have cc:∀ d,o.dst≠some d->(a.put o.dst v).tmps.getD d undef=a.tmps.getD d undef:=λd O=>by
   cases aJ:o.dst with
   |none=>rfl
   |some U=>simp[Act.put,Array.getElem?_setIfInBounds_ne (λe=>O (by rw[aJ,e]):U≠d)]
  refine⟨be',oe',M,N,λb x B=>bh b x (aL b x B),s2,λp ao=>?_,λi f d aN J K a2=>?_⟩
  ·obtain⟨i,f,ay,ap,az⟩:=bV p ao
   rw[cc p.1 λe=>?_]
   ·exact keep p ao
   ·have:=aG j i o f p.1 ai ay e ap
    subst this
    rw[bU]at az;cases az
  by_cases hij:j=i
  ·subst hij
   rw[bd]at J;cases J
   have ac:d<a.tmps.size:=by rw[ae.siz];exact am o ad d K
   have:(a.put o.dst v).tmps.getD d undef=v:=by
    rw[K]
    simp[Act.put,ac]
   rw[this]
   exact⟨aO,bX⟩
  ·have bM:listed.getD i false=true:=by rw[getD_set_ne false hij]at a2;exact a2
   have bP:∀ U,o.dst=some U->U≠d:=λU aJ e=>by
    subst e
    exact hij (aG j i o f U ai (by simpa using J) aJ K)
   have:(a.put o.dst v).tmps.getD d undef=a.tmps.getD d undef:=by
    cases O:o.dst with
    |none=>rfl
    |some U=>simp[Act.put,Array.getElem?_setIfInBounds_ne (bP U O)]
   rw[this]
   obtain⟨aj,b3⟩:=aD i f d aN J K bM
   refine⟨λD=>?_,b3⟩
   have aj:=aj D
   cases hA:(A i).2.2 with
   |pu av=>rw[hA]at aj;exact J1.grow aq aj
   |ef F=>rw[hA]at aj;exact cb i f (by simpa using J) F hA _ _ _ bh aj
 refine⟨λbZ=>?_,λbY=>?_⟩
 rotate_left
 ·have D:(A j).2.1=false:=by rw[←bi];exact bY
  exact fin (fr:=O3 ops.toList st.fr) (λ_ _ h=>h) rfl ae (U4.refl _ _ _) (λh=>by rw[D]at h;cases h) (λ_=>rfl)
 have D:(A j).2.1=true:=by rw[←bi];exact bZ
 rw[D]at aw L
 have ck:cB ak (A j).1=some true:=by rw[ag,D]
 have ca:∀ t x,o9 T t=some x->D09 st be oe aa E x (a.tmps.getD t undef)∨Operand.tmp t ∉ o.op.operands:=λt x s=>by
  by_cases y:Operand.tmp t∈o.op.operands
  ·refine .inl λbJ=>?_
   obtain⟨i,f,G,m,I,al,Y⟩:=W.p1 t x (g00 s)
   obtain⟨e,R,B,an⟩:=ba o ad t y i f m I
   have aK:listed.getD i false=true:=by rw[←an];exact bg e R B
   have bI:(A i).2.1=true:=by
    have J:=au.p3 i (List.getElem?_eq_some_iff.1 m).1 (List.getElem?_eq_some_iff.1 m).1
    rw[al,b0.c _ _ bJ]at J
    exact(oJ J).symm
   have aN:sk i=false:=by
    cases e:sk i with
    |false=>rfl
    |true=>exact absurd y (bW i f t m I e o ad)
   have:=(aD i f t aN (by simpa using m) I aK).1 bI
   rwa [Y]at this
  ·exact .inr y
 have bz:∀ t,Operand.tmp t∈o.op.operands->o9 T t=none->J1 st be oe (A2 st.fr t) (a.tmps.getD t undef):=λt y bQ=>by
  have g:=ae.fr t
  have bO:A2 (O3 ops.toList st.fr) t=A2 st.fr t:=Z7 λC bR O=>by
   obtain⟨i,ah,e⟩:=List.getElem_of_mem bR
   have ax:ops.toList[i]?=some C:=by rw[List.getElem?_eq_getElem ah,e]
   obtain⟨bw,R,B,an⟩:=ba o ad t y i C ax O
   have ac:=bC j o ai bw R B
   rw[an]at ac
   obtain⟨x,s⟩:=W.p2 i C t ac ax O
   rw[bQ]at s;cases s
  rw[←bO]
  exact J1.fr (st := { st with fr:=O3 ops.toList st.fr }) (fr:=st.fr) g
 have aS:∀ t,Operand.tmp t∈o.op.operands->(∀ x,o9 T t=some x->D09 st be oe aa E x (a.tmps.getD t undef))/\(o9 T t=none->J1 st be oe (A2 st.fr t) (a.tmps.getD t undef)):=λt y =>
  ⟨λx s=>(ca t x s).resolve_right λam=>am y,bz t y⟩
 have mk:∀ {fr:List (Nat×AV)},(∀ t,J1 st be oe (A2 fr t) (a.tmps.getD t undef))->Sim P h0 w0 be oe H { st with fr:=fr } aa a w:=λ{fr} g=>ae.refr (fr:=fr) λt=>J1.fr (g t)
 cases hA:(A j).2.2 with
 |pu av =>
  rw[hA]at L
  rcases L with L|L
  ·refine Oper.wp_mono (λaf S s=>?_) (t0f (be:=be) (oe:=oe) (H:=H) (h:=aa) L aw (λt=>?_) (λx s cd aP=>?_) (λx s=>?_) (λx s=>?_) mk)
   ·obtain⟨v,be',oe',M,ab,⟨fr,s2⟩,Z,m⟩:=s
    exact fin (λ_ _ h=>h) ab s2 Z (λ_=>by rw[hA];exact m) (λh=>by rw[D]at h;cases h)
   ·by_cases y:Operand.tmp t∈o.op.operands
    ·exact .inl (aS t y)
    ·exact .inr y
   ·obtain⟨G,⟨C,m,I⟩,al,Y⟩:=W.p4 x s
    obtain⟨i,f,ay,ap,az,b1,b2⟩:=W.p1 x.d cd (g00 aP)
    have:i=x.j:=aG i x.j f C x.d ap m az I
    subst this
    exact Prod.ext (b1.symm.trans al) (b2.symm.trans Y)
   ·have aR:∀(l:List BE),x∈l->∃ b,N8 l x.j=some b:=by
     intro l
     induction l with
     |nil=>intro h;cases h
     |cons z l aQ =>
      intro h
      simp only[N8]
      split
      ·exact⟨_,rfl⟩
      ·rename_i B
       rcases List.mem_cons.1 h with rfl|h
       ·exact absurd rfl (Nat.ne_of_beq_eq_false B)
       ·exact aQ h
    obtain⟨b,B⟩:=aR E s
    obtain⟨bF,aH⟩:=w9 B
    obtain⟨_,⟨cl,aB,aX⟩,aY,aC⟩:=W.p4 b bF
    obtain⟨_,⟨cm,br,bt⟩,bu,bv⟩:=W.p4 x s
    rw[aH]at aB aY aC
    rw[br]at aB;cases aB
    rw[bt]at aX
    rw[bv]at aC
    have aZ:x.d=b.d:=by simpa using aX
    have a0:x.ch=b.ch:=bu.symm.trans aY
    have a1:x.e=b.e:=by simpa using aC
    rw[B]
    obtain⟨cj,cg,be',cf⟩:=b
    obtain⟨cw,cu,cv,ct⟩:=x
    simp only at aH aZ a0 a1
    subst aH aZ a0 a1
    rfl
   ·obtain⟨G,⟨C,m,I⟩,_,_⟩:=W.p4 x s
    exact W.p2 x.j C x.d G m I
  ·obtain⟨fr,R,g⟩:=d8 (acc:=[]) (be:=be) (oe:=oe) (val:=λt=>a.tmps.getD t undef) aw (λt=>trivial) (λt y=>aS t (by simpa using y)) (G02 (bs:=E) (L aa aL) rfl)
   refine Oper.wp_mono (λaf S s=>?_) (F7 (mk g) R)
   obtain⟨bq,st',N,v,be',oe',M,⟨rfl,rfl,rfl⟩,ab,s2,m,Z⟩:=s
   exact fin (λ_ _ h=>h) ab s2 ⟨Z.bl,Z.be,Z.sm⟩ (λ_=>by rw[hA];exact J1.fr (st := { st with fr:=fr }) (fr:=st.fr) m) (λh=>by rw[D]at h;cases h)
 |ef F =>
  rw[hA]at L
  obtain⟨_,L⟩:=L
  obtain⟨fr,R,g⟩:=d8 (acc:=[]) (be:=be) (oe:=oe) (val:=λt=>a.tmps.getD t undef) aw (λt=>trivial) (λt y=>aS t (by simpa using y)) (G02 (bs:=E) (L aa aL) rfl)
  refine Oper.wp_mono (λaf S s=>?_) (K0a (mk g) R)
  obtain⟨bq,st',N,v,be',oe',M,bL,ab,s2,m,Z⟩:=s
  obtain⟨co,K,⟨y,ay,ap⟩,bn,bB⟩:=P8 s2 m bL
  obtain⟨r,rfl⟩:=I0g y
  have ar:U4 st be oe st be' oe':=by
   have aF:=Z.trans bB
   refine⟨aF.bl,aF.be,λi aV aM=>?_⟩
   obtain⟨s1,aA,cn,aT⟩:=aF.sm i aV aM
   have aU:stamp { n:=st.n,fr:=fr,bx:=st.bx,ow:=st.ow++r } i=some aV:=C08 (st := { st with fr:=fr }) aM
   rw[aU]at aA
   cases aA
   exact⟨aV,aM,Nat.le_refl _,λ_=>aT rfl⟩
  have bG:∀ i cs ty,nth st.bx i=some (.live cs ty)->∃ vs,Y0 { st with fr:=fr } oe' cs vs/\M (be' i)=some (.cells vs.toArray ty (0,0)):=λi cs ty ah=>by
   obtain⟨_,X,aA,_⟩:=ae.box i cs ty ah
   obtain⟨_,vs,aT,aU⟩:=bn.box i cs ty ah
   refine⟨vs,?_,aU⟩
   have aR:∀(cs:List i4) (X vs:List Value),Y0 { st with fr:=O3 ops.toList st.fr } oe cs X->Y0 { n:=st.n,fr:=fr,bx:=st.bx,ow:=st.ow++r } oe' cs vs->Y0 { st with fr:=fr } oe' cs vs:=by
    intro cs
    induction cs with
    |nil=>intro X vs _ g;cases vs with
     |nil=>trivial
     |cons v vs=>exact g.elim
    |cons c cs aQ =>
     intro X vs aE G
     cases X with
     |nil=>exact aE.elim
     |cons cq X =>
      cases vs with
      |nil=>exact G.elim
      |cons cr vs =>
       refine⟨?_,aQ X vs aE.2 G.2⟩
       cases c with
       |val x=>exact G.1
       |own k s1 =>
        obtain⟨bo,bk,_,_⟩:=aE.1
        obtain⟨cp,bm,b4,b5⟩:=G.1
        have b6:stamp { n:=st.n,fr:=fr,bx:=st.bx,ow:=st.ow++r } k=some bo:=C08 (st := { st with fr:=fr }) bk
        rw[b6]at bm
        cases bm
        exact⟨bo,bk,b4,b5⟩
   exact aR cs X vs aA aT
  have b8:Sim P h0 w0 be' oe' M { st with fr:=fr } K a S:=Sim.untail (st := { st with fr:=fr }) (t:=r) bn (λu=>J1.grow (st := { st with fr:=fr }) (st' := { st with fr:=fr }) ⟨ar.bl,ar.be,ar.sm⟩ (J1.fr (g u))) bG
  exact fin (fr:=fr) ay ab b8 ar (λ_=>by rw[hA];exact ap) (λh=>by rw[D]at h;cases h)
theorem R03.start{ops:Array Oper}{st:St}{A:Asg}{sk:Nat->Bool}(f:Sim P h0 w0 be oe H st h a w):R03 P h0 w0 ops st h A sk [] (Array.replicate ops.size false) a w:=by
 refine⟨be,oe,H,h,λ_ _ h=>h,f.refr (fr:=O3 ops.toList st.fr) λt=>?_,λp k=>(by cases k),λj o d _ c e b=>?_⟩
 ·by_cases hx:∃ o∈ops.toList,o.dst=some t
  ·obtain⟨o,c,e⟩:=hx
   rw[R8 c e]
   trivial
  ·rw[Z7 λo i g=>hx ⟨o,i,g⟩]
   exact f.fr t
 ·simp[Array.getElem?_replicate]at b
  split at b<;>cases b
theorem S0c{ops:Array Oper}{st:St}{A:Asg}{sk:Nat->Bool}{kp:List (Nat×Value)}{D:FL}{J:List BE}{K:St->Hp->Prop}{listed:Array Bool}
  (aa:∀ i,sk i=true->(A i).2.2 = .pu (.val undef)) (N:∀(i j:Nat) (b G:Oper) (d:Nat),ops.toList[i]?=some b->ops.toList[j]?=some G->b.dst=some d->G.dst=some d->i=j)
  (q:l08 ops.toList A D J ops.toList.length) (T:∀ c,Sub h c->S06 c D st.fr λfr=>K { st with fr:=fr } c) (V:∀ j,j<ops.size->listed.getD j false=true)
  (s:R03 P h0 w0 ops st h A sk kp listed a w):∃ be oe H c fr,K { st with fr:=fr } c/\Sim P h0 w0 be oe H { st with fr:=O3 ops.toList st.fr } c a w/\(∀ p∈kp,a.tmps.getD p.1 undef=p.2) /\
   ∀ t,(∀(i:Nat) (b:Oper),ops.toList[i]?=some b->b.dst=some t->sk i=false)->J1 st be oe (A2 fr t) (a.tmps.getD t undef):=by
 obtain⟨be,oe,H,c,Z,I,keep,L⟩:=s
 have S:∀ t,(∃(i:Nat) (b:Oper),ops.toList[i]?=some b/\b.dst=some t/\sk i=true) ∨ ¬ ∃(i:Nat) (b:Oper),ops.toList[i]?=some b/\b.dst=some t/\sk i=true:=λt=>Classical.em _
 have f:∃ val:Nat->Value,∀ t,((∃(i:Nat) (b:Oper),ops.toList[i]?=some b/\b.dst=some t/\sk i=true)->val t=undef)/\((¬ ∃(i:Nat) (b:Oper),ops.toList[i]?=some b/\b.dst=some t/\sk i=true)->val t=a.tmps.getD t undef) :=
  Classical.axiomOfChoice (r:=λt v=>((∃(i:Nat) (b:Oper),ops.toList[i]?=some b/\b.dst=some t/\sk i=true)->v=undef)/\((¬ ∃(i:Nat) (b:Oper),ops.toList[i]?=some b/\b.dst=some t/\sk i=true)->v=a.tmps.getD t undef)) λt=>by
   rcases S t with h|h
   ·exact⟨undef,λ_=>rfl,λn=>absurd h n⟩
   ·exact⟨_,λn=>absurd n h,λ_=>rfl⟩
 obtain⟨val,f⟩:=f
 obtain⟨fr,U,g⟩:=B08 (st:=st) (be:=be) (oe:=oe) (val:=val) (λp Y Q=>by
  obtain⟨t,x⟩:=p
  obtain⟨i,b,h0,y,z,M,F⟩:=q.p1 t x Y
  cases hsk:sk i with
  |true =>
   have e:=(f t).1 ⟨i,b,y,z,hsk⟩
   have E:=aa i hsk
   rw[F]at E
   show t05 st be oe c x.2 (val t)
   rw[E,e];exact rfl
  |false =>
  have B : ¬ ∃(i:Nat) (b:Oper),ops.toList[i]?=some b/\b.dst=some t/\sk i=true:=λ⟨k,ok,l,o,m⟩=>by
   have:=N i k b ok t y l z o
   subst this
   rw[hsk]at m;cases m
  have O:(A i).2.1=true:=by
   have:=q.p3 i h0 h0
   rw[M,show x.1 = [] from Q]at this
   exact(oJ this).symm
  have:=(L i b t hsk (by simpa using y) z (V i (by simpa using h0))).1 O
  rw[F]at this
  show t05 st be oe c x.2 (val t)
  rw[(f t).2 B];exact this) (λt u=>by
  have B : ¬ ∃(i:Nat) (b:Oper),ops.toList[i]?=some b/\b.dst=some t/\sk i=true:=λ⟨k,ok,l,o,m⟩=>by
   obtain⟨x,C⟩:=q.p2 k ok t (List.getElem?_eq_some_iff.1 l).1 l o
   exact u x (g00 C)
  rw[(f t).2 B]
  have W:A2 (O3 ops.toList st.fr) t=A2 st.fr t:=Z7 λab X R=>by
   obtain⟨i,s,e⟩:=List.getElem_of_mem X
   obtain⟨x,C⟩:=q.p2 i ab t s (by rw[List.getElem?_eq_getElem s,e]) R
   exact u x (g00 C)
  have:=I.fr t
  rw[W]at this
  exact J1.fr (st := { st with fr:=O3 ops.toList st.fr }) (fr:=st.fr) this) (T c Z)
 refine⟨be,oe,H,c,fr,U,I,keep,λt u=>?_⟩
 have:=g t
 rw[(f t).2 λ⟨k,ok,l,o,m⟩=>by rw[u k ok l o]at m;cases m]at this
 exact this
theorem U01:∀ {l:List Oper},z06 l=true->∀ o∈l,∀ i w,o.guard=some (i,w)->E6 i o=true
 | [],h,o,a=>by cases a
 |c::r,h,o,a=>by
  simp only[z06,Bool.and_eq_true]at h
  rcases List.mem_cons.1 a with rfl|a
  ·intro i w b
   have:=h.1
   rw[b]at this
   exact this
  ·exact U01 h.2 o a
theorem t0i{ops:Array Oper}{Q:Exit->Act->World->Prop}{Inv:Array Bool->Act->World->Prop}(hB:∀(k:Nat) (o:Oper),ops.toList[k]?=some o->∀ e∈o.after,Region.binds .any e=true->e.on<k)
  (hstep:∀ listed a w j o,ops[j]?=some o->(∀ e∈o.after,Region.binds .any e=true->listed.getD e.on false=true)->Inv listed a w ->
   (Region.wanted o (yielded ops a.tmps)=true->o.wp P a w (Inv (listed.setIfInBounds j true)) Q)/\(Region.wanted o (yielded ops a.tmps)=false->Inv (listed.setIfInBounds j true) (a.put o.dst undef) w))
  (hQ:∀ listed a w,(∀ j,j<ops.size->listed.getD j false=true)->Inv listed a w->Q .normal a w) :
  ∀(fuel:Nat) (listed:Array Bool) (a:Act) (w:World),listed.size=ops.size->listed.toList.count true+fuel=ops.size->Inv listed a w->wpAny P .any ops Q fuel listed a w
 |0,listed,a,w,hsz,hc,hi=>by
  have hall':∀ j,j<ops.size->listed.getD j false=true:=λj hj=>by
   have h1:∀ b∈listed.toList,true=b:=List.count_eq_length.1 (by simp only[Array.length_toList];omega)
   have hlt:j<listed.size:=by omega
   have:=h1 listed[j] (by simp)
   simp[hlt,←this]
  refine⟨?_,hQ listed a w hall' hi⟩
  cases hr:Region.ready .any ops listed with
  |nil=>rfl
  |cons j r =>
   have hj:j∈Region.ready .any ops listed:=by rw[hr];exact mS
   obtain⟨h1,o,h2,_⟩:=mem_ready.1 hj
   have hlt:j<ops.size:=(Array.getElem?_eq_some_iff.1 h2).1
   have:=hall' j hlt
   have hlt':j<listed.size:=by omega
   simp[hlt']at this h1
   rw[this]at h1;cases h1
 |fuel+1,listed,a,w,hsz,hc,hi=>by
  refine⟨λhr=>hQ listed a w (u05 hB hsz hr) hi,λj hj=>?_⟩
  obtain⟨h1,o,h2,h3⟩:=mem_ready.1 hj
  unfold wpOp
  simp only[h2]
  obtain⟨ht,hf⟩:=hstep listed a w j o h2 h3 hi
  have next:∀ a' w',Inv (listed.setIfInBounds j true) a' w'->wpAny P .any ops Q fuel (listed.setIfInBounds j true) a' w':=λa' w' hi'=>t0i hB hstep hQ fuel _ a' w' (by simpa using hsz) (by rw[count_set h1];omega) hi'
  cases hw:Region.wanted o (yielded ops a.tmps)with
  |true =>
   rw[if_pos rfl]
   exact .inl (Oper.wp_mono next (ht hw))
  |false =>
   rw[if_neg (by simp)]
   exact next _ _ (hf hw)
theorem o0h{ops:Array Oper}{Q:Exit->Act->World->Prop}{Inv:Array Bool->Act->World->Prop}(hB:∀(k:Nat) (o:Oper),ops.toList[k]?=some o->∀ e∈o.after,Region.binds .any e=true->e.on<k)
  (hstep:∀ listed a w j o,ops[j]?=some o->(∀ e∈o.after,Region.binds .any e=true->listed.getD e.on false=true)->Inv listed a w ->
   (Region.wanted o (yielded ops a.tmps)=true->o.wp P a w (Inv (listed.setIfInBounds j true)) Q)/\(Region.wanted o (yielded ops a.tmps)=false->Inv (listed.setIfInBounds j true) (a.put o.dst undef) w))
  (hQ:∀ listed a w,(∀ j,j<ops.size->listed.getD j false=true)->Inv listed a w->Q .normal a w) :
  ∀(l:List Oper) (k:Nat) (listed:Array Bool) (a:Act) (w:World),(∀ j,l[j]?=ops.toList[k+j]?)->k+l.length=ops.size->listed.size=ops.size->(∀ j,j<k->listed.getD j false=true)->Inv listed a w->wpList P ops Q l a w
 | [],k,listed,a,w,hl,hk,hsz,hp,hi=>hQ listed a w (λj hj=>hp j (by simp at hk;omega)) hi
 |o::l,k,listed,a,w,hl,hk,hsz,hp,hi=>by
  have ho:ops.toList[k]?=some o:=by simpa using (hl 0).symm
  have hl':∀ j,l[j]?=ops.toList[k+1+j]?:=λj=>by have:=hl (j+1);simpa [Nat.add_assoc,Nat.add_comm 1 j] using this
  obtain⟨ht,hf⟩:=hstep listed a w k o (by simpa using ho) (λe he hb=>hp _ (hB k o ho e he hb)) hi
  have next:∀ a' w',Inv (listed.setIfInBounds k true) a' w'->wpList P ops Q l a' w':=λa' w' hi' =>
   o0h hB hstep hQ l (k+1) _ a' w' hl' (by simp only[List.length_cons]at hk;omega) (by simpa using hsz) (λj hj=>by
    by_cases e:k=j
    ·subst e
     have:k<listed.size:=by simp only[List.length_cons]at hk;omega
     simp[this]
    ·rw[getD_set_ne false e];exact hp j (by omega)) hi'
  unfold wpList
  cases hw:Region.wanted o (yielded ops a.tmps)with
  |true =>
   rw[if_pos rfl]
   exact .inl (Oper.wp_mono next (ht hw))
  |false =>
   rw[if_neg (by simp)]
   exact next _ _ (hf hw)
theorem L0a{ops:Array Oper}{st:St}{K:St->Hp->Prop}{Q:Exit->Act->World->Prop}(hb:D9 st.n ops.toList=true)(he:evU P ops.toList 0 [] [] st h K)
  (hQ:∀ a w st h be oe H,K st h->Sim P h0 w0 be oe H st h a w->Q .normal a w) :
  (∀ {be:Nat->Nat} {oe:Nat->Value} {H:Hp} {a:Act} {w:World},Sim P h0 w0 be oe H st h a w->wpAny P .any ops Q ops.size (Array.replicate ops.size false) a w) /\
  (∀ {be:Nat->Nat} {oe:Nat->Value} {H:Hp} {a:Act} {w:World},Sim P h0 w0 be oe H st h a w->wpList P ops Q ops.toList a w):=by
 simp only[D9,E8,Bool.and_eq_true]at hb
 obtain⟨⟨⟨b1,b2⟩,b3⟩,b4⟩:=hb
 obtain⟨hn,hD⟩:=x00 b1
 have hB:∀(k:Nat) (o:Oper),ops.toList[k]?=some o->∀ e∈o.after,Region.binds .any e=true->e.on<k:=λk o hk e he' hb=>by
  have:=y9 b2 k o hk e he' hb
  omega
 have hdep:=S01 b3
 have hgd:=U01 b4
 obtain⟨A,Lf,Bf,_,_,hP,hall,hfin⟩:=i07 (ops:=ops.toList) hD ops.toList 0 [] [] (λ_=>([],true,.pu .dead)) (λj=>by simp) (by simp)
  ⟨λt x h=>(by cases h),λi oi d hi=>by omega,λi hi=>by omega,λx hx=>(by cases hx)⟩ he
 have step:∀ listed a w j o,ops[j]?=some o->(∀ e∈o.after,Region.binds .any e=true->listed.getD e.on false=true)->R03 P h0 w0 ops st h A (λ_=>false) [] listed a w ->
   (Region.wanted o (yielded ops a.tmps)=true->o.wp P a w (R03 P h0 w0 ops st h A (λ_=>false) [] (listed.setIfInBounds j true)) Q)/\(Region.wanted o (yielded ops a.tmps)=false->R03 P h0 w0 ops st h A (λ_=>false) [] (listed.setIfInBounds j true) (a.put o.dst undef) w) :=
  λlisted a w j o h1 h2 h3=>n0h hD hn hB hdep hgd hP (λj o ho=>hall j o (Nat.zero_le _) ho) rfl (λ_ _ _ _ _ h=>nomatch h) (λ_ h=>nomatch h) (λ_ hp=>nomatch hp) h1 h2 h3
 have done:∀ listed a w,(∀ j,j<ops.size->listed.getD j false=true)->R03 P h0 w0 ops st h A (λ_=>false) [] listed a w->Q .normal a w:=λlisted a w hl hi=>by
  obtain⟨be,oe,H,h',fr,hk,s,_,g⟩:=S0c (sk:=λ_=>false) (λ_ h=>nomatch h) hD hP hfin hl hi
  exact hQ a w _ h' be oe H hk (s.refr (fr:=fr) λt=>J1.fr (g t λ_ _ _ _=>rfl))
 refine⟨λs=>?_,λs=>?_⟩
 ·exact t0i hB step done ops.size _ _ _ (by simp) (by simp[List.count_replicate]) (R03.start s)
 ·exact o0h hB step done ops.toList 0 _ _ _ (λj=>by simp) (by simp) (by simp) (λj hj=>by omega) (R03.start s)
end
end Go.H
namespace Go.H
set_option linter.unusedVariables false
set_option linter.unusedSimpArgs false
def P9(H:Hp):List (Nat×Obj)->Hp
 | []=>H
 |p::l=>(P9 H l).set p.1 p.2
theorem z9{H:Hp}{b:Nat}:∀ {l:List (Nat×Obj)},(∀ p∈l,p.1≠b)->P9 H l b=H b
 | [],_=>rfl
 |p::l,h=>by
  rw[P9,Hp.set_other _ _ λe=>h p mS e.symm]
  exact z9 λq a=>h q (mC _ a)
theorem y00{H:Hp}:∀ {l:List (Nat×Obj)},(l.map λp=>p.1).Nodup->∀ {p:Nat×Obj},p∈l->P9 H l p.1=some p.2
 | [],_,p,h=>nomatch h
 |q::l,a,p,h=>by
  rw[List.map_cons,List.nodup_cons]at a
  rcases List.mem_cons.1 h with rfl|h
  ·exact Hp.set_same _ _ _
  ·rw[P9,Hp.set_other _ _ λe=>a.1 (List.mem_map.2 ⟨p,h,e⟩)]
   exact y00 a.2 h
theorem J02{H:Hp}{l:List (Nat×Obj)}(b:Nat):(∃ p∈l,p.1=b)∨∀ p∈l,p.1≠b:=by
 by_cases h:∃ p∈l,p.1=b
 ·exact .inl h
 ·exact .inr λp a e=>h ⟨p,a,e⟩
theorem j07{c H:Hp}{i w:World}{l:List (Nat×Obj)}(k:Vis (P9 c l) i)(j:∀ p∈l,c p.1=none/\p.1<i.heap.size)(f:(l.map λp=>p.1).Nodup)(m:L1 c i H w):
  L1 (P9 c l) i (P9 H l) w:=by
 refine⟨m.os,m.tape,m.output,m.size,λb e g=>?_,λb o d=>?_,λb e=>?_,m.fz,m.dn⟩
 ·rcases J02 (H:=c) (l:=l) b with⟨p,a,rfl⟩|d
  ·rw[y00 f a]at g;cases g
  ·rw[z9 d]at g;exact m.keep b e g
 ·rcases J02 (H:=c) (l:=l) b with⟨p,a,rfl⟩|h
  ·rw[y00 f a]at d;cases d
   rw[m.keep p.1 (j p a).2 (j p a).1]
   exact k p.1 _ (y00 f a)
  ·rw[z9 h]at d;exact m.vis b o d
 ·rcases J02 (H:=c) (l:=l) b with⟨p,a,rfl⟩|h
  ·left;rw[y00 f a];simp
  ·rw[z9 h]at e ⊢
   exact m.fresh b e
section
variable {P:Program} {h0:Hp} {w0:World} {be:Nat->Nat} {oe:Nat->Value} {H:Hp} {h:Hp} {a:Act} {w:World}
theorem Sim.base{st:St}(b:Sim P h0 w0 be oe H st h a w){c:Hp}{e d:World}(m:L1 c e H d):Sim P c e be oe H st h a d :=
 ⟨m,b.sub,b.box,b.pub,b.own,b.frz,b.bb,b.oo,b.bo,b.dfr,b.siz,b.fr⟩
theorem Sim.more{st:St}(c:Sim P h0 w0 be oe H st h a w){l:List (Nat×Obj)}(v:∀ p∈l,H p.1=none){j:Hp}{q:World}(m:L1 j q (P9 H l) w):Sim P j q be oe (P9 H l) st h a w:=by
 have keep:∀ b,H b≠none->P9 H l b=H b:=λb d=>z9 λp x e=>d (by rw[←e];exact v p x)
 refine⟨m,λb o d=>by rw[keep b (by rw[c.sub b o d];simp)];exact c.sub b o d,λi cs ty f=>?_,c.pub,λi n e sz by_ nn xs f=>?_,c.frz,c.bb,c.oo,c.bo,c.dfr,c.siz,c.fr⟩
 ·obtain⟨s,vs,t,k⟩:=c.box i cs ty f
  exact⟨s,vs,t,by rw[keep _ (by rw[k];simp)];exact k⟩
 ·refine(c.own i n e sz by_ nn xs f).keep λg u=>?_
  obtain⟨y,_,_,_,z⟩:=(c.own i n e sz by_ nn xs f).block u
  exact⟨keep g (by rw[z];simp),y⟩
theorem Sim.claim{st:St}(d:Sim P h0 w0 be oe H st h a w){cs:List i4}{vs:List Value}{t:TypeId}{b:Nat}(F:Y0 st oe cs vs)(E:H b=some (.cells vs.toArray t (0,0)))(G:h b=none)
  (s:∀ i cs ty,nth st.bx i=some (.live cs ty)->be i≠b) (v:∀ i u e sz by_ nn xs g,nth st.ow i=some ⟨u,.live e sz by_ nn xs⟩->(oe i).ownBlock=some g->g≠b) :
  let be':=λj=>if j=st.bx.length then b else be j
  let st':St := { st with bx:=st.bx ++ [.live cs t] }
  Sim P h0 w0 be' oe H st' h a w/\U4 st be oe st' be' oe:=by
 intro be' st'
 have m:U4 st be oe st' be' oe:=by
  refine⟨by simp[st'],λi c=>?_,λi d I=>⟨d,I,Nat.le_refl _,λ_=>rfl⟩⟩
  simp[be',Nat.ne_of_lt c]
 have k:∀ i cs ty,nth st.bx i=some (.live cs ty)->be' i=be i:=λi cs ty c=>by simp[be',Nat.ne_of_lt (V7 c)]
 have l:∀ i x,nth st'.bx i=some x->(i=st.bx.length/\x = .live cs t)∨(i≠st.bx.length/\nth st.bx i=some x):=by
  intro i x c
  simp only[st',z8]at c
  split at c
  ·rename_i e;simp at c;exact .inl ⟨e,c.symm⟩
  ·rename_i e;exact .inr ⟨e,c⟩
 refine⟨⟨d.mv,d.sub,?_,?_,d.own,d.frz,?_,d.oo,?_,d.dfr,d.siz,λt=>(d.fr t).grow m⟩,m⟩
 ·intro i cs' ty c
  rcases l i _ c with⟨rfl,e⟩|⟨e,f⟩
  ·cases e
   exact⟨by simp[be',G],vs,F.grow m,by simp[be',E]⟩
  ·obtain⟨B,K,C,D⟩:=d.box i cs' ty f
   rw[k i cs' ty f]
   exact⟨B,K,C.grow m,D⟩
 ·intro i y c
  rcases l i _ c with⟨_,e⟩|⟨e,f⟩
  ·cases e
  ·simp[be',e,d.pub i y f]
 ·intro i j z J L M c o e
  rcases l i _ c with⟨rfl,q⟩|⟨q,f⟩<;>rcases l j _ o with⟨rfl,A⟩|⟨A,p⟩
  ·rfl
  ·rw[k j _ _ p]at e;simp[be']at e;exact absurd e.symm (s j _ _ p)
  ·rw[k i _ _ f]at e;simp[be']at e;exact absurd e (s i _ _ f)
  ·rw[k i _ _ f,k j _ _ p]at e;exact d.bb i j _ _ _ _ f p e
 ·intro i z J j u e sz by_ nn xs c o n
  rcases l i _ c with⟨rfl,q⟩|⟨q,f⟩
  ·simp[be']at n;exact v j _ _ _ _ _ _ _ o n rfl
  ·rw[k i _ _ f]at n;exact d.bo i _ _ j _ _ _ _ _ _ f o n
def B04(a:Act)(d:Nat):Nat:=match a.tmps.getD d undef with
 | .pointer (some ⟨b,_,_⟩)=>b
 |_=>0
theorem x01{a:Act}{d b:Nat}(e:a.tmps.getD d undef=ptr b 0):B04 a d=b:=by
 unfold B04;rw[e];rfl
def E0i(P:Program)(H h:Hp)(a:Act)(n:Nat)(o:Oper):Prop:=c00 o=true->∃ d t z,o.op = .alloc t/\o.dst=some d/\d<n/\J7 P t=some z/\a.tmps.getD d undef=ptr (B04 a d) 0/\H (B04 a d)=some (.cells z.cells t (0,0))/\h (B04 a d)=none
def F0i(a:Act)(o c:Oper):Prop:=c00 o=true->c00 c=true->∀ d b,o.dst=some d->c.dst=some b->B04 a d≠B04 a b
theorem E09{st:St}{h:Hp}{d:Nat}:w02 ⟨st,h,[],[]⟩ d=false:=rfl
theorem X0b{K:St->Hp->Prop}{fd:List (Nat×AV)}:∀(l:List Oper) (st:St) (be:Nat->Nat),Sim P h0 w0 be oe H { st with fr:=fd } h a w ->
  (∀ t,(∀ o∈l,c00 o=true->o.dst≠some t)->J1 st be oe (A2 st.fr t) (a.tmps.getD t undef))->(∀ o∈l,E0i P H h a st.n o)->l.Pairwise (F0i a) ->
  (∀ i cs ty,nth st.bx i=some (.live cs ty)->∀ o∈l,c00 o=true->∀ d,o.dst=some d->be i≠B04 a d) ->
  (∀ i k e sz by_ nn xs g,nth st.ow i=some ⟨k,.live e sz by_ nn xs⟩->(oe i).ownBlock=some g->∀ o∈l,c00 o=true->∀ d,o.dst=some d->g≠B04 a d) ->
  doA (L9 P) l st h K->∃ st' be',K st' h/\Sim P h0 w0 be' oe H st' h a w
 | [],st,be,y,v,_,_,_,_,j=>⟨st,be,j,y.refr (fr:=st.fr) λt=>J1.fr (st:=st) (v t λo q=>nomatch q)⟩
 |o::l,st,be,y,v,C,x,A,q,j=>by
  rw[List.pairwise_cons]at x
  have j:(match c00 o with
   |true=>L9 P o st h λst h=>doA (L9 P) l st h K
   |false=>doA (L9 P) l st h K):=j
  cases hal:c00 o with
  |false =>
   rw[hal]at j
   exact X0b l st be y (λt O=>v t λc b m=>by
    rcases List.mem_cons.1 b with rfl|b
    ·rw[hal]at m;cases m
    ·exact O c b m) (λc b=>C c (mC _ b)) x.2 (λi cs ty f c b=>A i cs ty f c (mC _ b)) (λi k e sz by_ nn xs g f p c b=>q i k e sz by_ nn xs g f p c (mC _ b)) j
  |true =>
   rw[hal]at j
   obtain⟨d,t,z,R,s,S,T,U,G,V⟩:=C o mS hal
   simp only[L9,v6,R,T,i05,s,N06,E09]at j
   have M:Nat.blt d (st.withBx (st.bx ++ [.live (vals z.cells.toList) t])).n=true:=by
    cases st;exact Nat.ble_eq_true_of_le S
   simp only[M]at j
   obtain⟨n,fr,bx,ow⟩:=st
   have N:doA (L9 P) l ⟨n,(d,.box bx.length 0)::fr,bx ++ [.live (vals z.cells.toList) t],ow⟩ h K:=j
   have L:z.cells=z.cells.toList.toArray:=by simp
   rw[L]at G
   obtain⟨s2,J⟩:=y.claim (Y0.vals _ oe _) G V (λi cs ty f=>A i cs ty f o mS hal d s) (λi k e sz by_ nn xs g f p=>q i k e sz by_ nn xs g f p o mS hal d s)
   refine X0b l ⟨n,(d,.box bx.length 0)::fr,bx ++ [.live (vals z.cells.toList) t],ow⟩ _ s2 (λu Q=>?_) (λc b=>C c (mC _ b)) x.2 (λi cs ty f c b E D F=>?_) (λi k e sz by_ nn xs g f p c b=>q i k e sz by_ nn xs g f p c (mC _ b)) N
   ·show J1 _ _ _ (A2 ((d,.box bx.length 0)::fr) u) _
    rw[E3]
    split
    ·rename_i e
     subst e
     refine⟨by simp,?_⟩
     rw[U];simp
    ·rename_i e
     have I:=v u λc b m B=>by
      rcases List.mem_cons.1 b with rfl|b
      ·rw[s]at B;cases B;exact e rfl
      ·exact Q c b m B
     exact J1.fr (st:=⟨n,fd,bx ++ [.live (vals z.cells.toList) t],ow⟩) (J1.grow J (J1.fr (st:=⟨n,fr,bx,ow⟩) (fr:=fd) I))
   ·simp only[z8]at f
    split at f
    ·rename_i e
     subst e
     simp only[if_pos]
     exact x.1 c b hal E d D s F
    ·rename_i e
     simp only[if_neg e]
     exact A i cs ty f c (mC _ b) E D F
theorem U00{d:Nat}:∀ {l:List Operand},A02 d l=false->Operand.tmp d ∉ l
 | [],_,h=>nomatch h
 |x::r,a,h=>by
  rcases List.mem_cons.1 h with e|b
  ·subst e
   simp[A02]at a
  ·cases x<;>simp only[A02,Bool.or_eq_false_iff]at a
   ·exact U00 a.2 b
   all_goals exact U00 a b
theorem h06{d:Nat}:∀ {l:List Oper},P06 d l=false->∀ o∈l,Operand.tmp d ∉ o.op.operands
 | [],_,o,h=>nomatch h
 |c::r,a,o,h=>by
  simp only[P06,Bool.or_eq_false_iff]at a
  rcases List.mem_cons.1 h with rfl|h
  ·exact λb=>U00 a.1 (by simpa using b)
  ·exact h06 a.2 o h
theorem M0a{all:List Oper}:∀ {l:List Oper},okA P all l=true->∀ o∈l,c00 o=true->∃ t d z,o.op = .alloc t/\o.guard=none/\o.dst=some d/\J7 P t=some z/\∀ j∈all,Operand.tmp d ∉ j.op.operands
 | [],_,o,h,_=>nomatch h
 |k::r,c,o,h,b=>by
  simp only[okA,Bool.and_eq_true]at c
  rcases List.mem_cons.1 h with rfl|h
  ·have a:=c.1
   unfold c00 at b
   split at b
   ·rename_i t e
    rw[e]at a
    simp only at a
    split at a
    ·rename_i d z g f i
     exact⟨t,d,z,e,g,f,i,h06 (by simpa using a)⟩
    ·cases a
   ·cases b
  ·exact M0a c.2 o h b
theorem N0a{o:Oper}(h:c00 o=false):R6 o=o:=by
 unfold R6 c00 at *
 split
 ·rename_i t a;rw[a]at h;cases h
 ·rfl
theorem H5(o:Oper):(R6 o).dst=o.dst:=by unfold R6;split<;>rfl
theorem O0a(o:Oper):(R6 o).after=o.after:=by unfold R6;split<;>rfl
theorem P0a(o:Oper):(R6 o).guard=o.guard:=by unfold R6;split<;>rfl
theorem I5:∀(l:List Oper) (i:Nat),(Y3 l)[i]?=(l[i]?).map R6
 | [],i=>by simp[Y3]
 |o::r,0=>by simp[Y3]
 |o::r,i+1=>by simp[Y3,I5 r i]
theorem D08:∀(l:List Oper),(Y3 l).length=l.length
 | []=>rfl
 |o::r=>by simp[Y3,D08 r]
theorem Q0a{o:Oper}{d:Nat}(h:Operand.tmp d∈(R6 o).op.operands):Operand.tmp d∈o.op.operands:=by
 cases hal:c00 o with
 |false=>rwa [N0a hal]at h
 |true =>
  unfold c00 at hal
  split at hal
  ·rename_i t a
   unfold R6 at h
   rw[a]at h
   simp[Op.operands]at h
  ·cases hal
abbrev G0i:=List (Nat×Nat×Obj)
def skA(a:List Oper)(i:Nat):Bool:=match a[i]? with
 |some o=>c00 o
 |none=>false
def z05(P:Program)(h0:Hp)(w0:World)(e:List Oper)(st:St)(h:Hp)(A:Asg)(listed:Array Bool)(a:Act)(w:World):Prop :=
 ∃(c:G0i) (f:Hp) (g:World),L1 h0 w0 (P9 f (c.map λp=>p.2)) g/\(∀ p∈c,f p.2.1=none/\p.2.1<g.heap.size)/\((c.map λp=>p.2).map λp=>p.1).Nodup /\
  R03 P f g (Y3 e).toArray st h A (skA e) (c.map λp=>(p.1,ptr p.2.1 0)) listed a w /\
  (∀(j:Nat) (o:Oper) t d z,e[j]?=some o->o.op = .alloc t->o.dst=some d->J7 P t=some z->listed.getD j false=true->∃ b,(d,b,Obj.cells z.cells t (0,0))∈c) /\
  ∀ p∈c,∃(j:Nat) (o:Oper),e[j]?=some o/\c00 o=true/\o.dst=some p.1/\listed.getD j false=true
theorem z05.start{f:List Oper}{st:St}{A:Asg}{m:Nat}(g:Sim P h0 w0 be oe H st h a w):z05 P h0 w0 f st h A (Array.replicate m false) a w:=by
 refine⟨[],H,w,g.mv,λp b=>(by cases b),by simp,?_,λj o t d z _ _ _ _ e=>?_,λp b=>(by cases b)⟩
 ·have l:Sim P H w be oe H st h a w:=g.base (L1.refl g.mv.vis)
  refine⟨be,oe,H,h,λ_ _ h=>h,l.refr (fr:=O3 (Y3 f) st.fr) λt=>?_,λp b=>(by cases b),λj o d _ i k c=>?_⟩
  ·by_cases hx:∃ o∈Y3 f,o.dst=some t
   ·obtain⟨o,i,k⟩:=hx
    rw[R8 i k]
    trivial
   ·rw[Z7 λo q n=>hx ⟨o,q,n⟩]
    exact l.fr t
  ·simp[Array.getElem?_replicate]at c
   split at c<;>cases c
 ·simp[Array.getElem?_replicate]at e
  split at e<;>cases e
theorem p0h{f:List Oper}{st:St}{A:Asg}{ay:FL}{ab:List BE}{listed:Array Bool}{j:Nat}{o:Oper}{Q:Exit->Act->World->Prop}
  (ad:∀(i j:Nat) (l ar:Oper) (d:Nat),(Y3 f)[i]?=some l->(Y3 f)[j]?=some ar->l.dst=some d->ar.dst=some d->i=j)
  (ae:∀ o∈Y3 f,∀ d,o.dst=some d->d<st.n)
  (aD:∀(k:Nat) (o:Oper),(Y3 f)[k]?=some o->∀ e∈o.after,Region.binds .any e=true->e.on<k)
  (aK:∀ o∈Y3 f,∀ t,Operand.tmp t∈o.op.operands->∀(i:Nat) (l:Oper),(Y3 f)[i]?=some l->l.dst=some t->∃ e∈o.after,Region.binds .any e=true/\e.on=i)
  (aL:∀ o∈Y3 f,∀ i w,o.guard=some (i,w)->E6 i o=true)
  (aE:l08 (Y3 f) A ay ab (Y3 f).length)
  (aG:∀ j o,(Y3 f)[j]?=some o->∃ ac L,K6 ab o.guard=some (A j).1/\l08 (Y3 f) A ac L j/\p03 L ab/\cB L (A j).1=some (A j).2.1/\(OpU P st h ac L o (A j).1 (A j).2.1 (A j).2.2/\∀ av,v03 P ac L (A j).1 o st=some av->(A j).2.2 = .pu av))
  (aX:∀(i:Nat) (l:Oper) (d:Nat),(Y3 f)[i]?=some l->l.dst=some d->skA f i=true->∀ ag∈Y3 f,Operand.tmp d ∉ ag.op.operands)
  (aV:∀ i,skA f i=true->(A i).2.2 = .pu (.val undef)) (aF:∀ o∈f,c00 o=true->∃ t d z,o.op = .alloc t/\o.guard=none/\o.dst=some d/\J7 P t=some z/\∀ ag∈f,Operand.tmp d ∉ ag.op.operands)
  (Y:listed.getD j true=false)
  (I:f[j]?=some o) (aT:∀ e∈o.after,Region.binds .any e=true->listed.getD e.on false=true) (aM:z05 P h0 w0 f st h A listed a w) :
  (Region.wanted o (yielded (Y3 f).toArray a.tmps)=true->o.wp P a w (z05 P h0 w0 f st h A (listed.setIfInBounds j true)) Q) /\
  (Region.wanted o (yielded (Y3 f).toArray a.tmps)=false->z05 P h0 w0 f st h A (listed.setIfInBounds j true) (a.put o.dst undef) w):=by
 obtain⟨B,T,aa,af,M,X,an,aj,U⟩:=aM
 have aR:o∈f:=List.mem_of_getElem? I
 have J:(Y3 f)[j]?=some (R6 o):=by rw[I5,I];rfl
 have aP:listed.getD j false=false:=by
  have:j<listed.size:=by
   rcases Nat.lt_or_ge j listed.size with h|h
   ·exact h
   ·simp[Array.getElem?_eq_none h]at Y
  simp[this]at Y ⊢
  exact Y
 have aO:j<listed.size:=by
  rcases Nat.lt_or_ge j listed.size with h|h
  ·exact h
  ·simp[Array.getElem?_eq_none h]at Y
 have aC:∀ p∈B,∃(i:Nat) (l:Oper),(Y3 f)[i]?=some l/\l.dst=some p.1/\skA f i=true:=λp c=>by
  obtain⟨i,l,m,s,y,_⟩:=U p c
  exact⟨i,R6 l,by rw[I5,m];rfl,by rw[H5];exact y,by unfold skA;rw[m];exact s⟩
 cases hisa:c00 o with
 |false =>
  have aN:=N0a hisa
  rw[aN]at J
  have aW:skA f j=false:=by unfold skA;rw[I];exact hisa
  have up:∀ K D,R03 P T aa (Y3 f).toArray st h A (skA f) (B.map λp=>(p.1,ptr p.2.1 0)) (listed.setIfInBounds j true) K D->z05 P h0 w0 f st h A (listed.setIfInBounds j true) K D:=λK D a1=>by
   refine⟨B,T,aa,af,M,X,a1,λi l t d z m s y C O=>?_,λp c=>?_⟩
   ·by_cases e:j=i
    ·subst e
     rw[I]at m;cases m
     unfold c00 at hisa;rw[s]at hisa;cases hisa
    ·rw[getD_set_ne false e]at O
     exact aj i l t d z m s y C O
   ·obtain⟨i,l,m,s,y,C⟩:=U p c
    exact⟨i,l,m,s,y,getD_set_true C⟩
  have aw:=n0h (P:=P) (h0:=T) (w0:=aa) (ops:=(Y3 f).toArray) (Q:=Q) (sk:=skA f) (kp:=B.map λp=>(p.1,ptr p.2.1 0)) (by simpa using ad) (by simpa using ae) (by simpa using aD) (by simpa using aK) (by simpa using aL) (by simpa using aE) (by simpa using aG) aW (by simpa using aX) aV (λp c=>by
   obtain⟨q,E,rfl⟩:=List.mem_map.1 c
   simpa using aC q E) (by simpa using J) aT an
  exact⟨λG=>Oper.wp_mono (λK D=>up K D) (aw.1 G),λG=>up _ _ (aw.2 G)⟩
 |true =>
  obtain⟨t,d,z,ao,a2,F,ap,bc⟩:=aF o aR hisa
  refine⟨λ_=>?_,λG=>?_⟩
  rotate_left
  ·unfold Region.wanted at G;rw[a2]at G;cases G
  obtain⟨be,oe,H,S,aU,R,keep,aB⟩:=an
  have aq:L1 h0 w0 (P9 H (B.map λp=>p.2)) w:=af.trans (j07 af.vis (λp c=>by
   obtain⟨q,E,rfl⟩:=List.mem_map.1 c
   exact M q E) X R.mv)
  have ai:∀ p∈B,H p.2.1=none:=λp c=>R.mv.none_of (M p c).2 (M p c).1
  have G:wpS P (execOp a.eval o) (P9 H (B.map λp=>p.2)) (λn ah=>∃ b,P9 H (B.map λp=>p.2) b=none/\n = .value (ptr b 0)/\ah=(P9 H (B.map λp=>p.2)).set b (.cells z.cells t (0,0))):=by
   unfold execOp;rw[ao]
   refine C5 _ _ _ ?_
   simp only[Instr.alloc,newVar,newRow,newObj,Z0,u04 ap,K1,wpS]
   exact λb V=>⟨b,V,rfl,rfl⟩
  obtain⟨n,ah,D,aS,⟨b,V,rfl,rfl⟩,W⟩:=O6 _ _ _ aq.vis G
  refine A5 aS ?_
  have al:∀ p∈B,p.2.1≠b:=λp c e=>by
   have:=y00 (H:=H) X (List.mem_map.2 ⟨p,c,rfl⟩)
   rw[e,V]at this;cases this
  have ak:H b=none:=by
   rw[←V,z9]
   intro p c
   obtain⟨q,E,rfl⟩:=List.mem_map.1 c
   exact al q E
  have a0:Vis H D:=λx a3 N=>by
   refine W.vis x a3 ?_
   rw[Hp.set_other _ _ λe=>by subst e;rw[ak]at N;cases N]
   rw[z9]
   ·exact N
   ·intro p c e
    obtain⟨q,E,rfl⟩:=List.mem_map.1 c
    rw[←e,ai q E]at N;cases N
  have aQ:d<a.tmps.size:=by rw[R.siz];exact ae (R6 o) (List.mem_of_getElem? J) d (by rw[H5];exact F)
  have bb:(a.put o.dst (ptr b 0)).tmps.getD d undef=ptr b 0:=by rw[F];simp[Act.put,aQ]
  have ax:∀ u,u≠d->(a.put o.dst (ptr b 0)).tmps.getD u undef=a.tmps.getD u undef:=λu aY=>by
   rw[F];simp[Act.put,Array.getElem?_setIfInBounds_ne (Ne.symm aY)]
  have a4:∀ p∈B,p.1≠d:=λp c e=>by
   obtain⟨i,l,m,s,y,C⟩:=U p c
   have:=ad i j (R6 l) (R6 o) d (by rw[I5,m];rfl) J (by rw[H5,y,e]) (by rw[H5];exact F)
   subst this
   rw[aP]at C;cases C
  have s1:Sim P H D be oe H { st with fr:=O3 (Y3 f) st.fr } S a D:=(by simpa using R:Sim P T aa be oe H { st with fr:=O3 (Y3 f) st.fr } S a w).base (L1.refl a0)
  have s2:Sim P H D be oe H { st with fr:=O3 (Y3 f) st.fr } S (a.put o.dst (ptr b 0)) D:=by
   have c:=s1.put (d:=d) (av := .dead) (v:=ptr b 0) (ae (R6 o) (List.mem_of_getElem? J) d (by rw[H5];exact F)) trivial
   rw[F]
   refine c.refr (fr:=O3 (Y3 f) st.fr) λu=>?_
   have g:=c.fr u
   rw[E3]at g
   split at g
   ·rename_i e
    subst e
    rw[R8 (List.mem_of_getElem? J) (by rw[H5];exact F)]
    trivial
   ·exact g
  refine⟨(d,b,.cells z.cells t (0,0))::B,H,D,?_,λp c=>?_,?_,⟨be,oe,H,S,aU,by simpa using s2,λp c=>?_,λi l u Z m s y=>?_⟩,λi l ba aA z' m s y C O=>?_,λp c=>?_⟩
  ·exact aq.trans W
  ·rcases List.mem_cons.1 c with rfl|c
   ·exact⟨ak,W.vis.lt (by rw[Hp.set_same];simp)⟩
   ·exact⟨ai p c,Nat.lt_of_lt_of_le (M p c).2 (Nat.le_trans R.mv.size W.size)⟩
  ·rw[List.map_cons,List.map_cons,List.nodup_cons]
   refine⟨λaJ=>?_,X⟩
   obtain⟨q,E,e⟩:=List.mem_map.1 aJ
   obtain⟨p,c,rfl⟩:=List.mem_map.1 E
   exact al p c e
  ·rw[List.map_cons]at c
   rcases List.mem_cons.1 c with rfl|c
   ·exact bb
   ·obtain⟨q,E,rfl⟩:=List.mem_map.1 c
    rw[ax _ (a4 q E)]
    exact keep _ c
  ·have am:j≠i:=λe=>by
    subst e
    have au:c00 o=false:=by unfold skA at Z;rw[I]at Z;exact Z
    rw[hisa]at au;cases au
   rw[getD_set_ne false am]at y
   have aZ:u≠d:=λe=>by
    subst e
    exact am (ad j i (R6 o) l u J (by simpa using m) (by rw[H5];exact F) s)
   rw[ax u aZ]
   exact aB i l u Z m s y
  ·by_cases e:j=i
   ·subst e
    rw[I]at m;cases m
    rw[ao]at s;cases s
    rw[F]at y;cases y
    rw[ap]at C;cases C
    exact⟨b,mS⟩
   ·rw[getD_set_ne false e]at O
    obtain⟨az,aH⟩:=aj i l ba aA z' m s y C O
    exact⟨az,mC _ aH⟩
  ·rcases List.mem_cons.1 c with rfl|c
   ·exact⟨j,o,I,hisa,F,by simp[aO]⟩
   ·obtain⟨i,l,m,s,y,C⟩:=U p c
    exact⟨i,l,m,s,y,getD_set_true C⟩
theorem E08{b m:Type}{f:b->m}:∀ {l:List b},(l.map f).Nodup->∀ {p q:b},p∈l->q∈l->f p=f q->p=q
 | [],_,p,q,h,_,_=>nomatch h
 |x::l,a,p,q,j,k,e=>by
  rw[List.map_cons,List.nodup_cons]at a
  rcases List.mem_cons.1 j with c|g<;>rcases List.mem_cons.1 k with d|i
  ·rw[c,d]
  ·exact absurd (List.mem_map.2 ⟨q,i,by rw[←e,c]⟩) a.1
  ·exact absurd (List.mem_map.2 ⟨p,g,by rw[e,d]⟩) a.1
  ·exact E08 a.2 g i e
theorem K0g{c:List Oper}{st:St}{A:Asg}{X:FL}{af:List BE}{K:St->Hp->Prop}{listed:Array Bool}
  (Z:∀(i j:Nat) (Q ae:Oper) (d:Nat),(Y3 c)[i]?=some Q->(Y3 c)[j]?=some ae->Q.dst=some d->ae.dst=some d->i=j)
  (aq:∀ o∈Y3 c,∀ d,o.dst=some d->d<st.n)
  (au:∀ i,skA c i=true->(A i).2.2 = .pu (.val undef)) (am:∀ o∈c,c00 o=true->∃ t d z,o.op = .alloc t/\o.guard=none/\o.dst=some d/\J7 P t=some z/\∀ ay∈c,Operand.tmp d ∉ ay.op.operands)
  (ak:l08 (Y3 c) A X af (Y3 c).length) (an:∀ m,Sub h m->S06 m X st.fr λfr=>doA (L9 P) c { st with fr:=fr } m K) (ab:∀ j,j<c.length->listed.getD j false=true)
  (C:z05 P h0 w0 c st h A listed a w):∃ st' m be oe H,K st' m/\Sim P h0 w0 be oe H st' m a w:=by
 obtain⟨R,aG,aM,ac,V,U,aw,aj,aH⟩:=C
 obtain⟨be,oe,H,m,fr,ap,I,keep,g⟩:=S0c (K:=λst h=>doA (L9 P) c st h K) (ops:=(Y3 c).toArray) au (by simpa using Z) (by simpa using ak) an (λj v=>ab j (by simpa [D08] using v)) aw
 have ax:L1 h0 w0 (P9 H (R.map λp=>p.2)) w:=ac.trans (j07 ac.vis (λp G=>by
  obtain⟨q,W,rfl⟩:=List.mem_map.1 G
  exact V q W) U I.mv)
 have N:∀ p∈R,H p.2.1=none:=λp G=>I.mv.none_of (V p G).2 (V p G).1
 have aB:=I.more (l:=R.map λp=>p.2) (λp G=>by
  obtain⟨q,W,rfl⟩:=List.mem_map.1 G
  exact N q W) ax
 have J:∀ o∈c,c00 o=true->∃ t d z b,o.op = .alloc t/\o.dst=some d/\J7 P t=some z/\(d,b,Obj.cells z.cells t (0,0))∈R/\a.tmps.getD d undef=ptr b 0:=λo x u=>by
  obtain⟨t,d,z,E,s,F,k,y⟩:=am o x u
  obtain⟨j,v⟩:=List.getElem?_of_mem x
  obtain⟨b,M⟩:=aj j o t d z v E F k (ab j (List.getElem?_eq_some_iff.1 v).1)
  exact⟨t,d,z,b,E,F,k,M,keep _ (List.mem_map.2 ⟨_,M,rfl⟩)⟩
 have ar:∀ b,H b=none->m b=none:=λb M=>by
  cases e:m b with
  |none=>rfl
  |some o=>rw[I.sub b o e]at M;cases M
 refine(X0b (K:=K) (fd:=O3 (Y3 c).toArray.toList st.fr) c { st with fr:=fr } be aB (λt av=>?_) (λo x u=>?_) ?_ (λi cs ty C o x u d B=>?_) (λi aC e sz by_ nn xs aF C ao o x u d B=>?_) ap).elim λst' O=>O.elim λbe' O=>⟨st',m,be',oe,_,O.1,O.2⟩
 ·refine J1.fr (st:=st) (fr:=fr) (g t λi Q D S=>?_)
  have D:(Y3 c)[i]?=some Q:=by simpa using D
  rw[I5]at D
  cases e:c[i]? with
  |none=>rw[e]at D;cases D
  |some ad =>
   rw[e]at D;cases D
   cases hal0:c00 ad with
   |false=>unfold skA;rw[e];exact hal0
   |true=>exact absurd (by rw[←H5];exact S) (av ad (List.mem_of_getElem? e) hal0)
 ·obtain⟨t,d,z,b,E,s,F,k,y⟩:=J o x u
  have T:=x01 y
  obtain⟨j,v⟩:=List.getElem?_of_mem x
  refine⟨d,t,z,E,s,aq (R6 o) (List.mem_of_getElem? (i:=j) (by rw[I5,v];rfl)) d (by rw[H5];exact s),F,by rw[T];exact y,by rw[T];exact y00 U (List.mem_map.2 ⟨_,k,rfl⟩),by rw[T];exact ar b (N _ k)⟩
 ·rw[List.pairwise_iff_getElem]
  intro i j C v aJ u al d ag B aa e
  obtain⟨t,Y,z,b,E,s,F,k,y⟩:=J _ (List.getElem_mem C) u
  obtain⟨aL,aE,z',aD,D,S,aK,az,aA⟩:=J _ (List.getElem_mem v) al
  rw[s]at B;cases B
  rw[S]at aa;cases aa
  rw[x01 y,x01 aA]at e
  subst e
  have:=E08 (f:=λp:Nat×Nat×Obj=>p.2.1) (by have:=U;rw[List.map_map]at this;exact this) k az rfl
  have ai:d=ag:=congrArg Prod.fst this
  subst ai
  have:=Z i j (R6 c[i]) (R6 c[j]) d (by rw[I5,List.getElem?_eq_getElem C];rfl) (by rw[I5,List.getElem?_eq_getElem v];rfl) (by rw[H5];exact s) (by rw[H5];exact S)
  omega
 ·obtain⟨t,Y,z,b,E,s,F,k,y⟩:=J o x u
  rw[s]at B;cases B
  rw[x01 y]
  intro e
  obtain⟨_,vs,_,L⟩:=I.box i cs ty C
  rw[e,N _ k]at L;cases L
 ·obtain⟨t,Y,z,b,E,s,F,k,y⟩:=J o x u
  rw[s]at B;cases B
  rw[x01 y]
  intro ah
  obtain⟨_,_,_,_,L⟩:=(I.own i aC e sz by_ nn xs C).block ao
  rw[ah,N _ k]at L;cases L
theorem u0i{ops:Array Oper}{Q:Exit->Act->World->Prop}{Inv:Array Bool->Act->World->Prop}(hB:∀(k:Nat) (o:Oper),ops.toList[k]?=some o->∀ e∈o.after,Region.binds .any e=true->e.on<k)
  (hstep:∀ listed a w j o,listed.size=ops.size->listed.getD j true=false->ops[j]?=some o->(∀ e∈o.after,Region.binds .any e=true->listed.getD e.on false=true)->Inv listed a w ->
   (Region.wanted o (yielded ops a.tmps)=true->o.wp P a w (Inv (listed.setIfInBounds j true)) Q)/\(Region.wanted o (yielded ops a.tmps)=false->Inv (listed.setIfInBounds j true) (a.put o.dst undef) w))
  (hQ:∀ listed a w,(∀ j,j<ops.size->listed.getD j false=true)->Inv listed a w->Q .normal a w) :
  ∀(fuel:Nat) (listed:Array Bool) (a:Act) (w:World),listed.size=ops.size->listed.toList.count true+fuel=ops.size->Inv listed a w->wpAny P .any ops Q fuel listed a w
 |0,listed,a,w,hsz,hc,hi=>by
  have hall':∀ j,j<ops.size->listed.getD j false=true:=λj hj=>by
   have h1:∀ b∈listed.toList,true=b:=List.count_eq_length.1 (by simp only[Array.length_toList];omega)
   have hlt:j<listed.size:=by omega
   have:=h1 listed[j] (by simp)
   simp[hlt,←this]
  refine⟨?_,hQ listed a w hall' hi⟩
  cases hr:Region.ready .any ops listed with
  |nil=>rfl
  |cons j r =>
   have hj:j∈Region.ready .any ops listed:=by rw[hr];exact mS
   obtain⟨h1,o,h2,_⟩:=mem_ready.1 hj
   have hlt:j<ops.size:=(Array.getElem?_eq_some_iff.1 h2).1
   have:=hall' j hlt
   have hlt':j<listed.size:=by omega
   simp[hlt']at this h1
   rw[this]at h1;cases h1
 |fuel+1,listed,a,w,hsz,hc,hi=>by
  refine⟨λhr=>hQ listed a w (u05 hB hsz hr) hi,λj hj=>?_⟩
  obtain⟨h1,o,h2,h3⟩:=mem_ready.1 hj
  unfold wpOp
  simp only[h2]
  obtain⟨ht,hf⟩:=hstep listed a w j o hsz h1 h2 h3 hi
  have next:∀ a' w',Inv (listed.setIfInBounds j true) a' w'->wpAny P .any ops Q fuel (listed.setIfInBounds j true) a' w':=λa' w' hi'=>u0i hB hstep hQ fuel _ a' w' (by simpa using hsz) (by rw[count_set h1];omega) hi'
  cases hw:Region.wanted o (yielded ops a.tmps)with
  |true =>
   rw[if_pos rfl]
   exact .inl (Oper.wp_mono next (ht hw))
  |false =>
   rw[if_neg (by simp)]
   exact next _ _ (hf hw)
theorem A05{x:Nat}:∀ {l:List Nat},Q0b x l=true↔x∈l
 | []=>by simp[Q0b]
 |y::r=>by
  simp only[Q0b,Bool.or_eq_true,List.mem_cons,A05 (l:=r)]
  constructor
  ·rintro(h|h)
   ·exact .inl (Nat.eq_of_beq_eq_true h)
   ·exact .inr h
  ·rintro(rfl|h)
   ·exact .inl (Nat.beq_refl _)
   ·exact .inr h
theorem F08{ops:List Oper}{i:Nat}:∀ {l:List Nat},A0g ops i l=true->∃ j o,j∈l/\ops[j]?=some o/\E6 i o=true
 | [],h=>by cases h
 |j::r,h=>by
  simp only[A0g,Bool.or_eq_true]at h
  rcases h with h|h
  ·split at h
   ·rename_i o a
    rw[q00]at a
    exact⟨j,o,mS,a,h⟩
   ·cases h
  ·obtain⟨d,o,b,c⟩:=F08 h
   exact⟨d,o,mC _ b,c⟩
theorem S03{ops:List Oper}{G:Nat->Prop}(a:∀ i j o,G j->ops[j]?=some o->E6 i o=true->G i):∀(n:Nat) (acc:List Nat),(∀ j∈acc,G j)->∀ i∈t08 ops n acc,G i
 |0,acc,h=>h
 |n+1,acc,h=>by
  unfold t08
  split
  ·rename_i f
   obtain⟨j,o,c,d,e⟩:=F08 f
   exact S03 a n _ λi b=>by
    rcases List.mem_cons.1 b with rfl|b
    ·exact a _ j o (h j c) d e
    ·exact h i b
  ·exact S03 a n acc h
theorem T03{d:Nat}:∀ {l:List Oper},x03 d l=false->∀ o∈l,o.dst≠some d
 | [],_,o,h=>nomatch h
 |c::r,a,o,h=>by
  simp only[x03,Bool.or_eq_false_iff]at a
  rcases List.mem_cons.1 h with rfl|h
  ·intro b
   rw[b]at a
   have:=a.1
   simp at this
  ·exact T03 a.2 o h
theorem h01{d:List Nat}{t:Nat}:∀ {l:List Oper} {k:Nat},p00 d t l k=true->∀(i:Nat) (o:Oper),l[i]?=some o->o.dst=some t->k+i∈d
 | [],k,_,i,o,h,_=>by simp at h
 |e::r,k,b,i,o,h,c=>by
  simp only[p00,Bool.and_eq_true]at b
  cases i with
  |zero =>
   simp at h;subst h
   have a:=b.1
   rw[c]at a
   simp at a
   exact A05.1 a
  |succ i =>
   have:=h01 b.2 i o (by simpa using h) c
   rw[show k+(i+1)=k+1+i by omega];exact this
theorem E03{i d:Nat}:∀ {l:List Oper},o01 i d l=true->∀ o∈l,Operand.tmp d∈o.op.operands->E6 i o=true
 | [],_,o,h,_=>nomatch h
 |f::r,b,o,h,c=>by
  simp only[o01,Bool.and_eq_true,Bool.or_eq_true]at b
  rcases List.mem_cons.1 h with rfl|h
  ·rcases b.1 with a|a
   ·have e:A02 d o.op.operands.toList=false:=by simpa using a
    exact absurd (show Operand.tmp d∈o.op.operands.toList by simpa using c) (U00 e)
   ·exact a
  ·exact E03 b.2 o h c
theorem k07:∀ {l:List Oper},r0a l=true->∀ o∈l,X05 o.op=false
 | [],_,o,h=>nomatch h
 |b::r,a,o,h=>by
  simp only[r0a,Bool.and_eq_true]at a
  rcases List.mem_cons.1 h with rfl|h
  ·simpa using a.1
  ·exact k07 a.2 o h
def S8(o:Oper)(f:Operand->Value):Option Value:=match o.op with
 | .extract x k=>match f x with
  | .tuple vs=>vs[k]?
  |_=>none
 | .move x=>some (f x)
 | .assign x=>some (f x)
 | .pick c x y=>match f c with
  | .bool q=>some (if q=true then f x else f y)
  |_=>none
 |_=>none
theorem i00{x:Operand}{a b:Act}(h:∀ t∈j05 x,a.tmps.getD t undef=b.tmps.getD t undef):a.eval x=b.eval x:=by
 cases x with
 |tmp t=>exact h t (List.mem_singleton.2 rfl)
 |const v=>rfl
 |global g=>rfl
 |func f=>rfl
theorem Q9{o:Oper}{a:List Nat}(h:w03 o=some a):o.guard=none/\((∃ x k,o.op = .extract x k/\a=j05 x)∨(∃ x,o.op = .move x/\a=j05 x)∨(∃ x,o.op = .assign x/\a=j05 x)∨∃ c x b,o.op = .pick c x b/\a=j05 c++(j05 x++j05 b)):=by
 unfold w03 at h
 split at h
 ·cases h
 ·rename_i d
  refine⟨d,?_⟩
  split at h
  ·rename_i x k e;cases h;exact .inl ⟨x,k,e,rfl⟩
  ·rename_i x e;cases h;exact .inr (.inl ⟨x,e,rfl⟩)
  ·rename_i x e;cases h;exact .inr (.inr (.inl ⟨x,e,rfl⟩))
  ·rename_i c x b e;cases h;exact .inr (.inr (.inr ⟨c,x,b,e,rfl⟩))
  ·cases h
theorem K02{o:Oper}{g:List Nat}{a b:Act}(h:w03 o=some g)(e:∀ t∈g,a.tmps.getD t undef=b.tmps.getD t undef):S8 o a.eval=S8 o b.eval:=by
 obtain⟨_,⟨x,k,d,rfl⟩|⟨x,d,rfl⟩|⟨x,d,rfl⟩|⟨c,x,i,d,rfl⟩⟩:=Q9 h
 ·unfold S8;rw[d];simp only[i00 e]
 ·unfold S8;rw[d];simp only[i00 e]
 ·unfold S8;rw[d];simp only[i00 e]
 ·unfold S8;rw[d]
  simp only[i00 (x:=c) λt f=>e t (List.mem_append_left _ f),i00 (x:=x) λt f=>e t (List.mem_append_right _ (List.mem_append_left _ f)),i00 (x:=i) λt f=>e t (List.mem_append_right _ (List.mem_append_right _ f))]
theorem l07{o:Oper}{f:List Nat}{a:Act}{v:Value}(h:w03 o=some f)(b:S8 o a.eval=some v)(w:World):(execOp a.eval o).run P w = .ok (.value v) w:=by
 obtain⟨_,⟨x,k,e,_⟩|⟨x,e,_⟩|⟨x,e,_⟩|⟨c,x,g,e,_⟩⟩:=Q9 h
 ·unfold S8 at b;rw[e]at b
  simp only at b
  split at b
  ·rename_i vs d
   unfold execOp;rw[e]
   simp only[Instr.extract,d,b]
   rfl
  ·cases b
 ·unfold S8 at b;rw[e]at b;cases b
  unfold execOp;rw[e];rfl
 ·unfold S8 at b;rw[e]at b;cases b
  unfold execOp;rw[e];rfl
 ·unfold S8 at b;rw[e]at b
  simp only at b
  split at b
  ·rename_i q d
   cases b
   unfold execOp;rw[e]
   simp only[d,asBool]
   cases q<;>rfl
  ·cases b
theorem L0g{o:Oper}{i:List Nat}{a:Act}{w:World}{f:Act->World->Prop}(h:w03 o=some i)(b:o.wp P a w f λ_ _ _=>False):∃ v,S8 o a.eval=some v/\f (a.put o.dst v) w:=by
 obtain⟨_,⟨x,k,e,_⟩|⟨x,e,_⟩|⟨x,e,_⟩|⟨c,x,j,e,_⟩⟩:=Q9 h
 ·cases hx:S8 o a.eval with
  |some v =>
   refine⟨v,rfl,?_⟩
   unfold Oper.wp at b
   rw[l07 h hx w]at b
   exact b
  |none =>
   exfalso
   unfold S8 at hx;rw[e]at hx
   simp only at hx
   unfold Oper.wp execOp at b;rw[e]at b
   simp only[Instr.extract]at b
   split at hx
   ·rename_i vs g
    rw[g]at b
    simp only[hx]at b
    exact b
   ·rename_i d
    generalize a.eval x=z at b d
    cases z<;>first|exact b|exact absurd rfl (d _)
 ·refine⟨_,by unfold S8;rw[e],?_⟩
  unfold Oper.wp execOp at b;rw[e]at b
  exact b
 ·refine⟨_,by unfold S8;rw[e],?_⟩
  unfold Oper.wp execOp at b;rw[e]at b
  exact b
 ·cases hx:S8 o a.eval with
  |some v =>
   refine⟨v,rfl,?_⟩
   unfold Oper.wp at b
   rw[l07 h hx w]at b
   exact b
  |none =>
   exfalso
   unfold S8 at hx;rw[e]at hx
   simp only at hx
   unfold Oper.wp execOp at b;rw[e]at b
   simp only at b
   split at hx
   ·cases hx
   ·rename_i d
    generalize a.eval c=z at b d
    cases z<;>first|exact b|exact absurd rfl (d _)
def m07(as a:Act)(D:Nat->Prop):Prop:=as.tmps.size=a.tmps.size/\as.defers=a.defers/\∀ d,¬ D d->as.tmps.getD d undef=a.tmps.getD d undef
theorem R9(a:Act)(d u:Nat)(v:Value):(a.put (some d) v).tmps.getD u undef=if d=u/\d<a.tmps.size then v else a.tmps.getD u undef:=by
 by_cases e:d=u
 ·subst e
  by_cases h:d<a.tmps.size
  ·simp[Act.put,h]
  ·simp[Act.put,h]
 ·rw[if_neg λh=>e h.1]
  simp[Act.put,Array.getElem?_setIfInBounds_ne e]
theorem m07.put{as a:Act}{b:Nat->Prop}(l:m07 as a b)(d:Option Nat)(v:Value):m07 (as.put d v) (a.put d v) b:=by
 cases d with
 |none=>exact l
 |some d =>
  refine⟨by simp[Act.put,l.1],l.2.1,λu c=>?_⟩
  rw[R9,R9,l.1,l.2.2 u c]
theorem M0g{o:Oper}{as a:Act}{w:World}{k:Nat->Prop}{m:Act->World->Prop}{Q:Exit->Act->World->Prop}(l:m07 as a k)(s:X05 o.op=false)(z:∀ d,Operand.tmp d∈o.op.operands -> ¬ k d)
  (i:o.wp P as w m λ_ _ _=>False):o.wp P a w (λp j=>∃ g,m g j/\m07 g p k/\(∃ v,g=as.put o.dst v∨∃ x,g = { as with defers:=x }.put o.dst v)/\∃ v,p=a.put o.dst v∨∃ x,p = { a with defers:=x }.put o.dst v) Q:=by
 have u:execOp as.eval o=execOp a.eval o:=execOp_congr o (λcs b e=>by rw[e]at s;cases s) λx A=>by
  cases x with
  |tmp d=>exact l.2.2 d (z d A)
  |_=>rfl
 unfold Oper.wp at *
 rw[u]at i
 generalize (execOp a.eval o).run P w=r at i
 have fin:∀(v:Value) (j:World),m (as.put o.dst v) j->∃ g,m g j/\m07 g (a.put o.dst v) k/\(∃ v,g=as.put o.dst v∨∃ x,g = { as with defers:=x }.put o.dst v)/\∃ t,a.put o.dst v=a.put o.dst t∨∃ x,a.put o.dst v = { a with defers:=x }.put o.dst t :=
  λv j h=>⟨_,h,l.put o.dst v,⟨v,.inl rfl⟩,v,.inl rfl⟩
 cases r with
 |ok n j =>
  cases n with
  |value v=>exact fin v j i
  |skip=>exact fin undef j i
  |defer d =>
   refine⟨_,i,m07.put (as := { as with defers:=d::as.defers }) (a := { a with defers:=d::a.defers }) ⟨l.1,by simp[l.2.1],l.2.2⟩ o.dst undef,⟨_,.inr ⟨_,rfl⟩⟩,_,.inr ⟨_,rfl⟩⟩
  |enter f args =>
   refine Calls.mono i λe q h=>?_
   cases e with
   |returned v=>exact fin v q h
   |panicked c=>exact h.elim
   |outgrown=>obtain⟨_,_,h⟩:=h;exact h.elim
  |row row args=>exact Rows.mono i λv q h=>fin v q h
  |_=>exact i.elim
 |halt y j=>cases y<;>exact i.elim
theorem Sim.like{st:St}{as a:Act}{h0:Hp}{w0:World}{be:Nat->Nat}{oe:Nat->Value}{H h:Hp}{w:World}(b:Sim P h0 w0 be oe H st h as w){c:Nat->Prop}(l:m07 as a c)(e:∀ d,¬ c d):Sim P h0 w0 be oe H st h a w :=
 ⟨b.mv,b.sub,b.box,b.pub,b.own,b.frz,b.bb,b.oo,b.bo,by rw[←l.2.1];exact b.dfr,by rw[←l.1];exact b.siz,λt=>by rw[←l.2.2 t (e t)];exact b.fr t⟩
theorem G08:∀ {l:List Oper} {k:Nat},b0f k l=true->(∀ o∈l,o.guard=none)/\∀(i:Nat) (o:Oper),l[i+1]?=some o->E6 (k+i) o=true
 | [],k,h=>⟨λo a=>(nomatch a),λi o b=>(nomatch b)⟩
 | [x],k,h=>by
  rw[b0f]at h
  simp only[Bool.and_eq_true]at h
  refine⟨λo a=>?_,λi o b=>nomatch b⟩
  simp at a;subst a
  have c:=h.1.1
  split at c
  ·assumption
  ·cases c
 |x::f::r,k,h=>by
  rw[b0f]at h
  simp only[Bool.and_eq_true]at h
  obtain⟨d,e⟩:=G08 (l:=f::r) h.2
  refine⟨λo a=>?_,λi o b=>?_⟩
  ·rcases List.mem_cons.1 a with rfl|a
   ·have c:=h.1.1
    split at c
    ·assumption
    ·cases c
   ·exact d o a
  ·cases i with
   |zero=>simp at b;subst b;exact h.1.2
   |succ i =>
    have:=e i o (by simpa using b)
    rw[show k+(i+1)=k+1+i by omega];exact this
theorem R0a{o:Oper}{st:St}{K:St->Hp->Prop}{Q:Exit->Act->World->Prop}(u:Sim P h0 w0 be oe H st h a w)(m:L9 P o st h K):
  o.wp P a w (λj l=>∃ st' b be' oe' e,K st' b/\Sim P h0 w0 be' oe' e st' b j l) Q:=by
 refine Oper.wp_mono (λj l q=>?_) (F7 u m)
 obtain⟨av,st',b,v,be',oe',e,n,rfl,y,g,z⟩:=q
 obtain⟨k,s,A,B,t⟩:=v00 (ops := #[o]) (i:=0) (rs:=⟨st',b,[],[]⟩) (ch:=[]) (c:=true) (v:=v) y ⟨(λx f=>nomatch f),(λx f=>nomatch f),(λd ch av p=>nomatch p)⟩ (by rfl) rfl (λ_=>g) (λh=>by cases h) n
 exact⟨k.st,k.h,be',oe',e,s,t⟩
theorem C04{c d:List Oper}{b:List Nat}:∀ {l:List Oper} {k:Nat},A06 c d b l k=true->∀(i:Nat) (o:Oper),l[i]?=some o->Q0b (k+i) b=true∨J0c c d b (k+i) o=true
 | [],k,_,i,o,h=>by simp at h
 |e::r,k,a,i,o,h=>by
  simp only[A06,Bool.and_eq_true,Bool.or_eq_true]at a
  cases i with
  |zero=>simp at h;subst h;exact a.1
  |succ i =>
   have:=C04 a.2 i o (by simpa using h)
   rw[show k+(i+1)=k+1+i by omega];exact this
theorem n07{c d:List Oper}{b:List Nat}:∀ {e:List Nat},I0c c d b e=true->∀ t∈e,x03 t d=false/\p00 b t c 0=true
 | [],_,t,h=>by cases h
 |x::r,a,t,h=>by
  simp only[I0c,Bool.and_eq_true,Bool.not_eq_true']at a
  rcases List.mem_cons.1 h with rfl|h
  ·exact a.1
  ·exact n07 a.2 t h
theorem Y0b{c a:List Oper}{b:List Nat}{i:Nat}{o:Oper}(h:J0c c a b i o=true):∃ e d,w03 o=some e/\o.dst=some d/\x03 d a=false/\(∀ t∈e,x03 t a=false/\p00 b t c 0=true)/\o01 i d a=true:=by
 unfold J0c at h
 split at h
 ·rename_i t d f g
  simp only[Bool.and_eq_true,Bool.not_eq_true']at h
  exact⟨t,d,f,g,h.1.1,n07 h.1.2,h.2⟩
 ·cases h
theorem i0e{ops:Array Oper}{m:Nat}{st:St}{K:St->Hp->Prop}{Q:Exit->Act->World->Prop}(hb:okZ P st.n m ops.toList=true)(he:evT P (L9 P) m ops.toList st h K)
  (hQ:∀ a w st h be oe H,K st h->Sim P h0 w0 be oe H st h a w->Q .normal a w) (s:Sim P h0 w0 be oe H st h a w):wpAny P .any ops Q ops.size (Array.replicate ops.size false) a w:=by
 simp only[okZ,D9,E8,Bool.and_eq_true,Bool.or_eq_true]at hb
 obtain⟨⟨⟨⟨⟨⟨⟨b1,b2⟩,b3⟩,b4⟩,b5⟩,b6⟩,b7⟩,b8⟩:=hb
 generalize hpre:ops.toList.take m=pre at b1 b2 b3 b4 b5 b8
 obtain⟨hn,hD⟩:=x00 b1
 have hB:∀(k:Nat) (o:Oper),(Y3 pre)[k]?=some o->∀ e∈o.after,Region.binds .any e=true->e.on<k:=λk o hk e he' hb=>by
  have:=y9 b2 k o hk e he' hb
  omega
 have hdep:=S01 b3
 have hgd:=U01 b4
 have hal:=M0a b5
 have hBB:∀(k:Nat) (o:Oper),ops.toList[k]?=some o->∀ e∈o.after,Region.binds .any e=true->e.on<k:=λk o hk e he' hb=>by
  have:=y9 b6 k o hk e he' hb
  omega
 obtain⟨sq1,sq2⟩:=G08 b7
 unfold evT at he
 rw[hpre]at he
 obtain⟨A,Lf,Bf,_,_,hP,hall,hfin⟩:=i07 (ops:=Y3 pre) hD (Y3 pre) 0 [] [] (λ_=>([],true,.pu .dead)) (λj=>by simp) (by simp)
  ⟨λt x h=>(by cases h),λi oi d hi=>by omega,λi hi=>by omega,λx hx=>(by cases hx)⟩ he
 have hpl:pre.length=min m ops.size:=by rw[←hpre];simp
 have hpg:∀ j,j<m->ops.toList[j]?=pre[j]?:=λj hj=>by rw[←hpre,List.getElem?_take,if_pos hj]
 have hdg:∀ j,(ops.toList.drop m)[j]?=ops.toList[m+j]?:=λj=>List.getElem?_drop
 have hsr:∀(i:Nat) (oi:Oper) (d:Nat),(Y3 pre)[i]?=some oi->oi.dst=some d->skA pre i=true->∀ o'∈Y3 pre,Operand.tmp d ∉ o'.op.operands:=λi oi d q1 q2 q3 o' ho' hc=>by
  rw[I5]at q1
  unfold skA at q3
  cases e:pre[i]? with
  |none=>rw[e]at q1;cases q1
  |some o0 =>
   rw[e]at q1 q3
   cases q1
   obtain⟨t,d1,z,k1,k2,k3,k4,k5⟩:=hal o0 (List.mem_of_getElem? e) q3
   rw[H5,k3]at q2;cases q2
   obtain⟨j,hj⟩:=List.getElem?_of_mem ho'
   rw[I5]at hj
   cases e2:pre[j]? with
   |none=>rw[e2]at hj;cases hj
   |some o1 =>
    rw[e2]at hj;cases hj
    exact k5 o1 (List.mem_of_getElem? e2) (Q0a hc)
 have hsb:∀ i,skA pre i=true->(A i).2.2 = .pu (.val undef):=λi q3=>by
  unfold skA at q3
  cases e:pre[i]? with
  |none=>rw[e]at q3;cases q3
  |some o0 =>
   rw[e]at q3
   obtain⟨t,d1,z,k1,k2,k3,k4,k5⟩:=hal o0 (List.mem_of_getElem? e) q3
   obtain⟨Lj,bj,_,_,_,_,_,hu⟩:=hall i (R6 o0) (Nat.zero_le _) (by rw[I5,e];rfl)
   refine hu _ ?_
   unfold R6
   rw[k1]
   rfl
 let Rest:Nat->Act->World->Prop:=λk a w=>∃ st' h' be oe H,doT (L9 P) (ops.toList.drop k) st' h' K/\Sim P h0 w0 be oe H st' h' a w
 let ml:=t08 ops.toList m [m]
 let Dl:Array Bool->Nat->Prop:=λlisted u=>∃(i:Nat) (o:Oper),pre[i]?=some o/\listed.getD i false=false/\o.dst=some u
 let Lat:Array Bool->Act->Act->Prop:=λlisted as a=>∀(i:Nat) (o:Oper) (t:List Nat) (d:Nat),pre[i]?=some o->listed.getD i false=false->w03 o=some t->o.dst=some d->S8 o a.eval=some (as.tmps.getD d undef)
 let Inv:Array Bool->Act->World->Prop:=λlisted a w=>(∀(j:Nat) (o:Oper),ops[j]?=some o->listed.getD j false=true->∀ e∈o.after,Region.binds .any e=true->listed.getD e.on false=true) /\
  (((∀ k,m<=k->listed.getD k false=false)/\z05 P h0 w0 pre st h A listed a w)∨∃ k as,m<k/\k<=ops.size/\(∀ i,i<k->listed.getD i false=true∨(i<m/\i ∉ ml))/\(∀ i,k<=i->listed.getD i false=false)/\Rest k as w/\m07 as a (Dl listed)/\Lat listed as a)
 have lateOf:m<ops.size->∀(i:Nat) (o:Oper),pre[i]?=some o->i ∉ ml->∃ t d,w03 o=some t/\o.dst=some d/\x03 d (ops.toList.drop m)=false/\(∀ x∈t,x03 x (ops.toList.drop m)=false/\p00 ml x pre 0=true)/\o01 i d (ops.toList.drop m)=true:=λhm i o hi hml=>by
  rcases b8 with h|h
  ·exfalso
   have:ops.toList.drop m = []:=by
    cases e:ops.toList.drop m with
    |nil=>rfl
    |cons x r=>rw[e]at h;cases h
   have:=List.drop_eq_nil_iff.1 this
   simp at this;omega
  ·have:=C04 h.1 i o hi
   rw[Nat.zero_add]at this
   rcases this with h1|h1
   ·exact absurd (A05.1 h1) hml
   ·exact Y0b h1
 have noselT:m<ops.size->r0a (ops.toList.drop m)=true:=λhm=>by
  rcases b8 with h|h
  ·exfalso
   have:ops.toList.drop m = []:=by
    cases e:ops.toList.drop m with
    |nil=>rfl
    |cons x r=>rw[e]at h;cases h
   have:=List.drop_eq_nil_iff.1 this
   simp at this;omega
  ·exact h.2
 have preD:∀(i j:Nat) (oi oj:Oper) (d:Nat),pre[i]?=some oi->pre[j]?=some oj->oi.dst=some d->oj.dst=some d->i=j:=λi j oi oj d h1 h2 h3 h4 =>
  hD i j (R6 oi) (R6 oj) d (by rw[I5,h1];rfl) (by rw[I5,h2];rfl) (by rw[H5];exact h3) (by rw[H5];exact h4)
 have preN:∀(i:Nat) (o:Oper) (d:Nat),pre[i]?=some o->o.dst=some d->d<st.n:=λi o d h1 h2 =>
  hn (R6 o) (List.mem_of_getElem? (i:=i) (by rw[I5,h1];rfl)) d (by rw[H5];exact h2)
 have unl:∀ {listed:Array Bool} {j:Nat},listed.getD j true=false->listed.getD j false=false/\j<listed.size:=λ{listed j} hj=>by
  rcases Nat.lt_or_ge j listed.size with h|h
  ·simp[h]at hj ⊢;exact hj
  ·simp[Array.getElem?_eq_none h]at hj
 have allpre:∀ {listed:Array Bool} {a:Act} {w:World},(∀ j,j<pre.length->listed.getD j false=true)->z05 P h0 w0 pre st h A listed a w->Rest m a w:=λ{listed a w} hl hi =>
  K0g (K:=λst h=>doT (L9 P) (ops.toList.drop m) st h K) hD hn hsb hal hP hfin hl hi
 have tail:∀ {Q:Exit->Act->World->Prop} {k:Nat} {o:Oper} {a:Act} {w:World},ops[k]?=some o->Rest k a w->o.wp P a w (Rest (k+1)) Q:=λ{Q k o a w} ho hr=>by
  obtain⟨st',h',be,oe,H,hd,s'⟩:=hr
  have hk:k<ops.toList.length:=by simpa using (Array.getElem?_eq_some_iff.1 ho).1
  have e:ops.toList.drop k=o::ops.toList.drop (k+1):=by
   rw[List.drop_eq_getElem_cons hk]
   congr 1
   have:ops.toList[k]?=some o:=by simpa using ho
   rw[List.getElem?_eq_getElem hk]at this
   exact oJ this
  rw[e]at hd
  exact R0a s' hd
 have virt:m<ops.size->∀ {listed:Array Bool} {a:Act} {w:World},listed.size=ops.size->(∀ i,i<m->i∈ml->listed.getD i false=true)->z05 P h0 w0 pre st h A listed a w ->
   ∀ k,k<=pre.length->∃ l2 as,l2.size=ops.size/\(∀ i,i<k->l2.getD i false=true)/\(∀ i,k<=i->l2.getD i false=listed.getD i false)/\z05 P h0 w0 pre st h A l2 as w /\
    m07 as a (λu=>∃(i:Nat) (o:Oper),i<k/\pre[i]?=some o/\listed.getD i false=false/\o.dst=some u) /\
    ∀(i:Nat) (o:Oper) (t:List Nat) (d:Nat),i<k->pre[i]?=some o->listed.getD i false=false->w03 o=some t->o.dst=some d->S8 o a.eval=some (as.tmps.getD d undef):=by
  intro hmN listed a w hsz hml hA k
  induction k with
  |zero=>exact λ_=>⟨listed,a,hsz,λi hi=>by omega,λi _=>rfl,hA,⟨rfl,rfl,λ_ _=>rfl⟩,λi o t d hi=>by omega⟩
  |succ k ih =>
   intro hk
   obtain⟨l2,as,z1,z2,z3,z4,z5,z6⟩:=ih (by omega)
   cases hlk:listed.getD k false with
   |true =>
    refine⟨l2,as,z1,λi hi=>?_,λi hi=>z3 i (by omega),z4,⟨z5.1,z5.2.1,λu hu=>z5.2.2 u λ⟨i,o,q1,q2⟩=>hu ⟨i,o,by omega,q2⟩⟩,λi o t d hi q1 q2 q3 q4=>?_⟩
    ·by_cases e:i=k
     ·subst e;rw[z3 i (Nat.le_refl _)];exact hlk
     ·exact z2 i (by omega)
    ·have:i≠k:=λe=>by subst e;rw[hlk]at q2;cases q2
     exact z6 i o t d (by omega) q1 q2 q3 q4
   |false =>
    obtain⟨o,ho⟩:∃ o,pre[k]?=some o:=⟨pre[k],List.getElem?_eq_getElem (by omega)⟩
    have hkm:k<m:=by omega
    have hkml:k ∉ ml:=λh=>by rw[hml k hkm h]at hlk;cases hlk
    obtain⟨t,d,y1,y2,y3,y5,y6⟩:=lateOf hmN k o ho hkml
    have hg:=(Q9 y1).1
    have hl2k:l2.getD k false=false:=by rw[z3 k (Nat.le_refl _)];exact hlk
    have hks:k<l2.size:=by rw[z1];omega
    have hun2:l2.getD k true=false:=by
     simp[hks]at hl2k ⊢;exact hl2k
    have hoL:ops.toList[k]?=some o:=by rw[hpg k hkm];exact ho
    have st1:=(p0h (Q:=λ_ _ _=>False) hD hn hB hdep hgd hP (λj o ho=>hall j o (Nat.zero_le _) ho) hsr hsb hal hun2 ho (λe he1 he2=>z2 e.on (hBB k o hoL e he1 he2)) z4).1 (by unfold Region.wanted;rw[hg])
    obtain⟨v,v1,v2⟩:=L0g y1 st1
    have hasz:as.tmps.size=st.n:=by
     obtain⟨_,_,_,_,_,_,iu,_,_⟩:=z4
     obtain⟨_,_,_,_,_,s,_⟩:=iu
     exact s.siz
    have htne:∀ x∈t,¬ ∃(i:Nat) (o:Oper),i<k/\pre[i]?=some o/\listed.getD i false=false/\o.dst=some x:=λx hx ⟨i,o',q1,q2,q3,q4⟩=>by
     have:=h01 (y5 x hx).2 i o' q2 q4
     rw[Nat.zero_add]at this
     rw[hml i (by omega) this]at q3;cases q3
    rw[K02 y1 λx hx=>z5.2.2 x (htne x hx)]at v1
    rw[y2]at v2
    refine⟨l2.setIfInBounds k true,as.put (some d) v,by simpa using z1,λi hi=>?_,λi hi=>?_,v2,⟨by simp[Act.put,z5.1],z5.2.1,λu hu=>?_⟩,λi o' t' d' hi q1 q2 q3 q4=>?_⟩
    ·by_cases e:k=i
     ·subst e;simp[hks]
     ·rw[getD_set_ne false e];exact z2 i (by omega)
    ·rw[getD_set_ne false (by omega)];exact z3 i (by omega)
    ·rw[R9,if_neg λe=>hu ⟨k,o,by omega,ho,hlk,by rw[y2,e.1]⟩]
     exact z5.2.2 u λ⟨i,o',q1,q2⟩=>hu ⟨i,o',by omega,q2⟩
    ·rw[R9]
     by_cases e:i=k
     ·subst e
      rw[ho]at q1;cases q1
      rw[y1]at q3;cases q3
      rw[y2]at q4;cases q4
      rw[if_pos ⟨rfl,by rw[hasz];exact preN i o d ho y2⟩]
      exact v1
     ·rw[if_neg λh=>e (preD i k o' o d' q1 ho q4 (by rw[y2,h.1]))]
      exact z6 i o' t' d' (by omega) q1 q2 q3 q4
 refine u0i (Inv:=Inv) hBB (λlisted a w j o hsz hun ho hrd hi=>?_) (λlisted a w hl hi=>?_) ops.size _ a w (by simp) (by simp[List.count_replicate]) ⟨λj o _ h=>?_,.inl ⟨λk _=>?_,z05.start s⟩⟩
 rotate_left 2
 ·simp[Array.getElem?_replicate]at h
  split at h<;>cases h
 ·simp[Array.getElem?_replicate]
  split<;>simp
 rotate_left 1
 ·rcases hi.2 with⟨hm,hA⟩|⟨k,as,k1,k2,k3,k4,hr,lk,lt⟩
  ·have hms:ops.size<=m:=by
    rcases Nat.lt_or_ge m ops.size with h|h
    ·have:=hm m (Nat.le_refl _)
     rw[hl m h]at this;cases this
    ·exact h
   obtain⟨st',h',be,oe,H,hd,s'⟩:=allpre (λj hj=>hl j (by omega)) hA
   rw[List.drop_eq_nil_of_le (by simpa using hms)]at hd
   exact hQ a w st' h' be oe H hd s'
  ·have hk:k=ops.size:=by
    rcases Nat.lt_or_ge k ops.size with h|h
    ·have:=k4 k (Nat.le_refl _)
     rw[hl k h]at this;cases this
    ·omega
   subst hk
   obtain⟨st',h',be,oe,H,hd,s'⟩:=hr
   rw[List.drop_eq_nil_of_le (by simp)]at hd
   refine hQ a w st' h' be oe H hd (s'.like lk λu ⟨i,o,q1,q2,q3⟩=>?_)
   have:=(List.getElem?_eq_some_iff.1 q1).1
   rw[hl i (by omega)]at q2;cases q2
 ·obtain⟨hcl,hi⟩:=hi
  obtain⟨hjf,hjs⟩:=unl hun
  have hcl':∀(i:Nat) (oi:Oper),ops[i]?=some oi->(listed.setIfInBounds j true).getD i false=true->∀ e∈oi.after,Region.binds .any e=true->(listed.setIfInBounds j true).getD e.on false=true:=λi oi h1 h2 e he1 he2=>by
   by_cases hij:j=i
   ·subst hij
    rw[ho]at h1;cases h1
    exact getD_set_true (hrd e he1 he2)
   ·rw[getD_set_ne false hij]at h2
    exact getD_set_true (hcl i oi h1 h2 e he1 he2)
  have hoL:ops.toList[j]?=some o:=by simpa using ho
  have hjlt:j<ops.size:=(Array.getElem?_eq_some_iff.1 ho).1
  by_cases hjm:j<m
  ·rcases hi with⟨hm,hA⟩|⟨k,as,k1,k2,k3,k4,hr,lk,lt⟩
   ·have hop:pre[j]?=some o:=by rw[←hpg j hjm];exact hoL
    have st1:=p0h (Q:=Q) hD hn hB hdep hgd hP (λj o ho=>hall j o (Nat.zero_le _) ho) hsr hsb hal hun hop hrd hA
    have hyd:Region.wanted o (yielded ops a.tmps)=Region.wanted o (yielded (Y3 pre).toArray a.tmps):=by
     unfold Region.wanted
     cases hg:o.guard with
     |none=>rfl
     |some p =>
      obtain⟨i,wv⟩:=p
      obtain⟨e,he1,he2,he3⟩:=L5 (hgd (R6 o) (List.mem_of_getElem? (i:=j) (by rw[I5,hop];rfl)) i wv (by rw[P0a];exact hg))
      rw[O0a]at he1
      have hlt:=hBB j o hoL e he1 he2
      rw[he3]at hlt
      have hig:=hpg i (by omega)
      have:yielded ops a.tmps i=yielded (Y3 pre).toArray a.tmps i:=by
       unfold yielded
       have e1:ops[i]?=pre[i]?:=by rw[←hig];simp
       have e2:(Y3 pre).toArray[i]?=(pre[i]?).map R6:=by simp[I5]
       rw[e1,e2]
       cases pre[i]? with
       |none=>rfl
       |some o0=>simp[H5]
      simp only[this]
    rw[hyd]
    have up:∀ a' w',z05 P h0 w0 pre st h A (listed.setIfInBounds j true) a' w'->Inv (listed.setIfInBounds j true) a' w':=λa' w' hx=>⟨hcl',.inl ⟨λk hk=>by rw[getD_set_ne false (by omega)];exact hm k hk,hx⟩⟩
    exact⟨λhw=>Oper.wp_mono up (st1.1 hw),λhw=>up _ _ (st1.2 hw)⟩
   ·have hop:pre[j]?=some o:=by rw[←hpg j hjm];exact hoL
    have hjml:j ∉ ml:=by
     rcases k3 j (by omega)with h|h
     ·rw[hjf]at h;cases h
     ·exact h.2
    obtain⟨t,d,y1,y2,y3,y5,y6⟩:=lateOf (by omega) j o hop hjml
    have hg:=(Q9 y1).1
    refine⟨λ_=>?_,λhw=>by unfold Region.wanted at hw;rw[hg]at hw;cases hw⟩
    unfold Oper.wp
    rw[l07 y1 (lt j o t d hop hjf y1 y2) w]
    refine⟨hcl',.inr ⟨k,as,k1,k2,λi hi=>?_,λi hi=>?_,hr,⟨by rw[y2];simp[Act.put,lk.1],by rw[y2];exact lk.2.1,λu hu=>?_⟩,λi o' t' d' q1 q2 q3 q4=>?_⟩⟩
    ·rcases k3 i hi with h|h
     ·exact .inl (getD_set_true h)
     ·exact .inr h
    ·rw[getD_set_ne false (by omega)];exact k4 i hi
    ·rw[y2,R9]
     by_cases e:d=u
     ·subst e
      by_cases hlt:d<a.tmps.size
      ·rw[if_pos ⟨rfl,hlt⟩]
      ·rw[if_neg λh=>hlt h.2]
       have e1:∀(x:Act),¬ d<x.tmps.size->x.tmps.getD d undef=undef:=λx hx=>by
        simp[Array.getElem?_eq_none (Nat.le_of_not_lt hx)]
       rw[e1 a hlt,e1 as (by rw[lk.1];exact hlt)]
     ·rw[if_neg λh=>e h.1]
      refine lk.2.2 u λ⟨i,o',q1,q2,q3⟩=>?_
      by_cases e2:j=i
      ·subst e2
       rw[hop]at q1;cases q1
       rw[y2]at q3;cases q3
       exact e rfl
      ·exact hu ⟨i,o',q1,by rw[getD_set_ne false e2];exact q2,q3⟩
    ·have e2:j≠i:=λe2=>by subst e2;simp[hjs]at q2
     rw[getD_set_ne false e2]at q2
     have hi':=(List.getElem?_eq_some_iff.1 q1).1
     have himl:i ∉ ml:=by
      rcases k3 i (by omega)with h|h
      ·rw[q2]at h;cases h
      ·exact h.2
     obtain⟨t2,d2,x1,x2,x3,x5,x6⟩:=lateOf (by omega) i o' q1 himl
     rw[q3]at x1;cases x1
     rw[←lt i o' t' d' q1 q2 q3 q4]
     refine K02 q3 λx hx=>?_
     rw[y2,R9,if_neg λh=>?_]
     have:=h01 (x5 x hx).2 j o hop (by rw[y2,h.1])
     rw[Nat.zero_add]at this
     exact hjml this
  ·have hg:o.guard=none:=sq1 o (List.mem_of_getElem? (i:=j-m) (by rw[hdg];rw[show m+(j-m)=j by omega];exact hoL))
   have prev:m<j->listed.getD (j-1) false=true:=λhlt=>by
    have:=sq2 (j-m-1) o (by rw[hdg];rw[show m+(j-m-1+1)=j by omega];exact hoL)
    obtain⟨e,he1,he2,he3⟩:=L5 this
    have:=hrd e he1 he2
    rw[he3,show m+(j-m-1)=j-1 by omega]at this
    exact this
   refine⟨λ_=>?_,λhw=>by unfold Region.wanted at hw;rw[hg]at hw;cases hw⟩
   have hmt:o∈ops.toList.drop m:=List.mem_of_getElem? (i:=j-m) (by rw[hdg,show m+(j-m)=j by omega];exact hoL)
   have go:∀ as,(∀ i,i<j->listed.getD i false=true∨(i<m/\i ∉ ml))->(∀ i,j<=i->listed.getD i false=false)->Rest j as w->m07 as a (Dl listed)->Lat listed as a->o.wp P a w (Inv (listed.setIfInBounds j true)) Q:=λas q1 q2 hr lk lt=>by
    have hjD:∀ u,Dl (listed.setIfInBounds j true) u↔Dl listed u:=λu=>by
     constructor
     ·rintro⟨i,o',p1,p2,p3⟩
      have:=(List.getElem?_eq_some_iff.1 p1).1
      rw[getD_set_ne false (by omega)]at p2
      exact⟨i,o',p1,p2,p3⟩
     ·rintro⟨i,o',p1,p2,p3⟩
      have:=(List.getElem?_eq_some_iff.1 p1).1
      exact⟨i,o',p1,by rw[getD_set_ne false (by omega)];exact p2,p3⟩
    have lateU:∀(i:Nat) (o':Oper),pre[i]?=some o'->listed.getD i false=false->i ∉ ml:=λi o' p1 p2=>by
     have:=(List.getElem?_eq_some_iff.1 p1).1
     rcases q1 i (by omega)with h|h
     ·rw[p2]at h;cases h
     ·exact h.2
    refine Oper.wp_mono (λa' w' hx=>?_) (M0g (Q:=Q) lk (k07 (noselT (by omega)) o hmt) (λu hu ⟨i,o',p1,p2,p3⟩=>?_) (tail (Q:=λ_ _ _=>False) ho hr))
    ·obtain⟨as',hr',lk',⟨v1,hv1⟩,v2,hv2⟩:=hx
     have e1:∀ u,o.dst≠some u->as'.tmps.getD u undef=as.tmps.getD u undef:=λu hu=>by
      cases hd:o.dst with
      |none =>
       rw[hd]at hv1
       rcases hv1 with h|⟨x,h⟩<;>rw[h]<;>rfl
      |some d =>
       rw[hd]at hv1 hu
       rcases hv1 with h|⟨x,h⟩<;>rw[h,R9,if_neg λh=>hu (by rw[h.1])]
     have e2:∀ u,o.dst≠some u->a'.tmps.getD u undef=a.tmps.getD u undef:=λu hu=>by
      cases hd:o.dst with
      |none =>
       rw[hd]at hv2
       rcases hv2 with h|⟨x,h⟩<;>rw[h]<;>rfl
      |some d =>
       rw[hd]at hv2 hu
       rcases hv2 with h|⟨x,h⟩<;>rw[h,R9,if_neg λh=>hu (by rw[h.1])]
     refine⟨hcl',.inr ⟨j+1,as',by omega,by omega,λi hi=>?_,λi hi=>?_,hr',⟨lk'.1,lk'.2.1,λu hu=>lk'.2.2 u λh=>hu ((hjD u).2 h)⟩,λi o' t d p1 p2 p3 p4=>?_⟩⟩
     ·by_cases e:j=i
      ·subst e;left;simp[hjs]
      ·rw[getD_set_ne false e];exact q1 i (by omega)
     ·rw[getD_set_ne false (by omega)];exact q2 i (by omega)
     ·have hi':=(List.getElem?_eq_some_iff.1 p1).1
      rw[getD_set_ne false (by omega)]at p2
      obtain⟨t2,d2,x1,x2,x3,x5,x6⟩:=lateOf (by omega) i o' p1 (lateU i o' p1 p2)
      rw[p3]at x1;cases x1
      rw[p4]at x2;cases x2
      rw[e1 d (T03 x3 o hmt),K02 p3 λx hx=>e2 x (T03 (x5 x hx).1 o hmt)]
      exact lt i o' t d p1 p2 p3 p4
    ·obtain⟨t2,d2,x1,x2,x3,x5,x6⟩:=lateOf (by omega) i o' p1 (lateU i o' p1 p2)
     rw[p3]at x2;cases x2
     obtain⟨e,he1,he2,he3⟩:=L5 (E03 x6 o hmt hu)
     have:=hrd e he1 he2
     rw[he3,p2]at this;cases this
   rcases hi with⟨hm,hA⟩|⟨k,as,k1,k2,k3,k4,hr,lk,lt⟩
   ·have hjm':j=m:=by
     rcases Nat.lt_or_ge m j with h|h
     ·have:=prev h
      rw[hm (j-1) (by omega)]at this;cases this
     ·omega
    subst hjm'
    have hml:∀ i,i<j->i∈ml->listed.getD i false=true:=λi hi hmi=>by
     have:=S03 (G:=λi=>i=j∨listed.getD i false=true) (ops:=ops.toList) (λi' j' o' hG ho' he'=>?_) j [j] (λx hx => .inl (by simpa using hx)) i hmi
     ·rcases this with h|h
      ·omega
      ·exact h
     ·obtain⟨e,he1,he2,he3⟩:=L5 he'
      rw[←he3]
      right
      rcases hG with rfl|hG
      ·rw[hoL]at ho';cases ho'
       exact hrd e he1 he2
      ·exact hcl j' o' (by simpa using ho') hG e he1 he2
    obtain⟨l2,as,z1,z2,z3,z4,z5,z6⟩:=virt hjlt (by assumption) hml hA pre.length (Nat.le_refl _)
    refine go as (λi hi=>?_) hm (allpre (λi hi=>z2 i hi) z4) ⟨z5.1,z5.2.1,λu hu=>z5.2.2 u λ⟨i,o',p1,p2⟩=>hu ⟨i,o',p2⟩⟩ (λi o' t d p1 p2 p3 p4=>z6 i o' t d (List.getElem?_eq_some_iff.1 p1).1 p1 p2 p3 p4)
    by_cases h:i∈ml
    ·exact .inl (hml i hi h)
    ·exact .inr ⟨hi,h⟩
   ·have hjk:j=k:=by
     have h1:k<=j:=by
      rcases Nat.lt_or_ge j k with h|h
      ·rcases k3 j h with h2|h2
       ·rw[hjf]at h2;cases h2
       ·omega
      ·exact h
     rcases Nat.lt_or_ge k j with h|h
     ·have:=prev (by omega)
      rw[k4 (j-1) (by omega)]at this;cases this
     ·omega
    subst hjk
    exact go as k3 k4 hr lk lt
end
end Go.H
namespace Go.H
set_option linter.unusedVariables false
set_option linter.unusedSimpArgs false
section
variable {P:Program} {h0:Hp} {w0:World} {Q:Exit->Act->World->Prop} {ops:Array Oper} {K:RS->Prop}
theorem S0a{be:Nat->Nat}{oe:Nat->Value}{H:Hp}{rs:RS}{a:Act}{w:World}{o:Oper}{i:Nat}{k:RS->Prop}(j:Sim P h0 w0 be oe H rs.st rs.h a w)(r:F02 ops be oe rs a i)(m:ops[i]?=some o)
  {ch:List (Nat×Bool)} {c:Bool} (q:K6 rs.bs o.guard=some ch) (d:cB rs.bs ch=some c) (s:evG P o ch c rs λav=>N06 o.dst i ch av rs k) :
  ∃ v b,k b/\F02 ops be oe b (a.put o.dst v) (i+1)/\Sim P h0 w0 be oe H b.st b.h (a.put o.dst v) w/\Region.wanted o (yielded ops a.tmps)=c /\
   (c=true->∀ p,CW H w p->o.quietAt P a (CW H w) p v)/\(c=false->v=undef):=by
 obtain⟨av,l,u⟩:=b0e j r d s
 have n:=a0e r q d
 cases c with
 |true =>
  obtain⟨v,t,x⟩:=u rfl
  obtain⟨b,e,_,f,g⟩:=v00 j r m d (λ_=>t) (λh=>by cases h) l
  exact⟨v,b,e,f,g,n,λ_=>x,λh=>by cases h⟩
 |false =>
  obtain⟨b,e,_,f,g⟩:=v00 (v:=undef) j r m d (λh=>by cases h) (λ_=>rfl) l
  exact⟨undef,b,e,f,g,n,(λh=>nomatch h),λ_=>rfl⟩
theorem V00(f:∀ rs a w be oe H,K rs->Sim P h0 w0 be oe H rs.st rs.h a w->Q .normal a w):∀(l:List Oper) (i:Nat) (rs:RS) (a:Act) (w:World) (be:Nat->Nat) (oe:Nat->Value) (H:Hp),
  (∀ j,l[j]?=ops[i+j]?)->Sim P h0 w0 be oe H rs.st rs.h a w->F02 ops be oe rs a i->Y05 P l i rs K->wpList P ops Q l a w
 | [],i,rs,a,w,be,oe,H,_,d,_,b=>f rs a w be oe H b d
 |o::l,i,rs,a,w,be,oe,H,A,d,r,b=>by
  have B:ops[i]?=some o:=by simpa using (A 0).symm
  have u:∀ j,l[j]?=ops[i+1+j]?:=λj=>by have:=A (j+1);simpa [Nat.add_assoc,Nat.add_comm 1 j] using this
  have F:∀ ch c,K6 rs.bs o.guard=some ch->cB rs.bs ch=some c->(evG P o ch c rs λav=>N06 o.dst i ch av rs λrs=>Y05 P l (i+1) rs K)->wpList P ops Q (o::l) a w:=by
   intro ch c t s b
   obtain⟨v,p,k,D,n,y,M,x⟩:=S0a d r B t s b
   unfold wpList
   rw[y]
   cases c with
   |false =>
    rw[if_neg (by simp),←x rfl]
    exact V00 f l (i+1) p _ w be oe H u n D k
   |true =>
    rw[if_pos rfl]
    refine .inl (Oper.wp_of_quiet (C:=CW H w) (K:=λq=>q=a.put o.dst v) (L1.refl d.mv.vis) (λq z m e=>?_) ⟨v,M rfl,rfl⟩)
    subst e
    exact V00 f l (i+1) p _ z be oe H u (n.still (hf:=H) (λ_ _ h=>h) m) D k
  simp only[Y05]at b
  split at b
  ·rename_i J R
   have y:Region.wanted o (yielded ops a.tmps)=true:=by unfold Region.wanted;rw[J]
   unfold wpList
   rw[if_pos y]
   refine .inl (Oper.wp_mono (λq z x=>?_) (F7 (Q:=Q) d b))
   obtain⟨av,st',I,v,be',oe',E,L,rfl,O,g,G⟩:=x
   obtain⟨p,k,_,n,N⟩:=v00 (rs := { rs with st:=st',h:=I }) (ch:=[]) (c:=true) (v:=v) O (r.grow G) B rfl (λ_=>g) (λh=>by cases h) L
   exact V00 f l (i+1) p _ z be' oe' E u N n k
  ·split at b
   ·rename_i ch t
    split at b
    ·rename_i c s
     exact F ch c t s b
    ·exact b.elim
   ·exact b.elim
theorem H08{be:Nat->Nat}{oe:Nat->Value}{H:Hp}{w:World}(f:∀ rs a w be oe H,K rs->Sim P h0 w0 be oe H rs.st rs.h a w->Q .normal a w):∀(l:List Oper) (i:Nat) (rs:RS) (a:Act),
  (∀ j,l[j]?=ops[i+j]?)->Sim P h0 w0 be oe H rs.st rs.h a w->F02 ops be oe rs a i->evQ P l i rs K->wpQuiet P ops (CW H w) (λn=>∀ d,CW H w d->Q .normal n d) l a
 | [],i,rs,a,_,e,_,b=>λd m=>f rs a d be oe H b (e.still (hf:=H) (λ_ _ h=>h) m)
 |o::l,i,rs,a,g,e,r,b=>by
  have u:ops[i]?=some o:=by simpa using (g 0).symm
  have s:∀ j,l[j]?=ops[i+1+j]?:=λj=>by have:=g (j+1);simpa [Nat.add_assoc,Nat.add_comm 1 j] using this
  simp only[evQ]at b
  split at b
  ·rename_i ch q
   split at b
   ·rename_i c p
    obtain⟨v,C,z,A,B,y,x,t⟩:=S0a e r u q p b
    have k:=H08 f l (i+1) C _ s B A z
    unfold wpQuiet
    rw[y]
    cases c with
    |false=>rw[if_neg (by simp),←t rfl];exact k
    |true=>rw[if_pos rfl];exact⟨v,x rfl,k⟩
   ·exact b.elim
  ·exact b.elim
theorem F02.init{be:Nat->Nat}{oe:Nat->Value}{st:St}{h:Hp}{a:Act}:F02 ops be oe ⟨st,h,[],[]⟩ a 0 :=
 ⟨(λx b=>nomatch b),(λx b=>nomatch b),(λd ch av c=>nomatch c)⟩
def F09(P:Program)(h0:Hp)(w0:World)(Q:Ex->St->Hp->Prop):Exit->Act->World->Prop
 | .normal,a,w=>∃ st h be oe H,Q .normal st h/\Sim P h0 w0 be oe H st h a w
 | .exit i,a,w=>∃ st h be oe H,Q (.exit i) st h/\Sim P h0 w0 be oe H st h a w
 | .ret,a,w=>∃ st h be oe H,Q .ret st h/\Sim P h0 w0 be oe H st h a w
 |_,_,_=>False
variable {be:Nat->Nat} {oe:Nat->Value} {H:Hp} {st:St} {h:Hp} {a:Act} {w:World}
theorem G09{Q:Ex->St->Hp->Prop}{id:Nat}{d:Bool}(b:Sim P h0 w0 be oe H st h a w)(f:ev P (.region id ops d) Q st h):(Code.region id ops d).wp P (F09 P h0 w0 Q) a w:=by
 cases d with
 |false =>
  simp only[ev]at f
  split at f
  ·exact wp_region_list ((L0a (h0:=h0) (w0:=w0) f.1 f.2 λa w st h be oe H l b=>⟨st,h,be,oe,H,l,b⟩).2 b)
  ·exact wp_region_list (V00 (K:=λrs=>Q .normal rs.st rs.h) (λrs a w be oe H l b=>⟨rs.st,rs.h,be,oe,H,l,b⟩) _ 0 ⟨st,h,[],[]⟩ a w be oe H (λj=>by simp) b F02.init f)
 |true =>
  rcases f with⟨⟨p,n⟩,f⟩|f|f|⟨⟨p,n⟩,f⟩|⟨m,⟨p,n⟩,f⟩
  ·refine wp_region_quiet (C:=CW H w) p n (L1.drawn b.mv.vis _ (by first|exact Nat.le_succ _|exact Nat.le_add_right _ _|exact Nat.le_refl _)) ?_
   exact H08 (K:=λrs=>Q .normal rs.st rs.h) (λrs a w be oe H l b=>⟨rs.st,rs.h,be,oe,H,l,b⟩) _ 0 ⟨st,h,[],[]⟩ a (λj=>by simp) b F02.init f
  ·exact f.elim
  ·split at f
   ·obtain⟨⟨p,n⟩,f⟩:=f
    exact wp_region_any p (e0e (b.still (hf:=H) (λ_ _ h=>h) (L1.drawn b.mv.vis _ (by first|exact Nat.le_succ _|exact Nat.le_add_right _ _|exact Nat.le_refl _))) n f λa w st h be oe H l b=>⟨st,h,be,oe,H,l,b⟩)
   ·rename_i o J
    obtain⟨⟨p,n⟩,f⟩:=f
    simp only[Bool.and_eq_true]at n
    obtain⟨A,G,D⟩:=g0e J
    have s:=b.still (hf:=H) (λ_ _ h=>h) (L1.drawn b.mv.vis (w.drawn+1) (by first|exact Nat.le_succ _|exact Nat.le_add_right _ _|exact Nat.le_refl _))
    obtain⟨Inv,t,u,x,q⟩:=H0a (ops:=(C7 ops.toList).toArray) (Q:=F09 P h0 w0 Q) (R:=λa w=>o.wp P a w (λa w=>F09 P h0 w0 Q .normal a w) (F09 P h0 w0 Q)) s (by simpa using n.1) (by simpa using f) λa w st h be oe H l b=>by
     refine Oper.wp_mono (λL N I=>?_) (F7 (Q:=F09 P h0 w0 Q) b l)
     obtain⟨av,st',B,v,be',oe',z,l,rfl,s,g,M⟩:=I
     obtain⟨y,t,u,x,q⟩:=v00 (ops := #[o]) (i:=0) (rs:=⟨st',B,[],[]⟩) (ch:=[]) (c:=true) (v:=v) s F02.init (by rfl) rfl (λ_=>g) (λh=>by cases h) l
     exact⟨y.st,y.h,be',oe',z,t,q⟩
    exact wp_region_any p (s0i (ops0:=(C7 ops.toList).toArray) (o:=o) (Inv:=Inv) (by simpa using A) (λk o l e F E=>by
     have:=y9 n.2 k o l e F E
     omega) G (λk l=>g01 D k (by simpa using l) (by simp at l;omega)) u x q)
  ·exact wp_region_any p ((L0a (h0:=h0) (w0:=w0) n f λa w st h be oe H l b=>⟨st,h,be,oe,H,l,b⟩).1 (b.still (hf:=H) (λ_ _ h=>h) (L1.drawn b.mv.vis _ (by first|exact Nat.le_succ _|exact Nat.le_add_right _ _|exact Nat.le_refl _))))
  ·exact wp_region_any p (i0e n f (λa w st h be oe H l b=>⟨st,h,be,oe,H,l,b⟩) (b.still (hf:=H) (λ_ _ h=>h) (L1.drawn b.mv.vis _ (by first|exact Nat.le_succ _|exact Nat.le_add_right _ _|exact Nat.le_refl _))))
end
end Go.H
namespace Go.H
set_option linter.unusedVariables false
set_option linter.unusedSimpArgs false
theorem S9(x:Nat):∀ l:List Nat,o03 x l=true↔x∈l
 | []=>by simp[o03]
 |y::r=>by
  simp only[o03]
  cases h:Nat.beq x y with
  |true=>simp[Nat.eq_of_beq_eq_true h]
  |false=>simp[S9 x r,Nat.ne_of_beq_eq_false h]
theorem V01{x:Nat}{l:List Nat}(h:o03 x l=false):x ∉ l:=λa=>by rw[(S9 x l).2 a]at h;cases h
theorem I08:∀(l:List Nat) (K:List Nat->Prop),k05 l K=K l
 | [],K=>rfl
 |x::r,K=>by simp only[k05,I08 r]
theorem D04:∀(n:Nat) {K:List Value->Prop},n04 n K->∀ vs:List Value,vs.length=n->K vs
 |0,K,h,vs,a=>by rw[List.length_eq_zero_iff.1 a];exact h
 |n+1,K,h,[],a=>by cases a
 |n+1,K,h,v::vs,a=>D04 n (h v) vs (by simpa using a)
theorem E04:∀(n:Nat) {K:List (List (List Value))->Prop},o04 n K->∀ os:List (List (List Value)),os.length=n->K os
 |0,K,h,vs,a=>by rw[List.length_eq_zero_iff.1 a];exact h
 |n+1,K,h,[],a=>by cases a
 |n+1,K,h,v::vs,a=>E04 n (h v) vs (by simpa using a)
theorem U03{c:Type}:∀(a b:List c) (K:List c->List c->Prop),B02 a.length (a++b) K=K a b
 | [],b,K=>rfl
 |x::a,b,K=>by simp only[List.length_cons,List.cons_append,B02,U03 a b]
theorem B05(e:St):∀(l:List Nat) {K:List Value->Prop},B0g l e K->∃ vs,vs.length=l.length/\K vs /\
  ∀ acc t,(A2 (l05 l vs acc) t=A2 acc t/\t ∉ l)∨(∃ v,A2 (l05 l vs acc) t = .val v/\rdA e (A2 e.fr t) = .val v)
 | [],K,h=>⟨[],rfl,h,λacc t => .inl ⟨rfl,by simp⟩⟩
 |b::r,K,h=>by
  simp only[B0g]at h
  split at h
  ·rename_i v i
   obtain⟨vs,c,d,f⟩:=B05 e r h
   refine⟨v::vs,by simp[c],d,λacc t=>?_⟩
   rcases f ((b,.val v)::acc) t with⟨a,g⟩|a
   ·by_cases e':b=t
    ·subst e'
     exact .inr ⟨v,by simp only[l05,a,E3,if_true],i⟩
    ·exact .inl ⟨by simp only[l05,a,E3,if_neg e'],by simp[g,Ne.symm e']⟩
   ·exact .inr a
  ·exact h.elim
def z00(B:Nat->Nat->Prop):List i4->Prop
 | []=>True
 | .val _::r=>z00 B r
 | .own i k::r=>B i k/\z00 B r
def ShC(e:St):List i4->List i4->Prop
 | [],[]=>True
 | .val _::r,.val _::a=>ShC e r a
 | .own i _::r,.own j c::a=>i=j/\(∃ b,rdA e (.own j c) = .own j b)/\ShC e r a
 |_,_=>False
def EqC(e:St):List i4->List i4->Prop
 | [],[]=>True
 | .val v::r,.val d::a=>v=d/\EqC e r a
 | .own i _::r,.own j c::a=>i=j/\(∃ b,rdA e (.own j c) = .own j b)/\EqC e r a
 |_,_=>False
theorem EqC.sh{e:St}:∀ {cs cs':List i4},EqC e cs cs'->ShC e cs cs'
 | [],[],_=>trivial
 | .val _::r,.val _::a,h=>EqC.sh (cs:=r) (cs':=a) h.2
 | .own i _::r,.own j b::a,h=>⟨h.1,h.2.1,EqC.sh (cs:=r) (cs':=a) h.2.2⟩
 | [],_::_,h=>h.elim
 | .val _::_,[],h=>h.elim
 | .own _ _::_,[],h=>h.elim
 | .val _::_,.own _ _::_,h=>h.elim
 | .own _ _::_,.val _::_,h=>h.elim
theorem F04{e:St}{i k a b:Nat}(h:rdA e (.own i k) = .own a b):a=i/\b=k:=by
 simp only[rdA]at h
 split at h
 ·split at h
  ·split at h
   ·cases h;exact⟨rfl,rfl⟩
   ·cases h
  ·cases h
 ·cases h
theorem W01{g e:St}:∀(cs cs':List i4),t01 g e cs cs'=true->ShC e cs cs'
 | [],[],_=>trivial
 | .val _::r,.val _::c,h=>W01 r c h
 | .own i _::r,.own j k::c,h=>by
  simp only[t01]at h
  split at h
  ·rename_i a b f d
   obtain⟨rfl,_⟩:=F04 d
   exact⟨Nat.eq_of_beq_eq_true f,⟨_,d⟩,W01 r c h⟩
  ·cases h
 | [],_::_,h=>by cases h
 | .val _::_,[],h=>by cases h
 | .own _ _::_,[],h=>by cases h
 | .val _::_,.own _ _::_,h=>by cases h
 | .own _ _::_,.val _::_,h=>by cases h
theorem C05(e:St):∀(cs cs':List i4),ShC e cs cs'->∀ {K:List Value->Prop},u0a cs' e K->∃ vs,K vs/\∃ a,(∀(f:List Value) (c:List i4->List Value->Prop),E9 cs (vs++f) c=c a f)/\EqC e a cs' /\
  (∀ B,z00 B cs->z00 B a)
 | [],[],_,K,h=>⟨[],h,[],λ_ _=>rfl,trivial,λ_ h=>h⟩
 | .val _::r,.val v::o,b,K,h=>by
  obtain⟨vs,g,a,l,m,n⟩:=C05 e r o b (K:=λvs=>K (v::vs)) h
  exact⟨v::vs,g,.val v::a,λf c=>by simp only[List.cons_append,E9,l],⟨rfl,m⟩,λB d=>n B d⟩
 | .own i k::r,.own j p::o,b,K,h=>by
  obtain⟨vs,g,a,l,m,n⟩:=C05 e r o b.2.2 (K:=K) h
  exact⟨vs,g,.own i k::a,λf c=>by simp only[E9,l],⟨b.1,b.2.1,m⟩,λB d=>⟨d.1,n B d.2⟩⟩
 | [],_::_,h,_,_=>h.elim
 | .val _::_,[],h,_,_=>h.elim
 | .own _ _::_,[],h,_,_=>h.elim
 | .val _::_,.own _ _::_,h,_,_=>h.elim
 | .own _ _::_,.val _::_,h,_,_=>h.elim
theorem D05(e:St):∀(cs:List i4) {K:List Value->Prop},u0a cs e K->∃ vs,K vs/\∀(b:List Value) (a:List i4->List Value->Prop),E9 cs (vs++b) a=a cs b
 | [],K,h=>⟨[],h,λ_ _=>rfl⟩
 | .val v::r,K,h=>by
  obtain⟨vs,c,d⟩:=D05 e r (K:=λvs=>K (v::vs)) h
  exact⟨v::vs,c,λb a=>by simp only[List.cons_append,E9,d]⟩
 | .own i k::r,K,h=>by
  obtain⟨vs,c,d⟩:=D05 e r (K:=K) h
  exact⟨vs,c,λb a=>by simp only[E9,d]⟩
theorem J08{a:Type}(l:List a)(i:Nat)(x:a)(h:nth l i=some x):W6 l i x=l:=by
 rw[q00]at h
 obtain⟨b,c⟩:=List.getElem?_eq_some_iff.1 h
 rw[q04,←c]
 exact List.set_getElem_self b
theorem T0c(e:St):∀(is:List Nat) {K:List Value->Prop},U06 is e K->∃ a,K a/\∀ b,p01 is a e.bx b=b e.bx
 | [],K,h=>⟨[],h,λ_=>rfl⟩
 |i::r,K,h=>by
  simp only[U06]at h
  split at h
  ·rename_i cs ty c
   obtain⟨vs,d,f⟩:=D05 e cs h
   obtain⟨a,g,j⟩:=T0c e r d
   refine⟨vs++a,g,λb=>?_⟩
   simp only[p01,c,f,J08 _ _ _ c,j]
  ·exact h.elim
theorem U0c(e:St):∀(is:List Nat) {K:List (List (List Value))->Prop},u08 is e K->∃ os,os.length=is.length/\K os/\∀ a,q01 is os e.ow a=a e.ow
 | [],K,h=>⟨[],rfl,h,λ_=>rfl⟩
 |i::r,K,h=>by
  simp only[u08]at h
  split at h
  ·rename_i j ty sz by_ nn xs b
   obtain⟨g,c,d,f⟩:=U0c e r h
   refine⟨xs::g,by simp[c],d,λa=>?_⟩
   simp only[q01,b,J08 _ _ _ b,f]
  ·exact h.elim
theorem V0c(e:St):∀(is:List Nat) (bx:List BSt),(∀ i∈is,∃ cs ty cs',nth bx i=some (.live cs ty)/\nth e.bx i=some (.live cs' ty)/\ShC e cs cs')->∀ {K:List Value->Prop},U06 is e K ->
  ∃ f,K f/\∃ b,(∀ g,p01 is f bx g=g b)/\b.length=bx.length/\(∀ i,i ∉ is->nth b i=nth bx i) /\
   (∀ i∈is,∃ c ty cs',nth b i=some (.live c ty)/\nth e.bx i=some (.live cs' ty)/\EqC e c cs') /\
   (∀ B,(∀ i cs ty,nth bx i=some (.live cs ty)->z00 B cs)->(∀ i cs ty,nth b i=some (.live cs ty)->z00 B cs))
 | [],bx,_,K,h=>⟨[],h,bx,λ_=>rfl,rfl,λ_ _=>rfl,by simp,λ_ h=>h⟩
 |i::r,bx,p,K,h=>by
  obtain⟨cs,ty,cs',k,l,v⟩:=p i mS
  simp only[U06,l]at h
  obtain⟨vs,x,c,y,q,z⟩:=C05 e cs cs' v h
  have d:=V7 k
  have w:∀ j∈r,∃ m t n,nth (W6 bx i (.live c ty)) j=some (.live m t)/\nth e.bx j=some (.live n t)/\ShC e m n:=λj a=>by
   rw[Q4 _ _ _ d]
   by_cases ej:j=i
   ·subst ej
    rw[if_pos rfl]
    exact⟨c,ty,cs',rfl,l,q.sh⟩
   ·rw[if_neg ej]
    exact p j (mC _ a)
  obtain⟨f,A,b,C,D,s,E,F⟩:=V0c e r _ w x
  refine⟨vs++f,A,b,λg=>by simp only[p01,k,y,C],by rw[D,M00],λj a=>?_,λj a=>?_,λB o=>F B λj u G a=>?_⟩
  ·simp only[List.mem_cons,not_or]at a
   rw[s j a.2,Q4 _ _ _ d,if_neg a.1]
  ·by_cases hr:j∈r
   ·exact E j hr
   ·rcases List.mem_cons.1 a with rfl|a
    ·refine⟨c,ty,cs',?_,l,q⟩
     rw[s j hr,Q4 _ _ _ d,if_pos rfl]
    ·exact absurd a hr
  ·rw[Q4 _ _ _ d]at a
   split at a
   ·cases a
    exact z B (o i cs ty k)
   ·exact o j u G a
theorem W0c(g:St):∀(is:List Nat) (ow:List Own),(∀ i∈is,∃ d e sz by_ nn l c a xs,nth ow i=some ⟨d,.live e sz by_ nn l⟩/\nth g.ow i=some ⟨c,.live e sz by_ a xs⟩/\(nn=true->a=true)) ->
  ∀ {K:List (List (List Value))->Prop},u08 is g K->∃ os,os.length=is.length/\K os/\∃ f,(∀ m,q01 is os ow m=m f)/\(∀ i,i ∉ is->nth f i=nth ow i) /\
   (∀ i∈is,∃ d e sz by_ nn c a xs,nth f i=some ⟨d,.live e sz by_ nn xs⟩/\nth g.ow i=some ⟨c,.live e sz by_ a xs⟩/\(nn=true->a=true)) /\
   (∀ i,(nth f i).map (·.stamp)=(nth ow i).map (·.stamp))
 | [],ow,_,K,h=>⟨[],rfl,h,ow,λ_=>rfl,λ_ _=>rfl,by simp,λ_=>rfl⟩
 |i::r,ow,t,K,h=>by
  obtain⟨d,e,sz,by_,nn,l,c,a,xs,n,o,s⟩:=t i mS
  simp only[u08,o]at h
  have k:=V7 n
  have y:∀ j∈r,∃ E q w p v l c a F,nth (W6 ow i ⟨d,.live e sz by_ nn xs⟩) j=some ⟨E,.live q w p v l⟩/\nth g.ow j=some ⟨c,.live q w p a F⟩/\(v=true->a=true):=λj b=>by
   rw[Q4 _ _ _ k]
   by_cases ej:j=i
   ·subst ej
    rw[if_pos rfl]
    exact⟨d,e,sz,by_,nn,xs,c,a,xs,rfl,o,s⟩
   ·rw[if_neg ej]
    exact t j (mC _ b)
  obtain⟨os,z,A,f,B,u,C,D⟩:=W0c g r _ y h
  refine⟨xs::os,by simp[z],A,f,λm=>by simp only[q01,n,B],λj b=>?_,λj b=>?_,λj=>?_⟩
  ·simp only[List.mem_cons,not_or]at b
   rw[u j b.2,Q4 _ _ _ k,if_neg b.1]
  ·by_cases hr:j∈r
   ·exact C j hr
   ·rcases List.mem_cons.1 b with rfl|b
    ·refine⟨d,e,sz,by_,nn,c,a,xs,?_,o,s⟩
     rw[u j hr,Q4 _ _ _ k,if_pos rfl]
    ·exact absurd b hr
  ·rw[D j,Q4 _ _ _ k]
   split
   ·rename_i x;subst x;rw[n];rfl
   ·rfl
theorem L02{A:Ann}{m e:St}:∀(i:Nat) (bx c:List BSt),m05 A m e i bx c->∀ k b,nth bx k=some b ->
  (i+k∈A.boxes/\∃ cs ty cs',b = .live cs ty/\nth c k=some (.live cs' ty)/\ShC e cs cs')∨(i+k ∉ A.boxes/\nth c k=some b/\T0b A.owns b=true)
 |i,[],_,_,k,b,a=>by cases k<;>cases a
 |i,x::r,[],h,_,_,_=>by cases h
 |i,x::r,o::f,h,k,b,a=>by
  simp only[m05]at h
  split at h
  ·rename_i d
   split at h
   ·rename_i cs ty cs' n
    split at h
    ·rename_i g j
     have:=Nat.eq_of_beq_eq_true g
     subst this
     cases k with
     |zero=>cases a;exact .inl ⟨(S9 _ _).1 d,cs,ty,cs',rfl,rfl,W01 _ _ j⟩
     |succ k=>have:=L02 (i+1) r f h k b a;rwa [show i+1+k=i+(k+1) from by omega]at this
    ·exact h.elim
   ·exact h.elim
  ·rename_i d
   split at h
   ·rename_i l
    obtain⟨rfl,h⟩:=h
    cases k with
    |zero=>cases a;exact .inr ⟨V01 d,rfl,l⟩
    |succ k=>have:=L02 (i+1) r f h k b a;rwa [show i+1+k=i+(k+1) from by omega]at this
   ·exact h.elim
theorem M02{A:Ann}:∀(i:Nat) (ow f:List Own),n05 A i ow f->∀ k b,nth ow k=some b ->
  (i+k∈A.owns/\∃ g e sz by_ nn n j d xs,b=⟨g,.live e sz by_ nn n⟩/\nth f k=some ⟨j,.live e sz by_ d xs⟩/\(nn=true->d=true)/\(i+k∈A.kept->g=j))∨(i+k ∉ A.owns/\nth f k=some b)
 |i,[],_,_,k,b,a=>by cases k<;>cases a
 |i,x::r,[],h,_,_,_=>by cases h
 |i,x::r,w::m,h,k,b,a=>by
  simp only[n05]at h
  split at h
  ·rename_i c
   split at h
   ·rename_i g e sz by_ nn n j u v t d xs
    split at h
    ·rename_i o p q s l
     have:=Nat.eq_of_beq_eq_true o
     subst this
     have:=Nat.eq_of_beq_eq_true p
     subst this
     have:=Nat.eq_of_beq_eq_true q
     subst this
     cases k with
     |zero=>cases a;exact .inl ⟨(S9 _ _).1 c,_,_,_,_,_,_,_,_,_,rfl,rfl,(λh=>by subst h;exact s),λh=>by rw[show o03 i A.kept=true from(S9 _ _).2 h]at l;exact Nat.eq_of_beq_eq_true l⟩
     |succ k=>have:=M02 (i+1) r m h k b a;rwa [show i+1+k=i+(k+1) from by omega]at this
    ·exact h.elim
   ·exact h.elim
  ·rename_i c
   obtain⟨rfl,h⟩:=h
   cases k with
   |zero=>cases a;exact .inr ⟨V01 c,rfl⟩
   |succ k=>have:=M02 (i+1) r m h k b a;rwa [show i+1+k=i+(k+1) from by omega]at this
end Go.H
namespace Go.H
set_option linter.unusedVariables false
set_option linter.unusedSimpArgs false
def G04(A:Ann)(st:St):AV->Prop
 | .val _ | .hel _ _ _ _ | .dead=>True
 | .agg cs=>K0c cs=true
 | .box i _=>i<st.bx.length
 | .own i k=>(i ∉ A.owns∨i∈A.kept)/\stamp st i=some k
 | .oel _ _ _ _ _=>False
theorem X0c{st:St}{av:AV}{i off:Nat}(h:rdA st av = .box i off):i<st.bx.length:=by
 cases av with
 |box j o =>
  simp only[rdA]at h
  split at h
  ·rename_i a;cases h;exact V7 a
  ·cases h
  ·cases h
 |own j k =>
  simp only[rdA]at h
  split at h
  ·split at h
   ·split at h<;>cases h
   ·cases h
  ·cases h
 |oel j b idx sz k =>
  simp only[rdA]at h
  split at h
  ·split at h<;>cases h
  ·cases h
 |_=>cases h
theorem E05{st:St}{av:AV}{i k:Nat}(h:rdA st av = .own i k):stamp st i=some k:=by
 obtain⟨e,sz,by_,nn,xs,a⟩:=J01 h
 simp[stamp,a]
theorem V03(A:Ann)(ds:List Nat)(st:St):∀(l:List (Nat×AV)) {K:List (Nat×AV)->Prop},r01 A ds st l K->∃ a,K a/\∀ t,t ∉ ds ->
  A2 a t = .dead∨(A2 a t=rdA st (A2 l t)/\G04 A st (A2 a t))
 | [],K,h=>⟨[],h,λt _ => .inl rfl⟩
 |(m,av)::r,K,h=>by
  have put:∀ f,(f = .dead∨(f=rdA st av/\G04 A st f))->(r01 A ds st r λl=>K ((m,f)::l))->∃ a,K a/\∀ t,t ∉ ds ->
    A2 a t = .dead∨(A2 a t=rdA st (A2 ((m,av)::r) t)/\G04 A st (A2 a t)):=by
   intro f q h
   obtain⟨a,c,d⟩:=V03 A ds st r h
   refine⟨_,c,λt g=>?_⟩
   rw[E3,E3]
   by_cases e:m=t
   ·rw[if_pos e,if_pos e];exact q
   ·rw[if_neg e,if_neg e];exact d t g
  simp only[r01]at h
  split at h
  ·rename_i j
   obtain⟨a,c,d⟩:=V03 A ds st r h
   refine⟨a,c,λt g=>?_⟩
   rw[E3,if_neg (λe=>g (by rw[←e];exact(S9 _ _).1 j))]
   exact d t g
  ·split at h
   ·rename_i i k b
    split at h
    ·exact put _ (.inl rfl) h
    ·rename_i j
     refine put _ (.inr ⟨b.symm,?_,E05 b⟩) h
     cases c:o03 i A.owns with
     |false=>exact .inl (V01 c)
     |true =>
      cases d:o03 i A.kept with
      |true=>exact .inr ((S9 _ _).1 d)
      |false=>exact absurd d (j c)
   ·exact put _ (.inl rfl) h
   ·rename_i cs b
    split at h
    ·rename_i s
     exact put _ (.inr ⟨b.symm,s⟩) h
    ·exact put _ (.inl rfl) h
   ·rename_i c d p
    refine put _ (.inr ⟨rfl,?_⟩) h
    cases b:rdA st av with
    |own i k=>exact absurd b (c i k)
    |oel i n idx sz k=>exact absurd b (d i n idx sz k)
    |agg cs=>exact absurd b (p cs)
    |box i o=>exact X0c b
    |val v=>trivial
    |hel n idx sz k=>trivial
    |dead=>trivial
def T0a(st:St)(t:Nat)(av:AV):Prop :=
 av = .dead∨(∃ i k,av = .own i k/\stamp st i=some k/\rdA st (A2 st.fr t) = .own i k)∨(∃ i o,av = .box i o/\i<st.bx.length/\rdA st (A2 st.fr t) = .box i o)
theorem W03(A:Ann)(st:St):∀(l:List Nat) (acc:List (Nat×AV)) {K:List (Nat×AV)->Prop},y03 A st l acc K->(∀ p∈acc,T0a st p.1 p.2) ->
  ∃ a,K a/\(∀ p∈a,p.1∈l∨p∈acc)/\(∀ p∈a,T0a st p.1 p.2)/\(∀ t∈l,t ∉ A.vars->∃ av,(t,av)∈a)/\(∀ p∈acc,p∈a)
 | [],acc,K,h,g=>⟨acc,h,λp b => .inr b,g,by simp,λ_ h=>h⟩
 |m::r,acc,K,h,g=>by
  have put:∀ e,T0a st m e->y03 A st r ((m,e)::acc) K->∃ a,K a/\(∀ p∈a,p.1∈m::r∨p∈acc)/\(∀ p∈a,T0a st p.1 p.2)/\(∀ t∈m::r,t ∉ A.vars->∃ av,(t,av)∈a)/\(∀ p∈acc,p∈a):=by
   intro e v h
   obtain⟨a,n,q,s,u,f⟩:=W03 A st r _ h (λp b=>by
    rcases List.mem_cons.1 b with rfl|b
    ·exact v
    ·exact g p b)
   refine⟨a,n,λp b=>?_,s,λt c j=>?_,λp b=>f p (mC _ b)⟩
   ·rcases q p b with h|h
    ·exact .inl (mC _ h)
    ·rcases List.mem_cons.1 h with rfl|h
     ·exact .inl mS
     ·exact .inr h
   ·rcases List.mem_cons.1 c with rfl|c
    ·exact⟨e,f _ mS⟩
    ·exact u t c j
  simp only[y03]at h
  split at h
  ·rename_i w
   obtain⟨a,n,q,s,u,f⟩:=W03 A st r _ h g
   refine⟨a,n,λp b=>(q p b).imp (mC _) id,s,λt c j=>?_,f⟩
   rcases List.mem_cons.1 c with rfl|c
   ·exact absurd ((S9 _ _).1 w) j
   ·exact u t c j
  ·split at h
   ·rename_i i k d
    exact put _ (.inr (.inl ⟨i,k,rfl,E05 d,d⟩)) h
   ·rename_i i o d
    exact put _ (.inr (.inr ⟨i,o,rfl,X0c d,d⟩)) h
   ·exact put _ (.inl rfl) h
theorem o07:∀(b a:List (Nat×AV)) (t:Nat),(∃ av,(t,av)∈b/\A2 (b++a) t=av)∨((∀ av,(t,av) ∉ b)/\A2 (b++a) t=A2 a t)
 | [],a,t => .inr ⟨by simp,rfl⟩
 |(g,av)::r,a,t=>by
  simp only[List.cons_append]
  rw[E3]
  by_cases e:g=t
  ·subst e
   exact .inl ⟨av,mS,if_pos rfl⟩
  ·rw[if_neg e]
   rcases o07 r a t with⟨c,d,f⟩|⟨d,f⟩
   ·exact .inl ⟨c,mC _ d,f⟩
   ·exact .inr ⟨λc h=>by
     rcases List.mem_cons.1 h with h|h
     ·cases h;exact e rfl
     ·exact d c h,f⟩
theorem p07{g e:St}:∀(f:List (Nat×AV)),b06 g e f=true->∀ t av,(t,av)∈f->(∀ i k,av = .own i k->∃ d,rdA e (A2 e.fr t) = .own i d)/\(∀ i o,av = .box i o->rdA e (A2 e.fr t) = .box i o)
 | [],_,t,av,h=>by cases h
 |(l,x)::r,a,t,av,h=>by
  have j:b06 g e r=true/\(∀ i k,x = .own i k->∃ d,rdA e (A2 e.fr l) = .own i d)/\(∀ i o,x = .box i o->rdA e (A2 e.fr l) = .box i o):=by
   simp only[b06]at a
   split at a
   ·split at a
    ·rename_i c
     split at a
     ·rename_i p
      refine⟨a,λi k b=>?_,(λi o b=>nomatch b)⟩
      cases b
      exact⟨_,by rw[c,Nat.eq_of_beq_eq_true p]⟩
     ·cases a
    ·cases a
   ·split at a
    ·rename_i c
     split at a
     ·rename_i q s
      refine⟨a,(λi k b=>nomatch b),λi o b=>?_⟩
      cases b
      rw[c,Nat.eq_of_beq_eq_true q,Nat.eq_of_beq_eq_true s]
     ·cases a
    ·cases a
   ·rename_i m n
    exact⟨a,λi k b=>absurd b (m i k),λi o b=>absurd b (n i o)⟩
  rcases List.mem_cons.1 h with h|h
  ·cases h;exact j.2
  ·exact p07 r j.1 t av h
theorem X03{fr:List (Nat×AV)}:∀(a:List (Nat×AV)),v08 fr a=V0d a->∀ t,A2 a t = .dead∨A2 fr t=A2 a t
 | [],_,t => .inl rfl
 |(b,av)::r,h,t=>by
  rw[E3]
  simp only[v08,V0d]at h
  cases hd:S0b av with
  |true =>
   rw[hd]at h
   by_cases e:b=t
   ·rw[if_pos e]
    left
    cases av<;>first|rfl|cases hd
   ·rw[if_neg e]
    exact X03 r h t
  |false =>
   rw[hd]at h
   simp only[List.cons.injEq]at h
   by_cases e:b=t
   ·subst e
    rw[if_pos rfl]
    exact .inr h.1
   ·rw[if_neg e]
    exact X03 r h.2 t
theorem F05{e l:St}{be:Nat->Nat}{oe:Nat->Value}:∀ {d cs':List i4} {vs:List Value},EqC e d cs'->z00 (λj k=>∃ c,stamp l j=some c/\k<=c) d->Y0 e oe cs' vs->Y0 l oe d vs
 | [],[],[],_,_,_=>trivial
 | .val v::r,.val s::p,x::vs,h,a,g=>⟨by rw[show x=s from g.1,h.1];rfl,F05 (be:=be) h.2 a g.2⟩
 | .own i k::r,.own j t::p,x::vs,h,a,g=>by
  obtain⟨o,⟨b,f⟩,h⟩:=h
  subst o
  obtain⟨⟨c,s1,s2⟩,a⟩:=a
  refine⟨⟨c,s1,s2,λ_=>?_⟩,F05 (be:=be) h a g.2⟩
  obtain⟨_,n⟩:=F04 f
  subst n
  obtain⟨u,m,w,q⟩:=g.1
  rw[E05 f]at m
  cases m
  exact q rfl
 | [],_::_,_,h,_,_=>h.elim
 | .val _::_,[],_,h,_,_=>h.elim
 | .own _ _::_,[],_,h,_,_=>h.elim
 | .val _::_,.own _ _::_,_,h,_,_=>h.elim
 | .own _ _::_,.val _::_,_,h,_,_=>h.elim
 |_,_::_,[],_,_,g=>g.elim
 |_,[],_::_,_,_,g=>g.elim
theorem X01{os:List Nat}{e d:St}{oe:Nat->Value}(c:∀ j,j ∉ os->∀ a,stamp d j=some a->stamp e j=some a):∀ {cs:List i4} {vs:List Value},m04 os cs=true ->
  z00 (λj k=>∃ a,stamp d j=some a/\k<=a) cs->Y0 e oe cs vs->Y0 d oe cs vs
 | [],[],_,_,_=>trivial
 | .val v::r,x::vs,h,b,g=>⟨g.1,X01 c h b g.2⟩
 | .own i k::r,x::vs,h,b,g=>by
  simp only[m04]at h
  split at h
  ·cases h
  ·rename_i m
   obtain⟨⟨a,s1,s2⟩,b⟩:=b
   refine⟨⟨a,s1,s2,λl=>?_⟩,X01 c h b g.2⟩
   obtain⟨o,f,p,n⟩:=g.1
   rw[c i (V01 m) a s1]at f
   cases f
   exact n l
 | [],_::_,_,_,g=>g.elim
 |_::_,[],_,_,g=>g.elim
section
variable {P:Program} {h0:Hp} {w0:World} {be:Nat->Nat} {oe:Nat->Value} {H:Hp} {h:Hp} {a:Act} {w:World}
theorem u0f{A:Ann}{e l:St}(d:Sim P h0 w0 be oe H e h a w)(W:e.n=l.n)
  (F:∀ i b,nth l.bx i=some b->(∃ y ty cs',b = .live y ty/\nth e.bx i=some (.live cs' ty)/\EqC e y cs')∨(nth e.bx i=some b/\T0b A.owns b=true))
  (I:∀ i o,nth l.ow i=some o->(∃ d t sz by_ nn x q xs,o=⟨d,.live t sz by_ nn xs⟩/\nth e.ow i=some ⟨x,.live t sz by_ q xs⟩/\(nn=true->q=true))/\i∈A.owns∨(nth e.ow i=some o/\i ∉ A.owns))
  (L:∀ i cs ty,nth l.bx i=some (.live cs ty)->z00 (λj k=>∃ d,stamp l j=some d/\k<=d) cs)
  (hf:∀ t,J1 l be oe (A2 l.fr t) (a.tmps.getD t undef)):Sim P h0 w0 be oe H l h a w:=by
 have X:∀ j,j ∉ A.owns->∀ d,stamp l j=some d->stamp e j=some d:=λj u s B=>by
  unfold stamp at B ⊢
  cases ho':nth l.ow j with
  |none=>rw[ho']at B;cases B
  |some o =>
   rw[ho']at B
   rcases I j o ho' with⟨_,h⟩|⟨h,_⟩
   ·exact absurd h u
   ·rw[h];exact B
 have G:∀ i cs ty,nth l.bx i=some (.live cs ty)->∃ cs',nth e.bx i=some (.live cs' ty):=λi cs ty f=>by
  rcases F i _ f with⟨y,R,cs',p,c,_⟩|⟨c,_⟩
  ·cases p;exact⟨cs',c⟩
  ·exact⟨cs,c⟩
 have E:∀ i s t sz by_ nn xs,nth l.ow i=some ⟨s,.live t sz by_ nn xs⟩->∃ x q,nth e.ow i=some ⟨x,.live t sz by_ q xs⟩/\(nn=true->q=true):=λi s t sz by_ nn xs f=>by
  rcases I i _ f with⟨⟨s1,Q,O,M,N,x,q,S,p,c,m⟩,_⟩|⟨c,_⟩
  ·cases p;exact⟨x,q,c,m⟩
  ·exact⟨s,nn,c,id⟩
 refine⟨d.mv,d.sub,λi cs ty f=>?_,λi b f=>?_,λi s t sz by_ nn xs f=>?_,λi s v f=>?_,λi j cs ty cs' Y f u=>?_,λi j s t sz by_ nn xs s1 Q O M N S g f u=>?_,λi cs ty j s t sz by_ nn xs f u=>?_,d.dfr,by rw[d.siz,W],hf⟩
 ·rcases F i _ f with⟨y,R,cs',p,c,m⟩|⟨c,m⟩
  ·cases p
   obtain⟨C,vs,D,J⟩:=d.box i cs' ty c
   exact⟨C,vs,F05 (be:=be) m (L i _ _ f) D,J⟩
  ·obtain⟨C,vs,D,J⟩:=d.box i cs ty c
   exact⟨C,vs,X01 X m (L i _ _ f) D,J⟩
 ·rcases F i _ f with⟨y,R,cs',p,c,m⟩|⟨c,m⟩
  ·cases p
  ·exact d.pub i b c
 ·obtain⟨x,q,c,m⟩:=E i _ _ _ _ _ _ f
  obtain⟨C,D⟩:=d.own i _ _ _ _ _ _ c
  refine⟨C,D.imp (λ⟨T,U,K⟩=>⟨T,U,?_⟩) id⟩
  cases nn with
  |false=>rfl
  |true=>rw[m rfl]at K;cases K
 ·rcases I i _ f with⟨⟨s1,Q,O,M,N,x,q,S,p,c,m⟩,_⟩|⟨c,_⟩
  ·cases p
  ·exact d.frz i s v c
 ·obtain⟨V,z⟩:=G i cs ty f
  obtain⟨Z,c⟩:=G j cs' Y u
  exact d.bb i j _ _ _ _ z c
 ·obtain⟨_,_,z,_⟩:=E i _ _ _ _ _ _ f
  obtain⟨_,_,c,_⟩:=E j _ _ _ _ _ _ u
  exact d.oo i j _ _ _ _ _ _ _ _ _ _ _ _ g z c
 ·obtain⟨V,z⟩:=G i cs ty f
  obtain⟨_,_,c,_⟩:=E j _ _ _ _ _ _ u
  exact d.bo i _ _ j _ _ _ _ _ _ z c
end
end Go.H
namespace Go.H
set_option linter.unusedVariables false
set_option linter.unusedSimpArgs false
section
variable {P:Program} {h0:Hp} {w0:World} {be:Nat->Nat} {oe:Nat->Value} {H:Hp} {st:St} {h:Hp} {a:Act} {w:World}
theorem v0f(b:Sim P h0 w0 be oe H st h a w):∀ i cs ty,nth st.bx i=some (.live cs ty)->z00 (λj k=>∃ b,stamp st j=some b/\k<=b) cs:=by
 intro i cs ty l
 obtain⟨_,vs,g,_⟩:=b.box i cs ty l
 have:∀(cs:List i4) (vs:List Value),Y0 st oe cs vs->z00 (λj k=>∃ b,stamp st j=some b/\k<=b) cs:=by
  intro cs
  induction cs with
  |nil=>intro vs _;trivial
  |cons c r d =>
   intro vs g
   cases vs with
   |nil=>exact g.elim
   |cons v vs =>
    cases c with
    |val x=>exact d vs g.2
    |own j k =>
     obtain⟨m,e,f,_⟩:=g.1
     exact⟨⟨m,e,f⟩,d vs g.2⟩
 exact this cs vs g
theorem U0a(p:Nat->Prop)(h:∃ n,p n):∃ n,p n/\∀ m,p m->n<=m:=by
 obtain⟨n,c⟩:=h
 induction n using Nat.strongRecOn with
 |_ n e =>
  by_cases hx:∃ m,m<n/\p m
  ·obtain⟨m,a,d⟩:=hx
   exact e m a d
  ·exact⟨n,c,λm a=>Nat.le_of_not_lt λb=>hx ⟨m,b,a⟩⟩
theorem Y0c:∀(a b:List Value),C0g a b=true->a.length=b.length
 | [],[],_=>rfl
 |_::r,_::c,h=>by simp[Y0c r c h]
 | [],_::_,h=>by cases h
 |_::_,[],h=>by cases h
theorem P0h{A:Ann}{ds:List Nat}{st e m:St}{f l:List (Nat×AV)}{C:List Value}{av1:∀ t,(A2 (l05 A.vars C (f++l)) t=A2 (f++l) t/\t ∉ A.vars)∨(∃ v,A2 (l05 A.vars C (f++l)) t = .val v/\rdA e (A2 e.fr t) = .val v)}
  (K:Sim P h0 w0 be oe H e h a w) (S:m.fr=l05 A.vars C (f++l)) (F:m.bx.length=st.bx.length) (y:∀ i,stamp m i=stamp st i)
  (V:∀ i k,(i ∉ A.owns∨i∈A.kept)->stamp st i=some k->stamp e i=stamp m i)
  (ah:∀ p∈f,p.1∈ds) (L:∀ p∈f,T0a st p.1 p.2) (M:∀ t∈ds,t ∉ A.vars->∃ av,(t,av)∈f)
  (s1:∀ t,t ∉ ds->G04 A st (A2 l t)) (X:∀ t av,(t,av)∈f->(∀ i k,av = .own i k->∃ I,rdA e (A2 e.fr t) = .own i I)/\(∀ i o,av = .box i o->rdA e (A2 e.fr t) = .box i o))
  (Y:∀ t,A2 l t = .dead∨A2 e.fr t=A2 l t):∀ t,J1 m be oe (A2 m.fr t) (a.tmps.getD t undef):=by
 intro t
 rw[S]
 have b:=K.fr t
 have n:=K.rdA b
 rcases av1 t with⟨u,aa⟩|⟨v,u,N⟩
 ·rw[u]
  rcases o07 f l t with⟨av,s,B⟩|⟨s,B⟩
  ·rw[B]
   obtain⟨ad,ae⟩:=X t av s
   rcases L _ s with rfl|⟨i,k,rfl,d,_⟩|⟨i,o,rfl,O,_⟩
   ·trivial
   ·obtain⟨I,E⟩:=ad i k rfl
    rw[E]at n
    refine⟨k,by rw[y,d],Nat.le_refl _,λ_=>?_⟩
    obtain⟨D,ak,ag,ai,al,U⟩:=J01 E
    exact n.own_cur U
   ·rw[ae i o rfl]at n
    exact⟨by rw[F];exact O,n.2⟩
  ·rw[B]
   have Z:t ∉ ds:=λQ=>by
    obtain⟨av,T⟩:=M t Q aa
    exact s av T
   rcases Y t with R|D
   ·rw[R];trivial
   have d:=s1 t Z
   rw[D]at b
   cases hl:A2 l t with
   |val v=>rw[hl]at b;exact b
   |hel af idx sz k=>rw[hl]at b;exact b
   |dead=>trivial
   |agg cs =>
    rw[hl]at b d
    obtain⟨vs,q,J⟩:=b
    refine⟨vs,q,?_⟩
    have:∀(cs:List i4) (vs:List Value),K0c cs=true->Y0 e oe cs vs->Y0 m oe cs vs:=by
     intro cs
     induction cs with
     |nil=>intro vs _ g;cases vs<;>exact g
     |cons c r ab =>
      intro vs G g
      cases vs with
      |nil=>exact g.elim
      |cons v vs =>
       cases c with
       |val x=>exact⟨g.1,ab vs G g.2⟩
       |own j k=>cases G
    exact this cs vs d J
   |box i o =>
    rw[hl]at b d
    exact⟨by rw[F];exact d,b.2⟩
   |own i k =>
    rw[hl]at b d
    obtain⟨W,z⟩:=d
    obtain⟨aj,q,J,ac⟩:=b
    refine⟨k,by rw[y,z],Nat.le_refl _,λ_=>?_⟩
    have:stamp e i=stamp m i:=V i k W z
    rw[this,y,z]at q
    cases q
    exact ac rfl
   |oel i af idx sz k=>rw[hl]at d;exact d.elim
 ·rw[u]
  rw[N]at n
  exact n
theorem i06:∀(l:List (Nat×Nat×Nat×Nat)) (st:St) (oe:Nat->Value) {K:St->Prop},Sim P h0 w0 be oe H st h a w->s0a l st K->∃ st' oe',K st'/\Sim P h0 w0 be oe' H st' h a w
 | [],st,oe,K,d,c=>⟨st,oe,c,d⟩
 |(t,e,sz,by_)::r,⟨n,fr,bx,ow⟩,oe,K,d,c=>by
  simp only[s0a]at c
  split at c
  ·rename_i j p
   rw[i04]at c
   have f:=d.rdA (d.fr t)
   have k:a.tmps.getD t undef = .slice none 0 0:=by
    have:rdA ⟨n,fr,bx,ow⟩ (A2 fr t) = .val (.slice none 0 0):=j
    rw[show rdA ⟨n,fr,bx,ow⟩ (A2 (St.mk n fr bx ow).fr t) = .val (.slice none 0 0) from this]at f
    exact f
   have g:u01 h H (.slice none 0 0) e sz false []:=⟨by simp,.inl ⟨rfl,rfl,rfl⟩⟩
   obtain⟨s1,m⟩:=d.newOwn (by_:=by_) (λb o i=>i) (L1.refl d.mv.vis) g (by simp[Value.ownBlock])
   refine i06 r _ _ (s1.refr (fr:=(t,.own ow.length 0)::fr) λu=>?_) c
   rw[E3]
   by_cases eu:t=u
   ·subst eu
    rw[if_pos rfl,k]
    exact⟨0,by simp[stamp,z8],Nat.le_refl _,λ_=>by simp⟩
   ·rw[if_neg eu]
    exact s1.fr u
  ·exact c.elim
theorem H04:∀(l:List (Nat×Nat×Nat×Nat×Nat)) (st:St) (oe:Nat->Value) {K:St->Prop},Sim P h0 w0 be oe H st h a w->T06 l st K->∃ st' oe',K st'/\Sim P h0 w0 be oe' H st' h a w
 | [],st,oe,K,g,f=>⟨st,oe,f,g⟩
 |(i,k,e,sz,by_)::r,⟨n,fr,bx,ow⟩,oe,K,g,f=>by
  simp only[T06]at f
  split at f
  rotate_left
  ·exact f.elim
  rename_i cs ty z
  split at f
  rotate_left
  ·exact f.elim
  rename_i O
  rw[i04]at f
  have J:u01 h H (.slice none 0 0) e sz false []:=⟨by simp,.inl ⟨rfl,rfl,rfl⟩⟩
  obtain⟨s1,Z⟩:=g.newOwn (by_:=by_) (λb o L=>L) (L1.refl g.mv.vis) J (by simp[Value.ownBlock])
  have y:=V7 z
  refine H04 r _ (λj=>if j=ow.length then .slice none 0 0 else oe j) ?_ f
  have s:U4 ⟨n,fr,bx,ow ++ [⟨0,.live e sz by_ false []⟩]⟩ be (λj=>if j=ow.length then .slice none 0 0 else oe j) ⟨n,fr,W6 bx i (.live (W6 cs k (.own ow.length 0)) ty),ow ++ [⟨0,.live e sz by_ false []⟩]⟩ be (λj=>if j=ow.length then .slice none 0 0 else oe j) :=
   ⟨by simp[M00],λ_ _=>rfl,λi g h=>⟨g,h,Nat.le_refl _,λ_=>rfl⟩⟩
  have x:∀ j cs' m,nth (W6 bx i (.live (W6 cs k (.own ow.length 0)) ty)) j=some (.live cs' m)->∃ E,nth bx j=some (.live E m):=λj cs' m d=>by
   rw[Q4 _ _ _ y]at d
   split at d
   ·rename_i q;subst q;cases d;exact⟨cs,z⟩
   ·exact⟨cs',d⟩
  refine⟨s1.mv,s1.sub,λj cs' m d=>?_,λj b d=>?_,s1.own,s1.frz,λj A V ac W ad F G=>?_,s1.oo,λj cs' m A aa Y ab U nn xs d N=>?_,s1.dfr,s1.siz,λt=>(s1.fr t).grow s⟩
  ·rw[Q4 _ _ _ y]at d
   split at d
   ·rename_i q
    subst q
    cases d
    obtain⟨B,vs,p,C⟩:=s1.box j cs ty z
    refine⟨B,vs,?_,C⟩
    obtain⟨v,S,T⟩:=p.nth O
    have Q:v = .slice none 0 0:=T
    have:=(p.grow s).upd (k:=k) (c := .own ow.length 0) (v:=v) (by rw[Q];exact⟨0,by simp[stamp,z8],Nat.le_refl _,λ_=>by simp⟩)
    rwa [show vs.set k v=vs from by
     obtain⟨M,R⟩:=List.getElem?_eq_some_iff.1 S
     rw[←R];exact List.set_getElem_self M]at this
   ·obtain⟨B,vs,p,C⟩:=s1.box j cs' m d
    exact⟨B,vs,p.grow s,C⟩
  ·rw[Q4 _ _ _ y]at d
   split at d
   ·cases d
   ·exact s1.pub j b d
  ·obtain⟨D,u⟩:=x _ _ _ F
   obtain⟨X,I⟩:=x _ _ _ G
   exact s1.bb j A _ _ _ _ u I
  ·obtain⟨D,u⟩:=x _ _ _ d
   exact s1.bo j _ _ A _ _ _ _ _ _ u N
theorem Y03:∀(l:List Nat) {st:St} {h:Hp} {K:St->Hp->Prop},Sim P h0 w0 be oe H st h a w->t0a l st h K->∃ st' e,K st' e/\Sim P h0 w0 be oe H st' e a w
 | [],st,h,K,b,c=>⟨st,h,c,b⟩
 |t::r,st,h,K,b,c=>by
  simp only[t0a]at c
  obtain⟨⟨n,fr,bx,ow⟩,e,d,s1,_⟩:=P8 b (b.rdA (b.fr t)) c
  dsimp only at d
  split at d
  ·refine Y03 r (s1.refr (fr:=(t,.val (a.tmps.getD t undef))::fr) λu=>?_) d
   rw[E3]
   by_cases eu:t=u
   ·subst eu
    rw[if_pos rfl]
    rfl
   ·rw[if_neg eu]
    exact s1.fr u
  ·exact d.elim
set_option maxHeartbeats 1000000 in
theorem Z0b{Y:Code}{O:List Nat}{Q:Ex->St->Hp->Prop}
  (D:∀(Q:Ex->St->Hp->Prop) (st:St) (h:Hp) (a:Act) (w:World) (be:Nat->Nat) (oe:Nat->Value) (H:Hp),Sim P h0 w0 be oe H st h a w->ev P Y Q st h->Y.wp P (F09 P h0 w0 Q) a w)
  (f:Sim P h0 w0 be oe H st h a w) (g:L0c (λQ=>ev P Y Q) O Q st h):(Code.loop Y).wp P (F09 P h0 w0 Q) a w:=by
 obtain⟨A,aP,μ,g⟩:=g
 obtain⟨st,oe,g,f⟩:=i06 _ _ _ f g
 obtain⟨st,oe,g,f⟩:=H04 _ _ _ f g
 obtain⟨st,h,g,f⟩:=Y03 _ f g
 unfold R0b at g
 obtain⟨E,bu,g,bv⟩:=B05 st _ g
 obtain⟨ad,g,aF⟩:=T0c st _ g
 obtain⟨ac,bh,⟨aa,g⟩,aG⟩:=U0c st _ g
 rw[I08]at g
 obtain⟨F,g,aT,aD,aE,_⟩:=W03 A st _ _ g (by simp)
 obtain⟨V,ba,s1⟩:=V03 A O st _ g
 have aU:∀ p∈F,p.1∈O:=λp R=>(aT p R).resolve_right (by simp)
 have bG:∀ t,t ∉ O->G04 A st (A2 V t):=λt bq=>by
  rcases s1 t bq with h|⟨_,h⟩
  ·rw[h];trivial
  ·exact h
 have bj:=λ(vs:List Value) (af:vs.length=(E++ad).length) (os:List (List (List Value))) (aq:os.length=ac.length)=>E04 _ (D04 _ ba vs af) os aq
 let C:List Value->List BSt->List Own->St:=λE bx ow=>⟨st.n,l05 A.vars E (F++V),bx,ow⟩
 let Inv:Nat->Act->World->Prop:=λm a w=>∃(vs:List Value) (os:List (List (List Value))) (ah aB:List Value) (bx:List BSt) (ow:List Own) (am:Hp) (be:Nat->Nat) (oe:Nat->Value) (H:Hp),
  vs.length=(E++ad).length/\os.length=ac.length/\vs=ah++aB/\ah.length=A.vars.length/\(∀ W,p01 A.boxes aB st.bx W=W bx)/\(∀ W,q01 A.owns os st.ow W=W ow) /\
   atI A aP μ m vs os am/\Sim P h0 w0 be oe H (C ah bx ow) am a w
 have aQ:=v0f f
 have a3:∀ m a w,Inv m a w->Y.wp P (Exit.then (λa w=>∃ T,Inv T a w/\T<m) (F09 P h0 w0 Q)) a w:=by
  rintro m a w ⟨vs,os,ah,aB,bx,ow,am,be,oe,H,af,aq,rfl,bs,bk,bm,aa,a1⟩
  have S:=d0f (bj _ af os aq) aa
  rw[←bs,U03,bk,bm]at S
  refine Code.wp_mono (λe aj aC R=>?_) (D _ _ _ _ _ _ _ _ a1 S)
  cases e with
  |normal =>
   obtain⟨e,l,aR,bE,aO,J,s2⟩:=R
   dsimp only at J
   obtain⟨e,l,J,s2⟩:=Y03 _ s2 J
   unfold e0f at J
   split at J
   ·rename_i a4 bl
    obtain⟨bi,bp,bo,s⟩:=J
    have z:=Nat.eq_of_beq_eq_true a4
    have B:=L02 0 _ _ bp
    have ag:=M02 0 _ _ bo
    simp only[Nat.zero_add]at B ag
    unfold R0b at s
    obtain⟨ae,aJ,s,bw⟩:=B05 e _ s
    have bd:∀(is:List Nat) {K:List Value->Prop},U06 is e K->(∀ i∈is,i∈A.boxes)->(∀ i∈is,(nth st.bx i).isSome=true) ->
      ∀ i∈is,∃ cs ty cs',nth st.bx i=some (.live cs ty)/\nth e.bx i=some (.live cs' ty)/\ShC e cs cs':=by
     intro is K _ aX ar i d
     cases hb:nth st.bx i with
     |none=>have:=ar i d;rw[hb]at this;cases this
     |some b =>
      rcases B i b hb with⟨_,cs,ty,cs',rfl,l,Z⟩|⟨q,_⟩
      ·exact⟨cs,ty,cs',rfl,l,Z⟩
      ·exact absurd (aX i d) q
    have ar:∀ i∈A.boxes,(nth st.bx i).isSome=true:=by
     have al:∀(is:List Nat) (vs:List Value) (bx:List BSt),(p01 is vs bx λ_=>True)->∀ i∈is,(nth bx i).isSome=true:=by
      intro is
      induction is with
      |nil=>intro vs bx _ i d;cases d
      |cons j r D =>
       intro vs bx u i d
       simp only[p01]at u
       split at u
       ·rename_i cs ty z
        rcases List.mem_cons.1 d with rfl|d
        ·rw[z];rfl
        ·have bb:∀(cs:List i4) (vs:List Value) (K:List i4->List Value->Prop),E9 cs vs K->∃ a b,K a b:=by
          intro cs
          induction cs with
          |nil=>intro vs K h;exact⟨_,_,h⟩
          |cons c r D =>
           intro vs K h
           cases c with
           |val v =>
            cases vs with
            |nil=>exact h.elim
            |cons bL vs=>obtain⟨a,b,h⟩:=D _ _ h;exact⟨_,_,h⟩
           |own i k=>obtain⟨a,b,h⟩:=D _ _ h;exact⟨_,_,h⟩
         obtain⟨a,b,u⟩:=bb _ _ _ u
         have:=D _ _ u i d
         rw[Q4 _ _ _ (V7 z)]at this
         split at this
         ·rename_i ak;rw[ak,z];rfl
         ·exact this
       ·exact u.elim
     exact al A.boxes ad st.bx (by rw[aF];trivial)
    have bn:∀ i∈A.owns,(nth st.ow i).isSome=true:=by
     have al:∀(is:List Nat) (vs:List (List (List Value))) (ow:List Own),(q01 is vs ow λ_=>True)->∀ i∈is,(nth ow i).isSome=true:=by
      intro is
      induction is with
      |nil=>intro vs bx _ i d;cases d
      |cons j r D =>
       intro vs ow u i d
       cases vs with
       |nil=>exact u.elim
       |cons x vs =>
        simp only[q01]at u
        split at u
        ·rename_i z
         rcases List.mem_cons.1 d with rfl|d
         ·rw[z];rfl
         ·have:=D _ _ u i d
          rw[Q4 _ _ _ (V7 z)]at this
          split at this
          ·rename_i ak;rw[ak,z];rfl
          ·exact this
        ·exact u.elim
     exact al A.owns ac st.ow (by rw[aG];trivial)
    obtain⟨aN,s,N,aM,bH,bI,bJ,bK⟩:=V0c e A.boxes st.bx (bd _ s (λ_ h=>h) ar) s
    have bf:∀ i∈A.owns,∃ f G sz by_ nn ai U L xs,nth st.ow i=some ⟨f,.live G sz by_ nn ai⟩/\nth e.ow i=some ⟨U,.live G sz by_ L xs⟩/\(nn=true->L=true):=λi d=>by
     cases hb:nth st.ow i with
     |none=>have:=bn i d;rw[hb]at this;cases this
     |some b =>
      rcases ag i b hb with⟨_,f,G,sz,by_,nn,ai,U,L,xs,rfl,l,Z,_⟩|⟨q,_⟩
      ·exact⟨f,G,sz,by_,nn,ai,U,L,xs,rfl,l,Z⟩
      ·exact absurd d q
    obtain⟨bF,bA,s,M,aK,bB,bC,bD⟩:=W0c e A.owns st.ow bf s
    split at s
    rotate_left
    ·exact s.elim
    rename_i bg
    rw[←aJ,U03,aM,aK]at s
    obtain⟨ab,aZ,ao⟩:=E0g s
    have au:∀ i,stamp (C ae N M) i=stamp st i:=λi=>by
     have:=bD i
     unfold stamp
     simp only[C]
     cases q:nth M i<;>cases l:nth st.ow i<;>rw[q,l]at this<;>simp at this<;>simp[this]
    refine⟨ab,⟨ae++aN,bF,ae,aN,N,M,l,aR,bE,aO,?_,?_,rfl,aJ,aM,aK,aZ,?_⟩,ao⟩
    ·rw[←af];exact Y0c _ _ bg
    ·rw[bA]
     have:ac.length=A.owns.length:=bh
     rw[this]
    ·refine u0f (A:=A) s2 z ?_ ?_ ?_ ?_
     ·intro i b d
      by_cases y:i∈A.boxes
      ·obtain⟨aS,ty,cs',ax,ay,az⟩:=bJ i y
       have:nth N i=some b:=d
       rw[ax]at this
       cases this
       exact .inl ⟨aS,ty,cs',rfl,ay,az⟩
      ·have:nth N i=some b:=d
       rw[bI i y]at this
       rcases B i b this with⟨q,_⟩|⟨_,l,Z⟩
       ·exact absurd q y
       ·exact .inr ⟨l,Z⟩
     ·intro i o d
      by_cases y:i∈A.owns
      ·obtain⟨aL,G,sz,by_,nn,U,L,xs,ax,ay,az⟩:=bC i y
       have:nth M i=some o:=d
       rw[ax]at this
       cases this
       exact .inl ⟨⟨aL,G,sz,by_,nn,U,L,xs,rfl,ay,az⟩,y⟩
      ·have:nth M i=some o:=d
       rw[bB i y]at this
       rcases ag i o this with⟨q,_⟩|⟨_,l⟩
       ·exact absurd q y
       ·exact .inr ⟨l,y⟩
     ·intro i cs ty d
      have:=bK _ aQ i cs ty d
      have bc:(λj k=>∃ f,stamp (C ae N M) j=some f/\k<=f)=(λj k=>∃ f,stamp st j=some f/\k<=f):=by
       funext j k;rw[au]
      rw[bc]
      exact this
     ·refine P0h (A:=A) (ds:=O) (st:=st) (av1:=λt=>bw (F++V) t) s2 rfl bH au ?_ aU aD aE bG (p07 F bl) (X03 _ bi)
      intro i k d an
      show stamp e i=stamp (C ae N M) i
      rw[au i]
      cases hb:nth st.ow i with
      |none=>unfold stamp at an;rw[hb]at an;cases an
      |some b =>
       rcases ag i b hb with⟨q,aL,G,sz,by_,nn,ai,U,L,xs,rfl,l,_,aW⟩|⟨_,l⟩
       ·have:=aW (d.resolve_left (λh=>h q))
        simp[stamp,hb,l,this]
       ·unfold stamp
        rw[hb,l]
   ·exact J.elim
  |exit i=>exact R
  |ret=>exact R
  |_=>exact R
 have a2:Sim P h0 w0 be oe H (C E st.bx st.ow) h a w:=by
  refine f.refr (fr:=l05 A.vars E (F++V)) λt=>?_
  have aV:=f.fr t
  have I:=f.rdA aV
  rcases bv (F++V) t with⟨q,bt⟩|⟨v,q,l⟩
  ·rw[q]
   rcases o07 F V t with⟨av,aA,ab⟩|⟨aA,ab⟩
   ·rw[ab]
    rcases aD _ aA with rfl|⟨i,k,rfl,_,S⟩|⟨i,o,rfl,_,S⟩
    ·trivial
    ·rw[S]at I;exact I
    ·rw[S]at I;exact I
   ·rw[ab]
    have br:t ∉ O:=λC=>by
     obtain⟨av,y⟩:=aE t C bt
     exact aA av y
    rcases s1 t br with h|⟨h,_⟩
    ·rw[h];trivial
    ·rw[h];exact I
  ·rw[q]
   rw[l]at I
   exact I
 obtain⟨bz,aa⟩:=c0f (μ:=μ) aa
 have aY:Inv bz a w:=⟨E++ad,ac,E,ad,st.bx,st.ow,h,be,oe,H,rfl,rfl,rfl,bu,aF,aG,aa,a2⟩
 classical
 let X:Act->World->Nat:=λa w=>if B:∃ m,Inv m a w then Classical.choose (U0a _ B)else 0
 refine wp_loop (λa w=>∃ m,Inv m a w) X ⟨_,aY⟩ λa w B=>?_
 have a0:X a w=Classical.choose (U0a _ B):=by simp only[X,dif_pos B]
 refine Code.wp_mono (λe aj aC aH=>?_) (a3 _ a w (Classical.choose_spec (U0a _ B)).1)
 cases e with
 |normal =>
  obtain⟨T,ap,ao⟩:=aH
  refine⟨⟨T,ap⟩,?_⟩
  have aw:∃ m,Inv m aj aC:=⟨T,ap⟩
  have:X aj aC=Classical.choose (U0a _ aw):=by simp only[X,dif_pos aw]
  rw[a0,this]
  exact Nat.lt_of_le_of_lt ((Classical.choose_spec (U0a _ aw)).2 T ap) ao
 |_=>exact aH
end
end Go.H
namespace Go.H
set_option linter.unusedVariables false
set_option linter.unusedSimpArgs false
section
variable {P:Program} {h0:Hp} {w0:World} {be:Nat->Nat} {oe:Nat->Value} {H:Hp} {st:St} {h:Hp} {a:Act} {w:World}
theorem w0f(c:Code):∀(Q:Ex->St->Hp->Prop) (st:St) (h:Hp) (a:Act) (w:World) (be:Nat->Nat) (oe:Nat->Value) (H:Hp),Sim P h0 w0 be oe H st h a w->ev P c Q st h->c.wp P (F09 P h0 w0 Q) a w:=by
 induction c with
 |skip=>exact λQ st h a w be oe H f j=>wp_skip ⟨st,h,be,oe,H,j,f⟩
 |region id ops d=>exact λQ st h a w be oe H f j=>G09 f j
 |seq x q o p =>
  intro Q st h a w be oe H f j
  refine wp_seq (Code.wp_mono (λe a w l=>?_) (o _ _ _ _ _ _ _ _ f j))
  cases e with
  |normal=>obtain⟨st,h,be,oe,H,k,f⟩:=l;exact p _ _ _ _ _ _ _ _ f k
  |exit i=>exact l
  |ret=>exact l
  |_=>exact l
 |cond c x q o p =>
  intro Q st h a w be oe H f j
  simp only[ev]at j
  split at j
  ·rename_i b m
   have g:=f.rdO c
   rw[m]at g
   exact wp_cond_split g (λe=>o _ _ _ _ _ _ _ _ f (j.1 e)) (λe=>p _ _ _ _ _ _ _ _ f (j.2 e))
  ·exact j.elim
 |block id c n =>
  intro Q st h a w be oe H f j
  refine wp_block (Code.wp_mono (λe a w l=>?_) (n _ _ _ _ _ _ _ _ f j))
  cases e with
  |normal=>exact l
  |exit i =>
   obtain⟨st,h,be,oe,H,k,f⟩:=l
   simp only[Exit.inBlock]
   dsimp only at k
   cases m:Nat.beq i id with
   |true =>
    rw[m]at k
    rw[if_pos (Nat.eq_of_beq_eq_true m)]
    exact⟨st,h,be,oe,H,k,f⟩
   |false =>
    rw[m]at k
    rw[if_neg (Nat.ne_of_beq_eq_false m)]
    exact⟨st,h,be,oe,H,k,f⟩
  |ret=>exact l
  |_=>exact l
 |loop c n=>exact λQ st h a w be oe H f j=>Z0b n f j
 |exit i=>exact λQ st h a w be oe H f j=>wp_exit ⟨st,h,be,oe,H,j,f⟩
 |ret=>exact λQ st h a w be oe H f j=>wp_ret ⟨st,h,be,oe,H,j,f⟩
 |_=>exact λQ st h a w be oe H f j=>j.elim
def N0g(tmps:Array Value):ResultVar->Sem Value
 | .tmp t=>pure (tmps.getD t undef)
 | .cell a t=>do loadVar t (←asAddr (tmps.getD a undef))
theorem Z03:∀(l:List ResultVar) (st:St) (h:Hp) {K:List Value->St->Hp->Prop},Sim P h0 w0 be oe H st h a w->U0b P l st h K ->
  ∃ vs st' y,K vs st' y/\Sim P h0 w0 be oe H st' y a w/\(l.mapM (N0g a.tmps)).run P w = .ok vs w
 | [],st,h,K,c,d=>⟨[],st,h,d,c,rfl⟩
 | .tmp t::r,st,h,K,c,d=>by
  obtain⟨s,f,m,s1,_⟩:=P8 c (c.rdA (c.fr t)) d
  obtain⟨vs,u,p,n,s2,q⟩:=Z03 r s f s1 m
  refine⟨_,u,p,n,s2,?_⟩
  simp only[List.mapM_cons,Sem.run_bind,N0g,Sem.run_pure,Result.andThen_ok,q]
 | .cell t ty::r,st,h,K,c,d=>by
  simp only[U0b]at d
  split at d
  ·rename_i i off q
   split at d
   ·rename_i cs J D
    have g:=c.rdA (c.fr t)
    rw[q]at g
    obtain⟨f,vs,p,A⟩:=c.box i cs J D
    obtain⟨av,v,F,G,I⟩:=R.load_row (H:=H) (b:=be i) (o:=0) (be:=be) d p (λj v B=>by simp[Hp.cell,A,B])
    obtain⟨s,f,m,s1,_⟩:=P8 c G F
    obtain⟨L,u,z,n,s2,E⟩:=Z03 r s f s1 m
    refine⟨_,u,z,n,s2,?_⟩
    have C:(loadVar ty ⟨be i,off,none⟩).run P w = .ok v w:=by
     obtain⟨x,k,e⟩:=R.wpR_sound _ _ w c.mv.vis (I (λx _=>x=v) rfl)
     rw[Nat.zero_add]at k
     rw[k,e]
    have k:a.tmps.getD t undef=ptr (be i) off:=g.2
    simp only[List.mapM_cons,Sem.run_bind,N0g,k,ptr,asAddr,Sem.run_pure,Result.andThen_ok,C,E]
   ·exact d.elim
  ·exact d.elim
theorem K08:∀(args:List Value) (i a:Nat),A2 (p04 i args) a = .dead∨A2 (p04 i args) a = .val (if i<=a then args.getD (a-i) undef else undef)
 | [],i,a => .inl rfl
 |v::r,i,a=>by
  simp only[p04]
  rw[E3]
  by_cases e:i=a
  ·subst e;right;simp
  ·rw[if_neg e]
   rcases K08 r (i+1) a with b|b
   ·exact .inl b
   right
   rw[b]
   by_cases h:i<=a
   ·rw[if_pos h,if_pos (by omega)]
    have:a-i=(a-(i+1))+1:=by omega
    rw[this,List.getD_cons_succ]
   ·rw[if_neg h,if_neg (by omega)]
theorem L1.less{h a H:Hp}{w e:World}(m:L1 h w H e)(d:∀ b o,a b=some o->H b=some o):L1 h w a e:=by
 refine⟨m.os,m.tape,m.output,m.size,m.keep,λb o c=>m.vis b o (d b o c),λb c=>?_,m.fz,m.dn⟩
 cases hc:a b with
 |none=>exact absurd hc c
 |some o=>exact m.fresh b (by rw[d b o hc];simp)
theorem a0c{f:FuncId}{fn:Func}{args:List Value}{o:Value->Hp->Prop}(hf:P.funcs[f]?=some fn)(m:J0h P fn args h o):Tr P f args.toArray h o:=by
 refine⟨λw C=>?_⟩
 unfold J0h at m
 split at m
 ·rename_i c z
  split at m
  ·rename_i s
   have s:=Nat.le_of_ble_eq_true s
   have D:Sim P h w (λ_=>0) (λ_=>undef) h ⟨fn.ntmps,p04 0 args,[],[]⟩ h { tmps:=args.toArray++Array.replicate (fn.ntmps-args.toArray.size) undef,defers:=[] } w:=by
    refine⟨L1.refl C,λ_ _ h=>h,(λi cs ty k=>nomatch k),(λi b k=>nomatch k),(λi a e sz by_ nn xs k=>nomatch k),(λi a v k=>nomatch k),(λi j cs ty cs' M k=>nomatch k),
     (λi j a e sz by_ nn xs J F L E I N g k=>nomatch k),(λi cs ty j a e sz by_ nn xs k=>nomatch k),rfl,by simp;omega,λa=>?_⟩
    rcases K08 args 0 a with d|d
    ·exact(show J1 _ _ _ (A2 (p04 0 args) a) _ from by rw[d];trivial)
    show J1 _ _ _ (A2 (p04 0 args) a) _
    rw[d]
    simp only[Nat.zero_le,if_true,Nat.sub_zero]
    show _=_
    simp only[Array.getD_eq_getD_getElem?]
    rw[Array.getElem?_append]
    simp only[List.size_toArray,List.getElem?_toArray]
    split
    ·simp[List.getD_eq_getElem?_getD]
    ·rename_i G
     rw[List.getD_eq_getElem?_getD,List.getElem?_eq_none (by omega)]
     rw[Array.getElem?_replicate]
     split<;>rfl
   refine calls_of_wp hf z (Code.wp_mono (λe n q p=>?_) (w0f c _ _ _ _ _ _ _ _ D m))
   have fin:∀ {st d be oe H},U0b P fn.results.toList st d (λvs _ h=>o (x0a vs) h)->Sim P h w be oe H st d n q->n.defers = []/\∃ v,(results fn n.tmps).run P q = .ok v q/\∃ t d,Ending.returned v = .returned t/\o t d/\L1 h w d q:=by
    intro st d be oe H l a
    obtain⟨vs,K,y,u,s2,A⟩:=Z03 _ _ _ a l
    refine⟨a.dfr,x0a vs,?_,x0a vs,y,rfl,u,s2.mv.less s2.sub⟩
    have B:results fn n.tmps=(fn.results.mapM (N0g n.tmps) >>= λvs=>pure (if h:vs.size=1 then vs[0]else .tuple vs)):=by
     unfold results
     congr 1
    rw[B,Array.mapM_eq_mapM_toList]
    simp only[Sem.run_bind,Sem.run_map,A,Result.andThen_ok,Sem.run_pure]
    cases vs with
    |nil=>rfl
    |cons x r=>cases r<;>rfl
   cases e with
   |normal=>obtain⟨st,d,be,oe,H,l,a⟩:=p;exact fin l a
   |ret=>obtain⟨st,d,be,oe,H,l,a⟩:=p;exact fin l a
   |exit i=>obtain⟨st,d,be,oe,H,l,a⟩:=p;exact l.elim
   |_=>exact p.elim
  ·exact m.elim
 ·exact m.elim
end
end Go.H
namespace Go.H
open Go.RowKit Go.ChangeShapes Go.WideShapes Go.ChangeAt
set_option linter.unusedVariables false
theorem Tr.val{P:Program}{f:FuncId}{args:Array Value}{h:Hp}{x:Value}{a:Value->Hp->Prop}(t:Tr P f args h λv d=>v=x/\d=h)(e:a x h):Tr P f args h a :=
 t.mono λ_ _ ⟨b,c⟩=>by rw[b,c];exact e
theorem Tr.calls{P:Program}{f:FuncId}{args:Array Value}{c:World}{x:Value}(t:Tr P f args (λb=>c.heap[b]?) λv g=>v=x/\∀ b o,c.heap[b]?=some o->g b=some o):
  Calls P f args c λe d=>e = .returned x/\Below c.heap.size c d/\∀ a:Addr,a.block<c.heap.size->d.frozen? a=c.frozen? a:=by
 refine(t.run c (λb o h=>h)).mono ?_
 rintro e d ⟨v,g,rfl,⟨rfl,i⟩,m⟩
 refine⟨rfl,⟨m.os,m.tape,m.output,m.size,λk j=>?_⟩,m.fz⟩
 have:c.heap[k]?=some c.heap[k]:=by simp[j]
 rw[this]
 exact m.vis _ _ (i k _ this)
theorem w64{x:Int}(a : -9223372036854775808<=x)(b:x<=9223372036854775807):IntKind.i64.wrap x=x:=by
 simp[IntKind.wrap,IntKind.signed,IntKind.bits]
 omega
theorem b0c{n:Nat}(h:n<=maxLen):n<=9223372036854775807:=by
 simp[maxLen]at h
 omega
def Q0(x:Int):Prop := -9223372036854775808<=x/\x<=9223372036854775807
theorem H0i{x:Int}(h:(Lit.int .i64 x).wf=true):Q0 x:=by
 simpa [Lit.wf,IntKind.min,IntKind.max,IntKind.signed,IntKind.bits,Q0] using h
section
variable {H:Type} {enc:TypeId×Value->H} {P:Program}
theorem F03(i:laidOutB P=true){c f:World}(g:Below c.heap.size c f){m:Nat->Bool}:∀ {e:List TypeId} {vs:List Value} {ds:List (DataW H)} {b:List MemPlace},
  (∀ t∈e,P.readableRec t=true/\t<P.types.size)->DataW.TrodAll enc P c 0 (λ_=>true) true e vs ds b->(∀ p∈b,p.block<c.heap.size)->(∀ p∈b,m p.block=true) ->
  DataW.TrodAll enc P f 0 m true e vs ds b
 | [],vs,ds,b,_,h,_,_=>by
  obtain⟨rfl,rfl,rfl⟩:=trodAll_nil h
  exact rfl
 |t::e,vs,ds,b,l,h,j,k=>by
  obtain⟨v,z,d,y,p,q,rfl,rfl,rfl,n,o⟩:=trodAll_cons h
  obtain⟨u,w⟩:=l t mS
  refine⟨p,q,WideElems.Trod_stays i u w n (λx a=>g.same (j x (List.mem_append_left _ a))) (λx a=>k x (List.mem_append_left _ a)),?_,rfl⟩
  exact F03 i g (λt s=>l t (mC _ s)) o (λx a=>j x (List.mem_append_right _ a)) (λx a=>k x (List.mem_append_right _ a))
theorem o06{f:Func}{h:ChangeSpec}{o fresh z x:Bool}{i d:World}{args:Array Value}{v:Value}{ds k:List (DataW H)}{e pa pv:List MemPlace}
  (l:DataW.Whole enc P f.params.toList h.vars o i args.toList ds k e)
  (u:∀(b:Nat) (g:Nat->Bool) (A:Bool),DataW.TrodAll enc P d b g A f.resultTypes.toList (v.resultList f.resultTypes.size) (h.fn H (ds++k)).results [])
  (q:∀ g:Nat->Bool,(∀ p∈e,g p.block=true)->DataW.TrodAll enc P d 0 g true f.params.toList args.toList (h.fn H (ds++k)).args pa)
  (w:∀ g:Nat->Bool,(∀ p∈e,g p.block=true)->DataW.TrodVars enc P d g h.vars (h.fn H (ds++k)).vars pv)
  (s:e=pa++pv) (C:i.keptBut d (·∈e)) (B:∀ a:Addr,a.block<i.heap.size->d.frozen? a=i.frozen? a)
  (E:∀(j:Nat) (t:TypeId) (r:Value),f.resultTypes[j]?=some t->(v.resultList f.resultTypes.size)[j]?=some r->Value.okWide P d .any 0 t r) :
  h.post enc P f o fresh z x i args v d:=by
 have m:=λp c=>l.lt (p:=p) c
 refine⟨ds,k,e,[],pa,pv,l,u _ _ _,q _ (λp c=>by simpa using m p c),w _ (λp c=>by simpa using m p c),World.keptBut_mono (λp c=>⟨c,.inr (by rwa [s,List.mem_append]at c)⟩) C,λ_=>?_⟩
 obtain⟨_,_,_,_,_,F,D⟩:=l
 have n:([]++pa)++pv=e:=by simp[s]
 refine⟨E,_,_,([]++pa)++pv,⟨[]++pa,pv,trodAll_append (q _ (λ_ _=>rfl)) (u _ _ _),w _ (λ_ _=>rfl),rfl,?_,?_⟩,λp c _=>by rwa [n]at c⟩
 ·intro b off c
  rw[n]at c
  rw[B _ (m _ c)]
  exact F b off c
 ·intro y
  rw[n]
  exact D y
theorem x0f{f:Func}{c:ChangeSpec}{i fresh A v:Bool}{b d:World}{args:Array Value}{ds j:List (DataW H)}{w:List MemPlace}{u:TypeId}
  (C:laidOutB P=true) (F:∀ t∈f.params.toList,P.readableRec t=true/\t<P.types.size) (s:c.vars = []) (g:c.fn H (ds++j) = { results:=[.lit (.bool true)],args:=ds })
  (m:f.resultTypes = #[u]) (o:P.underlying u=some .bool) (e:DataW.Whole enc P f.params.toList c.vars i b args.toList ds j w)
  (k:Below b.heap.size b d) (B:∀ a:Addr,a.block<b.heap.size->d.frozen? a=b.frozen? a):c.post enc P f i fresh A v b args (.bool true) d:=by
 have D:=λp E=>e.lt (p:=p) E
 have z:=e
 obtain⟨p,q,y,l,rfl,_,_⟩:=e
 rw[s]at l
 obtain⟨rfl,rfl⟩:=trodVars_none l
 refine o06 (pa:=p) (pv:=[]) z (λ_ _ _=>?_) (λG n=>?_) (λG n=>?_) rfl (k.frame _) B (ok_one m rfl (okWide_bool_mk o _))
 ·rw[g,m]
  exact trodAll_mk1 (shut_bool o _)
 ·rw[g]
  exact F03 C k F y (λx h=>D x (List.mem_append_left _ h)) (λx h=>n x (List.mem_append_left _ h))
 ·rw[g,s]
  exact rfl
end
end Go.H
