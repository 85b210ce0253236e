/- The library of the walks, part HB: plain laws over the model. -/
import Derived.Test.YtkjhghloldgioaaGreatH3
import Derived.Laws.Tables
namespace Go.H
set_option linter.unusedVariables false
theorem q00{a:Type}:∀(l:List a) (k:Nat),nth l k=l[k]?
 | [],k=>by simp[nth]
 |x::r,0=>by simp[nth]
 |x::r,k+1=>by simp[nth,q00 r k]
theorem q04{a:Type}:∀(l:List a) (k:Nat) (x:a),W6 l k x=l.set k x
 | [],k,x=>by simp[W6]
 |b::r,0,x=>by simp[W6]
 |b::r,k+1,x=>by simp[W6,q04 r k x]
theorem Q4{a:Type}(l:List a)(k:Nat)(x:a)(b:k<l.length)(j:Nat):nth (W6 l k x) j=if j=k then some x else nth l j:=by
 rw[q00,q00,q04,List.getElem?_set]
 by_cases e:k=j
 ·subst e;simp[b]
 ·simp[e,Ne.symm e]
theorem V7{a:Type}{l:List a}{k:Nat}{x:a}(h:nth l k=some x):k<l.length:=by
 rw[q00]at h
 exact(List.getElem?_eq_some_iff.1 h).1
theorem z8{a:Type}(l:List a)(x:a)(j:Nat):nth (l ++ [x]) j=if j=l.length then some x else nth l j:=by
 rw[q00,q00,List.getElem?_append]
 by_cases e:j<l.length
 ·simp[e,Nat.ne_of_lt e]
 ·by_cases e2:j=l.length
  ·subst e2;simp
  ·rw[if_neg e,if_neg e2]
   have b:l[j]?=none:=List.getElem?_eq_none (by omega)
   rw[b,List.getElem?_eq_none]
   simp;omega
theorem M00{a:Type}(l:List a)(k:Nat)(x:a):(W6 l k x).length=l.length:=by rw[q04];simp
def stamp(st:St)(i:Nat):Option Nat:=match nth st.ow i with
 |some o=>some o.stamp
 |none=>none
def V06(st:St)(oe:Nat->Value):i4->Value->Prop
 | .val v,x=>x=v
 | .own i k,x=>∃ s,stamp st i=some s/\k<=s/\(k=s->x=oe i)
def Y0(st:St)(oe:Nat->Value):List i4->List Value->Prop
 | [],[]=>True
 |c::cs,v::vs=>V06 st oe c v/\Y0 st oe cs vs
 |_,_=>False
def J1(st:St)(be:Nat->Nat)(oe:Nat->Value):AV->Value->Prop
 | .val v,x=>x=v
 | .own i k,x=>∃ a,stamp st i=some a/\k<=a/\(k=a->x=oe i)
 | .box i off,x=>i<st.bx.length/\x=ptr (be i) off
 | .hel a idx sz k,x=>∃ b o n c,a = .slice (some ⟨b,o,none⟩) n c/\x=ptr b (o+(idx.toNat*sz+k))
 | .oel i d idx sz k,x=>∃ a,stamp st i=some a/\d<=a/\(d=a->∃ g n c,oe i = .slice (some ⟨g,0,none⟩) n c/\x=ptr g (idx.toNat*sz+k))
 | .agg cs,x=>∃ vs,x = .agg vs.toArray/\Y0 st oe cs vs
 | .dead,_=>True
structure U4 (st:St) (be:Nat->Nat) (oe:Nat->Value) (st':St) (be':Nat->Nat) (oe':Nat->Value):Prop where
 bl:st.bx.length<=st'.bx.length
 be:∀ i,i<st.bx.length->be' i=be i
 sm:∀ i s,stamp st i=some s->∃ s',stamp st' i=some s'/\s<=s'/\(s'=s->oe' i=oe i)
theorem U4.refl(st:St)(be:Nat->Nat)(oe:Nat->Value):U4 st be oe st be oe :=
 ⟨Nat.le_refl _,λ_ _=>rfl,λi s h=>⟨s,h,Nat.le_refl _,λ_=>rfl⟩⟩
theorem V06.grow{st st':St}{be be':Nat->Nat}{oe oe':Nat->Value}(g:U4 st be oe st' be' oe'){c:i4}{x:Value}(h:V06 st oe c x):V06 st' oe' c x:=by
 cases c with
 |val v=>exact h
 |own i k =>
  obtain⟨m,f,j,l⟩:=h
  obtain⟨n,a,b,d⟩:=g.sm i m f
  exact⟨n,a,Nat.le_trans j b,λe=>by rw[d (by omega)];exact l (by omega)⟩
theorem Y0.grow{st st':St}{be be':Nat->Nat}{oe oe':Nat->Value}(g:U4 st be oe st' be' oe'):∀ {cs:List i4} {vs:List Value},Y0 st oe cs vs->Y0 st' oe' cs vs
 | [],[],_=>trivial
 |_::_,_::_,h=>⟨h.1.grow g,Y0.grow g h.2⟩
 | [],_::_,h=>h.elim
 |_::_,[],h=>h.elim
theorem J1.grow{st st':St}{be be':Nat->Nat}{oe oe':Nat->Value}(g:U4 st be oe st' be' oe'){av:AV}{x:Value}(h:J1 st be oe av x):J1 st' be' oe' av x:=by
 cases av with
 |val v=>exact h
 |own i k =>
  obtain⟨c,a,b,l⟩:=h
  obtain⟨m,d,f,j⟩:=g.sm i c a
  exact⟨m,d,Nat.le_trans b f,λe=>by rw[j (by omega)];exact l (by omega)⟩
 |box i off=>exact⟨Nat.lt_of_lt_of_le h.1 g.bl,by rw[g.be i h.1];exact h.2⟩
 |hel c idx sz k=>exact h
 |oel i n idx sz k =>
  obtain⟨c,a,b,l⟩:=h
  obtain⟨m,d,f,j⟩:=g.sm i c a
  exact⟨m,d,Nat.le_trans b f,λe=>by rw[j (by omega)];exact l (by omega)⟩
 |agg cs=>obtain⟨vs,a,b⟩:=h;exact⟨vs,a,b.grow g⟩
 |dead=>trivial
theorem Y0.length{st:St}{oe:Nat->Value}:∀ {cs:List i4} {vs:List Value},Y0 st oe cs vs->cs.length=vs.length
 | [],[],_=>rfl
 |_::_,_::_,h=>by simp[Y0.length h.2]
 | [],_::_,h=>h.elim
 |_::_,[],h=>h.elim
theorem Y0.vals(st:St)(oe:Nat->Value):∀(vs:List Value),Y0 st oe (vals vs) vs
 | []=>trivial
 |_::r=>⟨rfl,Y0.vals st oe r⟩
theorem Y0.nth{st:St}{oe:Nat->Value}:∀ {cs:List i4} {vs:List Value} {k:Nat} {c:i4},Y0 st oe cs vs->nth cs k=some c->∃ v,vs[k]?=some v/\V06 st oe c v
 | [],_,k,c,_,h=>by simp[H.nth]at h
 |d::cs,b::vs,0,c,h,a=>by simp[H.nth]at a;subst a;exact⟨b,by simp,h.1⟩
 |d::cs,b::vs,k+1,c,h,a=>by
  simp[H.nth]at a
  obtain⟨v,e,f⟩:=Y0.nth h.2 a
  exact⟨v,by simpa using e,f⟩
 |_::_,[],_,_,h,_=>h.elim
theorem Y0.drop{st:St}{oe:Nat->Value}:∀ {cs:List i4} {vs:List Value} (k:Nat),Y0 st oe cs vs->Y0 st oe (cs.drop k) (vs.drop k)
 |cs,vs,0,h=>by simpa using h
 | [],[],k+1,h=>by simpa using h
 |_::cs,_::vs,k+1,h=>by simpa using Y0.drop k h.2
 | [],_::_,_+1,h=>h.elim
 |_::_,[],_+1,h=>h.elim
theorem Y0.take{st:St}{oe:Nat->Value}:∀ {cs:List i4} {vs:List Value} (k:Nat),Y0 st oe cs vs->Y0 st oe (cs.take k) (vs.take k)
 |cs,vs,0,h=>by simp[Y0]
 | [],[],k+1,h=>by simp[Y0]
 |_::cs,_::vs,k+1,h=>by simpa [Y0] using ⟨h.1,Y0.take k h.2⟩
 | [],_::_,_+1,h=>h.elim
 |_::_,[],_+1,h=>h.elim
theorem Y0.upd{st:St}{oe:Nat->Value}:∀ {cs:List i4} {vs:List Value} {k:Nat} {c:i4} {v:Value},Y0 st oe cs vs->V06 st oe c v->Y0 st oe (W6 cs k c) (vs.set k v)
 | [],[],k,c,v,h,a=>by simp[W6,Y0]
 |_::cs,_::vs,0,c,v,h,a=>⟨a,h.2⟩
 |_::cs,_::vs,k+1,c,v,h,a=>⟨h.1,Y0.upd h.2 a⟩
 | [],_::_,_,_,_,h,_=>h.elim
 |_::_,[],_,_,_,h,_=>h.elim
def T1:List Value->Nat->List Value->List Value
 |cs,_,[]=>cs
 |cs,off,x::r=>T1 (cs.set off x) (off+1) r
theorem Y0.splice{st:St}{oe:Nat->Value}:∀ {new:List i4} {a:List Value} {cs:List i4} {vs:List Value} {off:Nat},Y0 st oe cs vs->Y0 st oe new a->Y0 st oe (splice cs off new) (T1 vs off a)
 | [],[],cs,vs,off,h,_=>h
 |c::new,v::a,cs,vs,off,h,b=>by
  simp only[H.splice,T1]
  exact Y0.splice (h.upd b.1) b.2
 | [],_::_,_,_,_,_,h=>h.elim
 |_::_,[],_,_,_,_,h=>h.elim
theorem R4:∀(a vs:List Value) (off:Nat),(T1 vs off a).length=vs.length
 | [],vs,off=>rfl
 |n::a,vs,off=>by simp[T1,R4 a]
def u01(h H:Hp)(v:Value)(e:TypeId)(sz:Nat)(nn:Bool)(xs:List (List Value)):Prop :=
  (∀ x∈xs,x.length=sz/\∀ v∈x,v.oneCell'=true) /\
  ((v = .slice none 0 0/\xs = []/\nn=false) ∨
   ∃ g cap cur,v = .slice (some ⟨g,0,none⟩) xs.length cap/\h g=none/\H g=some (.cells cur e (0,0)) /\
     xs.length<=cap/\cap<=maxLen/\cur.size=cap*sz/\cur.toList.take (xs.length*sz)=xs.flatten)
structure Sim (P:Program) (h0:Hp) (w0:World) (be:Nat->Nat) (oe:Nat->Value) (H:Hp) (st:St) (h:Hp) (a:Act) (w:World):Prop where
 mv:L1 h0 w0 H w
 sub:∀ b o,h b=some o->H b=some o
 box:∀ i cs ty,nth st.bx i=some (.live cs ty)->h (be i)=none/\∃ vs,Y0 st oe cs vs/\H (be i)=some (.cells vs.toArray ty (0,0))
 pub:∀ i b,nth st.bx i=some (.publ b)->be i=b
 own:∀ i s e sz by_ nn xs,nth st.ow i=some ⟨s,.live e sz by_ nn xs⟩->u01 h H (oe i) e sz nn xs
 frz:∀ i s v,nth st.ow i=some ⟨s,.frozen v⟩->oe i=v
 bb:∀ i j cs ty cs' ty',nth st.bx i=some (.live cs ty)->nth st.bx j=some (.live cs' ty')->be i=be j->i=j
 oo:∀ i j s e sz by_ nn xs s' e' sz' by' nn' xs' g,nth st.ow i=some ⟨s,.live e sz by_ nn xs⟩->nth st.ow j=some ⟨s',.live e' sz' by' nn' xs'⟩ ->
  (oe i).ownBlock=some g->(oe j).ownBlock=some g->i=j
 bo:∀ i cs ty j s e sz by_ nn xs,nth st.bx i=some (.live cs ty)->nth st.ow j=some ⟨s,.live e sz by_ nn xs⟩->(oe j).ownBlock≠some (be i)
 dfr:a.defers = []
 siz:a.tmps.size=st.n
 fr:∀ s,J1 st be oe (A2 st.fr s) (a.tmps.getD s undef)
section
variable {P:Program} {h0:Hp} {w0:World} {be:Nat->Nat} {oe:Nat->Value} {H:Hp} {st:St} {h:Hp} {a:Act} {w:World}
theorem u01.block{h H:Hp}{v:Value}{e sz:Nat}{nn:Bool}{xs:List (List Value)}(o:u01 h H v e sz nn xs){g:Nat}(a:v.ownBlock=some g):
  h g=none/\∃ cap cur,v = .slice (some ⟨g,0,none⟩) xs.length cap/\H g=some (.cells cur e (0,0)):=by
 rcases o.2 with⟨rfl,_⟩|⟨d,cap,cur,rfl,b,c,_⟩
 ·simp[Value.ownBlock]at a
 ·simp[Value.ownBlock]at a
  subst a
  exact⟨b,cap,cur,rfl,c⟩
theorem u01.keep{h b H a:Hp}{v:Value}{e sz:Nat}{nn:Bool}{xs:List (List Value)}(o:u01 h H v e sz nn xs)
  (d:∀ g,v.ownBlock=some g->a g=H g/\b g=none):u01 b a v e sz nn xs:=by
 refine⟨o.1,?_⟩
 rcases o.2 with f|⟨g,cap,cur,rfl,k,c,r⟩
 ·exact .inl f
 ·obtain⟨i,j⟩:=d g rfl
  exact .inr ⟨g,cap,cur,rfl,j,by rw[i];exact c,r⟩
theorem g0f(s:Sim P h0 w0 be oe H st h a w):Vis H w:=s.mv.vis
theorem z03(c:Sim P h0 w0 be oe H st h a w):Vis h w:=λb o d=>c.mv.vis b o (c.sub b o d)
theorem Sim.moved(c:Sim P h0 w0 be oe H st h a w){l:Hp}{u:World}(m:L1 h w l u):∃ f,Sim P h0 w0 be oe f st l a u:=by
 let f:Hp:=λb=>match l b with
  |some o=>some o
  |none=>match h b with
   |some _=>none
   |none=>H b
 have y:∀ b,h b=none->H b≠none->f b=H b/\l b=none:=by
  intro b d p
  have t:b<w.heap.size:=c.mv.vis.lt p
  have v:l b=none:=m.none_of t d
  exact⟨by simp[f,v,d],v⟩
 have C:L1 H w f u:=by
  refine⟨m.os,m.tape,m.output,m.size,?_,?_,?_,m.fz,m.dn⟩
  ·intro b d p
   have:h b=none:=by
    cases hc:h b with
    |none=>rfl
    |some o=>rw[c.sub b o hc]at p;cases p
   exact m.keep b d this
  ·intro b o j
   simp only[f]at j
   split at j
   ·rename_i x s;cases j;exact m.vis b _ s
   ·split at j
    ·cases j
    ·rename_i s d
     have t:b<w.heap.size:=c.mv.vis.lt (by rw[j];simp)
     rw[m.keep b t d]
     exact c.mv.vis b o j
  ·intro b d
   simp only[f]at d
   split at d
   ·rename_i x s
    rcases m.fresh b (by simp[s])with k|k
    ·left
     cases hc:h b with
     |none=>exact absurd hc k
     |some o=>rw[c.sub b o hc];simp
    ·exact .inr k
   ·split at d
    ·exact absurd rfl d
    ·exact .inl d
 refine⟨f,⟨c.mv.trans C,?_,?_,c.pub,?_,c.frz,c.bb,c.oo,c.bo,c.dfr,c.siz,c.fr⟩⟩
 ·intro b o j;simp[f,j]
 ·intro i cs ty q
  obtain⟨k,vs,A,n⟩:=c.box i cs ty q
  obtain⟨D,E⟩:=y (be i) k (by rw[n];simp)
  exact⟨E,vs,A,by rw[D];exact n⟩
 ·intro i z e sz by_ nn xs q
  refine(c.own i z e sz by_ nn xs q).keep λg B=>?_
  obtain⟨k,cap,cur,_,n⟩:=(c.own i z e sz by_ nn xs q).block B
  exact y g k (by rw[n];simp)
theorem E3(d:Nat)(av:AV)(r:List (Nat×AV))(s:Nat):A2 ((d,av)::r) s=if d=s then av else A2 r s:=by
 simp only[A2]
 cases h:Nat.beq d s with
 |true=>simp[Nat.eq_of_beq_eq_true h]
 |false=>simp[Nat.ne_of_beq_eq_false h]
theorem Sim.put(b:Sim P h0 w0 be oe H st h a w){d:Nat}{av:AV}{v:Value}(k:d<st.n)(l:J1 st be oe av v):
  Sim P h0 w0 be oe H { st with fr:=(d,av)::st.fr } h (a.put (some d) v) w:=by
 have c:U4 st be oe { st with fr:=(d,av)::st.fr } be oe:=⟨Nat.le_refl _,λ_ _=>rfl,λi b h=>⟨b,h,Nat.le_refl _,λ_=>rfl⟩⟩
 refine⟨b.mv,b.sub,λi cs ty m=>?_,b.pub,b.own,b.frz,b.bb,b.oo,b.bo,b.dfr,by simp[Act.put,b.siz],?_⟩
 ·obtain⟨f,vs,g,j⟩:=b.box i cs ty m
  exact⟨f,vs,g.grow c,j⟩
 intro t
 refine J1.grow c ?_
 rw[E3]
 by_cases e:d=t
 ·subst e
  rw[if_pos rfl]
  have:(a.put (some d) v).tmps.getD d undef=v:=by simp[Act.put,b.siz,k]
  rw[this]
  exact l
 ·rw[if_neg e]
  have:(a.put (some d) v).tmps.getD t undef=a.tmps.getD t undef:=by simp[Act.put,Array.getElem?_setIfInBounds_ne e]
  rw[this]
  exact b.fr t
theorem Sim.newBox(d:Sim P h0 w0 be oe H st h a w){cs:List i4}{vs:List Value}{t:TypeId}{b:Nat}{I:World}(D:Y0 st oe cs vs)(C:H b=none)
  (m:L1 H w (H.set b (.cells vs.toArray t (0,0))) I) :
  let be':=λj=>if j=st.bx.length then b else be j
  let st':St := { st with bx:=st.bx ++ [.live cs t] }
  Sim P h0 w0 be' oe (H.set b (.cells vs.toArray t (0,0))) st' h a I/\U4 st be oe st' be' oe:=by
 intro be' st'
 have N:h b=none:=by
  cases n:h b with
  |none=>rfl
  |some o=>rw[d.sub b o n]at C;cases C
 have s:U4 st be oe st' be' oe:=by
  refine⟨by simp[st'],λi c=>?_,λi d O=>⟨d,O,Nat.le_refl _,λ_=>rfl⟩⟩
  simp[be',Nat.ne_of_lt c]
 have E:∀ x,H x≠none->x≠b:=λx y e=>by subst e;exact y C
 have p:∀ i cs ty,nth st.bx i=some (.live cs ty)->be' i=be i:=λi cs ty c=>by simp[be',Nat.ne_of_lt (V7 c)]
 have q:∀ i x,nth st'.bx i=some x->(i=st.bx.length/\x = .live cs t)∨(i≠st.bx.length/\nth st.bx i=some x):=by
  intro i x c
  simp only[st',z8]at c
  split at c
  ·rename_i e;simp at c;exact .inl ⟨e,c.symm⟩
  ·rename_i e;exact .inr ⟨e,c⟩
 have z:∀ i cs ty,nth st.bx i=some (.live cs ty)->be i≠b:=λi cs ty c=>by
  obtain⟨_,vs,_,l⟩:=d.box i cs ty c
  exact E _ (by rw[l];simp)
 have F:∀ i k e sz by_ nn xs g,nth st.ow i=some ⟨k,.live e sz by_ nn xs⟩->(oe i).ownBlock=some g->g≠b:=λi k e sz by_ nn xs g c D=>by
  obtain⟨_,_,_,_,l⟩:=(d.own i k e sz by_ nn xs c).block D
  exact E _ (by rw[l];simp)
 refine⟨⟨d.mv.trans m,?_,?_,?_,?_,d.frz,?_,d.oo,?_,d.dfr,d.siz,λt=>(d.fr t).grow s⟩,s⟩
 ·intro x o y
  rw[Hp.set_other _ _ (E x (by rw[d.sub x o y];simp))]
  exact d.sub x o y
 ·intro i cs' ty c
  rcases q i _ c with⟨rfl,e⟩|⟨e,f⟩
  ·cases e
   exact⟨by simp[be',N],vs,D.grow s,by simp[be',Hp.set]⟩
  ·obtain⟨B,R,M,l⟩:=d.box i cs' ty f
   rw[p i cs' ty f]
   exact⟨B,R,M.grow s,by rw[Hp.set_other _ _ (z i cs' ty f)];exact l⟩
 ·intro i J c
  rcases q i _ c with⟨_,e⟩|⟨e,f⟩
  ·cases e
  ·simp[be',e,d.pub i J f]
 ·intro i k e sz by_ nn xs c
  refine(d.own i k e sz by_ nn xs c).keep λg G=>?_
  obtain⟨B,cap,cur,_,l⟩:=(d.own i k e sz by_ nn xs c).block G
  exact⟨Hp.set_other _ _ (F i k e sz by_ nn xs g c G),B⟩
 ·intro i j K Q S T c u e
  rcases q i _ c with⟨rfl,A⟩|⟨A,f⟩<;>rcases q j _ u with⟨rfl,L⟩|⟨L,v⟩
  ·rfl
  ·rw[p j _ _ v]at e;simp[be']at e;exact absurd e.symm (z j _ _ v)
  ·rw[p i _ _ f]at e;simp[be']at e;exact absurd e (z i _ _ f)
  ·rw[p i _ _ f,p j _ _ v]at e;exact d.bb i j _ _ _ _ f v e
 ·intro i K Q j k e sz by_ nn xs c u n
  rcases q i _ c with⟨rfl,A⟩|⟨A,f⟩
  ·simp[be']at n;exact F j _ _ _ _ _ _ _ u n rfl
  ·rw[p i _ _ f]at n;exact d.bo i _ _ j _ _ _ _ _ _ f u n
theorem Sim.updBox(c:Sim P h0 w0 be oe H st h a w){i:Nat}{z cs:List i4}{vs:List Value}{t:TypeId}{E:World}(f:nth st.bx i=some (.live z t))
  (J:Y0 st oe cs vs) (m:L1 H w (H.set (be i) (.cells vs.toArray t (0,0))) E) :
  Sim P h0 w0 be oe (H.set (be i) (.cells vs.toArray t (0,0))) { st with bx:=W6 st.bx i (.live cs t) } h a E/\U4 st be oe { st with bx:=W6 st.bx i (.live cs t) } be oe:=by
 have n:U4 st be oe { st with bx:=W6 st.bx i (.live cs t) } be oe :=
  ⟨by simp[M00],λ_ _=>rfl,λi c K=>⟨c,K,Nat.le_refl _,λ_=>rfl⟩⟩
 have C:=(c.box i z t f).1
 have l:∀ j x,nth (W6 st.bx i (.live cs t)) j=some x->(j=i/\x = .live cs t)∨(j≠i/\nth st.bx j=some x):=by
  intro j x d
  rw[Q4 _ _ _ (V7 f)]at d
  split at d
  ·rename_i e;simp at d;exact .inl ⟨e,d.symm⟩
  ·rename_i e;exact .inr ⟨e,d⟩
 refine⟨⟨c.mv.trans m,?_,?_,?_,?_,c.frz,?_,c.oo,?_,c.dfr,c.siz,λt=>(c.fr t).grow n⟩,n⟩
 ·intro x o k
  have:x≠be i:=λe=>by subst e;rw[C]at k;cases k
  rw[Hp.set_other _ _ this];exact c.sub x o k
 ·intro j cs' ty d
  rcases l j _ d with⟨rfl,e⟩|⟨e,p⟩
  ·cases e;exact⟨C,vs,J.grow n,by simp[Hp.set]⟩
  ·obtain⟨v,N,I,A⟩:=c.box j cs' ty p
   have:be j≠be i:=λs=>e (c.bb j i _ _ _ _ p f s)
   exact⟨v,N,I.grow n,by rw[Hp.set_other _ _ this];exact A⟩
 ·intro j b d
  rcases l j _ d with⟨_,e⟩|⟨e,p⟩
  ·cases e
  ·exact c.pub j b p
 ·intro j y e sz by_ nn xs d
  refine(c.own j y e sz by_ nn xs d).keep λg B=>?_
  obtain⟨v,cap,cur,_,A⟩:=(c.own j y e sz by_ nn xs d).block B
  exact⟨Hp.set_other _ _ (λs=>by subst s;exact c.bo i _ _ j _ _ _ _ _ _ f d B),v⟩
 ·intro x O F M Q R k L e
  rcases l x _ k with⟨rfl,u⟩|⟨u,q⟩<;>rcases l O _ L with⟨rfl,G⟩|⟨G,D⟩
  ·rfl
  ·exact c.bb _ _ _ _ _ _ f D e
  ·exact c.bb _ _ _ _ _ _ q f e
  ·exact c.bb _ _ _ _ _ _ q D e
 ·intro x F M j y e sz by_ nn xs k d
  rcases l x _ k with⟨rfl,u⟩|⟨u,q⟩
  ·exact c.bo _ _ _ j _ _ _ _ _ _ f d
  ·exact c.bo _ _ _ j _ _ _ _ _ _ q d
end
end Go.H
namespace Go.H
set_option linter.unusedVariables false
section
variable {P:Program} {h0:Hp} {w0:World} {be:Nat->Nat} {oe:Nat->Value} {H:Hp} {st:St} {h:Hp} {a:Act} {w:World}
theorem V0b(st:St)(o:Own)(i b:Nat)(a:stamp st i=some b):stamp { st with ow:=st.ow ++ [o] } i=some b:=by
 unfold stamp at *
 have c:i<st.ow.length:=by
  cases hn:nth st.ow i with
  |none=>rw[hn]at a;cases a
  |some x=>exact V7 hn
 rw[show nth ({ st with ow:=st.ow ++ [o] }:St).ow i=nth st.ow i from by rw[z8,if_neg (Nat.ne_of_lt c)]]
 exact a
theorem Sim.newOwn(c:Sim P h0 w0 be oe H st h a w){v:Value}{e sz by_:Nat}{nn:Bool}{xs:List (List Value)}{u:Hp}{S:World}
  (K:∀ b o,H b=some o->u b=some o) (m:L1 H w u S) (W:u01 h u v e sz nn xs) (O:∀ g,v.ownBlock=some g->H g=none) :
  let oe':=λj=>if j=st.ow.length then v else oe j
  let st':St := { st with ow:=st.ow ++ [⟨0,.live e sz by_ nn xs⟩] }
  Sim P h0 w0 be oe' u st' h a S/\U4 st be oe st' be oe':=by
 intro oe' st'
 have J:U4 st be oe st' be oe':=by
  refine⟨Nat.le_refl _,λ_ _=>rfl,λi c D=>⟨c,V0b st _ i c D,Nat.le_refl _,λ_=>?_⟩⟩
  have V:i<st.ow.length:=by
   unfold stamp at D
   cases hn:nth st.ow i with
   |none=>rw[hn]at D;cases D
   |some x=>exact V7 hn
  simp[oe',Nat.ne_of_lt V]
 have y:∀ i x,nth st'.ow i=some x->(i=st.ow.length/\x=⟨0,.live e sz by_ nn xs⟩)∨(i≠st.ow.length/\nth st.ow i=some x):=by
  intro i x d
  simp only[st',z8]at d
  split at d
  ·rename_i e;simp at d;exact .inl ⟨e,d.symm⟩
  ·rename_i e;exact .inr ⟨e,d⟩
 have X:∀ b,H b≠none->u b=H b:=by
  intro b L
  cases l:H b with
  |none=>exact absurd l L
  |some o=>exact K b o l
 refine⟨⟨c.mv.trans m,λb o L=>K b o (c.sub b o L),?_,c.pub,?_,?_,c.bb,?_,?_,c.dfr,c.siz,λt=>(c.fr t).grow J⟩,J⟩
 ·intro i cs ty d
  obtain⟨B,vs,T,f⟩:=c.box i cs ty d
  exact⟨B,vs,T.grow J,K _ _ f⟩
 ·intro i R A F z E G d
  rcases y i _ d with⟨rfl,n⟩|⟨n,p⟩
  ·cases n
   simp only[oe',if_pos rfl]
   exact W
  ·simp only[oe',if_neg n]
   refine(c.own i _ _ _ _ _ _ p).keep λg M=>?_
   obtain⟨B,cap,cur,_,f⟩:=(c.own i _ _ _ _ _ _ p).block M
   exact⟨X g (by rw[f];simp),B⟩
 ·intro i R Y d
  rcases y i _ d with⟨rfl,n⟩|⟨n,p⟩
  ·cases n
  ·simp only[oe',if_neg n];exact c.frz i R Y p
 ·intro i j s1 A F z E G s2 n ab Z aa ac g d N gi s
  have Q:∀ k s1 A F z E G,nth st.ow k=some ⟨s1,.live A F z E G⟩->(oe k).ownBlock=some g->v.ownBlock≠some g:=λk _ _ _ _ _ _ U M l=>by
   obtain⟨B,cap,cur,_,f⟩:=(c.own k _ _ _ _ _ _ U).block M
   rw[O g l]at f;cases f
  rcases y i _ d with⟨rfl,I⟩|⟨I,p⟩<;>rcases y j _ N with⟨rfl,q⟩|⟨q,C⟩
  ·rfl
  ·simp only[oe',if_pos rfl]at gi;simp only[oe',if_neg q]at s;exact absurd gi (Q j _ _ _ _ _ _ C s)
  ·simp only[oe',if_neg I]at gi;simp only[oe',if_pos rfl]at s;exact absurd s (Q i _ _ _ _ _ _ p gi)
  ·simp only[oe',if_neg I]at gi;simp only[oe',if_neg q]at s;exact c.oo i j _ _ _ _ _ _ _ _ _ _ _ _ g p C gi s
 ·intro i cs ty j s1 A F z E G d N l
  rcases y j _ N with⟨rfl,q⟩|⟨q,C⟩
  ·simp only[oe',if_pos rfl]at l
   obtain⟨_,vs,_,f⟩:=c.box i cs ty d
   rw[O _ l]at f;cases f
  ·simp only[oe',if_neg q]at l;exact c.bo i cs ty j _ _ _ _ _ _ d C l
theorem Sim.updOwn(c:Sim P h0 w0 be oe H st h a w){i S ad am ac:Nat}{al:Bool}{ao:List (List Value)}(F:nth st.ow i=some ⟨S,.live ad am ac al ao⟩)
  {v:Value} {s1 e sz by_:Nat} {nn:Bool} {xs:List (List Value)} {L:Hp} {ab:World} (ah:S<=s1) (ai:s1=S->v=oe i)
  (m:L1 H w L ab) (Q:∀ b,(oe i).ownBlock≠some b->H b≠none->L b=H b) (ag:u01 h L v e sz nn xs)
  (X:∀ g,v.ownBlock=some g->(oe i).ownBlock=some g∨H g=none) :
  let oe':=λj=>if j=i then v else oe j
  let st':St := { st with ow:=W6 st.ow i ⟨s1,.live e sz by_ nn xs⟩ }
  Sim P h0 w0 be oe' L st' h a ab/\U4 st be oe st' be oe':=by
 intro oe' st'
 have W:=V7 F
 have N:U4 st be oe st' be oe':=by
  refine⟨Nat.le_refl _,λ_ _=>rfl,λj t G=>?_⟩
  unfold stamp at G ⊢
  simp only[st',Q4 _ _ _ W]
  by_cases p:j=i
  ·subst p
   rw[F]at G
   simp at G
   subst G
   refine⟨s1,by simp,ah,λl=>?_⟩
   simp only[oe',if_pos rfl];exact ai l
  ·rw[if_neg p]
   refine⟨t,G,Nat.le_refl _,λ_=>?_⟩
   simp only[oe',if_neg p]
 have E:∀ j x,nth st'.ow j=some x->(j=i/\x=⟨s1,.live e sz by_ nn xs⟩)∨(j≠i/\nth st.ow j=some x):=by
  intro j x d
  simp only[st',Q4 _ _ _ W]at d
  split at d
  ·rename_i e;simp at d;exact .inl ⟨e,d.symm⟩
  ·rename_i e;exact .inr ⟨e,d⟩
 have ae:∀ g,(oe i).ownBlock=some g->h g=none:=λg z=>((c.own i _ _ _ _ _ _ F).block z).1
 have R:∀ j s1 p J D I K g,j≠i->nth st.ow j=some ⟨s1,.live p J D I K⟩->(oe j).ownBlock=some g->(oe i).ownBlock≠some g/\v.ownBlock≠some g:=by
  intro j s1 p J D I K g af d z
  have q:(oe i).ownBlock≠some g:=λf=>af (c.oo j i _ _ _ _ _ _ _ _ _ _ _ _ g d F z f)
  refine⟨q,λf=>?_⟩
  rcases X g f with s|s
  ·exact q s
  ·obtain⟨_,cap,cur,_,n⟩:=(c.own j _ _ _ _ _ _ d).block z
   rw[s]at n;cases n
 have U:∀ k cs ty,nth st.bx k=some (.live cs ty)->(oe i).ownBlock≠some (be k)/\v.ownBlock≠some (be k):=by
  intro k cs ty u
  have q:=c.bo k cs ty i _ _ _ _ _ _ u F
  refine⟨q,λf=>?_⟩
  rcases X _ f with s|s
  ·exact q s
  ·obtain⟨_,vs,_,n⟩:=c.box k cs ty u
   rw[s]at n;cases n
 refine⟨⟨c.mv.trans m,?_,?_,c.pub,?_,?_,c.bb,?_,?_,c.dfr,c.siz,λt=>(c.fr t).grow N⟩,N⟩
 ·intro b o O
  have V:=c.sub b o O
  rw[Q b (λf=>by rw[ae b f]at O;cases O) (by rw[V];simp)]
  exact V
 ·intro k cs ty u
  obtain⟨q,vs,s,n⟩:=c.box k cs ty u
  exact⟨q,vs,s.grow N,by rw[Q _ (U k cs ty u).1 (by rw[n];simp)];exact n⟩
 ·intro j aa p J D I K d
  rcases E j _ d with⟨rfl,l⟩|⟨l,A⟩
  ·cases l
   simp only[oe',if_pos rfl]
   exact ag
  ·simp only[oe',if_neg l]
   refine(c.own j _ _ _ _ _ _ A).keep λg z=>?_
   obtain⟨q,cap,cur,_,n⟩:=(c.own j _ _ _ _ _ _ A).block z
   exact⟨Q g (R j _ _ _ _ _ _ g l A z).1 (by rw[n];simp),q⟩
 ·intro j aa an d
  rcases E j _ d with⟨rfl,l⟩|⟨l,A⟩
  ·cases l
  ·simp only[oe',if_neg l];exact c.frz j aa an A
 ·intro x T s1 p J D I K s2 l ar ap aq au g aj ak B C
  rcases E x _ aj with⟨rfl,M⟩|⟨M,Y⟩<;>rcases E T _ ak with⟨rfl,y⟩|⟨y,Z⟩
  ·rfl
  ·simp only[oe',if_pos rfl]at B;simp only[oe',if_neg y]at C;exact absurd B (R T _ _ _ _ _ _ g y Z C).2
  ·simp only[oe',if_neg M]at B;simp only[oe',if_pos rfl]at C;exact absurd C (R x _ _ _ _ _ _ g M Y B).2
  ·simp only[oe',if_neg M]at B;simp only[oe',if_neg y]at C;exact c.oo x T _ _ _ _ _ _ _ _ _ _ _ _ g Y Z B C
 ·intro k cs ty j s1 p J D I K u d f
  rcases E j _ d with⟨rfl,y⟩|⟨y,A⟩
  ·simp only[oe',if_pos rfl]at f;exact(U k cs ty u).2 f
  ·simp only[oe',if_neg y]at f;exact c.bo k cs ty j _ _ _ _ _ _ u A f
theorem Sim.freeze(c:Sim P h0 w0 be oe H st h a w){i n e sz by_:Nat}{nn:Bool}{xs:List (List Value)}(v:nth st.ow i=some ⟨n,.live e sz by_ nn xs⟩):
  ∃ l,U0 h l (oe i) e sz nn xs/\Sim P h0 w0 be oe H { st with ow:=W6 st.ow i ⟨n,.frozen (oe i)⟩ } l a w /\
   U4 st be oe { st with ow:=W6 st.ow i ⟨n,.frozen (oe i)⟩ } be oe:=by
 have N:=V7 v
 have G:=c.own i _ _ _ _ _ _ v
 have z:U4 st be oe { st with ow:=W6 st.ow i ⟨n,.frozen (oe i)⟩ } be oe:=by
  refine⟨Nat.le_refl _,λ_ _=>rfl,λj t B=>⟨t,?_,Nat.le_refl _,λ_=>rfl⟩⟩
  unfold stamp at B ⊢
  simp only[Q4 _ _ _ N]
  by_cases s:j=i
  ·subst s;rw[v]at B;simpa using B
  ·rw[if_neg s];exact B
 have q:∀ j x,nth (W6 st.ow i ⟨n,.frozen (oe i)⟩) j=some x->(j=i/\x=⟨n,.frozen (oe i)⟩)∨(j≠i/\nth st.ow j=some x):=by
  intro j x d
  simp only[Q4 _ _ _ N]at d
  split at d
  ·rename_i e;simp at d;exact .inl ⟨e,d.symm⟩
  ·rename_i e;exact .inr ⟨e,d⟩
 have O:∀ l,(∀ b,(oe i).ownBlock≠some b->l b=h b)->(∀ b o,l b=some o->H b=some o) ->
   Sim P h0 w0 be oe H { st with ow:=W6 st.ow i ⟨n,.frozen (oe i)⟩ } l a w:=by
  intro l M Z
  refine⟨c.mv,Z,?_,c.pub,?_,?_,c.bb,?_,?_,c.dfr,c.siz,λt=>(c.fr t).grow z⟩
  ·intro k cs ty A
   obtain⟨D,vs,E,X⟩:=c.box k cs ty A
   exact⟨by rw[M _ (c.bo k cs ty i _ _ _ _ _ _ A v)];exact D,vs,E.grow z,X⟩
  ·intro j R s S J Q T d
   rcases q j _ d with⟨rfl,f⟩|⟨f,m⟩
   ·cases f
   ·refine(c.own j _ _ _ _ _ _ m).keep λg L=>⟨rfl,?_⟩
    rw[M g (λF=>f (c.oo j i _ _ _ _ _ _ _ _ _ _ _ _ g m v L F))]
    exact((c.own j _ _ _ _ _ _ m).block L).1
  ·intro j R ad d
   rcases q j _ d with⟨rfl,f⟩|⟨f,m⟩
   ·cases f;rfl
   ·exact c.frz j R ad m
  ·intro x U s1 s S J Q T s2 f ag ae af ah g I ab V W
   rcases q x _ I with⟨rfl,K⟩|⟨K,aa⟩<;>rcases q U _ ab with⟨rfl,u⟩|⟨u,ac⟩
   ·rfl
   ·cases K
   ·cases u
   ·exact c.oo x U _ _ _ _ _ _ _ _ _ _ _ _ g aa ac V W
  ·intro k cs ty j s1 s S J Q T A d F
   rcases q j _ d with⟨rfl,u⟩|⟨u,m⟩
   ·cases u
   ·exact c.bo k cs ty j _ _ _ _ _ _ A m F
 rcases G.2 with⟨C,I,Y⟩|⟨g,cap,cur,C,D,E,r⟩
 ·exact⟨h,⟨G.1,.inl ⟨C,I,Y,rfl⟩⟩,O h (λ_ _=>rfl) c.sub,z⟩
 ·refine⟨h.set g (.cells cur e (0,0)),⟨G.1,.inr ⟨g,cap,cur,C,D,rfl,r⟩⟩,O _ ?_ ?_,z⟩
  ·intro b p
   exact Hp.set_other _ _ (λy=>p (by rw[C];simp[Value.ownBlock,y]))
  ·intro b o p
   by_cases y:b=g
   ·subst y;simp[Hp.set]at p;subst p;exact E
   ·rw[Hp.set_other _ _ y]at p;exact c.sub b o p
theorem Sim.publ(c:Sim P h0 w0 be oe H st h a w){i:Nat}{cs:List i4}{ty:TypeId}(p:nth st.bx i=some (.live cs ty)){vs:List Value}
  (F:H (be i)=some (.cells vs.toArray ty (0,0))) :
  h (be i)=none/\Sim P h0 w0 be oe H { st with bx:=W6 st.bx i (.publ (be i)) } (h.set (be i) (.cells vs.toArray ty (0,0))) a w /\
   U4 st be oe { st with bx:=W6 st.bx i (.publ (be i)) } be oe:=by
 have I:=V7 p
 have G:=(c.box i cs ty p).1
 have s:U4 st be oe { st with bx:=W6 st.bx i (.publ (be i)) } be oe :=
  ⟨by simp[M00],λ_ _=>rfl,λj t J=>⟨t,J,Nat.le_refl _,λ_=>rfl⟩⟩
 have m:∀ j x,nth (W6 st.bx i (.publ (be i))) j=some x->(j=i/\x = .publ (be i))∨(j≠i/\nth st.bx j=some x):=by
  intro j x d
  simp only[Q4 _ _ _ I]at d
  split at d
  ·rename_i e;simp at d;exact .inl ⟨e,d.symm⟩
  ·rename_i e;exact .inr ⟨e,d⟩
 refine⟨G,⟨c.mv,?_,?_,?_,?_,c.frz,?_,c.oo,?_,c.dfr,c.siz,λt=>(c.fr t).grow s⟩,s⟩
 ·intro b o n
  by_cases f:b=be i
  ·subst f;simp[Hp.set]at n;subst n;exact F
  ·rw[Hp.set_other _ _ f]at n;exact c.sub b o n
 ·intro k cs' N u
  rcases m k _ u with⟨rfl,e⟩|⟨e,q⟩
  ·cases e
  ·obtain⟨C,Q,D,E⟩:=c.box k cs' N q
   exact⟨by rw[Hp.set_other _ _ (λf=>e (c.bb k i _ _ _ _ q p f))];exact C,Q,D.grow s,E⟩
 ·intro k b u
  rcases m k _ u with⟨rfl,e⟩|⟨e,q⟩
  ·cases e;rfl
  ·exact c.pub k b q
 ·intro j M l V S U X d
  refine(c.own j _ _ _ _ _ _ d).keep λg A=>⟨rfl,?_⟩
  rw[Hp.set_other _ _ (λf=>by subst f;exact c.bo i cs ty j _ _ _ _ _ _ p d A)]
  exact((c.own j _ _ _ _ _ _ d).block A).1
 ·intro x R B O T W v K e
  rcases m x _ v with⟨_,l⟩|⟨l,y⟩
  ·cases l
  rcases m R _ K with⟨_,z⟩|⟨z,L⟩
  ·cases z
  exact c.bb _ _ _ _ _ _ y L e
 ·intro x B O j M e sz by_ nn xs v d
  rcases m x _ v with⟨_,l⟩|⟨l,y⟩
  ·cases l
  ·exact c.bo _ _ _ j _ _ _ _ _ _ y d
theorem Sim.rdA(e:Sim P h0 w0 be oe H st h a w){av:AV}{x:Value}(g:J1 st be oe av x):J1 st be oe (rdA st av) x:=by
 cases av with
 |own i k =>
  simp only[Go.H.rdA]
  split
  ·rename_i n o c
   split
   ·rename_i l
    have m:=Nat.eq_of_beq_eq_true l
    split
    ·exact g
    ·rename_i v
     obtain⟨t,d,_,j⟩:=g
     have:t=n:=by simp[stamp,c]at d;exact d.symm
     subst this
     have:=j m.symm
     rw[e.frz i _ v c]at this
     exact this
   ·trivial
  ·trivial
 |box i off =>
  simp only[Go.H.rdA]
  split
  ·exact g
  ·rename_i b c
   have:=g.2
   rw[e.pub i b c]at this
   exact this
  ·trivial
 |oel i k idx sz f =>
  simp only[Go.H.rdA]
  split
  ·split
   ·exact g
   ·trivial
  ·trivial
 |_=>exact g
theorem Sim.rdO(s:Sim P h0 w0 be oe H st h a w)(x:Operand):J1 st be oe (rdO st x) (a.eval x):=by
 cases x with
 |tmp t=>exact s.rdA (s.fr t)
 |const v=>rfl
 |global g=>trivial
 |func f=>rfl
theorem J01{st:St}{av:AV}{i k:Nat}(h:Go.H.rdA st av = .own i k):∃ e sz by_ nn xs,nth st.ow i=some ⟨k,.live e sz by_ nn xs⟩:=by
 cases av with
 |own j l =>
  simp only[Go.H.rdA]at h
  split at h
  ·rename_i c o a
   split at h
   ·rename_i b
    split at h
    ·cases h
     rw[Nat.eq_of_beq_eq_true b]at a
     exact⟨_,_,_,_,_,a⟩
    ·cases h
   ·cases h
  ·cases h
 |box j off=>simp only[Go.H.rdA]at h;split at h<;>cases h
 |oel j l idx sz f=>simp only[Go.H.rdA]at h;split at h<;>(try split at h)<;>cases h
 |_=>cases h
theorem K01{st:St}{x:Operand}{i k:Nat}(h:Go.H.rdO st x = .own i k):∃ e sz by_ nn xs,nth st.ow i=some ⟨k,.live e sz by_ nn xs⟩:=by
 cases x with
 |tmp t=>exact J01 h
 |_=>cases h
theorem s09{st:St}{av:AV}{i k:Nat}{idx:Int}{sz f:Nat}(h:Go.H.rdA st av = .oel i k idx sz f):∃ e c by_ nn xs,nth st.ow i=some ⟨k,.live e c by_ nn xs⟩:=by
 cases av with
 |own j l=>simp only[Go.H.rdA]at h;split at h<;>(try split at h)<;>(try split at h)<;>cases h
 |box j off=>simp only[Go.H.rdA]at h;split at h<;>cases h
 |oel j l idx sz f =>
  simp only[Go.H.rdA]at h
  split at h
  ·rename_i n g o d m p a
   split at h
   ·rename_i b
    cases h
    rw[Nat.eq_of_beq_eq_true b]at a
    exact⟨_,_,_,_,_,a⟩
   ·cases h
  ·cases h
 |_=>cases h
theorem M0c{st:St}{x:Operand}{i k:Nat}{idx:Int}{sz f:Nat}(h:Go.H.rdO st x = .oel i k idx sz f):∃ e a by_ nn xs,nth st.ow i=some ⟨k,.live e a by_ nn xs⟩:=by
 cases x with
 |tmp t=>exact s09 h
 |_=>cases h
theorem J1.own_cur{st:St}{be:Nat->Nat}{oe:Nat->Value}{i k:Nat}{x:Value}{o:OSt}(g:J1 st be oe (.own i k) x)(c:nth st.ow i=some ⟨k,o⟩):x=oe i:=by
 obtain⟨d,a,_,b⟩:=g
 have:d=k:=by simp[stamp,c]at a;exact a.symm
 exact b this.symm
theorem J1.oel_cur{st:St}{be:Nat->Nat}{oe:Nat->Value}{i k:Nat}{idx:Int}{sz f:Nat}{x:Value}{o:OSt}(g:J1 st be oe (.oel i k idx sz f) x)(d:nth st.ow i=some ⟨k,o⟩):
  ∃ g n c,oe i = .slice (some ⟨g,0,none⟩) n c/\x=ptr g (idx.toNat*sz+f):=by
 obtain⟨e,a,_,b⟩:=g
 have:e=k:=by simp[stamp,d]at a;exact a.symm
 exact b this.symm
theorem C02{st:St}:∀ {cs:List i4} {vs a:List Value},J06 cs=some vs->Y0 st oe cs a->a=vs
 | [],vs,[],h,_=>by cases h;rfl
 | [],vs,_::_,h,g=>g.elim
 | .val v::r,vs,[],h,g=>g.elim
 | .val v::r,vs,w::a,h,g=>by
  simp only[J06]at h
  split at h
  ·rename_i e d
   cases h
   obtain⟨b,c⟩:=g
   rw[C02 d c,show w=v from b]
  ·cases h
 | .own i k::r,vs,a,h,g=>by cases h
theorem a5{st:St}{av:AV}{v x:Value}(h:l00 av=some v)(g:J1 st be oe av x):x=v:=by
 cases av with
 |val u=>cases h;exact g
 |agg cs =>
  simp only[l00]at h
  split at h
  ·rename_i vs b
   cases h
   obtain⟨c,rfl,a⟩:=g
   rw[C02 b a]
  ·cases h
 |_=>cases h
end
end Go.H
namespace Go.H
set_option linter.unusedVariables false
theorem Z0{P:Program}{i g:Type}(d:Sem i)(f:i->Sem g):∀(h:Hp) (K:g->Hp->Prop),wpS P (d >>= f) h K=wpS P d h (λx e=>wpS P (f x) e K):=by
 change ∀(h:Hp) (K:g->Hp->Prop),wpS P (d.bind f) h K=wpS P d h (λx e=>wpS P (f x) e K)
 induction d with
 |pure a=>intro h K;rfl
 |load m a k b=>intro h K;simp only[Sem.bind,wpS,b]
 |store m a v k b=>intro h K;simp only[Sem.bind,wpS,b]
 |new o k b=>intro h K;simp only[Sem.bind,wpS,b]
 |shape r k b=>intro h K;simp only[Sem.bind,wpS,b]
 |freeze a n k b=>intro h K;rfl
 |frozen a k b=>intro h K;simp only[Sem.bind,wpS,b]
 |getObj r k b=>intro h K;simp only[Sem.bind,wpS,b]
 |setObj r o k b=>intro h K;simp only[Sem.bind,wpS,b]
 |choose q k b=>intro h K;simp only[Sem.bind,wpS,b]
 |sys c k b=>intro h K;rfl
 |program k b=>intro h K;simp only[Sem.bind,wpS,b]
 |mark m k b=>intro h K;simp only[Sem.bind,wpS,b]
 |halt x=>intro h K;rfl
theorem K1{P:Program}{a:Type}(x:a)(h:Hp)(K:a->Hp->Prop):wpS P (pure x) h K=K x h:=rfl
theorem N0c{P:Program}{e:Type}(d:Sem e){x:e}(b:evP P d=some x):∀ w:World,d.run P w = .ok x w:=by
 induction d with
 |pure a=>intro w;simp only[evP,Option.some.injEq]at b;subst b;rfl
 |program k c=>intro w;exact c _ b w
 |mark m k c=>intro w;exact c b w
 |_=>simp[evP]at b
theorem b03(a:Operand->Value):∀ l:List Operand,m09 a l=l.map a
 | []=>rfl
 |x::r=>by simp only[m09,List.map_cons,b03 a r]
theorem O0c:∀ a b:List Value,Q0e a b=a++b
 | [],b=>rfl
 |x::r,b=>by simp only[Q0e,List.cons_append,O0c r b]
theorem v01:∀ l:List Operand,t02 l=l.map fun | .const _=>true|_=>false
 | []=>rfl
 | .const _::r=>by simp only[t02,List.map_cons,v01 r]
 | .tmp _::r=>by simp only[t02,List.map_cons,v01 r]
 | .global _::r=>by simp only[t02,List.map_cons,v01 r]
 | .func _::r=>by simp only[t02,List.map_cons,v01 r]
theorem W06(a:Operand->Value)(o:Oper):i0a a o=execOp a o:=by
 unfold i0a
 split
 ·rename_i c d
  obtain⟨i,as,j⟩:=c
  split
  ·rename_i b g
   simp only at g
   subst g
   unfold execOp
   rw[d]
   simp only[resolve,b03,v01]
   rw[show(List.map a as.toList).toArray=as.map a from by apply Array.ext';simp]
   have h:∀ f:Operand->Bool,(List.map f as.toList).toArray=as.map f:=λf=>by apply Array.ext';simp
   rw[h]
   rfl
  ·rfl
 ·rename_i fn first e d
  unfold execOp
  rw[d]
  simp only[b03]
  rw[show(List.map a first.toList).toArray=first.map a from by apply Array.ext';simp,show(List.map a e.toList).toArray=e.map a from by apply Array.ext';simp]
 ·rfl
theorem c03{P:Program}{e:Operand->Value}{o:Oper}{f:FuncId}{l:List Value}(a:s03 e o=some (f,l))(b:okF P f=true)(w:World):(execOp e o).run P w = .ok (.enter f l.toArray) w:=by
 unfold s03 at a
 split at a
 ·rename_i c i
  obtain⟨m,as,q⟩:=c
  split at a
  ·rename_i x d
   simp only at d
   subst d
   split at a
   ·rename_i p first n j
    cases a
    unfold okF at b
    split at b
    ·rename_i fn hf
     split at b
     ·rename_i k g
      split at b
      ·cases b
      ·rename_i h
       unfold execOp
       rw[i]
       simp only[resolve,j,Deferred.ofValue,Sem.run_bind,Sem.run_pure,Result.andThen_ok,invoke,callFunc,program,Sem.run,hf,h,g,Bool.false_eq_true,if_false,Option.isNone_some]
       congr 2
       apply Array.ext'
       simp[O0c,b03]
     ·cases b
    ·cases b
   ·cases a
  ·cases a
 ·cases a
section
variable {P:Program} {h0:Hp} {w0:World} {be:Nat->Nat} {oe:Nat->Value} {H:Hp} {st:St} {h:Hp} {a:Act} {w:World}
theorem U4.trans{st h j:St}{be a b:Nat->Nat}{oe d f:Nat->Value}(g:U4 st be oe h a d)(k:U4 h a d j b f):U4 st be oe j b f:=by
 refine⟨Nat.le_trans g.bl k.bl,λi c=>?_,λi t s=>?_⟩
 ·rw[k.be i (Nat.lt_of_lt_of_le c g.bl),g.be i c]
 ·obtain⟨s1,l,m,n⟩:=g.sm i t s
  obtain⟨s2,o,p,q⟩:=k.sm i s1 l
  exact⟨s2,o,Nat.le_trans m p,λe=>by rw[q (by omega),n (by omega)]⟩
theorem r04(o:Sim P h0 w0 be oe H st h a w){i k:Nat}{x:Value}(g:∃ t,stamp st i=some t/\k<=t/\(k=t->x=oe i)){K:Value->St->Hp->Prop}
  (b:l09 i k st h K):∃ st' f,K x st' f/\Sim P h0 w0 be oe H st' f a w/\U4 st be oe st' be oe/\st'.bx=st.bx:=by
 unfold l09 at b
 obtain⟨t,d,_,q⟩:=g
 split at b
 ·rename_i p e sz by_ nn xs c
  split at b
  ·rename_i j
   have l:=Nat.eq_of_beq_eq_true j
   have m:t=p:=by simp[stamp,c]at d;exact d.symm
   have n:x=oe i:=q (by rw[m,l])
   obtain⟨f,s,f2,f3⟩:=o.freeze c
   rw[n]
   exact⟨_,f,b _ _ s,f2,f3,rfl⟩
  ·exact b.elim
 ·rename_i p v c
  split at b
  ·rename_i j
   have l:=Nat.eq_of_beq_eq_true j
   have m:t=p:=by simp[stamp,c]at d;exact d.symm
   have n:x=v:=by rw[q (by rw[m,l]),o.frz i _ v c]
   rw[n]
   exact⟨st,h,b,o,U4.refl _ _ _,rfl⟩
  ·exact b.elim
 ·exact b.elim
theorem W8:∀(cs:List i4) {st:St} {h:Hp} {vs:List Value} {K:List Value->St->Hp->Prop},Sim P h0 w0 be oe H st h a w->Y0 st oe cs vs->s02 cs st h K ->
  ∃ st' d,K vs st' d/\Sim P h0 w0 be oe H st' d a w/\U4 st be oe st' be oe/\st'.bx=st.bx
 | [],st,h,[],K,c,_,b=>⟨st,h,b,c,U4.refl _ _ _,rfl⟩
 | .val v::r,st,h,x::vs,K,c,g,b=>by
  have p:x=v:=g.1
  subst p
  obtain⟨st',d,q,s⟩:=W8 r c g.2 b
  exact⟨st',d,q,s⟩
 | .own i k::r,st,h,x::vs,K,c,g,b=>by
  obtain⟨y,u,f,s1,e,n⟩:=r04 c g.1 b
  obtain⟨t,m,j,s2,l,o⟩:=W8 r s1 (g.2.grow e) f
  exact⟨t,m,j,s2,e.trans l,o.trans n⟩
 | [],_,_,_::_,_,_,g,_=>g.elim
 |_::_,_,_,[],_,_,g,_=>g.elim
theorem P8(d:Sim P h0 w0 be oe H st h a w){av:AV}{x:Value}(g:J1 st be oe av x){K:Value->St->Hp->Prop}(c:rfy av st h K):
  ∃ st' e,K x st' e/\Sim P h0 w0 be oe H st' e a w/\U4 st be oe st' be oe:=by
 cases av with
 |val v=>have j:x=v:=g;subst j;exact⟨st,h,c,d,U4.refl _ _ _⟩
 |own i k=>obtain⟨st',e,m,n,o,_⟩:=r04 d g c;exact⟨st',e,m,n,o⟩
 |box i off =>
  have j:=g.2
  simp only[rfy,P0e]at c
  split at c
  ·rename_i cells ty f
   obtain⟨D,vs,l,t⟩:=d.box i cells ty f
   obtain⟨B,C,p,s1,s,q⟩:=W8 cells d l c
   have u:nth B.bx i=some (.live cells ty):=by rw[q];exact f
   obtain⟨y,z,A⟩:=s1.publ u t
   rw[j]
   exact⟨_,_,p (be i) y,z,s.trans A⟩
  ·rename_i b f
   rw[j,d.pub i b f]
   exact⟨st,h,c,d,U4.refl _ _ _⟩
  ·exact c.elim
 |agg cs =>
  obtain⟨vs,rfl,l⟩:=g
  obtain⟨st',e,m,n,o,_⟩:=W8 cs d l c
  exact⟨st',e,m,n,o⟩
 |_=>exact c.elim
theorem Y8:∀(l:List Operand) {st:St} {h:Hp} {K:List (Nat×Value)->St->Hp->Prop},Sim P h0 w0 be oe H st h a w->I06 l st h K ->
  ∃ vs st' o,K vs st' o/\Sim P h0 w0 be oe H st' o a w/\U4 st be oe st' be oe/\(∀ p∈vs,p.2=a.eval (.tmp p.1))/\(∀ x∈l,(∃ t v,x = .tmp t/\(t,v)∈vs)∨(∀ A,rho A x=a.eval x))
 | [],st,h,K,d,c=>⟨[],st,h,c,d,U4.refl _ _ _,by simp,by simp⟩
 | .tmp t::r,st,h,K,d,c=>by
  obtain⟨C,B,q,s1,s⟩:=P8 d (d.rdO (.tmp t)) c
  obtain⟨vs,m,i,e,s2,g,j,k⟩:=Y8 r s1 q
  refine⟨_,m,i,e,s2,s.trans g,?_,?_⟩
  ·intro p n
   rcases List.mem_cons.1 n with rfl|n
   ·rfl
   ·exact j p n
  ·intro x b
   rcases List.mem_cons.1 b with rfl|b
   ·exact .inl ⟨t,_,rfl,mS⟩
   ·rcases k x b with⟨y,z,rfl,u⟩|hf
    ·exact .inl ⟨y,z,rfl,mC _ u⟩
    ·exact .inr hf
 | .const v::r,st,h,K,d,c=>by
  obtain⟨vs,m,i,e,s2,g,j,k⟩:=Y8 r d c
  refine⟨vs,m,i,e,s2,g,j,λx b=>?_⟩
  rcases List.mem_cons.1 b with rfl|b
  ·exact .inr λ_=>rfl
  ·exact k x b
 | .func f::r,st,h,K,d,c=>by
  obtain⟨vs,m,i,e,s2,g,j,k⟩:=Y8 r d c
  refine⟨vs,m,i,e,s2,g,j,λx b=>?_⟩
  rcases List.mem_cons.1 b with rfl|b
  ·exact .inr λ_=>rfl
  ·exact k x b
 | .global _::_,_,_,_,_,c=>c.elim
theorem p05:∀(vs:List (Nat×Value)) (t:Nat) (a:Value),(∀ p∈vs,p.1=t->p.2=a)->(∃ v,(t,v)∈vs)->D0c vs t=a
 | [],t,a,_,h=>by obtain⟨v,g⟩:=h;cases g
 |(k,v)::r,t,a,d,h=>by
  simp only[D0c]
  split
  ·rename_i b
   exact d (k,v) mS (Nat.eq_of_beq_eq_true b)
  ·rename_i b
   refine p05 r t a (λp f=>d p (mC _ f)) ?_
   obtain⟨u,c⟩:=h
   rcases List.mem_cons.1 c with e|c
   ·cases e;exact absurd rfl (Nat.ne_of_beq_eq_false b)
   ·exact⟨u,c⟩
theorem q05{o:Oper}{vs:List (Nat×Value)}(c:X05 o.op=false)(d:∀ p∈vs,p.2=a.eval (.tmp p.1))
  (f:∀ x∈o.op.operands.toList,(∃ t v,x = .tmp t/\(t,v)∈vs)∨(∀ k,rho k x=a.eval x)):execOp (rho vs) o=execOp a.eval o:=by
 refine execOp_congr o (λcs b g=>by rw[g]at c;cases c) λx j=>?_
 rcases f x (by simpa using j)with⟨t,v,rfl,h⟩|hf
 ·exact p05 vs t _ (λp i e=>by rw[d p i,e]) ⟨v,h⟩
 ·exact hf vs
def Nx(P:Program)(h0:Hp)(w0:World)(g:St)(e:Nat->Nat)(f:Nat->Value)(K:AV->St->Hp->Prop)(a:Act)(d:Option Tmp):Act->World->Prop:=λc h =>
 ∃ av st' b v be oe H,K av st' b/\c=a.put d v/\Sim P h0 w0 be oe H st' b a h/\J1 st' be oe av v/\U4 g e f st' be oe
theorem A5{o:Oper}{next:Act->World->Prop}{Q:Exit->Act->World->Prop}{v:Value}{b:World}(d:(execOp a.eval o).run P w = .ok (.value v) b)
  (c:next (a.put o.dst v) b):o.wp P a w next Q:=by
 unfold Oper.wp;rw[d];exact c
theorem s04{o:Oper}{next:Act->World->Prop}{Q:Exit->Act->World->Prop}{w':World}(hr:(execOp a.eval o).run P w = .ok .skip w')
  (hn:next (a.put o.dst undef) w'):o.wp P a w next Q:=by
 unfold Oper.wp;rw[hr];exact hn
theorem L01{o:Oper}{vs:List (Nat×Value)}(i:∀ p∈vs,p.2=a.eval (.tmp p.1))
  (j:∀ x∈o.op.operands.toList,(∃ t v,x = .tmp t/\(t,v)∈vs)∨(∀ n,rho n x=a.eval x)):s03 (rho vs) o=s03 a.eval o:=by
 have h:∀ x∈o.op.operands.toList,rho vs x=a.eval x:=λx d=>by
  rcases j x d with⟨t,v,rfl,k⟩|hf
  ·exact p05 vs t _ (λp m e=>by rw[i p m,e]) ⟨v,k⟩
  ·exact hf vs
 unfold s03
 split
 ·rename_i c l
  split
  ·rename_i x d
   have g:∀ b,b=x∨b∈c.args.toList->b∈o.op.operands.toList:=λb f=>by
    rw[l]
    simp only[Op.operands,Call.operands,d]
    simpa using f
   rw[h x (g x (.inl rfl))]
   have:m09 (rho vs) c.args.toList=m09 a.eval c.args.toList:=by
    rw[b03,b03]
    exact List.map_congr_left λb f=>h b (g b (.inr f))
   rw[this]
  ·rfl
 ·rfl
theorem Y5(C:Sim P h0 w0 be oe H st h a w){o:Oper}{K:AV->St->Hp->Prop}{Q:Exit->Act->World->Prop}(c:l01 P o st h K):o.wp P a w (Nx P h0 w0 st be oe K a o.dst) Q:=by
 unfold l01 at c
 split at c
 ·exact c.elim
 rename_i B
 obtain⟨vs,i,E,b,s1,d,p,q⟩:=Y8 _ C c
 rw[W06,q05 B p q,L01 p q]at b
 split at b
 ·rename_i f l u
  split at b
  ·rename_i A
   unfold Oper.wp
   rw[c03 u A,Oper.upon_enter]
   refine(b.run w (z03 s1)).mono ?_
   rintro e G ⟨v,t,rfl,x,z⟩
   obtain⟨s,D⟩:=s1.moved z
   exact⟨.val v,i,t,v,be,oe,s,x,rfl,D,rfl,d⟩
  ·exact b.elim
 ·obtain⟨n,k,F,m,g,y⟩:=O6 _ _ _ (z03 s1) b
  obtain⟨j,s2⟩:=s1.moved y
  cases n with
  |value v=>exact A5 m ⟨.val v,i,k,v,be,oe,j,g,rfl,s2,rfl,d⟩
  |skip=>exact s04 m ⟨.val undef,i,k,undef,be,oe,j,g,rfl,s2,rfl,d⟩
  |_=>exact g.elim
theorem Sim.still(c:Sim P h0 w0 be oe H st h a w){hf:Hp}{g:World}(f:∀ b o,hf b=some o->H b=some o)(m:L1 hf w hf g):Sim P h0 w0 be oe H st h a g:=by
 refine⟨c.mv.trans ⟨m.os,m.tape,m.output,m.size,?_,?_,λb d => .inl d,m.fz,m.dn⟩,c.sub,c.box,c.pub,c.own,c.frz,c.bb,c.oo,c.bo,c.dfr,c.siz,c.fr⟩
 ·intro b d e
  refine m.keep b d ?_
  cases hc:hf b with
  |none=>rfl
  |some o=>rw[f b o hc]at e;cases e
 ·intro b o d
  cases hc:hf b with
  |some i =>
   have:=f b i hc
   rw[this]at d;cases d
   exact m.vis b _ hc
  |none=>rw[m.keep b (c.mv.vis.lt (by rw[d];simp)) hc];exact c.mv.vis b o d
theorem y0a(d:Sim P h0 w0 be oe H st h a w){o:Oper}{K:AV->St->Hp->Prop}{Q:Exit->Act->World->Prop}(c:R0e P o st h K):o.wp P a w (Nx P h0 w0 st be oe K a o.dst) Q:=by
 unfold R0e at c
 split at c
 ·exact c.elim
 rename_i s
 obtain⟨vs,t,p,b,s1,_,m,n⟩:=Y8 _ d c
 rw[L01 m n]at b
 split at b
 ·rename_i f l g
  split at b
  ·rename_i k
   unfold Oper.wp
   rw[c03 g k,Oper.upon_enter]
   refine(b.run w (z03 s1)).mono ?_
   rintro e u ⟨v,q,rfl,⟨rfl,i⟩,j⟩
   exact⟨.val v,st,h,v,be,oe,H,i,rfl,d.still s1.sub j,rfl,U4.refl _ _ _⟩
  ·exact b.elim
 ·exact b.elim
theorem Y6(c:Sim P h0 w0 be oe H st h a w){o:Oper}{K:AV->St->Hp->Prop}{Q:Exit->Act->World->Prop}(b:H0b P o st h K):o.wp P a w (Nx P h0 w0 st be oe K a o.dst) Q:=by
 unfold H0b at b
 split at b
 ·rcases b with b|b
  ·exact Y5 c b
  ·exact y0a c b
 ·exact Y5 c b
end
end Go.H
namespace Go.H
set_option linter.unusedVariables false
section
variable {P:Program}
theorem L3{t:TypeId}{d:TypeDesc}(a:P.underlying t=some d)(h:Hp)(K:TypeDesc->Hp->Prop):wpS P (underlying t) h K=K d h:=by
 simp only[underlying,program,Z0,wpS,K1,a]
theorem t04{t:TypeId}{i:TypeInfo}(a:P.info? t=some i)(h:Hp)(K:TypeInfo->Hp->Prop):wpS P (typeInfo t) h K=K i h:=by
 simp only[typeInfo,program,Z0,wpS,K1,a]
theorem W7{t:TypeId}{n:Nat}(a:E4 P t=some n)(h:Hp)(K:Nat->Hp->Prop):wpS P (sizeOf t) h K=K n h:=by
 unfold E4 at a
 split at a
 ·rename_i i b
  simp only[sizeOf,Z0,t04 b,K1]
  cases a;rfl
 ·cases a
theorem u04{t:TypeId}{z:Value}(a:J7 P t=some z)(h:Hp)(K:Value->Hp->Prop):wpS P (zeroValue t) h K=K z h:=by
 unfold J7 at a
 split at a
 ·rename_i i b
  simp only[zeroValue,Z0,t04 b,a,K1]
 ·cases a
theorem d03{t:TypeId}{b:Bool}(c:h0a P t=some b)(h:Hp)(K:Bool->Hp->Prop):wpS P (isAgg t) h K=K b h:=by
 unfold h0a at c
 split at c
 ·rename_i a;cases c;simp only[isAgg,Z0,L3 a,K1]
 ·rename_i a;cases c;simp only[isAgg,Z0,L3 a,K1]
 ·rename_i d e f a
  cases c
  simp only[isAgg,Z0,L3 a]
  cases d<;>first|rfl|exact absurd a (e _)|exact absurd a (f _ _)
 ·cases c
theorem N00{H:Hp}{b o:Nat}:∀(vs:List Value) (i:Nat) (acc:Array Value) (K:Array Value->Hp->Prop),(∀ j v,vs[j]?=some v->Hp.cell H b (o+i+j)=some v) ->
  K (acc++vs.toArray) H->wpS P (loadCellsFrom ⟨b,o,none⟩ i vs.length acc) H K
 | [],i,acc,K,_,a=>by simpa [loadCellsFrom,K1] using a
 |v::vs,i,acc,K,c,a=>by
  have h0:=c 0 v (by simp)
  simp only[loadCellsFrom,List.length_cons,Z0,load,wpS]
  have d:(⟨b,o,none⟩:Addr).add i=⟨b,o+i,none⟩:=by unfold Addr.add;split<;>simp_all
  rw[d]
  refine⟨v,⟨rfl,by simpa using h0⟩,N00 vs (i+1) (acc.push v) K ?_ ?_⟩
  ·intro j u e
   have:=c (j+1) u (by simpa using e)
   rw[show o+(i+1)+j=o+i+(j+1) from by omega]
   exact this
  ·simpa using a
theorem Z8{a:Type}:∀(l:List a) (n:Nat),n02 l n=true->l.length=n
 | [],0,_=>rfl
 |_::r,k+1,h=>by simp[Z8 r k h]
 | [],_+1,h=>by cases h
 |_::_,0,h=>by cases h
variable {h0:Hp} {w0:World} {be:Nat->Nat} {oe:Nat->Value} {H:Hp} {st:St} {h:Hp} {a:Act} {w:World}
theorem J1.ofCell{st:St}{be:Nat->Nat}{oe:Nat->Value}{c:i4}{v:Value}(g:V06 st oe c v):J1 st be oe (ofCell c) v:=by
 cases c with
 |val u=>exact g
 |own i k=>exact g
theorem load_row{t:TypeId}{cs:List i4}{vs:List Value}{off:Nat}{K:AV->Prop}{b o:Nat}(a:H00 P t cs off K)(g:Y0 st oe cs vs)
  (l:∀ j v,vs[j]?=some v->Hp.cell H b (o+j)=some v):∃ av v,K av/\J1 st be oe av v/\∀ d:Value->Hp->Prop,d v H->wpS P (loadVar t ⟨b,o+off,none⟩) H d:=by
 unfold H00 at a
 split at a
 ·rename_i f
  split at a
  ·rename_i n i
   split at a
   ·rename_i q
    have s:=Z8 _ _ q
    have k:=(g.drop off).take n
    refine⟨_,.agg ((vs.drop off).take n).toArray,a,⟨_,rfl,k⟩,λd h=>?_⟩
    have u:((vs.drop off).take n).length=n:=by rw[←k.length,s]
    simp only[loadVar,Z0,d03 f,if_true,W7 i,loadCells]
    have:=N00 (P:=P) (H:=H) (b:=b) (o:=o+off) ((vs.drop off).take n) 0 #[] (λx p=>wpS P (pure (Value.agg x)) p d) (λj v e=>by
     rw[List.getElem?_take]at e
     split at e
     ·rw[List.getElem?_drop]at e
      rw[show o+off+0+j=o+(off+j) from by omega]
      exact l _ _ e
     ·cases e) (by simpa [K1] using h)
    rw[u]at this
    exact this
   ·exact a.elim
  ·exact a.elim
 ·rename_i f
  split at a
  ·rename_i c i
   obtain⟨v,w,m⟩:=g.nth i
   refine⟨_,v,a,J1.ofCell m,λd h=>?_⟩
   simp only[loadVar,Z0,d03 f,Bool.false_eq_true,if_false,load,wpS]
   exact⟨v,⟨trivial,l _ _ w⟩,h⟩
  ·exact a.elim
 ·exact a.elim
theorem Hp.set_set(h:Hp)(b:Nat)(x y:Obj):(h.set b x).set b y=h.set b y:=by
 funext k;simp only[Hp.set];split<;>rfl
theorem K0h{v:Value}(h:v.oneCell'=true):C9 v:=by cases v<;>simp_all [Value.oneCell',C9]
theorem r00{b:Nat}{t:TypeId}:∀(a:List Value) (cur:List Value) (off i:Nat) (K:Unit->Hp->Prop) (H:Hp),H b=some (.cells cur.toArray t (0,0)) ->
  off+i+a.length<=cur.length->(∀ v∈a,v.oneCell'=true)->K () (H.set b (.cells (T1 cur (off+i) a).toArray t (0,0)))->wpS P (storeCells ⟨b,off,none⟩ a i) H K
 | [],cur,off,i,K,H,d,_,_,c=>by
  have:H.set b (.cells cur.toArray t (0,0))=H:=by
   funext k;simp only[Hp.set];split
   ·rename_i e;rw[e,d]
   ·rfl
  simp only[T1,this]at c
  exact c
 |n::a,cur,off,i,K,H,d,h,f,c=>by
  simp only[storeCells,Z0,store,wpS]
  have g:(⟨b,off,none⟩:Addr).add i=⟨b,off+i,none⟩:=by unfold Addr.add;split<;>simp_all
  rw[g]
  simp only[List.length_cons]at h
  refine⟨cur.toArray,t,(0,0),⟨d,rfl,by simp;omega,by simp,K0h (f n mS)⟩,?_⟩
  refine r00 (t:=t) a (cur.set (off+i) n) off (i+1) K _ (by simp[Hp.set]) (by simp;omega) (λv j=>f v (mC _ j)) ?_
  rw[Hp.set_set]
  simpa [T1,Nat.add_assoc] using c
theorem n8:∀(a cs:List Value) (off:Nat),splice cs off a=T1 cs off a
 | [],cs,off=>rfl
 |n::a,cs,off=>by simp only[splice,T1,q04,n8 a]
theorem X06(f:Sim P h0 w0 be oe H st h a w){i k:Nat}{e sz by_:Nat}{nn:Bool}{xs:List (List Value)}(d:nth st.ow i=some ⟨k,.live e sz by_ nn xs⟩):∃ x n c,oe i = .slice x n c:=by
 rcases(f.own i _ _ _ _ _ _ d).2 with⟨b,_⟩|⟨g,cap,cur,b,_⟩
 ·exact⟨_,_,_,b⟩
 ·exact⟨_,_,_,b⟩
theorem M01(m:Sim P h0 w0 be oe H st h a w){x:Operand}{cs:List i4}(b:E7 (rdO st x)=some cs):Y0 st oe cs (a.eval x).cells.toList:=by
 have g:=m.rdO x
 cases hr:rdO st x with
 |val v =>
  rw[hr]at b g
  have d:a.eval x=v:=g
  rw[d]
  cases v<;>simp only[E7,Option.some.injEq]at b<;>first|(subst b;first|exact Y0.vals _ _ _|exact⟨rfl,trivial⟩)|cases b
 |own i k =>
  rw[hr]at b g
  obtain⟨e,sz,by_,nn,xs,f⟩:=K01 hr
  simp only[E7,Option.some.injEq]at b
  subst b
  have j:a.eval x=oe i:=g.own_cur f
  obtain⟨p,n,c,l⟩:=X06 m f
  rw[j,l]
  rw[j,l]at g
  exact⟨g,trivial⟩
 |agg cs' =>
  rw[hr]at b g
  simp only[E7,Option.some.injEq]at b
  subst b
  obtain⟨vs,d,o⟩:=g
  rw[d]
  exact o
 |_=>rw[hr]at b;cases b
theorem d00(f:Sim P h0 w0 be oe H st h a w):∀(cs:List i4) (vs:List Value),J00 st cs=true->Y0 st oe cs vs->∀ v∈vs,v.oneCell'=true
 | [],[],_,_,v,d=>by cases d
 | .val u::r,x::vs,b,g,v,d=>by
  simp only[J00]at b
  split at b
  ·rename_i o
   rcases List.mem_cons.1 d with rfl|d
   ·have:v=u:=g.1
    rw[this];exact o
   ·exact d00 f r vs b g.2 v d
  ·cases b
 | .own i k::r,x::vs,b,g,v,d=>by
  have m:J1 st be oe (rdA st (.own i k)) x:=f.rdA (av := .own i k) g.1
  simp only[J00]at b
  split at b
  ·rename_i j l p
   rcases List.mem_cons.1 d with rfl|d
   ·rw[p]at m
    obtain⟨e,sz,by_,nn,xs,q⟩:=J01 p
    obtain⟨y,n,c,t⟩:=X06 f q
    rw[m.own_cur q,t];rfl
   ·exact d00 f r vs b g.2 v d
  ·rename_i u s
   split at b
   ·rename_i o
    rcases List.mem_cons.1 d with rfl|d
    ·rw[s]at m
     have:v=u:=m
     rw[this];exact o
    ·exact d00 f r vs b g.2 v d
   ·cases b
  ·cases b
 | [],_::_,_,g,_,_=>g.elim
 |_::_,[],_,g,_,_=>g.elim
theorem M9:∀(vs:List Value),k00 vs=true->∀ v∈vs,v.oneCell'=true
 | [],_,v,a=>by cases a
 |x::r,b,v,a=>by
  simp only[k00]at b
  split at b
  ·rename_i c
   rcases List.mem_cons.1 a with rfl|a
   ·exact c
   ·exact M9 r b v a
  ·cases b
end
end Go.H
namespace Go.H
set_option linter.unusedVariables false
section
variable {P:Program} {h0:Hp} {w0:World} {be:Nat->Nat} {oe:Nat->Value} {H:Hp} {st:St} {h:Hp} {a:Act} {w:World} {o:Oper} {K:AV->St->Hp->Prop} {Q:Exit->Act->World->Prop}
theorem o8(b o n:Nat):(⟨b,o,none⟩:Addr).add n=⟨b,o+n,none⟩:=by unfold Addr.add;split<;>simp_all
theorem B5(d:Sim P h0 w0 be oe H st h a w){av:AV}{v:Value}(k:∀ c:Next->Hp->Prop,c (.value v) H->wpS P (execOp a.eval o) H c)(g:J1 st be oe av v)(f:K av st h):
  o.wp P a w (Nx P h0 w0 st be oe K a o.dst) Q:=by
 obtain⟨n,b,m,j,⟨rfl,rfl⟩,i⟩:=O6 _ _ _ d.mv.vis (k (λn b=>n = .value v/\b=H) ⟨rfl,rfl⟩)
 have l:Sim P h0 w0 be oe b st h a m:=d.still (hf:=b) (λ_ _ e=>e) i
 exact A5 j ⟨av,st,h,v,be,oe,b,f,rfl,l,g,U4.refl _ _ _⟩
theorem C5{P:Program}(b:Sem Value)(H:Hp)(a:Next->Hp->Prop)(h:wpS P b H (λv H=>a (.value v) H)):wpS P (do pure (Next.value (←b))) H a:=by
 rw[Z0];exact h
theorem L0h{P:Program}(b:Sem Unit)(H:Hp)(a:Next->Hp->Prop)(h:wpS P b H (λ_ H=>a .skip H)):wpS P (do b;pure Next.skip) H a:=by
 rw[Z0];exact h
theorem P0c(d:Sim P h0 w0 be oe H st h a w){x:Operand}(c:o.op = .move x∨o.op = .assign x)(b:match rdO st x with | .dead=>False|a=>K a st h):o.wp P a w (Nx P h0 w0 st be oe K a o.dst) Q:=by
 have e:K (rdO st x) st h:=by
  revert b;cases rdO st x<;>intro b<;>first|exact b|exact b.elim
 refine B5 d (v:=a.eval x) (λg f=>?_) (d.rdO x) e
 unfold execOp
 rcases c with c|c<;>rw[c]<;>exact f
theorem M0h(d:Sim P h0 w0 be oe H st h a w){t:TypeId}{x:Operand}(m:o.op = .box t x){cs:List i4}(l:E7 (rdO st x)=some cs)
  (f:newBox st cs t λav st=>K av st h):o.wp P a w (Nx P h0 w0 st be oe K a o.dst) Q:=by
 have g:=M01 d l
 have q:wpS P (execOp a.eval o) H (λn e=>∃ b,H b=none/\n = .value (ptr b 0)/\e=H.set b (.cells (a.eval x).cells t (0,0))):=by
  unfold execOp;rw[m]
  refine C5 _ _ _ ?_
  simp only[Instr.box,newVar,newRow,newObj,Z0,K1,wpS]
  exact λb c=>⟨b,c,rfl,rfl⟩
 obtain⟨n,e,u,p,⟨b,c,rfl,rfl⟩,i⟩:=O6 _ _ _ d.mv.vis q
 have k:(a.eval x).cells=(a.eval x).cells.toList.toArray:=by simp
 rw[k]at i
 rw[i05]at f
 obtain⟨s,j⟩:=d.newBox g c i
 exact A5 p ⟨_,_,h,_,_,_,_,f,rfl,s,⟨by simp,by simp⟩,j⟩
theorem h0f(g:Sim P h0 w0 be oe H st h a w){t:TypeId}(k:o.op = .alloc t){z:Value}(p:J7 P t=some z)
  (e:newBox st (vals z.cells.toList) t λav st=>K av st h):o.wp P a w (Nx P h0 w0 st be oe K a o.dst) Q:=by
 have m:wpS P (execOp a.eval o) H (λn d=>∃ b,H b=none/\n = .value (ptr b 0)/\d=H.set b (.cells z.cells t (0,0))):=by
  unfold execOp;rw[k]
  refine C5 _ _ _ ?_
  simp only[Instr.alloc,newVar,newRow,newObj,Z0,u04 p,K1,wpS]
  exact λb c=>⟨b,c,rfl,rfl⟩
 obtain⟨n,d,s,l,⟨b,c,rfl,rfl⟩,f⟩:=O6 _ _ _ g.mv.vis m
 have j:z.cells=z.cells.toList.toArray:=by simp
 rw[j]at f
 rw[i05]at e
 obtain⟨q,i⟩:=g.newBox (Y0.vals st oe _) c f
 exact A5 l ⟨_,_,h,_,_,_,_,e,rfl,q,⟨by simp,by simp⟩,i⟩
theorem w08{t:TypeId}{k c:Nat}(a:k09 P t k=some c):∃ b f n,P.underlying t=some (.struct b)/\b[k]?=some f/\E4 P f.type=some (n+1)/\f.offset=c:=by
 unfold k09 at a
 split at a
 ·rename_i b e
  split at a
  ·rename_i f hf
   split at a
   ·rename_i n d
    cases a
    exact⟨b,f,n,e,hf,d,rfl⟩
   ·cases a
  ·cases a
 ·cases a
theorem exec_fieldAddr{t:TypeId}{x:Operand}{k d b off:Nat}(h:o.op = .fieldAddr t x k)(i:k09 P t k=some d)(l:a.eval x=ptr b off):
  ∀ c:Next->Hp->Prop,c (.value (ptr b (off+d))) H->wpS P (execOp a.eval o) H c:=by
 intro c e
 obtain⟨m,f,n,j,hf,g,rfl⟩:=w08 i
 unfold execOp;rw[h]
 refine C5 _ _ _ ?_
 simp only[Instr.fieldAt,Z0,L3 j,hf,l,ptr,Instr.sureAddr,K1,fieldPlace,W7 g,Nat.add_one_ne_zero,if_false,o8]
 exact e
theorem t09(f:Sim P h0 w0 be oe H st h a w){t:TypeId}{x:Operand}{k:Nat}(q:o.op = .fieldAddr t x k)
  (p:match rdO st x,k09 P t k with
  | .box i off,some d=>K (.box i (off+d)) st h
  | .hel f i sz k,some d=>K (.hel f i sz (k+d)) st h
  | .oel i f j sz k,some d=>K (.oel i f j sz (k+d)) st h
  | .val (.pointer (some ⟨b,off,none⟩)),some d=>K (.val (ptr b (off+d))) st h
  |_,_=>False):o.wp P a w (Nx P h0 w0 st be oe K a o.dst) Q:=by
 have g:=f.rdO x
 split at p
 ·rename_i i off d l m
  rw[l]at g
  exact B5 f (av := .box i (off+d)) (exec_fieldAddr q m g.2) ⟨g.1,rfl⟩ p
 ·rename_i sl i sz v d l m
  rw[l]at g
  obtain⟨b,C,n,c,s,u⟩:=g
  refine B5 f (av := .hel sl i sz (v+d)) (exec_fieldAddr q m u) ⟨b,C,n,c,s,?_⟩ p
  simp[Nat.add_assoc]
 ·rename_i i D j sz v d l m
  rw[l]at g
  obtain⟨e,G,by_,nn,xs,B⟩:=M0c l
  obtain⟨A,n,c,s,u⟩:=g.oel_cur B
  obtain⟨E,y,z,F⟩:=g
  refine B5 f (av := .oel i D j sz (v+d)) (exec_fieldAddr q m u) ⟨E,y,z,λ_=>⟨A,n,c,s,by simp[Nat.add_assoc]⟩⟩ p
 ·rename_i b off d l m
  rw[l]at g
  exact B5 f (av := .val (ptr b (off+d))) (exec_fieldAddr (b:=b) (off:=off) q m g) rfl p
 ·exact p.elim
theorem l6{t e:TypeId}(a:B7 P t=some e):P.underlying t=some (.slice e):=by
 unfold B7 at a
 split at a
 ·rename_i b;cases a;exact b
 ·cases a
theorem exec_indexAddr{t e:TypeId}{x i:Operand}{k:IntKind}{j:Int}{sz b off n c:Nat}(m:o.op = .indexAddr t x i)(q:B7 P t=some e)(p:E4 P e=some sz)
  (u:a.eval x = .slice (some ⟨b,off,none⟩) n c) (h:a.eval i = .int k j) (f:0<=j) (g:j<(n:Int)) :
  ∀ d:Next->Hp->Prop,d (.value (ptr b (off+j.toNat*sz))) H->wpS P (execOp a.eval o) H d:=by
 intro d l
 have s:=l6 q
 unfold execOp;rw[m]
 refine C5 _ _ _ ?_
 simp only[Instr.indexAt,u,h,asIntOf,Z0,K1,L3 s,f,g,and_self,if_true,W7 p,o8]
 exact l
theorem z0a(c:Sim P h0 w0 be oe H st h a w){t:TypeId}{x:Operand}{i off:Nat}{cs:List i4}{ty:TypeId}(n:o.op = .load t x)(p:rdO st x = .box i off)
  (m:nth st.bx i=some (.live cs ty)) (f:H00 P t cs off λav=>K av st h):o.wp P a w (Nx P h0 w0 st be oe K a o.dst) Q:=by
 have g:=c.rdO x
 rw[p]at g
 obtain⟨z,vs,d,e⟩:=c.box i cs ty m
 obtain⟨av,v,q,s,u⟩:=load_row (H:=H) (b:=be i) (o:=0) (be:=be) f d (λj v k=>by simp[Hp.cell,e,k])
 refine B5 c (λy l=>?_) s q
 unfold execOp;rw[n]
 refine C5 _ _ _ ?_
 rw[g.2]
 simp only[Instr.loadAt,ptr,Instr.sureAddr,Z0,K1]
 simpa using u _ l
theorem A0a(d:Sim P h0 w0 be oe H st h a w){t:TypeId}{x:Operand}{sl:Value}{idx:Int}{sz k:Nat}{c:List Value}(u:o.op = .load t x)(z:rdO st x = .hel sl idx sz k)
  (l:V4 h sl sz idx c) (p:H00 P t (vals c) k λav=>K av st h):o.wp P a w (Nx P h0 w0 st be oe K a o.dst) Q:=by
 have g:=d.rdO x
 rw[z]at g
 obtain⟨b,D,n,G,f,i⟩:=g
 obtain⟨_,_,F,L,J,I,e,m⟩:=l
 rw[f]at e;cases e
 obtain⟨av,v,A,B,C⟩:=load_row (H:=H) (b:=b) (o:=D+idx.toNat*sz) (be:=be) p (Y0.vals st oe c) (λj v q=>by
  have:=m j v q
  unfold Hp.cell at this ⊢
  split at this
  ·rename_i y;rw[d.sub _ _ y];exact this
  ·cases this)
 refine B5 d (λE s=>?_) B A
 unfold execOp;rw[u]
 refine C5 _ _ _ ?_
 rw[i]
 simp only[Instr.loadAt,ptr,Instr.sureAddr,Z0,K1]
 simpa [Nat.add_assoc] using C _ s
theorem N9{sz:Nat}:∀(xs:List (List Value)) (i:Nat) (c:List Value),(∀ x∈xs,x.length=sz)->xs[i]?=some c->∀ j v,c[j]?=some v->xs.flatten[i*sz+j]?=some v
 | [],i,c,_,h,j,v,a=>by simp at h
 |x::xs,0,c,b,h,j,v,a=>by
  simp at h;subst h
  simp only[List.flatten_cons,Nat.zero_mul,Nat.zero_add]
  rw[List.getElem?_append_left (List.getElem?_eq_some_iff.1 a).1];exact a
 |x::xs,i+1,c,b,h,j,v,a=>by
  simp at h
  have d:=b x mS
  have:=N9 xs i c (λf e=>b f (mC _ e)) h j v a
  simp only[List.flatten_cons]
  rw[List.getElem?_append_right (by rw[d,Nat.add_mul];omega),d]
  rw[show(i+1)*sz+j-sz=i*sz+j from by rw[Nat.add_mul];omega]
  exact this
theorem u01.cells{h H:Hp}{v:Value}{e sz:Nat}{nn:Bool}{xs:List (List Value)}(i:u01 h H v e sz nn xs){g n c:Nat}(b:v = .slice (some ⟨g,0,none⟩) n c):
  ∀ j u,xs.flatten[j]?=some u->Hp.cell H g j=some u:=by
 intro j u a
 rcases i.2 with⟨d,_⟩|⟨l,cap,cur,d,_,f,_,_,_,k⟩
 ·rw[d]at b;cases b
 ·rw[d]at b;cases b
  rw[←k,List.getElem?_take]at a
  split at a
  ·simpa [Hp.cell,f] using a
  ·cases a
theorem B0a(d:Sim P h0 w0 be oe H st h a w){t:TypeId}{x:Operand}{i I:Nat}{idx:Int}{sz k:Nat}{J e by_:Nat}{nn:Bool}{xs:List (List Value)}{c:List Value}
  (C:o.op = .load t x) (l:rdO st x = .oel i I idx sz k) (A:nth st.ow i=some ⟨J,.live e sz by_ nn xs⟩)
  (s:xs[idx.toNat]?=some c) (u:H00 P t (vals c) k λav=>K av st h):o.wp P a w (Nx P h0 w0 st be oe K a o.dst) Q:=by
 have g:=d.rdO x
 rw[l]at g
 obtain⟨O,S,M,R,T,B⟩:=M0c l
 obtain⟨q,n,N,m,p⟩:=g.oel_cur B
 have f:=d.own i _ _ _ _ _ _ A
 obtain⟨av,v,E,F,G⟩:=load_row (H:=H) (b:=q) (o:=idx.toNat*sz) (be:=be) u (Y0.vals st oe c) (λj v y =>
  f.cells m _ _ (N9 xs _ c (λx D=>(f.1 x D).1) s j v y))
 refine B5 d (λL z=>?_) F E
 unfold execOp;rw[C]
 refine C5 _ _ _ ?_
 rw[p]
 simp only[Instr.loadAt,ptr,Instr.sureAddr,Z0,K1]
 exact G _ z
theorem N01{t:TypeId}{p x:Operand}{b off n:Nat}{cur:List Value}{ty:TypeId}(h:o.op = .store t p x)(j:E4 P t=some n)(i:a.eval p=ptr b off)
  (d:(a.eval x).cells.toList.length=n) (e:∀ v∈(a.eval x).cells.toList,v.oneCell'=true) (f:H b=some (.cells cur.toArray ty (0,0))) (l:off+n<=cur.length) :
  ∀ c:Next->Hp->Prop,c .skip (H.set b (.cells (T1 cur off (a.eval x).cells.toList).toArray ty (0,0)))->wpS P (execOp a.eval o) H c:=by
 intro c g
 unfold execOp;rw[h]
 refine L0h _ _ _ ?_
 rw[i]
 have k:(a.eval x).cells.size=n:=by simpa using d
 simp only[Instr.storeAt,ptr,Instr.sureAddr,Z0,K1,storeVar,W7 j,k,ne_eq,not_true_eq_false,if_false]
 refine r00 _ cur off 0 _ _ f (by rw[d];omega) e ?_
 exact g
theorem u09(b:Sim P h0 w0 be oe H st h a w){t:TypeId}{p x:Operand}{i off n:Nat}{cs new:List i4}{ty:TypeId}(A:o.op = .store t p x)(B:rdO st p = .box i off)
  (k:nth st.bx i=some (.live cs ty)) (u:E7 (rdO st x)=some new) (D:E4 P t=some n) (v:n02 new n=true) (m:J00 st new=true)
  (c:R0d cs off new λcs=>K (.val undef) { st with bx:=W6 st.bx i (.live cs ty) } h):o.wp P a w (Nx P h0 w0 st be oe K a o.dst) Q:=by
 have g:=b.rdO p
 rw[B]at g
 have d:=M01 b u
 have q:=d00 b _ _ m d
 have y:=Z8 _ _ v
 obtain⟨I,vs,f,s⟩:=b.box i cs ty k
 unfold R0d at c
 split at c
 ·rename_i j
  have j:=Nat.le_of_ble_eq_true j
  have F:(a.eval x).cells.toList.length=n:=by rw[←d.length,y]
  have E:=N01 (H:=H) (P:=P) (a:=a) A D g.2 F q s (by rw[←f.length];omega)
  obtain⟨J,e,L,C,⟨rfl,rfl⟩,z⟩:=O6 _ _ _ b.mv.vis (E (λn e=>n = .skip/\e=_) ⟨rfl,rfl⟩)
  obtain⟨G,l⟩:=b.updBox k (f.splice d) z
  exact s04 C ⟨_,_,h,_,_,_,_,c,rfl,G,rfl,l⟩
 ·exact c.elim
end
end Go.H
namespace Go.H
set_option linter.unusedVariables false
section
variable {P:Program} {h0:Hp} {w0:World} {be:Nat->Nat} {oe:Nat->Value} {H:Hp} {st:St} {h:Hp} {a:Act} {w:World} {o:Oper} {K:AV->St->Hp->Prop} {Q:Exit->Act->World->Prop}
theorem Y7{sz:Nat}:∀(xs:List (List Value)),(∀ x∈xs,x.length=sz)->xs.flatten.length=xs.length*sz
 | [],_=>by simp
 |x::xs,a=>by
  have:=Y7 xs (λc b=>a c (mC _ b))
  simp only[List.flatten_cons,List.length_append,a x mS,this,List.length_cons,Nat.add_mul,Nat.one_mul]
  omega
def Q0c(w:World)(d:Value)(sz:Nat)(a:List (List Value)):Prop :=
 (∀ x∈a,x.length=sz/\∀ v∈x,v.oneCell'=true) /\
 ((∃ b c,d = .slice (some b) a.length c/\∀ j u,a.flatten[j]?=some u->w.cell? (b.add j)=some u)∨(∃ c,d = .slice none 0 c/\a = []))
theorem L1.newD{H:Hp}{w:World}(a:Vis H w)(x:Obj)(b:w0g x=true):L1 H w (H.set w.heap.size x) (w.drew.alloc x) :=
 (L1.drawn a (w.drawn+1) (Nat.le_succ _)).trans (L1.new (w:=w.drew) a x b)
theorem A8{H:Hp}{w:World}(a:Vis H w):H w.heap.size=none:=by
 cases hc:H w.heap.size with
 |none=>rfl
 |some x=>exact absurd (a.lt (b:=w.heap.size) (by simp[hc])) (Nat.lt_irrefl _)
theorem Y06{h H:Hp}(k:∀ b o,h b=some o->H b=some o){g:Nat}(a:H g=none){e sz cap:Nat}{nn:Bool}{xs:List (List Value)}{cur:Array Value}
  (c:∀ x∈xs,x.length=sz/\∀ v∈x,v.oneCell'=true) (d:xs.length<=cap) (f:cap<=maxLen) (i:cur.size=cap*sz) (j:cur.toList.take (xs.length*sz)=xs.flatten) :
  u01 h (H.set g (.cells cur e (0,0))) (.slice (some ⟨g,0,none⟩) xs.length cap) e sz nn xs:=by
 refine⟨c,.inr ⟨g,cap,cur,rfl,?_,by simp[Hp.set],d,f,i,j⟩⟩
 cases hc:h g with
 |none=>rfl
 |some o=>rw[k g o hc]at a;cases a
theorem c06{t e ty sz by_:Nat}{i:TypeInfo}{z:Value}(y:P.underlying t=some (.slice e))(q:P.info? e=some i)(T:i.zero=some z)(an:i.size=sz)(au:0<sz)
  (Z:i.bytes=by_) (Y:0<by_) (ar:z.cells.size=sz) {v:Value} {nn:Bool} {xs:List (List Value)} (s:u01 h H v e sz nn xs) (d:Vis H w) (am:∀ b o,h b=some o->H b=some o)
  {W:Value} {a:List (List Value)} (E:Q0c w W sz a) (L:n01 (xs.length+a.length) by_) :
  ∃ F V G,(Builtin.append_ #[t,t] ty #[v,W]).run P w = .ok F V/\L1 H w G V/\u01 h G F e sz (nn || K9 a) (xs++a) /\
   (∀ b,v.ownBlock≠some b->H b≠none->G b=H b)/\(∀ g,F.ownBlock=some g->v.ownBlock=some g∨H g=none)/\(a = []->F=v):=by
 subst an
 subst Z
 have aj:xs.length+a.length<=140737488355328:=Nat.le_trans (Nat.le_mul_of_pos_right _ Y) L
 have ai:((xs.length+a.length:Nat):Int)<=9223372036854775807:=by omega
 have N:∀ x∈xs++a,x.length=i.size/\∀ v∈x,v.oneCell'=true:=λx f=>by
  rcases List.mem_append.1 f with f|f
  ·exact s.1 x f
  ·exact E.1 x f
 have n:=Y7 xs (λx f=>(s.1 x f).1)
 have l:=Y7 a (λx f=>(E.1 x f).1)
 have al:∀ u∈a.flatten,u.oneCell'=true:=λu ap=>by
  obtain⟨x,f,aq⟩:=List.mem_flatten.1 ap
  exact(E.1 x f).2 u aq
 have aa:∀ m,grownCap w (xs.length+a.length) m e<=maxLen:=λm=>grownCap_le_maxLen w _ m e (by unfold maxLen;omega)
 have grown:∀ m,u01 h (H.set w.heap.size (.cells (xs.flatten.toArray++a.flatten.toArray++Builtin.zeroCells z.cells (grownCap w (xs.length+a.length) m e-(xs.length+a.length))) e (0,0)))
   (.slice (some ⟨w.heap.size,0,none⟩) (xs++a).length (grownCap w (xs.length+a.length) m e)) e i.size (nn || K9 a) (xs++a):=λm=>by
  have af:=grownCap_ge w (xs.length+a.length) m e
  refine Y06 am (A8 d) N (by simpa using af) (aa m) ?_ ?_
  ·simp only[Array.size_append,List.size_toArray,n,l,size_zeroCells,ar,←Nat.add_mul]
   congr 1;omega
  ·simp only[Array.toList_append,List.flatten_append,List.append_assoc,List.length_append]
   rw[←List.append_assoc,List.take_append_of_le_length (by simp[n,l,Nat.add_mul]),List.take_of_length_le (by simp[n,l,Nat.add_mul])]
 have R:a = []->u01 h H v e i.size (nn || K9 a) (xs++a):=λB=>by subst B;simpa [K9] using s
 have U:∀(x:Obj) b,v.ownBlock≠some b->H b≠none->(H.set w.heap.size x) b=H b:=λx b _ J=>Hp.set_other _ _ (λe=>by subst e;exact J (A8 d))
 rcases E.2 with⟨I,c,rfl,K⟩|⟨c,rfl,M⟩
 ·rcases s.2 with⟨rfl,rfl,rfl⟩|⟨g,cap,cur,rfl,ae,O,Q,ab,ac,ao⟩
  ·by_cases hm:a.length=0
   ·have M:a = []:=List.eq_nil_of_length_eq_zero hm
    refine⟨_,w,H,?_,L1.refl d,R M,λ_ _ _=>rfl,λg p => .inl p,λ_=>rfl⟩
    simp[Builtin.append_,run_underlying y,sizeOf,typeInfo,q,Builtin.lenOf,Builtin.firstCells,loadCells,loadCellsFrom,hm]
   ·have C:=run_append_nil (P:=P) w t ty e i z y q T I a.length c a.flatten l K (by omega) (by simp at aj;omega) (by have:=L;unfold n01 at this;simp at this;omega)
    have A:=grown 0
    simp only[List.length_nil,Nat.zero_add,List.nil_append,List.flatten_nil]at A
    simp only[Array.empty_append]at A
    refine⟨_,_,_,C,L1.newD d _ rfl,by simpa using A,U _,λg p => .inr ?_,λe=>by rw[e]at hm;simp at hm⟩
    simp[Value.ownBlock]at p
    rw[←p];exact A8 d
  ·have ak:∀ j u,xs.flatten[j]?=some u->w.cell? ((⟨g,0,none⟩:Addr).add j)=some u:=λj u ag=>by
    rw[o8,Nat.zero_add]
    refine k01 d rfl ?_
    exact s.cells rfl j u ag
   by_cases hroom:xs.length+a.length<=cap
   ·have S:=d _ _ O
    have ad:xs.length*i.size+a.flatten.length<=cur.size:=by rw[l,ac,←Nat.add_mul];exact Nat.mul_le_mul_right _ hroom
    have C:=run_append_room (P:=P) w t ty e i y q g xs.length cap cur S I a.length c a.flatten l K al hroom ad
    refine⟨_,_,H.set g (.cells (cur.toList.take (xs.length*i.size)++a.flatten++cur.toList.drop (xs.length*i.size+a.flatten.length)).toArray e (0,0)),C,
     L1.upd d O (λ_=>rfl) rfl rfl rfl (by simp) (setRow_heap w g cur _ e _ S) (λk ah=>setRow_other w g k _ ah),?_,?_,λX D => .inl D,λB=>by simp[B]⟩
    ·refine⟨N,.inr ⟨g,cap,_,by simp,ae,Hp.set_same _ _ _,by simpa using hroom,ab,?_,?_⟩⟩
     ·simp only[List.size_toArray,List.length_append,List.length_take,List.length_drop,Array.length_toList]
      omega
     ·rw[ao]
      simp only[List.flatten_append,List.length_append]
      rw[List.take_append_of_le_length (by simp[n,l,Nat.add_mul]),List.take_of_length_le (by simp[n,l,Nat.add_mul])]
    ·intro b J _
     exact Hp.set_other _ _ (λe=>J (by simp[Value.ownBlock,e]))
   ·have C:=run_append_grow (P:=P) w t ty e i z y q T ⟨g,0,none⟩ xs.length cap xs.flatten n ak I a.length c a.flatten l K (by omega) ai (growslice_fits (by omega) L)
    have A:=grown cap
    refine⟨_,_,_,C,L1.newD d _ rfl,by simpa using A,U _,λX D => .inr ?_,λB=>by subst B;simp at hroom;omega⟩
    simp[Value.ownBlock]at D
    rw[←D];exact A8 d
 ·refine⟨v,w,H,?_,L1.refl d,R M,λ_ _ _=>rfl,λg p => .inl p,λ_=>rfl⟩
  rcases s.2 with⟨rfl,_⟩|⟨g,cap,cur,rfl,_,_,Q,_⟩
  ·simp[Builtin.append_,run_underlying y,sizeOf,typeInfo,q,Builtin.lenOf,Builtin.firstCells]
  ·simp[Builtin.append_,run_underlying y,sizeOf,typeInfo,q,Builtin.lenOf,Builtin.firstCells,Q,storeCells]
theorem A03(b:Nat):∀(vs:List Value) (o:Nat) (w:World) (cur:Array Value) (ty:TypeId) (a:Nat×Nat),w.heap[b]?=some (.cells cur ty a)->(w.setCells b o vs).heap[b]?=some (.cells (T1 cur.toList o vs).toArray ty a)
 | [],o,w,cur,ty,a,h=>by simpa [World.setCells,T1] using h
 |v::r,o,w,cur,ty,a,h=>by
  have c:(w.setCell ⟨b,o,none⟩ v).heap[b]?=some (.cells (cur.setIfInBounds o v) ty a):=by simp[World.setCell,Array.getElem?_modify,h]
  have:=A03 b r (o+1) _ _ _ _ c
  simpa [World.setCells,T1] using this
theorem D02(b:Nat):∀(vs:List Value) (o:Nat) (w:World) (k:Nat),k≠b->(w.setCells b o vs).heap[k]?=w.heap[k]?
 | [],o,w,k,h=>rfl
 |v::r,o,w,k,h=>by
  rw[World.setCells,D02 b r (o+1) _ k h]
  simp only[World.setCell,Array.getElem?_modify]
  rw[if_neg (λe=>h e.symm)]
theorem d06(b:Nat):∀(vs:List Value) (o:Nat) (w:World),(w.setCells b o vs).drawn=w.drawn
 | [],o,w=>rfl
 |v::r,o,w=>by
  rw[World.setCells,d06 b r (o+1)]
  unfold World.setCell
  split<;>rfl
theorem B03(b:Nat):∀(vs:List Value) (o:Nat) (w:World),(w.setCells b o vs).os=w.os/\(w.setCells b o vs).tape=w.tape/\(w.setCells b o vs).output=w.output/\(w.setCells b o vs).heap.size=w.heap.size
 | [],o,w=>⟨rfl,rfl,rfl,rfl⟩
 |v::r,o,w=>by
  obtain⟨a,c,d,e⟩:=B03 b r (o+1) (w.setCell ⟨b,o,none⟩ v)
  exact⟨a,c,d,by rw[World.setCells,e];simp[World.setCell]⟩
theorem O9:∀(a vs:List Value) (off j:Nat),off+a.length<=vs.length->(T1 vs off a)[j]?=if off<=j/\j<off+a.length then a[j-off]? else vs[j]?
 | [],vs,off,j,h=>by
  simp only[T1,List.length_nil,Nat.add_zero]
  rw[if_neg (by omega)]
 |n::a,vs,off,j,h=>by
  simp only[List.length_cons]at h
  rw[T1,O9 a _ (off+1) j (by simp;omega)]
  simp only[List.length_cons]
  by_cases e:j=off
  ·subst e
   rw[if_neg (by omega),if_pos (by omega)]
   simp[show j<vs.length by omega]
  ·by_cases h1:off+1<=j/\j<off+1+a.length
   ·rw[if_pos h1,if_pos (by omega),show j-off=(j-(off+1))+1 by omega,List.getElem?_cons_succ]
   ·rw[if_neg h1,if_neg (by omega),List.getElem?_set,if_neg (λh=>e h.symm)]
theorem v09{t e ty sz by_:Nat}{i:TypeInfo}{z:Value}(F:P.underlying t=some (.slice e))(D:P.info? e=some i)(an:i.zero=some z)(aj:i.size=sz)(az:0<sz)
  (X:i.bytes=by_) (W:0<by_) (ao:z.cells.size=sz) {g o n c:Nat} {xs:List (List Value)} (V:S0d h sz (.slice (some ⟨g,o,none⟩) n c) xs) (l:Vis h w)
  {T:Value} {a:List (List Value)} (s:Q0c w T sz a) (Q:n01 (xs.length+a.length) by_) :
  ∃ R S I,(Builtin.append_ #[t,t] ty #[.slice (some ⟨g,o,none⟩) n c,T]).run P w = .ok R S/\L1 h w I S/\T0e h I sz g R (xs++a):=by
 subst aj
 subst X
 have ay:xs.length+a.length<=140737488355328:=Nat.le_trans (Nat.le_mul_of_pos_right _ W) Q
 have ad:((xs.length+a.length:Nat):Int)<=9223372036854775807:=by omega
 obtain⟨A,aw,aA,av,cur,m,U,O,L,M,q,C⟩:=V
 cases U
 have J:∀ x∈xs++a,x.length=i.size/\∀ v∈x,v.oneCell'=true:=λx f=>by
  rcases List.mem_append.1 f with f|f
  ·exact A x f
  ·exact s.1 x f
 have N:=Y7 xs (λx f=>(A x f).1)
 have p:=Y7 a (λx f=>(s.1 x f).1)
 have ag:∀ u∈a.flatten,u.oneCell'=true:=λu ak=>by
  obtain⟨x,f,al⟩:=List.mem_flatten.1 ak
  exact(s.1 x f).2 u al
 have ah:a = []->T0e h h i.size g (.slice (some ⟨g,o,none⟩) xs.length c) (xs++a):=λae=>by
  subst ae
  rw[List.append_nil]
  exact⟨⟨A,g,o,c,cur,m,rfl,O,L,M,q,C⟩,g,o,_,c,rfl,.inl rfl,λ_ _=>rfl⟩
 have G:=l _ _ q
 rcases s.2 with⟨H,y,rfl,K⟩|⟨y,rfl,am⟩
 ·by_cases hroom:xs.length+a.length<=c
  ·have Y:o+xs.length*i.size+a.flatten.length<=cur.size:=by
    have:(xs.length+a.length)*i.size<=c*i.size:=Nat.mul_le_mul_right _ hroom
    rw[Nat.add_mul]at this
    rw[p]
    omega
   have ab:∀ j,j<a.flatten.length->(w.cell? ⟨g,o+xs.length*i.size+j,none⟩).isSome=true:=λj d=>by
    simp only[World.cell?,G]
    simp[show o+xs.length*i.size+j<cur.size by omega]
   have Z:∀ j,j<a.flatten.length->w.frozen? ⟨g,o+xs.length*i.size+j,none⟩=false:=λj d=>by
    rw[i8 (o := .cells cur m (0,0)) G]
    simp[I7]
   have E:=run_append_room_cells (P:=P) w t ty e i F D g o xs.length c H a.length y a.flatten p K ag hroom ab Z
   have ai:=A03 g a.flatten (o+xs.length*i.size) w cur m (0,0) G
   obtain⟨ap,aq,ar,au⟩:=B03 g a.flatten (o+xs.length*i.size) w
   refine⟨_,_,h.set g (.cells (T1 cur.toList (o+xs.length*i.size) a.flatten).toArray m (0,0)),E,
    L1.upd l q (λ_=>rfl) ap aq ar au ai (λk ac=>D02 _ _ _ _ k ac) (Nat.le_of_eq (d06 _ _ _ _).symm),⟨J,g,o,c,_,m,by rw[List.length_append],by rw[List.length_append];exact hroom,L,?_,Hp.set_same _ _ _,λj u d=>?_⟩,g,o,_,c,rfl,.inl rfl,λb B=>Hp.set_other _ _ B⟩
   ·simpa [R4] using M
   ·rw[List.flatten_append]at d
    rw[List.getElem?_toArray,O9 _ _ _ _ (by simpa using Y)]
    by_cases hlt:j<xs.flatten.length
    ·rw[List.getElem?_append_left hlt]at d
     rw[if_neg (by omega),Array.getElem?_toList]
     exact C j u d
    ·rw[List.getElem?_append_right (by omega)]at d
     have ax:=(List.getElem?_eq_some_iff.1 d).1
     rw[if_pos (by omega),show o+j-(o+xs.length*i.size)=j-xs.flatten.length by omega]
     exact d
  ·have af:∀ j u,xs.flatten[j]?=some u->w.cell? ((⟨g,o,none⟩:Addr).add j)=some u:=λj u d=>by
    rw[o8]
    refine k01 l rfl ?_
    simp only[Hp.cell,q]
    exact C j u d
   have E:=run_append_grow (P:=P) w t ty e i z F D an ⟨g,o,none⟩ xs.length c xs.flatten N af H a.length y a.flatten p K (by omega) ad (growslice_fits (by omega) Q)
   have aa:=grownCap_ge w (xs.length+a.length) c e
   refine⟨_,_,_,E,L1.newD l _ rfl,⟨J,w.heap.size,0,grownCap w (xs.length+a.length) c e,_,e,by rw[List.length_append],by rw[List.length_append];exact aa,grownCap_le_maxLen w _ c e (by unfold maxLen;omega),?_,Hp.set_same _ _ _,λj u d=>?_⟩,w.heap.size,0,_,_,rfl,.inr (A8 l),λb B=>Hp.set_other _ _ B⟩
   ·simp only[Array.size_append,List.size_toArray,N,p,size_zeroCells,ao,←Nat.add_mul,Nat.zero_add]
    refine Nat.le_of_eq ?_
    congr 1;omega
   ·rw[List.flatten_append]at d
    rw[Nat.zero_add,←Array.getElem?_toList]
    simp only[Array.toList_append]
    rw[List.getElem?_append_left (by simpa using (List.getElem?_eq_some_iff.1 d).1)]
    exact d
 ·refine⟨_,w,h,?_,L1.refl l,ah am⟩
  simp[Builtin.append_,run_underlying F,sizeOf,typeInfo,D,Builtin.lenOf,Builtin.firstCells,O,storeCells]
theorem w09{t e ty sz by_:Nat}{i:TypeInfo}{z:Value}(H:P.underlying t=some (.slice e))(E:P.info? e=some i)(J:i.zero=some z)(G:i.size=sz)(_:0<sz)
  (B:i.bytes=by_) (A:0<by_) (K:z.cells.size=sz) (o:Vis h w)
  {s:Value} {a:List (List Value)} (d:Q0c w s sz a) (m:K9 a=true) (n:n01 a.length by_) :
  ∃ p q g,(Builtin.append_ #[t,t] ty #[.slice none 0 0,s]).run P w = .ok p q/\L1 h w g q/\G0h h g sz p a:=by
 subst G
 subst B
 have L:a.length<=140737488355328:=Nat.le_trans (Nat.le_mul_of_pos_right _ A) n
 have k:=Y7 a (λx I=>(d.1 x I).1)
 rcases d.2 with⟨v,c,rfl,C⟩|⟨c,rfl,f⟩
 ·by_cases hm:a.length=0
  ·have f:a = []:=List.eq_nil_of_length_eq_zero hm
   subst f;cases m
  ·have F:=run_append_nil (P:=P) w t ty e i z H E J v a.length c a.flatten k C (by omega) (by omega) (Nat.le_trans n (by decide))
   have D:=grownCap_ge w a.length 0 e
   refine⟨_,_,_,F,L1.newD o _ rfl,⟨d.1,w.heap.size,0,grownCap w a.length 0 e,_,e,rfl,D,grownCap_le_maxLen w _ 0 e (by unfold maxLen;omega),?_,Hp.set_same _ _ _,λj u l=>?_⟩,w.heap.size,0,_,_,rfl,A8 o,λb y=>Hp.set_other _ _ y⟩
   ·simp only[Array.size_append,List.size_toArray,k,size_zeroCells,K,←Nat.add_mul,Nat.zero_add]
    refine Nat.le_of_eq ?_
    congr 1;omega
   ·rw[Nat.zero_add,←Array.getElem?_toList]
    simp only[Array.toList_append]
    rw[List.getElem?_append_left (by simpa using (List.getElem?_eq_some_iff.1 l).1)]
    exact l
 ·subst f;cases m
theorem P03{e sz by_:Nat}{z:Value}(a:E4 P e=some sz)(b:O03 P e=some by_)(c:J7 P e=some z):∃ i,P.info? e=some i/\i.size=sz/\i.bytes=by_/\i.zero=some z:=by
 unfold E4 at a
 unfold O03 at b
 unfold J7 at c
 cases hi:P.info? e with
 |none=>rw[hi]at a;cases a
 |some i=>rw[hi]at a b c;exact⟨i,rfl,by simpa using a,by simpa using b,c⟩
theorem s00(o:Sim P h0 w0 be oe H st h a w){sz:Nat}(Q:0<sz){b:Operand}{K:List (List Value)->Prop}(e:K06 st h sz (rdO st b) K):∃ l,K l/\Q0c w (a.eval b) sz l:=by
 have g:=o.rdO b
 unfold K06 at e
 split at e
 ·rename_i j k m
  obtain⟨N,S,M,R,J,p⟩:=K01 m
  rw[m]at g
  simp only[p]at e
  split at e
  ·rename_i B
   have E:=Nat.eq_of_beq_eq_true B
   subst E
   refine⟨J,e,?_⟩
   have q:=o.own j _ _ _ _ _ _ p
   rw[g.own_cur p]
   refine⟨q.1,?_⟩
   rcases q.2 with⟨f,d,_⟩|⟨A,cap,cur,f,d,s,_⟩
   ·exact .inr ⟨0,f,d⟩
   ·refine .inl ⟨⟨A,0,none⟩,cap,f,λj u i=>?_⟩
    rw[o8,Nat.zero_add]
    exact k01 o.mv.vis rfl (q.cells f j u i)
  ·exact e.elim
 ·rename_i v m
  rw[m]at g
  obtain⟨l,D,C⟩:=e
  refine⟨l,C,?_⟩
  have F:a.eval b=v:=g
  rw[F]
  obtain⟨f,x,n,c,rfl,rfl,O,d⟩:=D
  refine⟨f,?_⟩
  rcases d with d|⟨z,I,rfl,s⟩
  ·cases x with
   |none =>
    have G:l = []:=by
     cases l with
     |nil=>rfl
     |cons L r =>
      have t:=(f L mS).1
      simp only[List.flatten_cons,List.append_eq_nil_iff]at d
      rw[d.1]at t
      simp at t
      omega
    subst G;exact .inr ⟨c,rfl,rfl⟩
   |some y=>exact .inl ⟨y,c,rfl,λj u i=>by rw[d]at i;simp at i⟩
  ·refine .inl ⟨⟨z,I,none⟩,c,rfl,λj u i=>?_⟩
   rw[o8]
   exact k01 (z03 o) rfl (s j u i)
 ·exact e.elim
theorem Q8{t:TypeId}{p q:Operand}{as:Array Operand}{b:Array TypeId}(f:o.op = .call { callee := .builtin .append,args:=as,argTypes:=b })(e:as = #[p,q])(h:b = #[t,t])
  {c:Value} {d:World} (g:(Builtin.append_ #[t,t] o.type #[a.eval p,a.eval q]).run P w = .ok c d):(execOp a.eval o).run P w = .ok (.value c) d:=by
 subst e;subst h
 unfold execOp;rw[f]
 simp only[resolve,invoke,builtin,Sem.run_bind,Sem.run_pure,Result.andThen_ok,List.map_toArray,List.map_cons,List.map_nil,g]
theorem W0d(d:Sim P h0 w0 be oe H st h a w){t:TypeId}{p q:Operand}{as:Array Operand}{X:Array TypeId}(F:o.op = .call { callee := .builtin .append,args:=as,argTypes:=X })
  (C:as = #[p,q]) (I:X = #[t,t]) (c:L06 P t p q st h K):o.wp P a w (Nx P h0 w0 st be oe K a o.dst) Q:=by
 unfold L06 at c
 split at c
 rotate_left
 ·exact c.elim
 rename_i e al
 split at c
 rotate_left
 ·exact c.elim
 rename_i sz by_ z aj D am
 split at c
 rotate_left
 ·exact c.elim
 rename_i an
 obtain⟨i,E,L,M,N⟩:=P03 aj D am
 have G:=l6 al
 have J:z.cells.size=sz+1:=by simpa using Z8 _ _ an
 have g:=d.rdO p
 split at c
 ·rename_i j k y
  obtain⟨ar,aw,aq,av,ax,A⟩:=K01 y
  rw[y]at g
  simp only[A]at c
  split at c
  ·rename_i ac ad au
   have ae:=Nat.eq_of_beq_eq_true ac
   have ak:=Nat.eq_of_beq_eq_true ad
   subst ae
   subst ak
   obtain⟨W,⟨u,l⟩,v⟩:=s00 d (Nat.succ_pos sz) c
   have ai:=d.own j _ _ _ _ _ _ A
   obtain⟨m,V,O,f,s,B,T,U,_⟩:=c06 (ty:=o.type) G E N L (Nat.succ_pos _) M (Nat.succ_pos _) J ai d.mv.vis d.sub v u
   obtain⟨x,R⟩:=d.updOwn (s1:=k+1) (by_:=by_+1) A (Nat.le_succ _) (λe=>absurd e (Nat.succ_ne_self k)) s T B U
   rw[←g.own_cur A]at f
   refine A5 (Q8 F C I f) ⟨_,_,h,m,_,_,_,l,rfl,x,?_,R⟩
   refine⟨k+1,?_,Nat.le_refl _,λ_=>by simp⟩
   simp[stamp,Q4 _ _ _ (V7 A)]
  ·exact c.elim
 ·rename_i y
  rw[y]at g
  rcases c with c|c
  rotate_left
  ·obtain⟨W,⟨⟨af,u⟩,l⟩,v⟩:=s00 d (Nat.succ_pos sz) c
   obtain⟨m,V,aa,f,s,S⟩:=w09 (ty:=o.type) G E N L (Nat.succ_pos _) M (Nat.succ_pos _) J (z03 d) v af u
   have n:a.eval p = .slice none 0 0:=g
   rw[←n]at f
   obtain⟨O,x⟩:=d.moved s
   exact A5 (Q8 F C I f) ⟨_,_,_,m,_,_,_,l _ _ S,rfl,x,rfl,U4.refl _ _ _⟩
  obtain⟨W,⟨u,l⟩,v⟩:=s00 d (Nat.succ_pos sz) c
  have ah:u01 h H (.slice none 0 0) e (sz+1) false []:=⟨by simp,.inl ⟨rfl,rfl,rfl⟩⟩
  obtain⟨m,V,O,f,s,B,T,U,_⟩:=c06 (ty:=o.type) G E N L (Nat.succ_pos _) M (Nat.succ_pos _) J ah d.mv.vis d.sub v (by simpa using u)
  simp only[Bool.false_or,List.nil_append]at B
  have ag:∀ g,m.ownBlock=some g->H g=none:=λg n=>(U g n).resolve_left (by simp[Value.ownBlock])
  rw[h05]at l
  obtain⟨x,R⟩:=d.newOwn (by_:=by_+1) (λb o D=>by rw[T b (by simp[Value.ownBlock]) (by rw[D];simp)];exact D) s B ag
  have n:a.eval p = .slice none 0 0:=g
  rw[←n]at f
  refine A5 (Q8 F C I f) ⟨_,_,h,m,_,_,_,l,rfl,x,?_,R⟩
  refine⟨0,?_,Nat.le_refl _,λ_=>by simp⟩
  simp[stamp,z8]
 ·rename_i Z ap ao Y y
  rw[y]at g
  obtain⟨W,⟨xs,ab,u,l⟩,v⟩:=s00 d (Nat.succ_pos sz) c
  obtain⟨m,V,aa,f,s,S⟩:=v09 (ty:=o.type) G E N L (Nat.succ_pos _) M (Nat.succ_pos _) J ab (z03 d) v u
  have n:a.eval p = .slice (some ⟨Z,ap,none⟩) ao Y:=g
  rw[←n]at f
  obtain⟨O,x⟩:=d.moved s
  exact A5 (Q8 F C I f) ⟨_,_,_,m,_,_,_,l _ _ S,rfl,x,rfl,U4.refl _ _ _⟩
 ·exact c.elim
end
end Go.H
namespace Go.H
set_option linter.unusedVariables false
set_option linter.unusedSimpArgs false
section
variable {P:Program} {h0:Hp} {w0:World} {be:Nat->Nat} {oe:Nat->Value} {H:Hp} {st:St} {h:Hp} {a:Act} {w:World} {o:Oper} {K:AV->St->Hp->Prop} {Q:Exit->Act->World->Prop}
theorem O01:∀(a cs:List Value) (off:Nat),off+a.length<=cs.length->T1 cs off a=cs.take off++a++cs.drop (off+a.length)
 | [],cs,off,_=>by simp[T1]
 |n::a,cs,off,c=>by
  simp only[List.length_cons]at c
  rw[T1,O01 a (cs.set off n) (off+1) (by simp;omega)]
  rw[List.take_set,List.drop_set_of_lt (by omega)]
  have b:(cs.take (off+1)).set off n=cs.take off ++ [n]:=by
   rw[List.take_succ_eq_append_getElem (by omega),List.set_append_right _ _ (by simp;omega)]
   have:off-(cs.take off).length=0:=by simp;omega
   rw[this]
   simp
  rw[b]
  simp only[List.length_cons,List.append_assoc,List.cons_append,List.nil_append]
  rw[show off+1+a.length=off+(a.length+1) from by omega]
theorem v04(off:Nat):∀(l:List Value) (k:Nat) (a:Array Value),((l.zipIdx k).foldl (λcs p=>cs.setIfInBounds (off+p.2) p.1) a).toList=T1 a.toList (off+k) l
 | [],k,a=>rfl
 |x::l,k,a=>by
  simp only[List.zipIdx_cons,List.foldl_cons,T1]
  rw[v04 off l (k+1)]
  simp[Nat.add_assoc]
theorem C0a(v:Value)(off:Nat)(a:Array Value):(v.cells.zipIdx.foldl (λcs (p:Value×Nat)=>cs.setIfInBounds (off+p.2) p.1) a).toList=T1 a.toList off v.cells.toList:=by
 rw[←Array.foldl_toList,Array.toList_zipIdx]
 exact v04 off v.cells.toList 0 a
def e03(a:Act)(sz:Nat):Nat->List (Nat×Operand)->List (List Value)->Prop
 |_,[],[]=>True
 |i,(j,x)::r,c::cs=>j=i/\c=(a.eval x).cells.toList/\c.length=sz/\(∀ v∈c,v.oneCell'=true)/\e03 a sz (i+1) r cs
 |_,_,_=>False
theorem e03.all{sz:Nat}:∀ {i:Nat} {l:List (Nat×Operand)} {xs:List (List Value)},e03 a sz i l xs->(∀ x∈xs,x.length=sz/\∀ v∈x,v.oneCell'=true)/\l.length=xs.length
 |_,[],[],_=>by simp
 |i,(j,x)::r,c::cs,h=>by
  have d:=e03.all h.2.2.2.2
  refine⟨λe b=>?_,by simp[d.2]⟩
  rcases List.mem_cons.1 b with rfl|b
  ·exact⟨h.2.2.1,h.2.2.2.1⟩
  ·exact d.1 e b
 |_,[],_::_,h=>h.elim
 |_,_::_,[],h=>h.elim
theorem Z06{sz:Nat}:∀(l:List (Nat×Operand)) (xs:List (List Value)) (i:Nat) (b:Array Value),e03 a sz i l xs->(i+l.length)*sz<=b.size ->
  ∃ e,Instr.fill (λi=>some (i*sz,sz)) b (l.map λp=>(p.1,a.eval p.2))=some e/\e.toList=b.toList.take (i*sz)++xs.flatten++b.toList.drop ((i+l.length)*sz)
 | [],[],i,b,_,f=>⟨b,rfl,by simp⟩
 |(j,x)::r,c::cs,i,b,h,f=>by
  obtain⟨rfl,m,d,_,u⟩:=h
  have w:(a.eval x).cells.size=sz:=by rw[←d,m];simp
  have t:j*sz+sz<=b.size:=by
   refine Nat.le_trans ?_ f
   simp only[List.length_cons]
   rw[←Nat.succ_mul]
   exact Nat.mul_le_mul_right _ (by omega)
  have g:=C0a (a.eval x) (j*sz) b
  rw[←m]at g
  have v:=O01 c b.toList (j*sz) (by rw[d];simpa using t)
  have y:((a.eval x).cells.zipIdx.foldl (λcs (p:Value×Nat)=>cs.setIfInBounds (j*sz+p.2) p.1) b).size=b.size:=by
   rw[←Array.length_toList,g,R4];simp
  obtain⟨e,q,s⟩:=Z06 r cs (j+1) ((a.eval x).cells.zipIdx.foldl (λcs (p:Value×Nat)=>cs.setIfInBounds (j*sz+p.2) p.1) b) u (by
   rw[y];simp only[List.length_cons]at f;rw[show j+1+r.length=j+(r.length+1) from by omega];exact f)
  refine⟨e,?_,?_⟩
  ·simp only[List.map_cons,Instr.fill,w,ne_eq,not_true_eq_false,decide_false,Bool.false_or,decide_eq_true_eq]
   rw[if_neg (by omega)]
   exact q
  ·rw[s,g,v,d]
   have n:(b.toList.take (j*sz)++c++b.toList.drop (j*sz+sz)).take ((j+1)*sz)=b.toList.take (j*sz)++c:=by
    rw[List.take_append_of_le_length,List.take_of_length_le]
    ·simp only[List.length_append,List.length_take,d,Array.length_toList,Nat.add_mul];omega
    ·simp only[List.length_append,List.length_take,d,Array.length_toList,Nat.add_mul];omega
   have o:(b.toList.take (j*sz)++c++b.toList.drop (j*sz+sz)).drop ((j+1+r.length)*sz)=b.toList.drop ((j+(r.length+1))*sz):=by
    have k:(b.toList.take (j*sz)++c).length=j*sz+sz:=by simp only[List.length_append,List.length_take,d,Array.length_toList];omega
    rw[List.drop_append,List.drop_eq_nil_of_le (by rw[k];simp only[Nat.add_mul];omega),k,List.nil_append,List.drop_drop]
    congr 1
    simp only[Nat.add_mul]
    omega
   simp only[List.length_cons,List.flatten_cons]
   rw[n,o]
   simp
 | [],_::_,_,_,h,_=>h.elim
 |_::_,[],_,_,h,_=>h.elim
theorem e06{sz:Nat}:∀(l:List (Nat×Operand)) (i:Nat) {st:St} {h:Hp} {K:List (List Value)->St->Hp->Prop},Sim P h0 w0 be oe H st h a w->j0a sz i l st h K ->
  ∃ xs st' e,K xs st' e/\Sim P h0 w0 be oe H st' e a w/\U4 st be oe st' be oe/\e03 a sz i l xs
 | [],i,st,h,K,c,b=>⟨[],st,h,b,c,U4.refl _ _ _,trivial⟩
 |(j,x)::r,i,st,h,K,c,b=>by
  simp only[j0a]at b
  split at b
  ·rename_i n
   have o:=Nat.eq_of_beq_eq_true n
   obtain⟨v,u,d,s1,g⟩:=P8 c (c.rdO x) b
   split at d
   ·rename_i p q
    obtain⟨xs,t,m,f,s2,k,s⟩:=e06 r (i+1) s1 d
    exact⟨_,t,m,f,s2,g.trans k,o.symm,rfl,Z8 _ _ p,M9 _ q,s⟩
   ·exact d.elim
  ·exact b.elim
theorem j08(Y:Sim P h0 w0 be oe H st h a w){t n:Nat}{c:Array (Nat×Operand)}{e sz by_:Nat}{z:Value}(S:o.op = .buildSlice t n c)(V:B7 P t=some e)(U:E4 P e=some (sz+1))
  (X:J7 P e=some z) (R:Nat.beq n c.size=true) (M:Nat.ble (n*(sz+1)) 16777216=true)
  (J:j0a (sz+1) 0 c.toList st h λxs st h=>newOwn st e (sz+1) by_ true xs λav st=>K av st h):o.wp P a w (Nx P h0 w0 st be oe K a o.dst) Q:=by
 obtain⟨xs,ab,I,y,s1,F,E⟩:=e06 _ _ Y J
 obtain⟨u,q⟩:=E.all
 have m:n=xs.length:=by rw[←q,Nat.eq_of_beq_eq_true R];simp
 have B:=Nat.le_of_ble_eq_true M
 have W:wpS P (execOp a.eval o) H (λD v=>∃ b d,H b=none/\D = .value (.slice (some ⟨b,0,none⟩) xs.length xs.length)/\v=H.set b (.cells d e (0,0))/\d.toList=xs.flatten/\d.size=xs.length*(sz+1)):=by
  unfold execOp;rw[S]
  refine C5 _ _ _ ?_
  have C:∀ d:Array Value,d.size=xs.length*(sz+1)->∃ f,Instr.fill (λi=>some (i*(sz+1),sz+1)) d (c.toList.map λp=>(p.1,a.eval p.2))=some f/\f.toList=xs.flatten/\f.size=xs.length*(sz+1):=by
   intro d s
   obtain⟨f,l,f2⟩:=Z06 c.toList xs 0 d E (by rw[q,s];simp)
   refine⟨f,l,?_,?_⟩
   ·rw[f2,q];simp[s]
   ·rw[←Array.length_toList,f2,q]
    simp[s,Y7 xs (λx k=>(u x k).1)]
  have L : ¬ (n*(sz+1)>2 ^ 24):=Nat.not_lt.2 B
  simp only[Instr.buildSlice,Z0,L3 (l6 V),W7 U,if_neg L,K1]
  have aa:(c.map λx=>(x.1,a.eval x.2)).toList=c.toList.map λp=>(p.1,a.eval p.2):=by simp
  by_cases h00:n*(sz+1)=0
  ·simp only[if_pos h00,K1]
   obtain⟨f,l,f2,f3⟩:=C ((Array.range (n*(sz+1))).map λi=>(#[]:Array Value)[i % (#[]:Array Value).size]!) (by simp[m])
   rw[show(Array.map (λx=>(x.1,a.eval x.2)) c).toList=c.toList.map λp=>(p.1,a.eval p.2) from by simp]
   simp only[l,Z0,newRow,newObj,wpS,K1]
   exact λb j=>⟨b,f,j,by rw[m],rfl,f2,f3⟩
  ·simp only[if_neg h00,Z0,u04 X,K1]
   obtain⟨f,l,f2,f3⟩:=C ((Array.range (n*(sz+1))).map λi=>z.cells[i % z.cells.size]!) (by simp[m])
   rw[show(Array.map (λx=>(x.1,a.eval x.2)) c).toList=c.toList.map λp=>(p.1,a.eval p.2) from by simp]
   simp only[l,Z0,newRow,newObj,wpS,K1]
   exact λb j=>⟨b,f,j,by rw[m],rfl,f2,f3⟩
 obtain⟨D,v,ac,T,⟨b,d,j,rfl,rfl,f2,f3⟩,O⟩:=O6 _ _ _ s1.mv.vis W
 have N:xs.length<=maxLen:=by
  have:xs.length<=xs.length*(sz+1):=Nat.le_mul_of_pos_right _ (Nat.succ_pos _)
  rw[m]at B
  unfold maxLen;omega
 rw[h05]at y
 obtain⟨Z,G⟩:=s1.newOwn (nn:=true) (by_:=by_) (λx ad k=>by rw[Hp.set_other _ _ (λe=>by subst e;rw[j]at k;cases k)];exact k) O
  (Y06 s1.sub j u (Nat.le_refl _) N f3 (by rw[f2,List.take_of_length_le (by rw[Y7 xs (λx k=>(u x k).1)];exact Nat.le_refl _)])) (λg A=>by simp[Value.ownBlock]at A;rw[←A];exact j)
 refine A5 T ⟨_,_,I,_,_,_,_,y,rfl,Z,?_,F.trans G⟩
 refine⟨0,?_,Nat.le_refl _,λ_=>by simp⟩
 simp[stamp,z8]
theorem t00{sz:Nat}(b:List Value)(c:b.length=sz)(d:0<sz):∀(l j:Nat),j<l*sz->(List.replicate l b).flatten[j]?=b[j % sz]?
 |0,j,h=>by simp at h
 |l+1,j,h=>by
  simp only[List.replicate_succ,List.flatten_cons]
  have e:j<l*sz+sz:=by rw[Nat.add_mul,Nat.one_mul]at h;exact h
  by_cases hj:j<sz
  ·rw[List.getElem?_append_left (by omega),Nat.mod_eq_of_lt hj]
  ·rw[List.getElem?_append_right (by omega),c,t00 b c d l (j-sz) (by omega),←Nat.mod_eq_sub_mod (a:=j) (by omega)]
theorem X0d{sz:Nat}(z:Value)(a:z.cells.toList.length=sz)(c:0<sz)(l n:Nat)(f:l*sz<=n):(madeCells z.cells n).toList.take (l*sz)=(List.replicate l z.cells.toList).flatten:=by
 have d:z.cells.size=sz:=by simpa using a
 apply List.ext_getElem?
 intro j
 rw[List.getElem?_take]
 by_cases hj:j<l*sz
 ·rw[if_pos hj,t00 _ a c l j hj]
  have b:j % sz<z.cells.size:=by rw[d];exact Nat.mod_lt _ c
  simp only[madeCells,d,Array.toList_map,Array.toList_range,List.getElem?_map,List.getElem?_range (show j<n from by omega),Option.map_some,Array.getElem?_toList,Array.getElem?_eq_getElem b]
  congr 1
  simp[b]
 ·rw[if_neg hj]
  symm
  apply List.getElem?_eq_none
  have:(List.replicate l z.cells.toList).flatten.length=l*sz:=by
   rw[Y7 (sz:=sz) _ (λx e=>by rw[List.eq_of_mem_replicate e];exact a)];simp
  omega
theorem x09(f:Sim P h0 w0 be oe H st h a w){t e sz by_:Nat}{l c:Operand}{z:Value}{m k:IntKind}{d b:Int}(N:o.op = .makeSlice t l c)(U:B7 P t=some e)
  (T:E4 P e=some (sz+1)) (F:O03 P e=some by_) (V:J7 P e=some z) (L:rdO st l = .val (.int m d)) (I:rdO st c = .val (.int k b))
  (W:n02 z.cells.toList (sz+1)=true) (O:k00 z.cells.toList=true) (G:0<=d/\d<=b/\b*by_<=140737488355328/\b<=9223372036854775807)
  (p:newOwn st e (sz+1) by_ true (List.replicate d.toNat z.cells.toList) λav st=>K av st h):o.wp P a w (Nx P h0 w0 st be oe K a o.dst) Q:=by
 obtain⟨i,J,v,X,Y⟩:=P03 T F V
 have D:a.eval l = .int m d:=by have:=f.rdO l;rw[L]at this;exact this
 have C:a.eval c = .int k b:=by have:=f.rdO c;rw[I]at this;exact this
 obtain⟨y,A,aa,B⟩:=G
 have u:=Z8 _ _ W
 have S:=run_make (P:=P) w t e i z (l6 U) J Y m k d b y A (by rw[X,Int.mul_comm];omega) B
 have R:(execOp a.eval o).run P w = .ok (.value (.slice (some ⟨w.heap.size,0,none⟩) d.toNat b.toNat)) (w.alloc (.cells (madeCells z.cells (b.toNat*i.size)) e)):=by
  unfold execOp;rw[N]
  simp only[D,C,Sem.run_bind,S,Result.andThen_ok,Sem.run_pure]
 have M:L1 H w (H.set w.heap.size (.cells (madeCells z.cells (b.toNat*i.size)) e (0,0))) (w.alloc (.cells (madeCells z.cells (b.toNat*i.size)) e)):=L1.new f.mv.vis _ rfl
 have q:(List.replicate d.toNat z.cells.toList).length=d.toNat:=by simp
 have n:=Y06 (h:=h) (H:=H) (e:=e) (sz:=sz+1) (nn:=true) (cap:=b.toNat) (xs:=List.replicate d.toNat z.cells.toList) (cur:=madeCells z.cells (b.toNat*i.size)) f.sub (A8 f.mv.vis)
  (λx j=>by rw[List.eq_of_mem_replicate j];exact⟨u,M9 _ O⟩) (by simp;omega) (by unfold maxLen;omega) (by rw[size_madeCells,v])
  (by rw[q,v];exact X0d z u (Nat.succ_pos _) _ _ (Nat.mul_le_mul_right _ (by omega)))
 rw[q]at n
 rw[h05]at p
 obtain⟨Z,E⟩:=f.newOwn (by_:=by_) (λx ab j=>by rw[Hp.set_other _ _ (λe=>by subst e;rw[A8 f.mv.vis]at j;cases j)];exact j) M n
  (λg s=>by simp[Value.ownBlock]at s;rw[←s];exact A8 f.mv.vis)
 refine A5 R ⟨_,_,h,_,_,_,_,p,rfl,Z,?_,E⟩
 refine⟨0,?_,Nat.le_refl _,λ_=>by simp⟩
 simp[stamp,z8]
end
end Go.H
namespace Go.H
set_option linter.unusedVariables false
set_option linter.unusedSimpArgs false
section
variable {P:Program} {h0:Hp} {w0:World} {be:Nat->Nat} {oe:Nat->Value} {H:Hp} {st:St} {h:Hp} {a:Act} {w:World} {o:Oper} {K:AV->St->Hp->Prop} {Q:Exit->Act->World->Prop}
theorem y09(l:Sim P h0 w0 be oe H st h a w){t:TypeId}{x i:Operand}(y:o.op = .indexAddr t x i)
  (d:match rdO st i with
  | .val (.int _ j)=>match B7 P t with
   |some e=>match E4 P e with
    |some sz=>match rdO st x with
     | .val (.slice a n c)=>InB (.slice a n c) j/\K (.hel (.slice a n c) j sz 0) st h
     | .own i k=>match nth st.ow i with
      |some ⟨_,.live _ L _ _ xs⟩=>match Nat.beq L sz with
       |true=>(0<=j/\j<(xs.length:Int))/\K (.oel i k j sz 0) st h
       |false=>False
      |_=>False
     |_=>False
    |none=>False
   |none=>False
  |_=>False):o.wp P a w (Nx P h0 w0 st be oe K a o.dst) Q:=by
 have gi:=l.rdO i
 have m:=l.rdO x
 split at d
 rotate_left
 ·exact d.elim
 rename_i k j G
 rw[G]at gi
 split at d
 rotate_left
 ·exact d.elim
 rename_i e A
 split at d
 rotate_left
 ·exact d.elim
 rename_i sz z
 split at d
 ·rename_i N n c q
  rw[q]at m
  obtain⟨⟨b,off,T,R,E,u,f⟩,v⟩:=d
  cases E
  exact B5 l (av := .hel _ j sz 0) (exec_indexAddr y A z m gi u f) ⟨b,off,n,c,rfl,by simp⟩ v
 ·rename_i C D q
  obtain⟨S,M,O,U,xs,p⟩:=K01 q
  rw[q]at m
  simp only[p]at d
  split at d
  ·rename_i F
   have J:=Nat.eq_of_beq_eq_true F
   subst J
   obtain⟨⟨u,f⟩,v⟩:=d
   have I:=l.own C _ _ _ _ _ _ p
   rcases I.2 with⟨_,s,_⟩|⟨g,cap,cur,B,_⟩
   ·rw[s]at f;simp at f;omega
   ·have s:=m.own_cur p
    rw[B]at s
    refine B5 l (av := .oel C D j M 0) (exec_indexAddr y A z s gi u f) ⟨D,by simp[stamp,p],Nat.le_refl _,λ_=>⟨g,xs.length,cap,B,by simp⟩⟩ v
  ·exact d.elim
 ·exact d.elim
theorem f03{sz:Nat}:∀(xs:List (List Value)) (k:Nat),(∀ x∈xs,x.length=sz)->(xs.take k).flatten=xs.flatten.take (k*sz)
 | [],k,_=>by simp
 |x::xs,0,_=>by simp
 |x::xs,k+1,a=>by
  have b:=a x mS
  simp only[List.take_succ_cons,List.flatten_cons]
  rw[f03 xs k (λd c=>a d (mC _ c)),List.take_append (l₁:=x),List.take_of_length_le (l:=x) (by rw[b,Nat.add_mul];omega),b,Nat.add_mul,Nat.one_mul,Nat.add_sub_cancel]
theorem x08{sz:Nat}:∀(xs:List (List Value)) (k:Nat),(∀ x∈xs,x.length=sz)->(xs.drop k).flatten=xs.flatten.drop (k*sz)
 | [],k,_=>by simp
 |x::xs,0,_=>by simp
 |x::xs,k+1,a=>by
  have b:=a x mS
  simp only[List.drop_succ_cons,List.flatten_cons]
  rw[x08 xs k (λd c=>a d (mC _ c)),List.drop_append (l₁:=x),List.drop_of_length_le (l:=x) (by rw[b,Nat.add_mul];omega),b,Nat.add_mul,Nat.one_mul,Nat.add_sub_cancel,List.nil_append]
def u00(a:Act)(d:Int)(x:Option Operand)(l:Int):Prop:=match x with
 |none=>l=d
 |some y=>∃ k,a.eval y = .int k l
theorem P01(e:Sim P h0 w0 be oe H st h a w){d l:Int}{x:Option Operand}(b:K00 d (x.map (rdO st))=some l):u00 a d x l:=by
 cases x with
 |none=>simp only[Option.map_none,K00,Option.some.injEq]at b;exact b.symm
 |some c =>
  have g:=e.rdO c
  simp only[Option.map_some]at b
  cases hr:rdO st c with
  |val v =>
   rw[hr]at b g
   cases v<;>simp only[K00,Option.some.injEq]at b<;>first|(subst b;exact⟨_,g⟩)|cases b
  |_=>rw[hr]at b;cases b
theorem g03{x:Value}{k:IntKind}{i:Int}{b:Nat}{c:BoundsCode}(f:x = .int k i)(d:0<=i)(e:i<=(b:Int))(a:Nat->Hp->Prop):wpS P (Instr.sliceBound x b c) H a=a i.toNat H:=by
 subst f
 simp only[Instr.sliceBound,asIntOf,Z0,K1,d,e,and_self,if_true]
theorem a07{s:Bool}{n c:Nat}{g b:Option Operand}{l m:Int}(j:u00 a 0 g l)(d:u00 a n b m)(i:0<=l)(u:l<=m)(v:m<=(n:Int))(w:n<=c)
  (h:Nat×Nat×Nat->Hp->Prop):wpS P (Instr.sliceBounds s n c (g.map a.eval) (b.map a.eval) none) H h=h (l.toNat,m.toNat,c) H:=by
 have q:l<=(m.toNat:Int):=by omega
 cases g with
 |none =>
  have p:l=0:=j
  subst p
  cases b with
  |none =>
   have e:m=(n:Int):=d
   subst e
   simp only[Instr.sliceBounds,Option.map_none,Z0,K1];rfl
  |some t =>
   obtain⟨k,f⟩:=d
   simp only[Instr.sliceBounds,Option.map_none,Option.map_some,Z0,K1,g03 f (by omega) (show m<=(c:Int) by omega)];rfl
 |some x =>
  obtain⟨k,o⟩:=j
  cases b with
  |none =>
   have e:m=(n:Int):=d
   subst e
   simp only[Instr.sliceBounds,Option.map_none,Option.map_some,Z0,K1,g03 o i (show l<=((n:Nat):Int) by omega)];rfl
  |some t =>
   obtain⟨y,f⟩:=d
   simp only[Instr.sliceBounds,Option.map_some,Z0,K1,g03 f (by omega) (show m<=(c:Int) by omega),g03 o i q]
theorem exec_slice{t e sz:Nat}{x:Operand}{g f:Option Operand}{d:Option Addr}{n c:Nat}{l m:Int}(u:o.op = .slice t x g f none)(w:B7 P t=some e)(v:E4 P e=some sz)
  (y:a.eval x = .slice d n c) (p:u00 a 0 g l) (q:u00 a n f m) (h:0<=l) (i:l<=m) (j:m<=(n:Int)) (s:n<=c) :
  ∀ b:Next->Hp->Prop,b (.value (.slice (if c=l.toNat then d else d.map (·.add (l.toNat*sz))) (m.toNat-l.toNat) (c-l.toNat))) H->wpS P (execOp a.eval o) H b:=by
 intro b k
 unfold execOp;rw[u]
 refine C5 _ _ _ ?_
 simp only[Instr.sliceAt,Z0,L3 (l6 w),Instr.slice,y,Option.map_none]
 rw[a07 p q h i j s]
 simp only[W7 v,K1]
 exact k
theorem Y0d(u:Sim P h0 w0 be oe H st h a w){t e sz:Nat}{x:Operand}{C A:Option Operand}{g:Option Addr}{n c:Nat}(S:o.op = .slice t x C A none)(V:B7 P t=some e)(U:E4 P e=some sz)
  (T:rdO st x = .val (.slice g n c)) (p:L0b sz (.slice g n c) n (C.map (rdO st)) (A.map (rdO st)) st h K):o.wp P a w (Nx P h0 w0 st be oe K a o.dst) Q:=by
 have z:=u.rdO x
 rw[T]at z
 unfold L0b at p
 split at p
 rotate_left
 ·exact p.elim
 rename_i l m M N
 obtain⟨⟨E,F,G⟩,xs,I,L⟩:=p
 obtain⟨i,W,Z,X,y,Y,O,k⟩:=I
 cases y
 have B:((xs.take m.toNat).drop l.toNat).length=m.toNat-l.toNat:=by simp;omega
 have R:SlE h sz (.slice (if c=l.toNat then g else g.map (·.add (l.toNat*sz))) (m.toNat-l.toNat) (c-l.toNat)) ((xs.take m.toNat).drop l.toNat):=by
  refine⟨λf d=>i f (List.mem_of_mem_take (List.mem_of_mem_drop d)),_,_,_,rfl,B.symm,by omega,?_⟩
  rcases k with k|⟨b,off,rfl,J⟩
  ·left
   rw[List.flatten_eq_nil_iff]at k ⊢
   exact λf d=>k f (List.mem_of_mem_take (List.mem_of_mem_drop d))
  ·by_cases hcl:c=l.toNat
   ·left
    have:(xs.take m.toNat).drop l.toNat = []:=List.eq_nil_of_length_eq_zero (by rw[B];omega)
    rw[this];rfl
   ·right
    rw[if_neg hcl]
    refine⟨b,off+l.toNat*sz,by simp[o8],λj v q=>?_⟩
    have s:=Y7 xs (λx s=>(i x s).1)
    rw[Nat.add_assoc]
    refine J _ _ ?_
    have y:(xs.take m.toNat).flatten=xs.flatten.take (m.toNat*sz):=f03 xs _ (λx s=>(i x s).1)
    have D:((xs.take m.toNat).drop l.toNat).flatten=((xs.take m.toNat).flatten).drop (l.toNat*sz):=x08 _ _ (λf d=>(i f (List.mem_of_mem_take d)).1)
    rw[D,y,List.getElem?_drop,List.getElem?_take]at q
    split at q
    ·exact q
    ·cases q
 exact B5 u (av := .val _) (exec_slice S V U z (P01 u M) (P01 u N) E F G O) rfl (L _ R λ_ _ _ e=>by cases e;rfl)
theorem Z0d(p:Sim P h0 w0 be oe H st h a w){t e sz:Nat}{x:Operand}{u s:Option Operand}{i k:Nat}(L:o.op = .slice t x u s none)(O:B7 P t=some e)(N:E4 P e=some sz)
  (M:rdO st x = .own i k) (f:J0b i (u.map (rdO st)) (s.map (rdO st)) st h K):o.wp P a w (Nx P h0 w0 st be oe K a o.dst) Q:=by
 have G:=p.rdO x
 rw[M]at G
 obtain⟨T,D,S,ao,xs,j⟩:=K01 M
 unfold J0b at f
 split at f
 rotate_left
 ·exact f.elim
 rename_i am m ae A
 simp only[j]at f
 obtain⟨⟨R,F⟩,B⟩:=f
 have af:u=none:=by cases u<;>simp at ae;rfl
 subst af
 have J:u00 a (xs.length:Int) s m:=by
  cases s with
  |none=>simp at A
  |some c =>
   have g:=p.rdO c
   simp only[Option.map_some,Option.some.injEq]at A
   rw[A]at g
   exact⟨am,g⟩
 have C:=p.own i _ _ _ _ _ _ j
 have b:=G.own_cur j
 have aq:∀ v,v=oe i->v.ownBlock=(oe i).ownBlock:=λv aj=>by rw[aj]
 have an:∃ v,(∀ q:Next->Hp->Prop,q (.value v) H->wpS P (execOp a.eval o) H q)/\v.ownBlock=(oe i).ownBlock/\u01 h H v T D ao (xs.take m.toNat):=by
  have I:∀ c∈xs.take m.toNat,c.length=D/\∀ v∈c,v.oneCell'=true:=λc al=>C.1 c (List.mem_of_mem_take al)
  rcases C.2 with⟨d,y,z⟩|⟨g,cap,cur,d,y,z,W,X,Y,Z⟩
  ·rw[d]at b
   subst y
   have ag:m=0:=by simp at F;omega
   subst ag
   refine⟨_,exec_slice L O N b (l:=0) rfl J (by omega) (by omega) (by simp) (Nat.le_refl _),?_,I,.inl ⟨by simp,by simp,z⟩⟩
   rw[d];simp[Value.ownBlock]
  ·rw[d]at b
   refine⟨.slice (some ⟨g,0,none⟩) m.toNat cap,λq B=>exec_slice L O N b (l:=0) rfl J (by omega) R F W q ?_,by rw[d];rfl,I,.inr ⟨g,cap,cur,?_,y,z,?_,X,Y,?_⟩⟩
   ·have:(if cap=Int.toNat 0 then some (⟨g,0,none⟩:Addr)else(some (⟨g,0,none⟩:Addr)).map (·.add (Int.toNat 0*sz)))=some ⟨g,0,none⟩:=by
     simp[Addr.add]
    rw[this]
    simpa using B
   ·have:(xs.take m.toNat).length=m.toNat:=by simp;omega
    rw[this]
   ·simp;omega
   ·have ad:(xs.take m.toNat).length=m.toNat:=by simp;omega
    rw[ad]
    have U:(xs.take m.toNat).flatten=xs.flatten.take (m.toNat*D):=f03 xs _ (λx b=>(C.1 x b).1)
    rw[U,←Z,List.take_take]
    congr 1
    rw[Nat.min_eq_left (Nat.mul_le_mul_right _ (by omega))]
 obtain⟨v,ak,ab,aa⟩:=an
 obtain⟨ar,E,au,ai,⟨rfl,rfl⟩,ah⟩:=O6 _ _ _ p.mv.vis (ak (λn E=>n = .value v/\E=H) ⟨rfl,rfl⟩)
 obtain⟨ap,V⟩:=p.updOwn (s1:=k+1) (by_:=S) j (Nat.le_succ _) (λe=>absurd e (Nat.succ_ne_self k)) ah (λ_ _ _=>rfl) aa (λg ac => .inl (by rw[←ab];exact ac))
 refine A5 ai ⟨_,_,h,v,_,_,_,B,rfl,ap,?_,V⟩
 refine⟨k+1,?_,Nat.le_refl _,λ_=>by simp⟩
 simp[stamp,Q4 _ _ _ (V7 j)]
theorem exec_cutStr{t:TypeId}{x:Operand}{e d:Option Operand}{b:ByteArray}{l m:Int}(n:o.op = .slice t x e d none)(p:P.underlying t=some .string)
  (q:a.eval x = .string b) (j:u00 a 0 e l) (k:u00 a b.size d m) (f:0<=l) (g:l<=m) (h:m<=(b.size:Int)) :
  ∀ c:Next->Hp->Prop,c (.value (.string (b.extract l.toNat m.toNat))) H->wpS P (execOp a.eval o) H c:=by
 intro c i
 unfold execOp;rw[n]
 refine C5 _ _ _ ?_
 simp only[Instr.sliceAt,Z0,L3 p,Instr.slice,q,Option.map_none,Option.isSome_none,Bool.false_eq_true,if_false,K1]
 rw[a07 j k f g h (Nat.le_refl _)]
 exact i
theorem exec_index{t:TypeId}{x i:Operand}{b:ByteArray}{k:IntKind}{j:Int}{c:UInt8}(l:o.op = .index t x i)(m:P.underlying t=some .string)(n:a.eval x = .string b)(g:a.eval i = .int k j)
  (e:0<=j) (f:b[j.toNat]?=some c):∀ d:Next->Hp->Prop,d (.value (.int .u8 c.toNat)) H->wpS P (execOp a.eval o) H d:=by
 intro d h
 unfold execOp;rw[l]
 refine C5 _ _ _ ?_
 simp only[Instr.index,n,g,asIntOf,Z0,K1,L3 m,e,if_true,f]
 exact h
theorem exec_quo{t k:TypeId}{x e:Operand}{b c:Int}(h:o.op = .binOp .quo t x e k)(i:a.eval x = .int .i64 b)(j:a.eval e = .int .i64 c)(g:c≠0):
  ∀ d:Next->Hp->Prop,d (.value (.int .i64 (IntKind.i64.wrap (b.tdiv c)))) H->wpS P (execOp a.eval o) H d:=by
 intro d f
 unfold execOp;rw[h]
 refine C5 _ _ _ ?_
 simp only[i,j,eqGuard,Z0,Bool.not_false,if_true,K1,binOp,Go.Op.intDiv,if_neg g,ne_eq,not_true_eq_false,if_false]
 exact f
theorem exec_rem{t k:TypeId}{x e:Operand}{b c:Int}(h:o.op = .binOp .rem t x e k)(i:a.eval x = .int .i64 b)(j:a.eval e = .int .i64 c)(g:c≠0):
  ∀ d:Next->Hp->Prop,d (.value (.int .i64 (b.tmod c))) H->wpS P (execOp a.eval o) H d:=by
 intro d f
 unfold execOp;rw[h]
 refine C5 _ _ _ ?_
 simp only[i,j,eqGuard,Z0,Bool.not_false,if_true,K1,binOp,Go.Op.intDiv,if_neg g,ne_eq,not_true_eq_false,if_false]
 exact f
theorem i0f{t k:TypeId}{x e:Operand}{b c:Int}(h:o.op = .binOp .shl t x e k)(i:a.eval x = .int .i64 b)(j:a.eval e = .int .i64 c)(l:0<=c):
  ∀ d:Next->Hp->Prop,d (.value (.int .i64 (IntKind.i64.wrap (b*2 ^ min c.toNat 64)))) H->wpS P (execOp a.eval o) H d:=by
 intro d f
 unfold execOp;rw[h]
 refine C5 _ _ _ ?_
 have g : ¬ c<0:=by omega
 simp only[i,j,eqGuard,Z0,Bool.not_false,if_true,K1,binOp,Go.Op.shift,if_neg g,IntKind.bits]
 exact f
theorem j0f{t k:TypeId}{x e:Operand}{b c:Int}(h:o.op = .binOp .shr t x e k)(i:a.eval x = .int .i64 b)(j:a.eval e = .int .i64 c)(l:0<=c):
  ∀ d:Next->Hp->Prop,d (.value (.int .i64 (b.fdiv (2 ^ min c.toNat 64)))) H->wpS P (execOp a.eval o) H d:=by
 intro d f
 unfold execOp;rw[h]
 refine C5 _ _ _ ?_
 have g : ¬ c<0:=by omega
 simp only[i,j,eqGuard,Z0,Bool.not_false,if_true,K1,binOp,Go.Op.shift,if_neg g,IntKind.bits]
 exact f
theorem exec_cat{t k:TypeId}{x e:Operand}{b c:ByteArray}(h:o.op = .binOp .add t x e k)(i:a.eval x = .string b)(j:a.eval e = .string c)(l:b.size+c.size<=9223372036854775807):
  ∀ d:Next->Hp->Prop,d (.value (.string (b++c))) H->wpS P (execOp a.eval o) H d:=by
 intro d f
 unfold execOp;rw[h]
 refine C5 _ _ _ ?_
 have g : ¬ (((b.size+c.size:Nat):Int)>IntKind.i64.max):=by
  have:IntKind.i64.max=9223372036854775807:=by decide
  rw[this];omega
 simp only[i,j,eqGuard,Z0,Bool.not_false,if_true,K1,binOp,Go.Op.stringOp,if_neg g]
 exact f
end
end Go.H
namespace Go.H
set_option linter.unusedVariables false
set_option linter.unusedSimpArgs false
section
variable {P:Program} {h0:Hp} {w0:World} {be:Nat->Nat} {oe:Nat->Value} {H:Hp} {st:St} {h:Hp} {a:Act} {w:World} {o:Oper} {K:AV->St->Hp->Prop} {Q:Exit->Act->World->Prop}
theorem f06:∀(a c r:List Value) (k:Nat),k+a.length<=c.length->T1 (c++r) k a=T1 c k a++r
 | [],c,r,k,_=>rfl
 |n::a,c,r,k,b=>by
  simp only[List.length_cons]at b
  simp only[T1]
  rw[List.set_append_left _ _ (by omega),f06 a _ r (k+1) (by simp;omega)]
theorem w04:∀(a x l:List Value) (k:Nat),T1 (x++l) (x.length+k) a=x++T1 l k a
 | [],x,l,k=>rfl
 |n::a,x,l,k=>by
  simp only[T1]
  rw[List.set_append_right _ _ (by omega),Nat.add_sub_cancel_left,Nat.add_assoc,w04 a x _ (k+1)]
theorem E02{sz:Nat}(a:List Value)(k:Nat):∀(xs:List (List Value)) (i:Nat) (c:List Value),(∀ x∈xs,x.length=sz)->xs[i]?=some c->k+a.length<=c.length ->
  (xs.set i (T1 c k a)).flatten=T1 xs.flatten (i*sz+k) a
 | [],i,c,_,h,_=>by simp at h
 |x::xs,0,c,d,h,b=>by
  simp at h;subst h
  simp only[List.set_cons_zero,List.flatten_cons,Nat.zero_mul,Nat.zero_add]
  rw[f06 a x _ k b]
 |x::xs,i+1,c,d,h,b=>by
  simp at h
  have e:=d x mS
  simp only[List.set_cons_succ,List.flatten_cons]
  rw[E02 a k xs i c (λg f=>d g (mC _ f)) h b]
  rw[show(i+1)*sz+k=x.length+(i*sz+k) from by rw[e,Nat.add_mul];omega,w04]
theorem O00:∀(b cs:List Value) (off a:Nat),(T1 cs off b).take a=T1 (cs.take a) off b
 | [],cs,off,a=>rfl
 |n::b,cs,off,a=>by
  simp only[T1]
  rw[O00 b _ (off+1) a,List.take_set]
theorem b07:∀(a cs:List Value) (off:Nat) (v:Value),v∈T1 cs off a->v∈cs∨v∈a
 | [],cs,off,v,h => .inl h
 |n::a,cs,off,v,h=>by
  rcases b07 a _ (off+1) v h with h|h
  ·rcases List.mem_or_eq_of_mem_set h with h|h
   ·exact .inl h
   ·exact .inr (by rw[h];exact mS)
  ·exact .inr (mC _ h)
theorem z09(E:Sim P h0 w0 be oe H st h a w){t:TypeId}{p x:Operand}{i O:Nat}{idx:Int}{sz k:Nat}(aj:o.op = .store t p x)(al:rdO st p = .oel i O idx sz k)
  (ac:rfy (rdO st x) st h λv st h=>match nth st.ow i,E4 P t with
   |some ⟨y,.live e d by_ nn xs⟩,some n=>match n02 v.cells.toList n,k00 v.cells.toList,Nat.beq y O,Nat.beq d sz with
    |true,true,true,true=>∃ c,xs[idx.toNat]?=some c/\R0d c k v.cells.toList λq =>
      K (.val undef) { st with ow:=W6 st.ow i ⟨y,.live e d by_ nn (xs.set idx.toNat q)⟩ } h
    |_,_,_,_=>False
   |_,_=>False):o.wp P a w (Nx P h0 w0 st be oe K a o.dst) Q:=by
 have I:=E.rdO p
 rw[al]at I
 obtain⟨az,J,f,s1,G⟩:=P8 E (E.rdO x) ac
 have S:=I.grow G
 split at f
 rotate_left
 ·exact f.elim
 rename_i y e d by_ nn xs n B an
 split at f
 rotate_left
 ·exact f.elim
 rename_i ag ak X Y
 have ao:=Nat.eq_of_beq_eq_true X
 have ap:=Nat.eq_of_beq_eq_true Y
 subst ao;subst ap
 obtain⟨c,s,j⟩:=f
 unfold R0d at j
 split at j
 rotate_left
 ·exact j.elim
 rename_i A
 have A:=Nat.le_of_ble_eq_true A
 have ah:=Z8 _ _ ag
 have N:=M9 _ ak
 obtain⟨g,ax,q,u,C⟩:=S.oel_cur B
 have l:=s1.own i _ _ _ _ _ _ B
 rcases l.2 with⟨m,_⟩|⟨R,cap,cur,m,ae,af,M,ab,L,aq⟩
 ·rw[m]at u;cases u
 rw[m]at u;cases u
 have Z:=(List.getElem?_eq_some_iff.1 s)
 have aa:c.length=d:=(l.1 c (List.mem_of_getElem? s)).1
 have V:idx.toNat*d+k+n<=cur.toList.length:=by
  have:(idx.toNat+1)*d<=q*d:=Nat.mul_le_mul_right _ (Nat.le_trans Z.1 M)
  rw[Nat.add_mul]at this
  simp only[Array.length_toList,L]
  omega
 have au:=N01 (H:=H) (P:=P) (a:=a) (cur:=cur.toList) aj an C ah N (by simpa using af) V
 obtain⟨ay,F,aA,am,⟨rfl,rfl⟩,ai⟩:=O6 _ _ _ s1.mv.vis (au (λn F=>n = .skip/\F=_) ⟨rfl,rfl⟩)
 rw[n8]at j
 have U:u01 J (H.set g (.cells (T1 cur.toList (idx.toNat*d+k) (a.eval x).cells.toList).toArray e (0,0))) (oe i) e d nn (xs.set idx.toNat (T1 c k (a.eval x).cells.toList)):=by
  refine⟨λaw D=>?_,.inr ⟨g,q,_,by simpa using m,ae,Hp.set_same _ _ _,by simpa using M,ab,by simp[R4,L],?_⟩⟩
  ·rcases List.mem_or_eq_of_mem_set D with D|rfl
   ·exact l.1 aw D
   ·refine⟨by rw[R4,aa],λv ar=>?_⟩
    rcases b07 _ _ _ _ ar with z|z
    ·exact(l.1 c (List.mem_of_getElem? s)).2 v z
    ·exact N v z
  ·rw[E02 (sz:=d) _ _ xs idx.toNat c (λx C=>(l.1 x C).1) s A,←aq]
   simp only[List.length_set]
   rw[O00]
 obtain⟨av,T⟩:=s1.updOwn (s1:=y) (by_:=by_) B (Nat.le_refl _) (λ_=>rfl) ai (λb W _=>Hp.set_other _ _ (λe=>W (by rw[m,e];rfl))) U (λR ad => .inl ad)
 exact s04 am ⟨_,_,J,_,_,_,_,j,rfl,av,rfl,G.trans T⟩
theorem A09(c:Sim P h0 w0 be oe H st h a w){t:TypeId}{p x:Operand}{sl:Value}{idx:Int}{sz k:Nat}{v:Value}(B:o.op = .store t p x)(D:rdO st p = .hel sl idx sz k)
    (I:rdO st x = .val v) (F:E4 P t=some 1)
    (y : ∃ b of n f cur ty, (sl = .slice (some ⟨b, of, none⟩) n f ∧ 0 ≤ idx ∧ h b = some (.cells cur ty (0, 0)) ∧ of + (idx.toNat * sz + k) < cur.size ∧ C9 v) ∧
            K (.val undef) st (h.set b (.cells (cur.setIfInBounds (of+(idx.toNat*sz+k)) v) ty (0,0)))):o.wp P a w (Nx P h0 w0 st be oe K a o.dst) Q:=by
  have i:=c.rdO p
  rw[D]at i
  have d:a.eval x=v:=by have:=c.rdO x;rw[I]at this;exact this
  obtain⟨b,off,n,f,cur,ty,⟨m,_,u,N,O⟩,z⟩:=y
  obtain⟨L,T,R,M,g,q⟩:=i
  rw[m]at g;cases g
  have e:v.cells = #[v]:=by cases v<;>simp_all [C9,Value.cells]
  have C:v.oneCell'=true:=by cases v<;>simp_all [C9,Value.oneCell']
  have G:=N01 (H:=h) (P:=P) (a:=a) (cur:=cur.toList) B F q (by rw[d,e];rfl) (by rw[d,e];simpa using C) (by simpa using u) (by simp;omega)
  obtain⟨S,j,U,E,⟨rfl,rfl⟩,A⟩:=O6 _ _ _ (z03 c) (G (λn j=>n = .skip/\j=_) ⟨rfl,rfl⟩)
  obtain⟨J,l⟩:=c.moved A
  have s:(T1 cur.toList (off+(idx.toNat*sz+k)) (a.eval x).cells.toList).toArray=cur.setIfInBounds (off+(idx.toNat*sz+k)) v:=by
    rw[d,e]
    apply Array.ext'
    simp[T1]
  rw[s]at l
  exact s04 E ⟨_,_,_,_,_,_,_,z,rfl,l,rfl,U4.refl _ _ _⟩
theorem C03(e:Sim P h0 w0 be oe H st h a w){t:TypeId}{p x:Operand}{sl:Value}{idx:Int}{sz k n:Nat}{new:List Value}(A:o.op = .store t p x)(B:rdO st p = .hel sl idx sz k)
  (d:(a.eval x).cells.toList=new) (D:E4 P t=some n) (v:n02 new n=true) (q:k00 new=true)
  (u:r9 h sl idx (idx.toNat*sz+k) new λc=>K (.val undef) st c):o.wp P a w (Nx P h0 w0 st be oe K a o.dst) Q:=by
 have g:=e.rdO p
 rw[B]at g
 obtain⟨b,off,M,I,cur,ty,⟨l,_,s,L⟩,i⟩:=u
 obtain⟨G,R,N,J,f,m⟩:=g
 rw[l]at f;cases f
 have y:=Z8 _ _ v
 have E:=N01 (H:=h) (P:=P) (a:=a) (cur:=cur.toList) A D m (by rw[d];exact y) (by rw[d];exact M9 _ q) (by simpa using s) (by simp;omega)
 obtain⟨O,c,S,C,⟨rfl,rfl⟩,z⟩:=O6 _ _ _ (z03 e) (E (λn c=>n = .skip/\c=_) ⟨rfl,rfl⟩)
 obtain⟨F,j⟩:=e.moved z
 rw[n8]at i
 rw[d]at j
 exact s04 C ⟨_,_,_,_,_,_,_,i,rfl,j,rfl,U4.refl _ _ _⟩
theorem D03:∀(d:List Field),m01 P d=true->∃ c,d.mapM (λf:Field=>(P.info? f.type).map λi=>(f.offset,i.size))=some c /\
  ∀(k:Nat) (f:Field) (n:Nat),d[k]?=some f->E4 P f.type=some n->c[k]?=some (f.offset,n)
 | [],_=>⟨[],rfl,by simp⟩
 |f::r,h=>by
  simp only[m01]at h
  split at h
  ·rename_i m a
   obtain⟨c,l,o⟩:=D03 r h
   unfold E4 at a
   split at a
   ·rename_i i j
    cases a
    refine⟨(f.offset,i.size)::c,by simp[List.mapM_cons,j,l],λk g n e b=>?_⟩
    cases k with
    |zero =>
     simp at e
     subst e
     unfold E4 at b
     rw[j]at b
     cases b
     simp
    |succ k=>simpa using o k g n (by simpa using e) b
   ·cases a
  ·cases h
theorem x04{e:Array Field}{q:List (Nat×Nat)}(m:∀(k:Nat) (f:Field) (n:Nat),e.toList[k]?=some f->E4 P f.type=some n->q[k]?=some (f.offset,n)){s:Operand->AV}
  (o:∀ x cs,E7 (s x)=some cs->Y0 st oe cs (a.eval x).cells.toList):∀(l:List (Nat×Operand)) {cs:List i4} {vs:List Value} {K:List i4->Prop},Y0 st oe cs vs->v02 P e s l cs K ->
  ∃ cs' d,K cs'/\Y0 st oe cs' d/\Instr.fill (q.toArray[·]?) vs.toArray (l.map λp=>(p.1,a.eval p.2))=some d.toArray
 | [],cs,vs,K,g,b=>⟨cs,vs,b,g,rfl⟩
 |(i,x)::r,cs,vs,K,g,b=>by
  simp only[v02]at b
  split at b
  rotate_left
  ·exact b.elim
  rename_i f new hf z
  split at b
  rotate_left
  ·exact b.elim
  rename_i n B
  split at b
  rotate_left
  ·exact b.elim
  rename_i w v
  have y:=Z8 _ _ w
  have I:=Nat.le_of_ble_eq_true v
  have h:=o x new z
  have A:=m i f n (by simpa using hf) B
  have H:=g.length
  have D:=h.length
  obtain⟨cs',d,E,F,G⟩:=x04 m o r (g.splice h) b
  refine⟨cs',d,E,F,?_⟩
  have C:(a.eval x).cells.size=n:=by rw[←y,D];simp
  simp only[List.map_cons,Instr.fill,List.getElem?_toArray,A,C,ne_eq,not_true_eq_false,decide_false,Bool.false_or,decide_eq_true_eq]
  rw[if_neg (by simp;omega)]
  have t:=C0a (a.eval x) f.offset vs.toArray
  have u:((a.eval x).cells.zipIdx.foldl (λcs (p:Value×Nat)=>cs.setIfInBounds (f.offset+p.2) p.1) vs.toArray)=(T1 vs f.offset (a.eval x).cells.toList).toArray:=by
   rw[←t]
  rw[show((a.eval x).cells.zipIdx.foldl (λcs (x:Value×Nat)=>match x with|(c,j)=>cs.setIfInBounds (f.offset+j) c) vs.toArray)=(T1 vs f.offset (a.eval x).cells.toList).toArray from u]
  simpa using G
theorem D0a(E:Sim P h0 w0 be oe H st h a w){t:TypeId}{b:Array (Nat×Operand)}{c:Array Field}{z:Value}{f:Operand->AV}{K':AV->Prop}(q:o.op = .build t b)(u:P.underlying t=some (.struct c))
  (y:J7 P t=some z) (k:m01 P c.toList=true) (s:∀ x cs,E7 (f x)=some cs->Y0 st oe cs (a.eval x).cells.toList)
  (m:v02 P c f b.toList (vals z.cells.toList) λcs=>K' (.agg cs)) :
  ∃ av v,K' av/\J1 st be oe av v/\∀ w:World,(execOp a.eval o).run P w = .ok (.value v) w:=by
 obtain⟨D,g,j⟩:=D03 c.toList k
 obtain⟨cs',e,A,B,C⟩:=x04 (st:=st) (oe:=oe) (a:=a) j s b.toList (Y0.vals st oe z.cells.toList) m
 have d:=y
 unfold J7 at d
 split at d
 rotate_left
 ·cases d
 rename_i i n
 have l:P.built t (b.map λx=>(x.1,a.eval x.2)).toList=some e.toArray:=by
  unfold Program.built
  simp only[n,u,d,g]
  rw[show(Array.map (λx=>(x.1,a.eval x.2)) b).toList=b.toList.map λp=>(p.1,a.eval p.2) from by simp]
  simpa using C
 refine⟨_,.agg e.toArray,A,⟨e,rfl,B⟩,λw=>?_⟩
 unfold execOp;rw[q]
 simp only[Sem.run_bind,run_build w t _ _ l,Result.andThen_ok,Sem.run_pure]
theorem k08(c:Sim P h0 w0 be oe H st h a w){x:Operand}{cs:List i4}(b:u02 (rdO st x)=some cs):∃ vs:List Value,a.eval x = .agg vs.toArray/\Y0 st oe cs vs:=by
 have g:=c.rdO x
 cases hr:rdO st x with
 |val v =>
  rw[hr]at b g
  cases v<;>simp only[u02,Option.some.injEq]at b<;>first|(subst b;exact⟨_,by rw[show a.eval x=_ from g],Y0.vals _ _ _⟩)|cases b
 |agg cs' =>
  rw[hr]at b g
  simp only[u02,Option.some.injEq]at b
  subst b
  exact g
 |_=>rw[hr]at b;cases b
theorem k0f(m:Sim P h0 w0 be oe H st h a w){t:TypeId}{x:Operand}{k:Nat}{cs:List i4}{l:Array Field}{f:Field}(y:o.op = .field t x k)(q:u02 (rdO st x)=some cs)
  (z:P.underlying t=some (.struct l)) (hf:l[k]?=some f) (b:H00 P f.type cs f.offset λav=>K av st h):o.wp P a w (Nx P h0 w0 st be oe K a o.dst) Q:=by
 obtain⟨vs,C,g⟩:=k08 m q
 unfold H00 at b
 have fin:∀(av:AV) (v:Value),K av st h->J1 st be oe av v->(∀ d:Value->Hp->Prop,d v H->wpS P (part f.type vs.toArray f.offset) H d)->o.wp P a w (Nx P h0 w0 st be oe K a o.dst) Q:=by
  intro av v e s B
  refine B5 m (λd u=>?_) s e
  unfold execOp;rw[y]
  refine C5 _ _ _ ?_
  simp only[Instr.field,Z0,L3 z,hf,C,asAgg,K1]
  exact B _ u
 split at b
 ·rename_i i
  split at b
  ·rename_i n j
   split at b
   ·refine fin _ (.agg ((vs.drop f.offset).take n).toArray) b ⟨_,rfl,(g.drop _).take _⟩ λd e=>?_
    simp only[part,Z0,d03 i,if_true,W7 j,K1]
    have:vs.toArray.extract f.offset (f.offset+n)=((vs.drop f.offset).take n).toArray:=by
     apply Array.ext'
     simp[List.take_drop]
    rw[this]
    exact e
   ·exact b.elim
  ·exact b.elim
 ·rename_i i
  split at b
  ·rename_i c j
   obtain⟨v,A,p⟩:=g.nth j
   refine fin _ v b (J1.ofCell p) λd e=>?_
   simp only[part,Z0,d03 i,Bool.false_eq_true,if_false]
   have:vs.toArray[f.offset]?=some v:=by simpa using A
   simp only[this,K1]
   exact e
  ·exact b.elim
 ·exact b.elim
theorem y04{t:TypeId}{e:TypeId}{x:Operand}{as:Array Operand}{b:Array TypeId}{d:Option Addr}{n c:Nat}(g:o.op = .call { callee := .builtin .len,args:=as,argTypes:=b })(f:as = #[x])(i:b = #[t])
  (h:B7 P t=some e) (j:a.eval x = .slice d n c) (w:World):(execOp a.eval o).run P w = .ok (.value (.int .i64 n)) w:=by
 subst f;subst i
 unfold execOp;rw[g]
 simp only[resolve,invoke,builtin,Builtin.len_,Sem.run_bind,Sem.run_pure,Result.andThen_ok,List.map_toArray,List.map_cons,List.map_nil,j,List.getElem?_toArray,List.getElem?_cons_zero,run_underlying (l6 h),goInt]
end
end Go.H
namespace Go.H
set_option linter.unusedVariables false
set_option linter.unusedSimpArgs false
section
variable {P:Program} {h0:Hp} {w0:World} {be:Nat->Nat} {oe:Nat->Value} {H:Hp} {st:St} {h:Hp} {a:Act} {w:World} {o:Oper} {K:AV->St->Hp->Prop} {Q:Exit->Act->World->Prop}
theorem r05(d:Sim P h0 w0 be oe H st h a w){av:AV}{v:Value}(c:∀ w:World,(execOp a.eval o).run P w = .ok (.value v) w)(g:J1 st be oe av v)(b:K av st h):o.wp P a w (Nx P h0 w0 st be oe K a o.dst) Q :=
 A5 (c w) ⟨av,st,h,v,be,oe,H,b,rfl,d,g,U4.refl _ _ _⟩
set_option maxHeartbeats 1000000 in
theorem F7(q:Sim P h0 w0 be oe H st h a w)(d:v6 P o st h K):o.wp P a w (Nx P h0 w0 st be oe K a o.dst) Q:=by
 cases ho:o.op with
 |move x=>simp only[v6,ho]at d;exact P0c q (.inl ho) d
 |assign x=>simp only[v6,ho]at d;exact P0c q (.inr ho) d
 |box t x =>
  simp only[v6,ho]at d
  split at d
  ·rename_i cs F;exact M0h q ho F d
  ·exact d.elim
 |alloc t =>
  simp only[v6,ho]at d
  split at d
  ·rename_i z S;exact h0f q ho S d
  ·exact d.elim
 |fieldAddr t x k=>simp only[v6,ho]at d;exact t09 q ho d
 |indexAddr t x i=>simp only[v6,ho]at d;exact y09 q ho d
 |load t x =>
  simp only[v6,ho]at d
  split at d
  ·rename_i i off u
   split at d
   ·rename_i cs ty I;exact z0a q ho u I d
   ·exact d.elim
  ·rename_i sl idx sz k u
   obtain⟨c,F,y⟩:=d
   exact A0a q ho u F y
  ·rename_i i ad idx sz k u
   split at d
   ·rename_i bc e bd by_ nn xs I
    split at d
    ·rename_i U
     have ab:=Nat.eq_of_beq_eq_true U
     subst ab
     obtain⟨c,F,y⟩:=d
     exact B0a q ho u I F y
    ·exact d.elim
   ·exact d.elim
  ·exact Y5 q d
 |store t p x =>
  simp only[v6,ho]at d
  split at d
  ·rename_i i off u
   split at d
   ·rename_i cs ty new n I F B
    split at d
    ·rename_i G A;exact u09 q ho u I F B G A d
    ·exact d.elim
   ·exact d.elim
  ·rename_i i ad idx sz k u
   exact z09 q ho u d
  ·rename_i sl idx sz k u
   split at d
   ·rename_i v s
    split at d
    ·rename_i B;exact A09 q ho u s B d
    ·rename_i n _ B
     split at d
     ·rename_i G A
      exact C03 q ho u (by have:=q.rdO x;rw[s]at this;rw[show a.eval x=v from this]) B G A d
     ·exact d.elim
    ·exact d.elim
   ·rename_i cs s
    split at d
    ·rename_i n new B M
     split at d
     ·rename_i G A
      refine C03 q ho u ?_ B G A d
      have g:=q.rdO x
      rw[s]at g
      obtain⟨vs,ar,au⟩:=g
      rw[ar,C02 M au]
      rfl
     ·exact d.elim
    ·exact d.elim
   ·exact d.elim
  ·exact Y5 q d
 |build t aM =>
  simp only[v6,ho]at d
  split at d
  ·rename_i aq z R S
   split at d
   ·rename_i V
    obtain⟨av,v,aF,aG,aH⟩:=D0a (K':=λav=>K av st h) q ho R S V (λx cs F=>M01 q F) d
    exact r05 q aH aG aF
   ·exact d.elim
  ·exact d.elim
 |buildSlice t n aM =>
  simp only[v6,ho]at d
  split at d
  ·rename_i e J
   split at d
   ·rename_i sz by_ z B U S
    split at d
    ·rename_i I Z G;exact j08 q ho J B S I Z d
    ·exact d.elim
   ·exact d.elim
  ·exact d.elim
 |makeSlice t l c =>
  simp only[v6,ho]at d
  split at d
  ·rename_i e J
   split at d
   ·rename_i sz by_ z a1 bb a0 ba B U S G F
    split at d
    ·rename_i aD aA;exact x09 q ho J B U S G F aD aA d.1 d.2
    ·exact d.elim
   ·exact d.elim
  ·exact d.elim
 |field t x k =>
  simp only[v6,ho]at d
  split at d
  ·rename_i cs aq F R
   split at d
   ·rename_i f hf;exact k0f q ho F R hf d
   ·exact d.elim
  ·exact d.elim
 |slice t x a2 ag aJ =>
  cases aJ with
  |some m=>simp only[v6,ho]at d;exact Y6 q d
  |none =>
   simp only[v6,ho]at d
   split at d
   ·rename_i i k u
    split at d
    ·rename_i e J
     split at d
     ·rename_i sz B;exact Z0d q ho J B u d
     ·exact d.elim
    ·exact d.elim
   ·rename_i aU n c u
    split at d
    ·rename_i e J
     split at d
     ·rename_i sz B;exact Y0d q ho J B u d
     ·exact d.elim
    ·exact d.elim
   ·rename_i b u
    split at d
    ·rename_i R
     unfold U0e at d
     split at d
     ·rename_i l m G Z
      have E:a.eval x = .string b:=by have:=q.rdO x;rw[u]at this;exact this
      obtain⟨⟨A,T,aw⟩,y⟩:=d
      exact B5 q (av := .val _) (exec_cutStr ho R E (P01 q G) (P01 q Z) A T aw) rfl y
     ·exact d.elim
    ·exact d.elim
   ·exact d.elim
 |index t x i =>
  simp only[v6,ho]at d
  split at d
  ·rename_i b k j s ag R
   have E:a.eval x = .string b:=by have:=q.rdO x;rw[s]at this;exact this
   have gi:a.eval i = .int k j:=by have:=q.rdO i;rw[ag]at this;exact this
   obtain⟨c,⟨A,T⟩,y⟩:=d
   exact B5 q (av := .val _) (exec_index ho R E gi A T) rfl y
  ·exact Y5 q d
 |binOp aL t x D aP =>
  cases aL with
  |add =>
   simp only[v6,ho]at d
   split at d
   ·rename_i b c s C
    have E:a.eval x = .string b:=by have:=q.rdO x;rw[s]at this;exact this
    have L:a.eval D = .string c:=by have:=q.rdO D;rw[C]at this;exact this
    exact B5 q (av := .val _) (exec_cat ho E L d.1) rfl d.2
   ·exact Y5 q d
  |quo =>
   simp only[v6,ho]at d
   split at d
   ·rename_i b c s C
    have E:a.eval x = .int .i64 b:=by have:=q.rdO x;rw[s]at this;exact this
    have L:a.eval D = .int .i64 c:=by have:=q.rdO D;rw[C]at this;exact this
    exact B5 q (av := .val _) (exec_quo ho E L d.1) rfl d.2
   ·exact Y5 q d
  |rem =>
   simp only[v6,ho]at d
   split at d
   ·rename_i b c s C
    have E:a.eval x = .int .i64 b:=by have:=q.rdO x;rw[s]at this;exact this
    have L:a.eval D = .int .i64 c:=by have:=q.rdO D;rw[C]at this;exact this
    exact B5 q (av := .val _) (exec_rem ho E L d.1) rfl d.2
   ·exact Y5 q d
  |shl =>
   simp only[v6,ho]at d
   split at d
   ·rename_i b c s C
    have E:a.eval x = .int .i64 b:=by have:=q.rdO x;rw[s]at this;exact this
    have L:a.eval D = .int .i64 c:=by have:=q.rdO D;rw[C]at this;exact this
    exact B5 q (av := .val _) (i0f ho E L d.1) rfl d.2
   ·exact Y5 q d
  |shr =>
   simp only[v6,ho]at d
   split at d
   ·rename_i b c s C
    have E:a.eval x = .int .i64 b:=by have:=q.rdO x;rw[s]at this;exact this
    have L:a.eval D = .int .i64 c:=by have:=q.rdO D;rw[C]at this;exact this
    exact B5 q (av := .val _) (j0f ho E L d.1) rfl d.2
   ·exact Y5 q d
  |eql =>
   simp only[v6,ho]at d
   split at d
   ·rename_i xs aS s C
    obtain⟨b,A,y⟩:=d
    exact r05 q (av := .val _) (A _ (a5 s (q.rdO x)) (a5 C (q.rdO D))) rfl y
   ·rename_i aT a4 a3 s C
    obtain⟨b,A,y⟩:=d
    exact r05 q (av := .val _) (A _ (a5 s (q.rdO x)) (a5 C (q.rdO D))) rfl y
   ·exact Y6 q d
  |neq =>
   simp only[v6,ho]at d
   split at d
   ·rename_i xs aS s C
    obtain⟨b,A,y⟩:=d
    exact r05 q (av := .val _) (A _ (a5 s (q.rdO x)) (a5 C (q.rdO D))) rfl y
   ·exact Y6 q d
  |_=>simp only[v6,ho]at d;exact Y6 q d
 |convert al am x =>
  simp only[v6,ho]at d
  split at d
  ·rename_i i k u
   split at d
   ·rename_i ad aW sz by_ nn xs e I ai aj
    split at d
    ·rename_i ak
     obtain⟨N,O,y⟩:=d
     obtain⟨ap,aO,an,aK,aR,aa⟩:=K01 u
     have g:=q.rdO x
     rw[u]at g
     have s:=g.own_cur aa
     have W:=q.own i _ _ _ _ _ _ I
     have aN:(execOp a.eval o).run P w = .ok (.value (.string (strOfNums N))) w:=by
      unfold execOp
      rw[ho]
      rcases W.2 with⟨M,aC,_⟩|⟨X,cap,cur,M,_,ax,aX,aY,aZ,af⟩
      ·rw[aC]at O
       have az:N = []:=by cases N with
        |nil=>rfl
        |cons n r=>cases O
       subst az
       rw[M]at s
       simp only[s,Sem.run_bind,run_convert_bytes_nil w al e ai ak 0 0 am aj,Result.andThen_ok,Sem.run_pure]
       rfl
      ·rw[M]at s
       have G:N.length=xs.length:=by rw[O];simp
       have ay:∀ j,j<xs.length->w.cell? ⟨X,0+j,none⟩=some (.int .u8 (N.getD j 0)):=λj Y=>by
        have ab:sz=1:=by
         have:=(W.1 _ (List.getElem_mem Y)).1
         rw[←this]
         simp only[O,List.getElem_map]
         rfl
        subst ab
        have hf:xs.flatten=N.map (Value.int .u8):=by
         rw[O]
         clear O G Y I W af y
         induction N with
         |nil=>rfl
         |cons n r aE=>simp[aE]
        have aB:=g0f q _ _ ax
        have T:=congrArg (λl:List Value=>l[j]?) (af.trans hf)
        simp only[List.getElem?_take,Nat.mul_one,if_pos Y,List.getElem?_map,Array.getElem?_toList]at T
        simp only[World.cell?,aB,Nat.zero_add]
        rw[if_neg (by simp),T]
        simp[List.getD_eq_getElem?_getD,List.getElem?_eq_getElem (show j<N.length by omega)]
       simp only[s,Sem.run_bind,run_convert_bytes_arg w al e ai ak X 0 xs.length cap N G ay am aj,Result.andThen_ok,Sem.run_pure]
     exact A5 aN ⟨_,_,_,_,_,_,_,y,rfl,q,rfl,U4.refl _ _ _⟩
    ·exact d.elim
   ·exact Y6 q d
  ·exact Y6 q d
 |call c =>
  obtain⟨ao,as,aQ⟩:=c
  cases ao with
  |builtin b =>
   cases b with
   |len =>
    simp only[v6,ho]at d
    split at d
    ·rename_i x t V ac
     have ae:as = #[x]:=by apply Array.ext';simpa using V
     have ah:aQ = #[t]:=by apply Array.ext';simpa using ac
     split at d
     ·rename_i i k u
      split at d
      ·rename_i ad e sz by_ nn xs aV I J
       obtain⟨ap,aO,an,aK,aR,aa⟩:=K01 u
       have g:=q.rdO x
       rw[u]at g
       have s:=g.own_cur aa
       have W:=q.own i _ _ _ _ _ _ I
       rcases W.2 with⟨M,O,_⟩|⟨X,cap,cur,M,_⟩
       ·rw[M]at s
        refine r05 q (av := .val _) (y04 ho ae ah J s) ?_ d
        rw[O];rfl
       ·rw[M]at s
        exact r05 q (av := .val _) (y04 ho ae ah J s) rfl d
      ·exact d.elim
     ·exact Y5 q d
    ·exact d.elim
   |append =>
    simp only[v6,ho]at d
    split at d
    ·rename_i x D t aP V ac
     split at d
     ·rename_i U
      have:=Nat.eq_of_beq_eq_true U
      subst this
      exact W0d q ho (by apply Array.ext';simpa using V) (by apply Array.ext';simpa using ac) d
     ·exact d.elim
    ·exact d.elim
   |_=>simp only[v6,ho]at d;exact Y6 q d
  |value f=>simp only[v6,ho]at d;exact Y6 q d
  |invoke r m=>simp only[v6,ho]at d;exact Y6 q d
 |_=>simp only[v6,ho]at d;exact Y6 q d
end
end Go.H
