/- The library of the walks, part HB: plain laws over the model. -/
import Derived.Test.YtcpjomkcdlggaaaGreatH3
import Derived.Laws.Tables
namespace Go.H
set_option linter.all false
theorem s08{a:Type}:∀(l:List a) (k:Nat),nth l k=l[k]?
 | [],k=>by simp[nth]
 |x::r,0=>by simp[nth]
 |x::r,k+1=>by simp[nth,s08 r k]
theorem q0f{a:Type}:∀(l:List a) (k:Nat) (x:a),e03 l k x=l.set k x
 | [],k,x=>by simp[e03]
 |y::r,0,x=>by simp[e03]
 |y::r,k+1,x=>by simp[e03,q0f r k x]
theorem r9{b:Type}(l:List b)(k:Nat)(x:b)(c:k<l.length)(a:Nat):nth (e03 l k x) a=if a=k then some x else nth l a:=by
 rw[s08,s08,q0f,List.getElem?_set]
 grind
theorem F04{a:Type}{l:List a}{k:Nat}{x:a}(h:nth l k=some x):k<l.length:=by
 grind[s08,List.getElem?_eq_some_iff]
theorem q05{b:Type}(l:List b)(x:b)(a:Nat):nth (l ++ [x]) a=if a=l.length then some x else nth l a:=by
 rw[s08,s08,List.getElem?_append]
 grind
theorem d09{a:Type}(l:List a)(k:Nat)(x:a):(e03 l k x).length=l.length:=by rw[q0f];simp
def stamp(st:St)(i:Nat):Option Nat:=match nth st.ow i with
 |some o=>some o.stamp
 |none=>none
def n0j(st:St)(oe:Nat->Value):Z6->Value->Prop
 | .val v,x=>x=v
 | .own i k,x=>∃ s,stamp st i=some s/\k<=s/\(k=s->x=oe i)
def M2(st:St)(oe:Nat->Value):List Z6->List Value->Prop
 | [],[]=>True
 |c::cs,v::vs=>n0j st oe c v/\M2 st oe cs vs
 |_,_=>False
def N2(st:St)(be:Nat->Nat)(oe:Nat->Value):AV->Value->Prop
 | .val v,x=>x=v
 | .own i k,x=>∃ a,stamp st i=some a/\k<=a/\(k=a->x=oe i)
 | .box i off,x=>i<st.bx.length/\x=ptr (be i) off
 | .hel a idx sz k,x=>∃ b o n c,a = .slice (some ⟨b,o,none⟩) n c/\x=ptr b (o+(idx.toNat*sz+k))
 | .oel i d idx sz k,x=>∃ a,stamp st i=some a/\d<=a/\(d=a->∃ g n c,oe i = .slice (some ⟨g,0,none⟩) n c/\x=ptr g (idx.toNat*sz+k))
 | .agg cs,x=>∃ vs,x = .agg vs.toArray/\M2 st oe cs vs
 | .dead,_=>True
structure P8 (st:St) (be:Nat->Nat) (oe:Nat->Value) (st':St) (be':Nat->Nat) (oe':Nat->Value):Prop where
 bl:st.bx.length<=st'.bx.length
 be:∀ i,i<st.bx.length->be' i=be i
 sm:∀ i s,stamp st i=some s->∃ s',stamp st' i=some s'/\s<=s'/\(s'=s->oe' i=oe i)
theorem P8.refl(st:St)(be:Nat->Nat)(oe:Nat->Value):P8 st be oe st be oe :=
 ⟨Nat.le_refl _,λ_ _=>rfl,λi s h=>⟨s,h,Nat.le_refl _,λ_=>rfl⟩⟩
theorem n0j.grow{st st':St}{be be':Nat->Nat}{oe oe':Nat->Value}(g:P8 st be oe st' be' oe'){c:Z6}{x:Value}(h:n0j st oe c x):n0j st' oe' c x:=by
 cases c with
 |val v=>exact h
 |own i k =>
  obtain⟨j,d,f,o⟩:=h
  obtain⟨l,a,b,m⟩:=g.sm i j d
  exact⟨l,a,Nat.le_trans f b,λe=>by grind⟩
theorem M2.grow{st st':St}{be be':Nat->Nat}{oe oe':Nat->Value}(g:P8 st be oe st' be' oe'):∀ {cs:List Z6} {vs:List Value},M2 st oe cs vs->M2 st' oe' cs vs
 | [],[],_=>trivial
 |_::_,_::_,h=>⟨h.1.grow g,M2.grow g h.2⟩
 | [],_::_,h=>h.elim
 |_::_,[],h=>h.elim
theorem N2.grow{st st':St}{be be':Nat->Nat}{oe oe':Nat->Value}(g:P8 st be oe st' be' oe'){av:AV}{x:Value}(h:N2 st be oe av x):N2 st' be' oe' av x:=by
 cases av with
 |val v=>exact h
 |own i k =>
  obtain⟨c,a,b,m⟩:=h
  obtain⟨j,d,f,l⟩:=g.sm i c a
  exact⟨j,d,Nat.le_trans b f,λe=>by grind⟩
 |box i off=>exact⟨Nat.lt_of_lt_of_le h.1 g.bl,by rw[g.be i h.1];exact h.2⟩
 |hel c idx sz k=>exact h
 |oel i o idx sz k =>
  obtain⟨c,a,b,m⟩:=h
  obtain⟨j,d,f,l⟩:=g.sm i c a
  exact⟨j,d,Nat.le_trans b f,λe=>by grind⟩
 |agg cs=>obtain⟨vs,a,b⟩:=h;exact⟨vs,a,b.grow g⟩
 |dead=>trivial
theorem M2.length{st:St}{oe:Nat->Value}:∀ {cs:List Z6} {vs:List Value},M2 st oe cs vs->cs.length=vs.length
 | [],[],_=>rfl
 |_::_,_::_,h=>by simp[M2.length h.2]
 | [],_::_,h=>h.elim
 |_::_,[],h=>h.elim
theorem M2.vals(st:St)(oe:Nat->Value):∀(vs:List Value),M2 st oe (vals vs) vs
 | []=>trivial
 |_::r=>⟨rfl,M2.vals st oe r⟩
theorem M2.nth{st:St}{oe:Nat->Value}:∀ {cs:List Z6} {vs:List Value} {k:Nat} {c:Z6},M2 st oe cs vs->nth cs k=some c->∃ v,vs[k]?=some v/\n0j st oe c v
 | [],_,k,c,_,h=>by simp[H.nth]at h
 |d::cs,b::vs,0,c,h,a=>by simp[H.nth]at a;subst a;exact⟨b,by simp,h.1⟩
 |d::cs,b::vs,k+1,c,h,a=>by
  simp[H.nth]at a
  obtain⟨v,e,f⟩:=M2.nth h.2 a
  exact⟨v,by simpa using e,f⟩
 |_::_,[],_,_,h,_=>h.elim
theorem M2.drop{st:St}{oe:Nat->Value}:∀ {cs:List Z6} {vs:List Value} (k:Nat),M2 st oe cs vs->M2 st oe (cs.drop k) (vs.drop k)
 |cs,vs,0,h=>by simpa using h
 | [],[],k+1,h=>by simpa using h
 |_::cs,_::vs,k+1,h=>by simpa using M2.drop k h.2
 | [],_::_,_+1,h=>h.elim
 |_::_,[],_+1,h=>h.elim
theorem M2.take{st:St}{oe:Nat->Value}:∀ {cs:List Z6} {vs:List Value} (k:Nat),M2 st oe cs vs->M2 st oe (cs.take k) (vs.take k)
 |cs,vs,0,h=>by simp[M2]
 | [],[],k+1,h=>by simp[M2]
 |_::cs,_::vs,k+1,h=>by simpa [M2] using ⟨h.1,M2.take k h.2⟩
 | [],_::_,_+1,h=>h.elim
 |_::_,[],_+1,h=>h.elim
theorem M2.upd{st:St}{oe:Nat->Value}:∀ {cs:List Z6} {vs:List Value} {k:Nat} {c:Z6} {v:Value},M2 st oe cs vs->n0j st oe c v->M2 st oe (e03 cs k c) (vs.set k v)
 | [],[],k,c,v,h,a=>by simp[e03,M2]
 |_::cs,_::vs,0,c,v,h,a=>⟨a,h.2⟩
 |_::cs,_::vs,k+1,c,v,h,a=>⟨h.1,M2.upd h.2 a⟩
 | [],_::_,_,_,_,h,_=>h.elim
 |_::_,[],_,_,_,h,_=>h.elim
def P3:List Value->Nat->List Value->List Value
 |cs,_,[]=>cs
 |cs,off,x::r=>P3 (cs.set off x) (off+1) r
theorem M2.splice{st:St}{oe:Nat->Value}:∀ {new:List Z6} {a:List Value} {cs:List Z6} {vs:List Value} {off:Nat},M2 st oe cs vs->M2 st oe new a->M2 st oe (splice cs off new) (P3 vs off a)
 | [],[],cs,vs,off,h,_=>h
 |c::new,v::a,cs,vs,off,h,b=>by
  simp only[H.splice,P3]
  exact M2.splice (h.upd b.1) b.2
 | [],_::_,_,_,_,_,h=>h.elim
 |_::_,[],_,_,_,_,h=>h.elim
theorem g01:∀(a vs:List Value) (off:Nat),(P3 vs off a).length=vs.length
 | [],vs,off=>rfl
 |n::a,vs,off=>by simp[P3,g01 a]
def b0a(h H:Hp)(v:Value)(e:TypeId)(sz:Nat)(nn:Bool)(xs:LV):Prop :=
  (∀ x∈xs,x.length=sz/\∀ v∈x,v.oneCell'=true) /\
  ((v = .slice none 0 0/\xs = []/\nn=false) ∨
   ∃ g cap cur,v = .slice (some ⟨g,0,none⟩) xs.length cap/\h g=none/\H g=some (.cells cur e (0,0)) /\
     xs.length<=cap/\cap<=maxLen/\cur.size=cap*sz/\cur.toList.take (xs.length*sz)=xs.flatten)
structure Sim (P:Program) (h0:Hp) (w0:World) (be:Nat->Nat) (oe:Nat->Value) (H:Hp) (st:St) (h:Hp) (a:Act) (w:World):Prop where
 mv:Z2 h0 w0 H w
 sub:∀ b o,h b=some o->H b=some o
 box:∀ i cs ty,nth st.bx i=some (.live cs ty)->h (be i)=none/\∃ vs,M2 st oe cs vs/\H (be i)=some (.cells vs.toArray ty (0,0))
 pub:∀ i b,nth st.bx i=some (.publ b)->be i=b
 own:∀ i s e sz by_ nn xs,nth st.ow i=some ⟨s,.live e sz by_ nn xs⟩->b0a h H (oe i) e sz nn xs
 frz:∀ i s v,nth st.ow i=some ⟨s,.frozen v⟩->oe i=v
 bb:∀ i j cs ty cs' ty',nth st.bx i=some (.live cs ty)->nth st.bx j=some (.live cs' ty')->be i=be j->i=j
 oo:∀ i j s e sz by_ nn xs s' e' sz' by' nn' xs' g,nth st.ow i=some ⟨s,.live e sz by_ nn xs⟩->nth st.ow j=some ⟨s',.live e' sz' by' nn' xs'⟩ ->
  (oe i).ownBlock=some g->(oe j).ownBlock=some g->i=j
 bo:∀ i cs ty j s e sz by_ nn xs,nth st.bx i=some (.live cs ty)->nth st.ow j=some ⟨s,.live e sz by_ nn xs⟩->(oe j).ownBlock≠some (be i)
 dfr:a.defers = []
 siz:a.tmps.size=st.n
 fr:∀ s,N2 st be oe (N3 st.fr s) (a.tmps.getD s undef)
section
variable {P:Program} {h0:Hp} {w0:World} {be:Nat->Nat} {oe:Nat->Value} {H:Hp} {st:St} {h:Hp} {a:Act} {w:World}
theorem b0a.block{h H:Hp}{v:Value}{e sz:Nat}{nn:Bool}{xs:LV}(o:b0a h H v e sz nn xs){g:Nat}(d:v.ownBlock=some g):
  h g=none/\∃ cap cur,v = .slice (some ⟨g,0,none⟩) xs.length cap/\H g=some (.cells cur e (0,0)):=by
 rcases o.2 with⟨rfl,_⟩|⟨a,cap,cur,rfl,b,c,_⟩
 all_goals grind[Value.ownBlock]
theorem b0a.keep{h h' H a:Hp}{v:Value}{e sz:Nat}{nn:Bool}{xs:LV}(o:b0a h H v e sz nn xs)
  (c:∀ g,v.ownBlock=some g->a g=H g/\h' g=none):b0a h' a v e sz nn xs:=by
 refine⟨o.1,?_⟩
 rcases o.2 with d|⟨g,cap,cur,rfl,j,b,r⟩
 ·exact .inl d
 ·obtain⟨f,i⟩:=c g rfl
  exact .inr ⟨g,cap,cur,rfl,i,by rw[f];exact b,r⟩
theorem G0u(s:Sim P h0 w0 be oe H st h a w):Vis H w:=s.mv.vis
theorem Y0b(c:Sim P h0 w0 be oe H st h a w):Vis h w:=λb o d=>c.mv.vis b o (c.sub b o d)
theorem Sim.moved(c:Sim P h0 w0 be oe H st h a w){h':Hp}{t:World}(m:Z2 h w h' t):∃ f,Sim P h0 w0 be oe f st h' a t:=by
 let f:Hp:=λb=>match h' b with
  |some o=>some o
  |none=>match h b with
   |some _=>none
   |none=>H b
 have D:∀ b,h b=none->H b≠none->f b=H b/\h' b=none:=by
  intro b d l
  have s:b<w.heap.size:=c.mv.vis.lt l
  have C:h' b=none:=m.none_of s d
  grind
 have z:Z2 H w f t:=by
  refine⟨m.os,m.tape,m.output,m.size,?_,?_,?_,m.fz,m.dn⟩
  ·intro b d l
   have:h b=none:=by
    cases hc:h b with
    |none=>rfl
    |some o=>rw[c.sub b o hc]at l;cases l
   exact m.keep b d this
  ·intro b o j
   simp only[f]at j
   split at j
   ·rename_i x q;cases j;exact m.vis b _ q
   ·split at j
    ·cases j
    ·rename_i q d
     have s:b<w.heap.size:=c.mv.vis.lt (by rw[j];simp)
     rw[m.keep b s d]
     exact c.mv.vis b o j
  ·intro b d
   simp only[f]at d
   split at d
   ·rename_i x q
    rcases m.fresh b (by simp[q])with k|k
    ·left
     cases hc:h b with
     |none=>exact absurd hc k
     |some o=>rw[c.sub b o hc];simp
    ·exact .inr k
   grind
 refine⟨f,⟨c.mv.trans z,?_,?_,c.pub,?_,c.frz,c.bb,c.oo,c.bo,c.dfr,c.siz,c.fr⟩⟩
 ·grind
 ·intro i cs ty p
  obtain⟨k,vs,A,v⟩:=c.box i cs ty p
  grind
 ·intro i u e sz by_ nn xs p
  refine(c.own i u e sz by_ nn xs p).keep λg y=>?_
  obtain⟨k,cap,cur,_,v⟩:=(c.own i u e sz by_ nn xs p).block y
  grind
theorem F4(d:Nat)(av:AV)(r:List (Nat×AV))(s:Nat):N3 ((d,av)::r) s=if d=s then av else N3 r s:=by
 grind[N3,Nat.beq,Nat.eq_of_beq_eq_true,Nat.ne_of_beq_eq_false]
theorem Sim.put(b:Sim P h0 w0 be oe H st h a w){d:Nat}{av:AV}{v:Value}(k:d<st.n)(l:N2 st be oe av v):
  Sim P h0 w0 be oe H { st with fr:=(d,av)::st.fr } h (a.put (some d) v) w:=by
 have c:P8 st be oe { st with fr:=(d,av)::st.fr } be oe:=⟨Nat.le_refl _,λ_ _=>rfl,λi b h=>⟨b,h,Nat.le_refl _,λ_=>rfl⟩⟩
 refine⟨b.mv,b.sub,λi cs ty m=>?_,b.pub,b.own,b.frz,b.bb,b.oo,b.bo,b.dfr,by simp[Act.put,b.siz],?_⟩
 ·obtain⟨f,vs,g,j⟩:=b.box i cs ty m
  exact⟨f,vs,g.grow c,j⟩
 intro t
 refine N2.grow c ?_
 rw[F4]
 by_cases e:d=t
 ·subst e
  rw[if_pos rfl]
  have:(a.put (some d) v).tmps.getD d undef=v:=by simp[Act.put,b.siz,k]
  rw[this]
  exact l
 ·rw[if_neg e]
  have:(a.put (some d) v).tmps.getD t undef=a.tmps.getD t undef:=by simp[Act.put,Array.getElem?_setIfInBounds_ne e]
  rw[this]
  exact b.fr t
theorem Sim.newBox(c:Sim P h0 w0 be oe H st h a w){cs:List Z6}{vs:List Value}{t:TypeId}{b:Nat}{F:World}(A:M2 st oe cs vs)(z:H b=none)
  (m:Z2 H w (H.set b (.cells vs.toArray t (0,0))) F) :
  let be':=λj=>if j=st.bx.length then b else be j
  let st':St := { st with bx:=st.bx ++ [.live cs t] }
  Sim P h0 w0 be' oe (H.set b (.cells vs.toArray t (0,0))) st' h a F/\P8 st be oe st' be' oe:=by
 intro be' st'
 have M:h b=none:=by
  cases q:h b with
  |none=>rfl
  |some o=>rw[c.sub b o q]at z;cases z
 have p:P8 st be oe st' be' oe:=by
  refine⟨by simp[st'],λi d=>?_,λi c O=>⟨c,O,Nat.le_refl _,λ_=>rfl⟩⟩
  grind
 have N:∀ x,H x≠none->x≠b:=λx s e=>by subst e;exact s z
 have u:∀ i cs ty,nth st.bx i=some (.live cs ty)->be' i=be i:=λi cs ty d=>by simp[be',Nat.ne_of_lt (F04 d)]
 have l:∀ i x,nth st'.bx i=some x->(i=st.bx.length/\x = .live cs t)∨(i≠st.bx.length/\nth st.bx i=some x):=by
  grind[q05]
 have S:∀ i cs ty,nth st.bx i=some (.live cs ty)->be i≠b:=λi cs ty d=>by
  obtain⟨_,vs,_,y⟩:=c.box i cs ty d
  grind
 have T:∀ i k e sz by_ nn xs g,nth st.ow i=some ⟨k,.live e sz by_ nn xs⟩->(oe i).ownBlock=some g->g≠b:=λi k e sz by_ nn xs g d A=>by
  obtain⟨_,_,_,_,y⟩:=(c.own i k e sz by_ nn xs d).block A
  grind
 refine⟨⟨c.mv.trans m,?_,?_,?_,?_,c.frz,?_,c.oo,?_,c.dfr,c.siz,λt=>(c.fr t).grow p⟩,p⟩
 ·intro x o s
  rw[Hp.set_other _ _ (N x (by rw[c.sub x o s];simp))]
  exact c.sub x o s
 ·intro i cs' ty d
  rcases l i _ d with⟨rfl,e⟩|⟨e,f⟩
  ·cases e
   exact⟨by simp[be',M],vs,A.grow p,by simp[be',Hp.set]⟩
  ·obtain⟨D,R,K,y⟩:=c.box i cs' ty f
   rw[u i cs' ty f]
   exact⟨D,R,K.grow p,by grind[Hp.set_other]⟩
 ·intro i G d
  rcases l i _ d with⟨_,e⟩|⟨e,f⟩
  ·cases e
  ·simp[be',e,c.pub i G f]
 ·intro i k e sz by_ nn xs d
  refine(c.own i k e sz by_ nn xs d).keep λg L=>?_
  obtain⟨D,cap,cur,_,y⟩:=(c.own i k e sz by_ nn xs d).block L
  grind[Hp.set_other]
 ·intro i j I Q U V d C e
  rcases l i _ d with⟨rfl,v⟩|⟨v,f⟩<;>rcases l j _ C with⟨rfl,J⟩|⟨J,E⟩
  ·rfl
  ·grind
  ·grind
  ·rw[u i _ _ f,u j _ _ E]at e;exact c.bb i j _ _ _ _ f E e
 ·intro i I Q j k e sz by_ nn xs d C q
  rcases l i _ d with⟨rfl,v⟩|⟨v,f⟩
  ·grind
  ·rw[u i _ _ f]at q;exact c.bo i _ _ j _ _ _ _ _ _ f C q
theorem Sim.updBox(c:Sim P h0 w0 be oe H st h a w){i:Nat}{C cs:List Z6}{vs:List Value}{t:TypeId}{F:World}(j:nth st.bx i=some (.live C t))
  (L:M2 st oe cs vs) (m:Z2 H w (H.set (be i) (.cells vs.toArray t (0,0))) F) :
  Sim P h0 w0 be oe (H.set (be i) (.cells vs.toArray t (0,0))) { st with bx:=e03 st.bx i (.live cs t) } h a F/\P8 st be oe { st with bx:=e03 st.bx i (.live cs t) } be oe:=by
 have p:P8 st be oe { st with bx:=e03 st.bx i (.live cs t) } be oe :=
  ⟨by simp[d09],λ_ _=>rfl,λi c N=>⟨c,N,Nat.le_refl _,λ_=>rfl⟩⟩
 have M:=(c.box i C t j).1
 have k:∀ d x,nth (e03 st.bx i (.live cs t)) d=some x->(d=i/\x = .live cs t)∨(d≠i/\nth st.bx d=some x):=by
  grind[r9,F04]
 refine⟨⟨c.mv.trans m,?_,?_,?_,?_,c.frz,?_,c.oo,?_,c.dfr,c.siz,λt=>(c.fr t).grow p⟩,p⟩
 ·intro x o l
  have:x≠be i:=λe=>by grind
  rw[Hp.set_other _ _ this];exact c.sub x o l
 ·intro d cs' ty f
  rcases k d _ f with⟨rfl,e⟩|⟨e,q⟩
  ·cases e;exact⟨M,vs,L.grow p,by simp[Hp.set]⟩
  ·obtain⟨z,R,J,K⟩:=c.box d cs' ty q
   have:be d≠be i:=λu=>e (c.bb d i _ _ _ _ q j u)
   exact⟨z,R,J.grow p,by grind[Hp.set_other]⟩
 ·intro d b f
  rcases k d _ f with⟨_,e⟩|⟨e,q⟩
  ·cases e
  ·exact c.pub d b q
 ·intro d A e sz by_ nn xs f
  refine(c.own d A e sz by_ nn xs f).keep λg D=>?_
  obtain⟨z,cap,cur,_,K⟩:=(c.own d A e sz by_ nn xs f).block D
  exact⟨Hp.set_other _ _ (λu=>by subst u;exact c.bo i _ _ d _ _ _ _ _ _ j f D),z⟩
 ·intro x y G Q S T l O e
  rcases k x _ l with⟨rfl,v⟩|⟨v,s⟩<;>rcases k y _ O with⟨rfl,I⟩|⟨I,E⟩
  ·rfl
  ·exact c.bb _ _ _ _ _ _ j E e
  ·exact c.bb _ _ _ _ _ _ s j e
  ·exact c.bb _ _ _ _ _ _ s E e
 ·intro x G Q d A e sz by_ nn xs l f
  rcases k x _ l with⟨rfl,v⟩|⟨v,s⟩
  ·exact c.bo _ _ _ d _ _ _ _ _ _ j f
  ·exact c.bo _ _ _ d _ _ _ _ _ _ s f
end
section
variable {P:Program} {h0:Hp} {w0:World} {be:Nat->Nat} {oe:Nat->Value} {H:Hp} {st:St} {h:Hp} {a:Act} {w:World}
theorem G0q(st:St)(o:Own)(i b:Nat)(a:stamp st i=some b):stamp { st with ow:=st.ow ++ [o] } i=some b:=by
 unfold stamp at *
 have c:i<st.ow.length:=by
  cases hn:nth st.ow i with
  |none=>rw[hn]at a;cases a
  |some x=>exact F04 hn
 simp_all[q05,Nat.ne_of_lt]
theorem Sim.newOwn(c:Sim P h0 w0 be oe H st h a w){v:Value}{e sz by_:Nat}{nn:Bool}{xs:LV}{q:Hp}{S:World}
  (J:∀ b o,H b=some o->q b=some o) (m:Z2 H w q S) (Z:b0a h q v e sz nn xs) (Y:∀ g,v.ownBlock=some g->H g=none) :
  let oe':=λf=>if f=st.ow.length then v else oe f
  let st':St := { st with ow:=st.ow ++ [⟨0,.live e sz by_ nn xs⟩] }
  Sim P h0 w0 be oe' q st' h a S/\P8 st be oe st' be oe':=by
 intro oe' st'
 have G:P8 st be oe st' be oe':=by
  refine⟨Nat.le_refl _,λ_ _=>rfl,λi c C=>⟨c,G0q st _ i c C,Nat.le_refl _,λ_=>?_⟩⟩
  have X:i<st.ow.length:=by
   unfold stamp at C
   cases hn:nth st.ow i with
   |none=>rw[hn]at C;cases C
   |some x=>exact F04 hn
  grind
 have s:∀ i x,nth st'.ow i=some x->(i=st.ow.length/\x=⟨0,.live e sz by_ nn xs⟩)∨(i≠st.ow.length/\nth st.ow i=some x):=by
  grind[q05]
 have ab:∀ b,H b≠none->q b=H b:=by
  intro b K
  cases l:H b with
  |none=>exact absurd l K
  |some o=>exact J b o l
 refine⟨⟨c.mv.trans m,λb o K=>J b o (c.sub b o K),?_,c.pub,?_,?_,c.bb,?_,?_,c.dfr,c.siz,λt=>(c.fr t).grow G⟩,G⟩
 ·intro i cs ty d
  obtain⟨I,vs,T,A⟩:=c.box i cs ty d
  exact⟨I,vs,T.grow G,J _ _ A⟩
 ·intro i R z E y D F d
  rcases s i _ d with⟨rfl,j⟩|⟨j,p⟩
  ·grind
  ·simp only[oe',if_neg j]
   refine(c.own i _ _ _ _ _ _ p).keep λg L=>?_
   obtain⟨I,cap,cur,_,A⟩:=(c.own i _ _ _ _ _ _ p).block L
   grind
 ·intro i R V d
  rcases s i _ d with⟨rfl,j⟩|⟨j,p⟩
  ·cases j
  ·simp only[oe',if_neg j];exact c.frz i R V p
 ·intro i f s1 z E y D F s2 j ad W ac ae g d M gi Q
  have aa:∀ k s1 z E y D F,nth st.ow k=some ⟨s1,.live z E y D F⟩->(oe k).ownBlock=some g->v.ownBlock≠some g:=λk _ _ _ _ _ _ U L l=>by
   obtain⟨I,cap,cur,_,A⟩:=(c.own k _ _ _ _ _ _ U).block L
   grind
  rcases s i _ d with⟨rfl,O⟩|⟨O,p⟩<;>rcases s f _ M with⟨rfl,u⟩|⟨u,N⟩
  ·rfl
  ·grind
  ·grind
  ·simp only[oe',if_neg O]at gi;simp only[oe',if_neg u]at Q;exact c.oo i f _ _ _ _ _ _ _ _ _ _ _ _ g p N gi Q
 ·intro i cs ty f s1 z E y D F d M l
  rcases s f _ M with⟨rfl,u⟩|⟨u,N⟩
  ·simp only[oe',if_pos rfl]at l
   obtain⟨_,vs,_,A⟩:=c.box i cs ty d
   grind
  ·simp only[oe',if_neg u]at l;exact c.bo i cs ty f _ _ _ _ _ _ d N l
theorem Sim.updOwn(d:Sim P h0 w0 be oe H st h a w){i N W ag V:Nat}{af:Bool}{ai:LV}(L:nth st.ow i=some ⟨N,.live W ag V af ai⟩)
  {v:Value} {s1 e sz by_:Nat} {nn:Bool} {xs:LV} {K:Hp} {U:World} (ap:N<=s1) (aq:s1=N->v=oe i)
  (m:Z2 H w K U) (an:∀ b,(oe i).ownBlock≠some b->H b≠none->K b=H b) (ao:b0a h K v e sz nn xs)
  (S:∀ g,v.ownBlock=some g->(oe i).ownBlock=some g∨H g=none) :
  let oe':=λc=>if c=i then v else oe c
  let st':St := { st with ow:=e03 st.ow i ⟨s1,.live e sz by_ nn xs⟩ }
  Sim P h0 w0 be oe' K st' h a U/\P8 st be oe st' be oe':=by
 intro oe' st'
 have Y:=F04 L
 have M:P8 st be oe st' be oe':=by
  refine⟨Nat.le_refl _,λ_ _=>rfl,λc t aa=>?_⟩
  unfold stamp at aa ⊢
  simp only[st',r9 _ _ _ Y]
  grind
 have D:∀ c x,nth st'.ow c=some x->(c=i/\x=⟨s1,.live e sz by_ nn xs⟩)∨(c≠i/\nth st.ow c=some x):=by
  grind[r9]
 have am:∀ g,(oe i).ownBlock=some g->h g=none:=λg u=>((d.own i _ _ _ _ _ _ L).block u).1
 have au:∀ c s1 E I C G J g,c≠i->nth st.ow c=some ⟨s1,.live E I C G J⟩->(oe c).ownBlock=some g->(oe i).ownBlock≠some g/\v.ownBlock≠some g:=by
  intro c s1 E I C G J g Z p u
  have j:(oe i).ownBlock≠some g:=λl=>Z (d.oo c i _ _ _ _ _ _ _ _ _ _ _ _ g p L u l)
  refine⟨j,λl=>?_⟩
  rcases S g l with f|f
  ·exact j f
  ·obtain⟨_,cap,cur,_,s⟩:=(d.own c _ _ _ _ _ _ p).block u
   rw[f]at s;cases s
 have aj:∀ k cs ty,nth st.bx k=some (.live cs ty)->(oe i).ownBlock≠some (be k)/\v.ownBlock≠some (be k):=by
  intro k cs ty A
  have j:=d.bo k cs ty i _ _ _ _ _ _ A L
  refine⟨j,λl=>?_⟩
  rcases S _ l with f|f
  ·exact j f
  ·obtain⟨_,vs,_,s⟩:=d.box k cs ty A
   rw[f]at s;cases s
 refine⟨⟨d.mv.trans m,?_,?_,d.pub,?_,?_,d.bb,?_,?_,d.dfr,d.siz,λt=>(d.fr t).grow M⟩,M⟩
 ·intro b o X
  have al:=d.sub b o X
  grind
 ·intro k cs ty A
  obtain⟨j,vs,f,s⟩:=d.box k cs ty A
  exact⟨j,vs,f.grow M,by grind⟩
 ·intro c T E I C G J p
  rcases D c _ p with⟨rfl,q⟩|⟨q,z⟩
  ·grind
  ·simp only[oe',if_neg q]
   refine(d.own c _ _ _ _ _ _ z).keep λg u=>?_
   obtain⟨j,cap,cur,_,s⟩:=(d.own c _ _ _ _ _ _ z).block u
   grind
 ·intro c T ah p
  rcases D c _ p with⟨rfl,q⟩|⟨q,z⟩
  ·cases q
  ·simp only[oe',if_neg q];exact d.frz c T ah z
 ·intro x y s1 E I C G J s2 q av ak ar aw g ab ad Q R
  rcases D x _ ab with⟨rfl,O⟩|⟨O,ac⟩<;>rcases D y _ ad with⟨rfl,F⟩|⟨F,ae⟩
  ·rfl
  ·grind
  ·grind
  ·simp only[oe',if_neg O]at Q;simp only[oe',if_neg F]at R;exact d.oo x y _ _ _ _ _ _ _ _ _ _ _ _ g ac ae Q R
 ·intro k cs ty c s1 E I C G J A p l
  rcases D c _ p with⟨rfl,F⟩|⟨F,z⟩
  ·grind
  ·simp only[oe',if_neg F]at l;exact d.bo k cs ty c _ _ _ _ _ _ A z l
theorem Sim.freeze(c:Sim P h0 w0 be oe H st h a w){i l e sz by_:Nat}{nn:Bool}{xs:LV}(u:nth st.ow i=some ⟨l,.live e sz by_ nn xs⟩):
  ∃ h',Y0 h h' (oe i) e sz nn xs/\Sim P h0 w0 be oe H { st with ow:=e03 st.ow i ⟨l,.frozen (oe i)⟩ } h' a w /\
   P8 st be oe { st with ow:=e03 st.ow i ⟨l,.frozen (oe i)⟩ } be oe:=by
 have W:=F04 u
 have C:=c.own i _ _ _ _ _ _ u
 have s:P8 st be oe { st with ow:=e03 st.ow i ⟨l,.frozen (oe i)⟩ } be oe:=by
  refine⟨Nat.le_refl _,λ_ _=>rfl,λd t Z=>⟨t,?_,Nat.le_refl _,λ_=>rfl⟩⟩
  unfold stamp at Z ⊢
  simp only[r9 _ _ _ W]
  grind
 have m:∀ d x,nth (e03 st.ow i ⟨l,.frozen (oe i)⟩) d=some x->(d=i/\x=⟨l,.frozen (oe i)⟩)∨(d≠i/\nth st.ow d=some x):=by
  grind[r9]
 have N:∀ h',(∀ b,(oe i).ownBlock≠some b->h' b=h b)->(∀ b o,h' b=some o->H b=some o) ->
   Sim P h0 w0 be oe H { st with ow:=e03 st.ow i ⟨l,.frozen (oe i)⟩ } h' a w:=by
  intro h' M Y
  refine⟨c.mv,Y,?_,c.pub,?_,?_,c.bb,?_,?_,c.dfr,c.siz,λt=>(c.fr t).grow s⟩
  ·intro k cs ty v
   obtain⟨z,vs,J,V⟩:=c.box k cs ty v
   exact⟨by rw[M _ (c.bo k cs ty i _ _ _ _ _ _ v u)];exact z,vs,J.grow s,V⟩
  ·intro d Q G R F O S q
   rcases m d _ q with⟨rfl,f⟩|⟨f,j⟩
   ·cases f
   ·refine(c.own d _ _ _ _ _ _ j).keep λg L=>⟨rfl,?_⟩
    rw[M g (λA=>f (c.oo d i _ _ _ _ _ _ _ _ _ _ _ _ g j u L A))]
    exact((c.own d _ _ _ _ _ _ j).block L).1
  ·intro d Q ad q
   rcases m d _ q with⟨rfl,f⟩|⟨f,j⟩
   ·cases f;rfl
   ·exact c.frz d Q ad j
  ·intro x y s1 G R F O S s2 f ag ae af ah g E ab T U
   rcases m x _ E with⟨rfl,I⟩|⟨I,aa⟩<;>rcases m y _ ab with⟨rfl,p⟩|⟨p,ac⟩
   ·rfl
   ·cases I
   ·cases p
   ·exact c.oo x y _ _ _ _ _ _ _ _ _ _ _ _ g aa ac T U
  ·intro k cs ty d s1 G R F O S v q A
   rcases m d _ q with⟨rfl,p⟩|⟨p,j⟩
   ·cases p
   ·exact c.bo k cs ty d _ _ _ _ _ _ v j A
 rcases C.2 with⟨D,E,X⟩|⟨g,cap,cur,D,z,J,r⟩
 ·exact⟨h,⟨C.1,.inl ⟨D,E,X,rfl⟩⟩,N h (λ_ _=>rfl) c.sub,s⟩
 ·refine⟨h.set g (.cells cur e (0,0)),⟨C.1,.inr ⟨g,cap,cur,D,z,rfl,r⟩⟩,N _ ?_ ?_,s⟩
  ·grind[Hp.set_other,Value.ownBlock]
  ·intro b o K
   by_cases e':b=g
   ·grind[Hp.set]
   ·rw[Hp.set_other _ _ e']at K;exact c.sub b o K
theorem Sim.publ(c:Sim P h0 w0 be oe H st h a w){i:Nat}{cs:List Z6}{ty:TypeId}(p:nth st.bx i=some (.live cs ty)){vs:List Value}
  (U:H (be i)=some (.cells vs.toArray ty (0,0))) :
  h (be i)=none/\Sim P h0 w0 be oe H { st with bx:=e03 st.bx i (.publ (be i)) } (h.set (be i) (.cells vs.toArray ty (0,0))) a w /\
   P8 st be oe { st with bx:=e03 st.bx i (.publ (be i)) } be oe:=by
 have V:=F04 p
 have J:=(c.box i cs ty p).1
 have s:P8 st be oe { st with bx:=e03 st.bx i (.publ (be i)) } be oe :=
  ⟨by simp[d09],λ_ _=>rfl,λd t K=>⟨t,K,Nat.le_refl _,λ_=>rfl⟩⟩
 have j:∀ d x,nth (e03 st.bx i (.publ (be i))) d=some x->(d=i/\x = .publ (be i))∨(d≠i/\nth st.bx d=some x):=by
  grind[r9]
 refine⟨J,⟨c.mv,?_,?_,?_,?_,c.frz,?_,c.oo,?_,c.dfr,c.siz,λt=>(c.fr t).grow s⟩,s⟩
 ·intro b o C
  by_cases l:b=be i
  ·grind[Hp.set]
  ·rw[Hp.set_other _ _ l]at C;exact c.sub b o C
 ·intro k cs' O u
  rcases j k _ u with⟨rfl,e⟩|⟨e,q⟩
  ·cases e
  ·obtain⟨F,R,G,I⟩:=c.box k cs' O q
   exact⟨by rw[Hp.set_other _ _ (λl=>e (c.bb k i _ _ _ _ q p l))];exact F,R,G.grow s,I⟩
 ·intro k b u
  rcases j k _ u with⟨rfl,e⟩|⟨e,q⟩
  ·cases e;rfl
  ·exact c.pub k b q
 ·intro d N f X S W Z m
  refine(c.own d _ _ _ _ _ _ m).keep λg D=>⟨rfl,?_⟩
  rw[Hp.set_other _ _ (λl=>by subst l;exact c.bo i cs ty d _ _ _ _ _ _ p m D)]
  exact((c.own d _ _ _ _ _ _ m).block D).1
 ·intro x y E Q T Y v L e
  rcases j x _ v with⟨_,f⟩|⟨f,z⟩
  ·cases f
  rcases j y _ L with⟨_,A⟩|⟨A,M⟩
  ·cases A
  exact c.bb _ _ _ _ _ _ z M e
 ·intro x E Q d N e sz by_ nn xs v m
  rcases j x _ v with⟨_,f⟩|⟨f,z⟩
  ·cases f
  ·exact c.bo _ _ _ d _ _ _ _ _ _ z m
theorem Sim.rdA(d:Sim P h0 w0 be oe H st h a w){av:AV}{x:Value}(g:N2 st be oe av x):N2 st be oe (rdA st av) x:=by
 cases av with
 |own i k =>
  simp only[Go.H.rdA]
  split
  ·rename_i m o c
   split
   ·rename_i j
    have l:=Nat.eq_of_beq_eq_true j
    split
    ·exact g
    ·rename_i v
     obtain⟨t,p,_,e⟩:=g
     have:t=m:=by grind[stamp]
     subst this
     have:=e l.symm
     rw[d.frz i _ v c]at this
     exact this
   ·trivial
  ·trivial
 |box i off =>
  simp only[Go.H.rdA]
  split
  ·exact g
  ·rename_i b c
   have:=g.2
   rw[d.pub i b c]at this
   exact this
  ·trivial
 |oel i k idx sz f =>
  simp only[Go.H.rdA]
  split
  ·split
   ·exact g
   ·trivial
  ·trivial
 |_=>exact g
theorem Sim.rdO(s:Sim P h0 w0 be oe H st h a w)(x:Operand):N2 st be oe (rdO st x) (a.eval x):=by
 cases x with
 |tmp t=>exact s.rdA (s.fr t)
 |const v=>rfl
 |global g=>trivial
 |func f=>rfl
theorem J0a{st:St}{av:AV}{i k:Nat}(h:Go.H.rdA st av = .own i k):∃ e sz by_ nn xs,nth st.ow i=some ⟨k,.live e sz by_ nn xs⟩:=by
 cases av with
 |own j l =>
  grind[Go.H.rdA,Nat.eq_of_beq_eq_true]
 |box j off=>simp only[Go.H.rdA]at h;split at h<;>cases h
 |oel j l idx sz f=>simp only[Go.H.rdA]at h;split at h<;>(try split at h)<;>cases h
 |_=>cases h
theorem K0a{st:St}{x:Operand}{i k:Nat}(h:Go.H.rdO st x = .own i k):∃ e sz by_ nn xs,nth st.ow i=some ⟨k,.live e sz by_ nn xs⟩:=by
 cases x with
 |tmp t=>exact J0a h
 |_=>cases h
theorem a0n{st:St}{av:AV}{i k:Nat}{idx:Int}{sz f:Nat}(h:Go.H.rdA st av = .oel i k idx sz f):∃ e b by_ nn xs,nth st.ow i=some ⟨k,.live e b by_ nn xs⟩:=by
 cases av with
 |own a l=>simp only[Go.H.rdA]at h;split at h<;>(try split at h)<;>(try split at h)<;>cases h
 |box a off=>simp only[Go.H.rdA]at h;split at h<;>cases h
 |oel a l idx sz f =>
  grind[Go.H.rdA,Nat.eq_of_beq_eq_true]
 |_=>cases h
theorem b0n{st:St}{x:Operand}{i k:Nat}{idx:Int}{sz f:Nat}(h:Go.H.rdO st x = .oel i k idx sz f):∃ e a by_ nn xs,nth st.ow i=some ⟨k,.live e a by_ nn xs⟩:=by
 cases x with
 |tmp t=>exact a0n h
 |_=>cases h
theorem N2.own_cur{st:St}{be:Nat->Nat}{oe:Nat->Value}{i k:Nat}{x:Value}{o:OSt}(g:N2 st be oe (.own i k) x)(c:nth st.ow i=some ⟨k,o⟩):x=oe i:=by
 obtain⟨d,a,_,b⟩:=g
 grind[stamp]
theorem N2.oel_cur{st:St}{be:Nat->Nat}{oe:Nat->Value}{i k:Nat}{idx:Int}{sz f:Nat}{x:Value}{o:OSt}(g:N2 st be oe (.oel i k idx sz f) x)(d:nth st.ow i=some ⟨k,o⟩):
  ∃ g n c,oe i = .slice (some ⟨g,0,none⟩) n c/\x=ptr g (idx.toNat*sz+f):=by
 obtain⟨e,a,_,b⟩:=g
 grind[stamp]
theorem Z0b{st:St}:∀ {cs:List Z6} {vs a:List Value},f0j cs=some vs->M2 st oe cs a->a=vs
 | [],vs,[],h,_=>by cases h;rfl
 | [],vs,_::_,h,g=>g.elim
 | .val v::r,vs,[],h,g=>g.elim
 | .val v::r,vs,w::a,h,g=>by
  simp only[f0j]at h
  split at h
  ·rename_i e d
   cases h
   obtain⟨b,c⟩:=g
   rw[Z0b d c,show w=v from b]
  ·cases h
 | .own i k::r,vs,a,h,g=>by cases h
theorem d7{st:St}{av:AV}{v x:Value}(h:o08 av=some v)(g:N2 st be oe av x):x=v:=by
 cases av with
 |val u=>cases h;exact g
 |agg cs =>
  simp only[o08]at h
  split at h
  ·rename_i vs b
   cases h
   obtain⟨c,rfl,a⟩:=g
   rw[Z0b b a]
  ·cases h
 |_=>cases h
end
theorem T2{P:Program}{g e:Type}(d:Sem g)(f:g->Sem e):∀(h:Hp) (K:e->Hp->Prop),wpS P (d >>= f) h K=wpS P d h (λx h'=>wpS P (f x) h' K):=by
 change ∀(h:Hp) (K:e->Hp->Prop),wpS P (d.bind f) h K=wpS P d h (λx h'=>wpS P (f x) h' K)
 induction d with
 |pure a=>intro h K;rfl
 |load m a k b=>grind[Sem.bind,wpS]
 |store m a v k b=>intro h K;simp only[Sem.bind,wpS,b]
 |new o k b=>grind[Sem.bind,wpS]
 |shape r k b=>grind[Sem.bind,wpS]
 |freeze a n k b=>intro h K;rfl
 |frozen a k b=>grind[Sem.bind,wpS]
 |getObj r k b=>grind[Sem.bind,wpS]
 |setObj r o k b=>grind[Sem.bind,wpS]
 |choose q k b=>grind[Sem.bind,wpS]
 |sys c k b=>intro h K;rfl
 |program k b=>grind[Sem.bind,wpS]
 |mark m k b=>grind[Sem.bind,wpS]
 |halt x=>intro h K;rfl
theorem E3{P:Program}{a:Type}(x:a)(h:Hp)(K:a->Hp->Prop):wpS P (pure x) h K=K x h:=rfl
theorem O0r{P:Program}{e:Type}(d:Sem e){x:e}(b:evP P d=some x):∀ w:World,d.run P w = .ok x w:=by
 induction d with
 |pure a=>simp_all[evP,Option.some.injEq]
 |program k c=>intro w;exact c _ b w
 |mark m k c=>intro w;exact c b w
 |_=>simp[evP]at b
theorem r0f(a:Operand->Value):∀ l:List Operand,T0m a l=l.map a
 | []=>rfl
 |x::r=>by simp only[T0m,List.map_cons,r0f a r]
theorem P0r:∀ a b:List Value,p0u a b=a++b
 | [],b=>rfl
 |x::r,b=>by simp only[p0u,List.cons_append,P0r r b]
theorem c0a:∀ l:List Operand,M0b l=l.map fun | .const _=>true|_=>false
 | []=>rfl
 | .const _::r=>by simp only[M0b,List.map_cons,c0a r]
 | .tmp _::r=>by simp only[M0b,List.map_cons,c0a r]
 | .global _::r=>by simp only[M0b,List.map_cons,c0a r]
 | .func _::r=>by simp only[M0b,List.map_cons,c0a r]
theorem s0f(a:Operand->Value)(o:Oper):y0l a o=execOp a o:=by
 unfold y0l
 split
 ·rename_i c d
  obtain⟨i,as,j⟩:=c
  split
  ·rename_i b g
   simp only at g
   subst g
   unfold execOp
   rw[d]
   simp only[resolve,r0f,c0a]
   rw[show(List.map a as.toList).toArray=as.map a from by apply Array.ext';simp]
   have h:∀ f:Operand->Bool,(List.map f as.toList).toArray=as.map f:=λf=>by apply Array.ext';simp
   rw[h]
   rfl
  ·rfl
 ·rename_i fn first e d
  unfold execOp
  rw[d]
  simp only[r0f]
  rw[show(List.map a first.toList).toArray=first.map a from by apply Array.ext';simp,show(List.map a e.toList).toArray=e.map a from by apply Array.ext';simp]
 ·rfl
theorem d0d{P:Program}{e:Operand->Value}{o:Oper}{f:FuncId}{l:List Value}(a:L0b e o=some (f,l))(b:okF P f=true)(w:World):(execOp e o).run P w = .ok (.enter f l.toArray) w:=by
 unfold L0b at a
 split at a
 ·rename_i c i
  obtain⟨m,as,s⟩:=c
  split at a
  ·rename_i x d
   simp only at d
   subst d
   split at a
   ·rename_i q first p j
    cases a
    unfold okF at b
    split at b
    ·rename_i fn hf
     split at b
     ·rename_i k g
      split at b
      ·cases b
      ·rename_i h
       unfold execOp
       rw[i]
       simp only[resolve,j,Deferred.ofValue,Sem.run_bind,Sem.run_pure,Result.andThen_ok,invoke,callFunc,program,Sem.run,hf,h,g,Bool.false_eq_true,if_false,Option.isNone_some]
       simp_all[P0r,r0f]
     ·cases b
    ·cases b
   ·cases a
  ·cases a
 ·cases a
section
variable {P:Program} {h0:Hp} {w0:World} {be:Nat->Nat} {oe:Nat->Value} {H:Hp} {st:St} {h:Hp} {a:Act} {w:World}
theorem P8.trans{st f h:St}{be a b:Nat->Nat}{oe d e:Nat->Value}(g:P8 st be oe f a d)(k:P8 f a d h b e):P8 st be oe h b e:=by
 refine⟨Nat.le_trans g.bl k.bl,λi c=>?_,λi m l=>?_⟩
 ·rw[k.be i (Nat.lt_of_lt_of_le c g.bl),g.be i c]
 ·obtain⟨s1,j,o,p⟩:=g.sm i m l
  obtain⟨s2,q,s,t⟩:=k.sm i s1 j
  grind
theorem t0f(p:Sim P h0 w0 be oe H st h a w){i k:Nat}{x:Value}(g:∃ t,stamp st i=some t/\k<=t/\(k=t->x=oe i)){K:Value->St->Hp->Prop}
  (b:S0m i k st h K):∃ st' h',K x st' h'/\Sim P h0 w0 be oe H st' h' a w/\P8 st be oe st' be oe/\st'.bx=st.bx:=by
 unfold S0m at b
 obtain⟨t,s,_,m⟩:=g
 split at b
 ·rename_i l e sz by_ nn xs f
  split at b
  ·rename_i c
   have d:=Nat.eq_of_beq_eq_true c
   have j:t=l:=by grind[stamp]
   have o:x=oe i:=m (by rw[j,d])
   obtain⟨h',q,f2,f3⟩:=p.freeze f
   rw[o]
   exact⟨_,h',b _ _ q,f2,f3,rfl⟩
  ·exact b.elim
 ·rename_i l v f
  split at b
  ·rename_i c
   have d:=Nat.eq_of_beq_eq_true c
   have j:t=l:=by grind[stamp]
   have o:x=v:=by rw[m (by rw[j,d]),p.frz i _ v f]
   grind[P8.refl]
  ·exact b.elim
 ·exact b.elim
theorem q06:∀(cs:List Z6) {st:St} {h:Hp} {vs:List Value} {K:List Value->St->Hp->Prop},Sim P h0 w0 be oe H st h a w->M2 st oe cs vs->K0b cs st h K ->
  ∃ st' h',K vs st' h'/\Sim P h0 w0 be oe H st' h' a w/\P8 st be oe st' be oe/\st'.bx=st.bx
 | [],st,h,[],K,c,_,b=>⟨st,h,b,c,P8.refl _ _ _,rfl⟩
 | .val v::r,st,h,x::vs,K,c,g,b=>by
  have p:x=v:=g.1
  subst p
  obtain⟨st',h',t,u⟩:=q06 r c g.2 b
  grind
 | .own i k::r,st,h,x::vs,K,c,g,b=>by
  obtain⟨y,s,e,s1,d,m⟩:=t0f c g.1 b
  obtain⟨q,l,f,s2,j,o⟩:=q06 r s1 (g.2.grow d) e
  exact⟨q,l,f,s2,d.trans j,o.trans m⟩
 | [],_,_,_::_,_,_,g,_=>g.elim
 |_::_,_,_,[],_,_,g,_=>g.elim
theorem c06(d:Sim P h0 w0 be oe H st h a w){av:AV}{x:Value}(g:N2 st be oe av x){K:Value->St->Hp->Prop}(c:rfy av st h K):
  ∃ st' h',K x st' h'/\Sim P h0 w0 be oe H st' h' a w/\P8 st be oe st' be oe:=by
 cases av with
 |val v=>have f:x=v:=g;subst f;exact⟨st,h,c,d,P8.refl _ _ _⟩
 |own i k=>obtain⟨st',h',s,t,u,_⟩:=t0f d g c;grind
 |box i off =>
  have f:=g.2
  simp only[rfy,o0u]at c
  split at c
  ·rename_i cells ty e
   obtain⟨E,vs,j,p⟩:=d.box i cells ty e
   obtain⟨C,D,l,s1,o,m⟩:=q06 cells d j c
   have q:nth C.bx i=some (.live cells ty):=by rw[m];exact e
   obtain⟨y,z,A⟩:=s1.publ q p
   rw[f]
   exact⟨_,_,l (be i) y,z,o.trans A⟩
  ·rename_i b e
   rw[f,d.pub i b e]
   grind[P8.refl]
  ·exact c.elim
 |agg cs =>
  obtain⟨vs,rfl,j⟩:=g
  obtain⟨st',h',s,t,u,_⟩:=q06 cs d j c
  grind
 |_=>exact c.elim
theorem c05:∀(l:List Operand) {st:St} {h:Hp} {K:List (Nat×Value)->St->Hp->Prop},Sim P h0 w0 be oe H st h a w->D0g l st h K ->
  ∃ vs st' h',K vs st' h'/\Sim P h0 w0 be oe H st' h' a w/\P8 st be oe st' be oe/\(∀ p∈vs,p.2=a.eval (.tmp p.1))/\(∀ x∈l,(∃ t v,x = .tmp t/\(t,v)∈vs)∨(∀ s,rho s x=a.eval x))
 | [],st,h,K,c,b=>⟨[],st,h,b,c,P8.refl _ _ _,by simp,by simp⟩
 | .tmp t::r,st,h,K,c,b=>by
  obtain⟨y,u,o,s1,q⟩:=c06 c (c.rdO (.tmp t)) b
  obtain⟨vs,j,i,e,s2,g,k,m⟩:=c05 r s1 o
  refine⟨_,j,i,e,s2,q.trans g,?_,?_⟩
  all_goals grind
 | .const v::r,st,h,K,c,b=>by
  obtain⟨vs,j,i,e,s2,g,k,m⟩:=c05 r c b
  refine⟨vs,j,i,e,s2,g,k,λx d=>?_⟩
  rcases List.mem_cons.1 d with rfl|d
  ·exact .inr λ_=>rfl
  ·exact m x d
 | .func f::r,st,h,K,c,b=>by
  obtain⟨vs,j,i,e,s2,g,k,m⟩:=c05 r c b
  refine⟨vs,j,i,e,s2,g,k,λx d=>?_⟩
  rcases List.mem_cons.1 d with rfl|d
  ·exact .inr λ_=>rfl
  ·exact m x d
 | .global _::_,_,_,_,_,b=>b.elim
theorem P0g:∀(vs:List (Nat×Value)) (t:Nat) (y:Value),(∀ p∈vs,p.1=t->p.2=y)->(∃ v,(t,v)∈vs)->H0r vs t=y
 | [],t,y,_,h=>by grind
 |(k,v)::r,t,y,a,h=>by
  simp only[H0r]
  split
  ·simp_all
  ·rename_i c
   refine P0g r t y (λp b=>a p (mC _ b)) ?_
   grind[absurd,Nat.ne_of_beq_eq_false]
theorem e0d{o:Oper}{vs:List (Nat×Value)}(c:g0f o.op=false)(d:∀ p∈vs,p.2=a.eval (.tmp p.1))
  (f:∀ x∈o.op.operands.toList,(∃ t v,x = .tmp t/\(t,v)∈vs)∨(∀ k,rho k x=a.eval x)):execOp (rho vs) o=execOp a.eval o:=by
 refine execOp_congr o (λcs b g=>by rw[g]at c;cases c) λx j=>?_
 rcases f x (by simpa using j)with⟨t,v,rfl,h⟩|hf
 ·exact P0g vs t _ (λp i e=>by rw[d p i,e]) ⟨v,h⟩
 ·exact hf vs
def Nx(P:Program)(h0:Hp)(w0:World)(f:St)(c:Nat->Nat)(e:Nat->Value)(K:AV->St->Hp->Prop)(a:Act)(d:Option Tmp):Act->World->Prop:=λb g =>
 ∃ av st' h' v be oe H,K av st' h'/\b=a.put d v/\Sim P h0 w0 be oe H st' h' a g/\N2 st' be oe av v/\P8 f c e st' be oe
theorem I9{o:Oper}{next:Act->World->Prop}{Q:Exit->Act->World->Prop}{v:Value}{b:World}(d:(execOp a.eval o).run P w = .ok (.value v) b)
  (c:next (a.put o.dst v) b):o.wp P a w next Q:=by
 unfold Oper.wp;rw[d];exact c
theorem f0d{o:Oper}{next:Act->World->Prop}{Q:Exit->Act->World->Prop}{w':World}(hr:(execOp a.eval o).run P w = .ok .skip w')
  (hn:next (a.put o.dst undef) w'):o.wp P a w next Q:=by
 unfold Oper.wp;rw[hr];exact hn
theorem t08{o:Oper}{vs:List (Nat×Value)}(d:∀ p∈vs,p.2=a.eval (.tmp p.1))
  (f:∀ x∈o.op.operands.toList,(∃ t v,x = .tmp t/\(t,v)∈vs)∨(∀ k,rho k x=a.eval x)):L0b (rho vs) o=L0b a.eval o:=by
 have j:∀ x∈o.op.operands.toList,rho vs x=a.eval x:=λx b=>by
  rcases f x b with⟨t,v,rfl,h⟩|hf
  ·exact P0g vs t _ (λp i e=>by rw[d p i,e]) ⟨v,h⟩
  ·exact hf vs
 unfold L0b
 split
 ·rename_i c l
  split
  ·rename_i x b
   have g:∀ y,y=x∨y∈c.args.toList->y∈o.op.operands.toList:=λy m=>by
    grind[Op.operands,Call.operands]
   rw[j x (g x (.inl rfl))]
   have:T0m (rho vs) c.args.toList=T0m a.eval c.args.toList:=by
    grind[r0f,List.map_congr_left]
   rw[this]
  ·rfl
 ·rfl
theorem h01(D:Sim P h0 w0 be oe H st h a w){o:Oper}{K:AV->St->Hp->Prop}{Q:Exit->Act->World->Prop}(c:S09 P o st h K):o.wp P a w (Nx P h0 w0 st be oe K a o.dst) Q:=by
 unfold S09 at c
 split at c
 ·exact c.elim
 rename_i C
 obtain⟨vs,i,F,b,s1,d,p,q⟩:=c05 _ D c
 rw[s0f,e0d C p q,t08 p q]at b
 split at b
 ·rename_i f l u
  split at b
  ·rename_i A
   unfold Oper.wp
   rw[d0d u A,Oper.upon_enter]
   refine(b.run w (Y0b s1)).mono ?_
   rintro e I ⟨v,t,rfl,x,z⟩
   obtain⟨s,E⟩:=s1.moved z
   exact⟨.val v,i,t,v,be,oe,s,x,rfl,E,rfl,d⟩
  ·exact b.elim
 ·obtain⟨n,k,G,m,g,y⟩:=i02 _ _ _ (Y0b s1) b
  obtain⟨j,s2⟩:=s1.moved y
  cases n with
  |value v=>exact I9 m ⟨.val v,i,k,v,be,oe,j,g,rfl,s2,rfl,d⟩
  |skip=>exact f0d m ⟨.val undef,i,k,undef,be,oe,j,g,rfl,s2,rfl,d⟩
  |_=>exact g.elim
theorem Sim.still(c:Sim P h0 w0 be oe H st h a w){hf:Hp}{e:World}(f:∀ b o,hf b=some o->H b=some o)(m:Z2 hf w hf e):Sim P h0 w0 be oe H st h a e:=by
 refine⟨c.mv.trans ⟨m.os,m.tape,m.output,m.size,?_,?_,λb d => .inl d,m.fz,m.dn⟩,c.sub,c.box,c.pub,c.own,c.frz,c.bb,c.oo,c.bo,c.dfr,c.siz,c.fr⟩
 ·intro b d i
  refine m.keep b d ?_
  cases hc:hf b with
  |none=>rfl
  |some o=>grind
 ·intro b o d
  cases hc:hf b with
  |some g =>
   have:=f b g hc
   rw[this]at d;cases d
   exact m.vis b _ hc
  |none=>rw[m.keep b (c.mv.vis.lt (by rw[d];simp)) hc];exact c.mv.vis b o d
theorem w0o(d:Sim P h0 w0 be oe H st h a w){o:Oper}{K:AV->St->Hp->Prop}{Q:Exit->Act->World->Prop}(c:q0u P o st h K):o.wp P a w (Nx P h0 w0 st be oe K a o.dst) Q:=by
 unfold q0u at c
 split at c
 ·exact c.elim
 rename_i t
 obtain⟨vs,u,q,b,s1,_,m,p⟩:=c05 _ d c
 rw[t08 m p]at b
 split at b
 ·rename_i f l g
  split at b
  ·rename_i k
   unfold Oper.wp
   rw[d0d g k,Oper.upon_enter]
   refine(b.run w (Y0b s1)).mono ?_
   rintro e x ⟨v,s,rfl,⟨rfl,i⟩,j⟩
   exact⟨.val v,st,h,v,be,oe,H,i,rfl,d.still s1.sub j,rfl,P8.refl _ _ _⟩
  ·exact b.elim
 ·exact b.elim
theorem f03(c:Sim P h0 w0 be oe H st h a w){o:Oper}{K:AV->St->Hp->Prop}{Q:Exit->Act->World->Prop}(b:r0q P o st h K):o.wp P a w (Nx P h0 w0 st be oe K a o.dst) Q:=by
 unfold r0q at b
 split at b
 ·rcases b with b|b
  ·exact h01 c b
  ·exact w0o c b
 ·exact h01 c b
theorem r0e(y:Sim P h0 w0 be oe H st h a w){o:Oper}{K:AV->St->Hp->Prop}{Q:Exit->Act->World->Prop}(c:s0u P o st h K):o.wp P a w (Nx P h0 w0 st be oe K a o.dst) Q:=by
 unfold s0u at c
 split at c
 ·exact c.elim
 rename_i x
 obtain⟨vs,p,z,b,s1,g,l,m⟩:=c05 _ y c
 rw[t08 l m]at b
 split at b
 ·exact b.elim
 obtain⟨v,s,q,j⟩:=b
 have f:=q (λn h'=>(n = .value v∨n = .skip/\v=undef)/\h'=s) ⟨⟨.inl rfl,rfl⟩,λe=>⟨.inr ⟨rfl,e⟩,rfl⟩⟩
 rw[s0f,e0d x l m]at f
 obtain⟨n,i,A,k,⟨u,rfl⟩,t⟩:=i02 _ _ _ (Y0b s1) f
 obtain⟨d,s2⟩:=s1.moved t
 rcases u with rfl|⟨rfl,rfl⟩
 ·exact I9 k ⟨.val v,p,i,v,be,oe,d,j,rfl,s2,rfl,g⟩
 ·exact f0d k ⟨.val undef,p,i,undef,be,oe,d,j,rfl,s2,rfl,g⟩
end
section
variable {P:Program}
theorem D7{t:TypeId}{d:TypeDesc}(a:P.underlying t=some d)(h:Hp)(K:TypeDesc->Hp->Prop):wpS P (underlying t) h K=K d h:=by
 grind[underlying,program,T2,wpS,E3]
theorem u0f{t:TypeId}{i:TypeInfo}(a:P.info? t=some i)(h:Hp)(K:TypeInfo->Hp->Prop):wpS P (typeInfo t) h K=K i h:=by
 grind[typeInfo,program,T2,wpS,E3]
theorem S03{t:TypeId}{n:Nat}(a:A7 P t=some n)(h:Hp)(K:Nat->Hp->Prop):wpS P (sizeOf t) h K=K n h:=by
 grind[A7,sizeOf,T2,u0f,E3]
theorem v0f{t:TypeId}{z:Value}(a:n03 P t=some z)(h:Hp)(K:Value->Hp->Prop):wpS P (zeroValue t) h K=K z h:=by
 grind[n03,zeroValue,T2,u0f,E3]
theorem g0d{t:TypeId}{b:Bool}(a:Q0m P t=some b)(h:Hp)(K:Bool->Hp->Prop):wpS P (isAgg t) h K=K b h:=by
 unfold Q0m at a
 grind[isAgg,T2,D7,E3,absurd]
theorem e09{H:Hp}{b o:Nat}:∀(vs:List Value) (i:Nat) (acc:Array Value) (K:Array Value->Hp->Prop),(∀ a v,vs[a]?=some v->Hp.cell H b (o+i+a)=some v) ->
  K (acc++vs.toArray) H->wpS P (loadCellsFrom ⟨b,o,none⟩ i vs.length acc) H K
 | [],i,acc,K,_,d=>by grind[loadCellsFrom,E3]
 |v::vs,i,acc,K,c,d=>by
  have h0:=c 0 v (by simp)
  simp only[loadCellsFrom,List.length_cons,T2,load,wpS]
  have e:(⟨b,o,none⟩:Addr).add i=⟨b,o+i,none⟩:=by unfold Addr.add;split<;>simp_all
  rw[e]
  refine⟨v,⟨rfl,by simpa using h0⟩,e09 vs (i+1) (acc.push v) K ?_ ?_⟩
  ·intro a u f
   have:=c (a+1) u (by simpa using f)
   grind
  ·simpa using d
theorem H05{a:Type}:∀(l:List a) (n:Nat),I0a l n=true->l.length=n
 | [],0,_=>rfl
 |_::r,k+1,h=>by simp[H05 r k h]
 | [],_+1,h=>by cases h
 |_::_,0,h=>by cases h
variable {h0:Hp} {w0:World} {be:Nat->Nat} {oe:Nat->Value} {H:Hp} {st:St} {h:Hp} {a:Act} {w:World}
theorem N2.ofCell{st:St}{be:Nat->Nat}{oe:Nat->Value}{c:Z6}{v:Value}(g:n0j st oe c v):N2 st be oe (ofCell c) v:=by
 cases c with
 |val u=>exact g
 |own i k=>exact g
theorem load_row{t:TypeId}{cs:List Z6}{vs:List Value}{off:Nat}{K:AV->Prop}{b o:Nat}(a:m08 P t cs off K)(g:M2 st oe cs vs)
  (p:∀ h v,vs[h]?=some v->Hp.cell H b (o+h)=some v):∃ av v,K av/\N2 st be oe av v/\∀ d:Value->Hp->Prop,d v H->wpS P (loadVar t ⟨b,o+off,none⟩) H d:=by
 unfold m08 at a
 split at a
 ·rename_i e
  split at a
  ·rename_i n f
   split at a
   ·rename_i l
    have m:=H05 _ _ l
    have i:=(g.drop off).take n
    refine⟨_,.agg ((vs.drop off).take n).toArray,a,⟨_,rfl,i⟩,λd k=>?_⟩
    have s:((vs.drop off).take n).length=n:=by rw[←i.length,m]
    simp only[loadVar,T2,g0d e,if_true,S03 f,loadCells]
    have:=e09 (P:=P) (H:=H) (b:=b) (o:=o+off) ((vs.drop off).take n) 0 #[] (λx h'=>wpS P (pure (Value.agg x)) h' d) (λh v q=>by
     grind) (by grind[E3])
    grind
   ·exact a.elim
  ·exact a.elim
 ·rename_i e
  split at a
  ·rename_i c f
   obtain⟨v,u,j⟩:=g.nth f
   refine⟨_,v,a,N2.ofCell j,λd k=>?_⟩
   simp only[loadVar,T2,g0d e,Bool.false_eq_true,if_false,load,wpS]
   grind
  ·exact a.elim
 ·exact a.elim
theorem Hp.set_set(h:Hp)(b:Nat)(x y:Obj):(h.set b x).set b y=h.set b y:=by
 funext k;simp only[Hp.set];split<;>rfl
theorem O0x{v:Value}(h:v.oneCell'=true):G05 v:=by cases v<;>simp_all [Value.oneCell',G05]
theorem u08{b:Nat}{t:TypeId}:∀(a:List Value) (cur:List Value) (off i:Nat) (K:Unit->Hp->Prop) (H:Hp),H b=some (.cells cur.toArray t (0,0)) ->
  off+i+a.length<=cur.length->(∀ v∈a,v.oneCell'=true)->K () (H.set b (.cells (P3 cur (off+i) a).toArray t (0,0)))->wpS P (storeCells ⟨b,off,none⟩ a i) H K
 | [],cur,off,i,K,H,e,_,_,c=>by
  have:H.set b (.cells cur.toArray t (0,0))=H:=by
   grind[Hp.set]
  simp only[P3,this]at c
  exact c
 |n::a,cur,off,i,K,H,e,g,d,c=>by
  simp only[storeCells,T2,store,wpS]
  have f:(⟨b,off,none⟩:Addr).add i=⟨b,off+i,none⟩:=by unfold Addr.add;split<;>simp_all
  rw[f]
  simp only[List.length_cons]at g
  refine⟨cur.toArray,t,(0,0),⟨e,rfl,by simp;omega,by simp,O0x (d n mS)⟩,?_⟩
  refine u08 (t:=t) a (cur.set (off+i) n) off (i+1) K _ (by simp[Hp.set]) (by simp;omega) (λv h=>d v (mC _ h)) ?_
  grind[Hp.set_set,P3,Nat.add_assoc]
theorem d0a:∀(a cs:List Value) (off:Nat),splice cs off a=P3 cs off a
 | [],cs,off=>rfl
 |n::a,cs,off=>by simp only[splice,P3,q0f,d0a a]
theorem o0j(f:Sim P h0 w0 be oe H st h a w){i k:Nat}{e sz by_:Nat}{nn:Bool}{xs:LV}(d:nth st.ow i=some ⟨k,.live e sz by_ nn xs⟩):∃ x n c,oe i = .slice x n c:=by
 rcases(f.own i _ _ _ _ _ _ d).2 with⟨b,_⟩|⟨g,cap,cur,b,_⟩
 all_goals grind
theorem X07(m:Sim P h0 w0 be oe H st h a w){x:Operand}{cs:List Z6}(b:F02 (rdO st x)=some cs):M2 st oe cs (a.eval x).cells.toList:=by
 have g:=m.rdO x
 cases hr:rdO st x with
 |val v =>
  rw[hr]at b g
  have d:a.eval x=v:=g
  rw[d]
  cases v<;>simp only[F02,Option.some.injEq]at b<;>first|(subst b;first|exact M2.vals _ _ _|exact⟨rfl,trivial⟩)|cases b
 |own i k =>
  rw[hr]at b g
  obtain⟨e,sz,by_,nn,xs,f⟩:=K0a hr
  simp only[F02,Option.some.injEq]at b
  subst b
  have j:a.eval x=oe i:=g.own_cur f
  obtain⟨y,n,c,l⟩:=o0j m f
  rw[j,l]
  rw[j,l]at g
  exact⟨g,trivial⟩
 |agg cs' =>
  rw[hr]at b g
  simp only[F02,Option.some.injEq]at b
  subst b
  obtain⟨vs,d,o⟩:=g
  rw[d]
  exact o
 |_=>rw[hr]at b;cases b
theorem Y07(f:Sim P h0 w0 be oe H st h a w):∀(cs:List Z6) (vs:List Value),a09 st cs=true->M2 st oe cs vs->∀ v∈vs,v.oneCell'=true
 | [],[],_,_,v,d=>by cases d
 | .val u::r,x::vs,b,g,v,d=>by
  simp only[a09]at b
  split at b
  ·rename_i m
   rcases List.mem_cons.1 d with rfl|d
   ·have:v=u:=g.1
    rw[this];exact m
   ·exact Y07 f r vs b g.2 v d
  ·cases b
 | .own i k::r,x::vs,b,g,v,d=>by
  have j:N2 st be oe (rdA st (.own i k)) x:=f.rdA (av := .own i k) g.1
  simp only[a09]at b
  split at b
  ·rename_i t l o
   rcases List.mem_cons.1 d with rfl|d
   ·rw[o]at j
    obtain⟨e,sz,by_,nn,xs,p⟩:=J0a o
    obtain⟨y,n,c,s⟩:=o0j f p
    rw[j.own_cur p,s];rfl
   ·exact Y07 f r vs b g.2 v d
  ·rename_i u q
   split at b
   ·rename_i m
    rcases List.mem_cons.1 d with rfl|d
    ·rw[q]at j
     have:v=u:=j
     rw[this];exact m
    ·exact Y07 f r vs b g.2 v d
   ·cases b
  ·cases b
 | [],_::_,_,g,_,_=>g.elim
 |_::_,[],_,g,_,_=>g.elim
theorem s07:∀(vs:List Value),n08 vs=true->∀ v∈vs,v.oneCell'=true
 | [],_,v,a=>by cases a
 |x::r,b,v,a=>by
  simp only[n08]at b
  split at b
  ·rename_i c
   rcases List.mem_cons.1 a with rfl|a
   ·exact c
   ·exact s07 r b v a
  ·cases b
end
section
variable {P:Program} {h0:Hp} {w0:World} {be:Nat->Nat} {oe:Nat->Value} {H:Hp} {st:St} {h:Hp} {a:Act} {w:World} {o:Oper} {K:AV->St->Hp->Prop} {Q:Exit->Act->World->Prop}
theorem r04(b o n:Nat):(⟨b,o,none⟩:Addr).add n=⟨b,o+n,none⟩:=by unfold Addr.add;split<;>simp_all
theorem L8(d:Sim P h0 w0 be oe H st h a w){av:AV}{v:Value}(k:∀ c:Next->Hp->Prop,c (.value v) H->wpS P (execOp a.eval o) H c)(g:N2 st be oe av v)(f:K av st h):
  o.wp P a w (Nx P h0 w0 st be oe K a o.dst) Q:=by
 obtain⟨n,b,m,j,⟨rfl,rfl⟩,i⟩:=i02 _ _ _ d.mv.vis (k (λn b=>n = .value v/\b=H) ⟨rfl,rfl⟩)
 have l:Sim P h0 w0 be oe b st h a m:=d.still (hf:=b) (λ_ _ e=>e) i
 exact I9 j ⟨av,st,h,v,be,oe,b,f,rfl,l,g,P8.refl _ _ _⟩
theorem e00{P:Program}(b:Sem Value)(H:Hp)(a:Next->Hp->Prop)(h:wpS P b H (λv H=>a (.value v) H)):wpS P (do pure (Next.value (←b))) H a:=by
 rw[T2];exact h
theorem P0x{P:Program}(b:Sem Unit)(H:Hp)(a:Next->Hp->Prop)(h:wpS P b H (λ_ H=>a .skip H)):wpS P (do b;pure Next.skip) H a:=by
 rw[T2];exact h
theorem Q0r(d:Sim P h0 w0 be oe H st h a w){x:Operand}(c:o.op = .move x∨o.op = .assign x)(b:match rdO st x with | .dead=>False|a=>K a st h):o.wp P a w (Nx P h0 w0 st be oe K a o.dst) Q:=by
 have e:K (rdO st x) st h:=by
  revert b;cases rdO st x<;>intro b<;>first|exact b|exact b.elim
 refine L8 d (v:=a.eval x) (λg f=>?_) (d.rdO x) e
 unfold execOp
 rcases c with c|c<;>rw[c]<;>exact f
theorem Q0x(d:Sim P h0 w0 be oe H st h a w){t:TypeId}{x:Operand}(m:o.op = .box t x){cs:List Z6}(l:F02 (rdO st x)=some cs)
  (f:newBox st cs t λav st=>K av st h):o.wp P a w (Nx P h0 w0 st be oe K a o.dst) Q:=by
 have g:=X07 d l
 have q:wpS P (execOp a.eval o) H (λn e=>∃ b,H b=none/\n = .value (ptr b 0)/\e=H.set b (.cells (a.eval x).cells t (0,0))):=by
  unfold execOp;rw[m]
  refine e00 _ _ _ ?_
  simp only[Instr.box,newVar,newRow,newObj,T2,E3,wpS]
  exact λb c=>⟨b,c,rfl,rfl⟩
 obtain⟨n,e,u,p,⟨b,c,rfl,rfl⟩,i⟩:=i02 _ _ _ d.mv.vis q
 have k:(a.eval x).cells=(a.eval x).cells.toList.toArray:=by simp
 rw[k]at i
 rw[F0g]at f
 obtain⟨s,j⟩:=d.newBox g c i
 exact I9 p ⟨_,_,h,_,_,_,_,f,rfl,s,⟨by simp,by simp⟩,j⟩
theorem H0u(g:Sim P h0 w0 be oe H st h a w){t:TypeId}(k:o.op = .alloc t){z:Value}(p:n03 P t=some z)
  (e:newBox st (vals z.cells.toList) t λav st=>K av st h):o.wp P a w (Nx P h0 w0 st be oe K a o.dst) Q:=by
 have m:wpS P (execOp a.eval o) H (λn d=>∃ b,H b=none/\n = .value (ptr b 0)/\d=H.set b (.cells z.cells t (0,0))):=by
  unfold execOp;rw[k]
  refine e00 _ _ _ ?_
  simp only[Instr.alloc,newVar,newRow,newObj,T2,v0f p,E3,wpS]
  exact λb c=>⟨b,c,rfl,rfl⟩
 obtain⟨n,d,s,l,⟨b,c,rfl,rfl⟩,f⟩:=i02 _ _ _ g.mv.vis m
 have j:z.cells=z.cells.toList.toArray:=by simp
 rw[j]at f
 rw[F0g]at e
 obtain⟨q,i⟩:=g.newBox (M2.vals st oe _) c f
 exact I9 l ⟨_,_,h,_,_,_,_,e,rfl,q,⟨by simp,by simp⟩,i⟩
theorem C0l{t:TypeId}{k a:Nat}(c:R0m P t k=some a):∃ b f n,P.underlying t=some (.struct b)/\b[k]?=some f/\A7 P f.type=some (n+1)/\f.offset=a:=by
 grind[R0m]
theorem p0t{t:TypeId}{b:Int}{c:Nat}(a:n0u P t b=some c):∃ n e sz,P.underlying t=some (.array n e)/\A7 P e=some (sz+1)/\0<=b/\b<(n:Int)/\c=b.toNat*(sz+1):=by
 unfold n0u at a
 split at a
 ·rename_i n e m g
  split at a
  ·rename_i sz f d
   cases a
   refine⟨n,e,sz,g,f,Int.natCast_nonneg m,?_,rfl⟩
   have:m<n:=by simpa [Nat.blt_eq] using d
   exact Int.ofNat_lt.2 this
  ·cases a
 ·cases a
theorem L0a{t:TypeId}{x i:Operand}{k:IntKind}{f:Int}{d b off:Nat}(m:o.op = .indexAddr t x i)(q:n0u P t f=some d)(u:a.eval x=ptr b off)(j:a.eval i = .int k f):
  ∀ c:Next->Hp->Prop,c (.value (ptr b (off+d))) H->wpS P (execOp a.eval o) H c:=by
 intro c l
 obtain⟨n,e,sz,s,p,g,h,rfl⟩:=p0t q
 unfold execOp;rw[m]
 refine e00 _ _ _ ?_
 simp only[Instr.indexAt,u,j,asIntOf,T2,E3,D7 s,g,h,and_self,if_true,S03 p,r04,ptr,Instr.sureAddr]
 exact l
theorem exec_fieldAddr{t:TypeId}{x:Operand}{k d b off:Nat}(h:o.op = .fieldAddr t x k)(i:R0m P t k=some d)(l:a.eval x=ptr b off):
  ∀ c:Next->Hp->Prop,c (.value (ptr b (off+d))) H->wpS P (execOp a.eval o) H c:=by
 intro c e
 obtain⟨m,f,n,j,hf,g,rfl⟩:=C0l i
 unfold execOp;rw[h]
 refine e00 _ _ _ ?_
 simp only[Instr.fieldAt,T2,D7 j,hf,l,ptr,Instr.sureAddr,E3,fieldPlace,S03 g,Nat.add_one_ne_zero,if_false,r04]
 exact e
theorem c0n(f:Sim P h0 w0 be oe H st h a w){t:TypeId}{x:Operand}{k:Nat}(p:o.op = .fieldAddr t x k)
  (m:match rdO st x,R0m P t k with
  | .box i off,some d=>K (.box i (off+d)) st h
  | .hel f i sz k,some d=>K (.hel f i sz (k+d)) st h
  | .oel i f u sz k,some d=>K (.oel i f u sz (k+d)) st h
  | .val (.pointer (some ⟨b,off,none⟩)),some d=>K (.val (ptr b (off+d))) st h
  |_,_=>False):o.wp P a w (Nx P h0 w0 st be oe K a o.dst) Q:=by
 have g:=f.rdO x
 split at m
 ·rename_i i off d j l
  rw[j]at g
  exact L8 f (av := .box i (off+d)) (exec_fieldAddr p l g.2) ⟨g.1,rfl⟩ m
 ·rename_i sl i sz v d j l
  rw[j]at g
  obtain⟨b,D,n,c,q,s⟩:=g
  refine L8 f (av := .hel sl i sz (v+d)) (exec_fieldAddr p l s) ⟨b,D,n,c,q,?_⟩ m
  simp[Nat.add_assoc]
 ·rename_i i E u sz v d j l
  rw[j]at g
  obtain⟨e,I,by_,nn,xs,C⟩:=b0n j
  obtain⟨A,n,c,q,s⟩:=g.oel_cur C
  obtain⟨F,y,z,G⟩:=g
  refine L8 f (av := .oel i E u sz (v+d)) (exec_fieldAddr p l s) ⟨F,y,z,λ_=>⟨A,n,c,q,by simp[Nat.add_assoc]⟩⟩ m
 ·rename_i b off d j l
  rw[j]at g
  exact L8 f (av := .val (ptr b (off+d))) (exec_fieldAddr (b:=b) (off:=off) p l g) rfl m
 ·exact m.elim
theorem I01{t e:TypeId}(a:O03 P t=some e):P.underlying t=some (.slice e):=by
 grind[O03]
theorem exec_indexAddr{t e:TypeId}{x i:Operand}{k:IntKind}{d:Int}{sz b off n c:Nat}(m:o.op = .indexAddr t x i)(q:O03 P t=some e)(p:A7 P e=some sz)
  (u:a.eval x = .slice (some ⟨b,off,none⟩) n c) (j:a.eval i = .int k d) (g:0<=d) (h:d<(n:Int)) :
  ∀ f:Next->Hp->Prop,f (.value (ptr b (off+d.toNat*sz))) H->wpS P (execOp a.eval o) H f:=by
 intro f l
 have s:=I01 q
 unfold execOp;rw[m]
 refine e00 _ _ _ ?_
 simp only[Instr.indexAt,u,j,asIntOf,T2,E3,D7 s,g,h,and_self,if_true,S03 p,r04]
 exact l
theorem x0o(c:Sim P h0 w0 be oe H st h a w){t:TypeId}{x:Operand}{i off:Nat}{cs:List Z6}{ty:TypeId}(l:o.op = .load t x)(m:rdO st x = .box i off)
  (k:nth st.bx i=some (.live cs ty)) (f:m08 P t cs off λav=>K av st h):o.wp P a w (Nx P h0 w0 st be oe K a o.dst) Q:=by
 have g:=c.rdO x
 rw[m]at g
 obtain⟨u,vs,d,e⟩:=c.box i cs ty k
 obtain⟨av,v,p,q,A⟩:=load_row (H:=H) (b:=be i) (o:=0) (be:=be) f d (λz v j=>by simp[Hp.cell,e,j])
 refine L8 c (λs y=>?_) q p
 unfold execOp;rw[l]
 refine e00 _ _ _ ?_
 rw[g.2]
 grind[Instr.loadAt,ptr,Instr.sureAddr,T2,E3]
theorem y0o(d:Sim P h0 w0 be oe H st h a w){t:TypeId}{x:Operand}{sl:Value}{idx:Int}{sz k:Nat}{c:List Value}(q:o.op = .load t x)(u:rdO st x = .hel sl idx sz k)
  (j:O8 h sl sz idx c) (m:m08 P t (vals c) k λav=>K av st h):o.wp P a w (Nx P h0 w0 st be oe K a o.dst) Q:=by
 have g:=d.rdO x
 rw[u]at g
 obtain⟨b,C,n,cp,f,i⟩:=g
 obtain⟨_,_,E,L,J,F,e,l⟩:=j
 rw[f]at e;cases e
 obtain⟨av,v,z,A,I⟩:=load_row (H:=H) (b:=b) (o:=C+idx.toNat*sz) (be:=be) m (M2.vals st oe c) (λy v p=>by
  have:=l y v p
  unfold Hp.cell at this ⊢
  split at this
  ·rename_i s;rw[d.sub _ _ s];exact this
  ·cases this)
 refine L8 d (λD G=>?_) A z
 unfold execOp;rw[q]
 refine e00 _ _ _ ?_
 rw[i]
 simp only[Instr.loadAt,ptr,Instr.sureAddr,T2,E3]
 grind
theorem t07{sz:Nat}:∀(xs:LV) (i:Nat) (c:List Value),(∀ x∈xs,x.length=sz)->xs[i]?=some c->∀ a v,c[a]?=some v->xs.flatten[i*sz+a]?=some v
 | [],i,c,_,h,a,v,d=>by simp at h
 |x::xs,0,c,b,h,a,v,d=>by
  grind
 |x::xs,i+1,c,b,h,a,v,d=>by
  simp at h
  have f:=b x mS
  have:=t07 xs i c (λy e=>b y (mC _ e)) h a v d
  grind
theorem b0a.cells{h H:Hp}{v:Value}{e sz:Nat}{nn:Bool}{xs:LV}(d:b0a h H v e sz nn xs){g n c:Nat}(l:v = .slice (some ⟨g,0,none⟩) n c):
  ∀ a u,xs.flatten[a]?=some u->Hp.cell H g a=some u:=by
 intro a u j
 rcases d.2 with⟨b,_⟩|⟨f,cap,cur,b,_,i,_,_,_,k⟩
 all_goals grind[Hp.cell]
theorem z0o(d:Sim P h0 w0 be oe H st h a w){t:TypeId}{x:Operand}{i F:Nat}{idx:Int}{sz k:Nat}{G e by_:Nat}{nn:Bool}{xs:LV}{c:List Value}
  (z:o.op = .load t x) (j:rdO st x = .oel i F idx sz k) (u:nth st.ow i=some ⟨G,.live e sz by_ nn xs⟩)
  (p:xs[idx.toNat]?=some c) (q:m08 P t (vals c) k λav=>K av st h):o.wp P a w (Nx P h0 w0 st be oe K a o.dst) Q:=by
 have g:=d.rdO x
 rw[j]at g
 obtain⟨L,S,J,R,T,y⟩:=b0n j
 obtain⟨m,n,cp,l,M⟩:=g.oel_cur y
 have f:=d.own i _ _ _ _ _ _ u
 obtain⟨av,v,D,E,O⟩:=load_row (H:=H) (b:=m) (o:=idx.toNat*sz) (be:=be) q (M2.vals st oe c) (λC v s =>
  f.cells l _ _ (t07 xs _ c (λx A=>(f.1 x A).1) p C v s))
 refine L8 d (λI N=>?_) E D
 unfold execOp;rw[z]
 refine e00 _ _ _ ?_
 grind[Instr.loadAt,ptr,Instr.sureAddr,T2,E3]
theorem M0a{t:TypeId}{p x:Operand}{b off n:Nat}{cur:List Value}{ty:TypeId}(e:o.op = .store t p x)(g:A7 P t=some n)(f:a.eval p=ptr b off)
  (d:(a.eval x).cells.toList.length=n) (i:∀ v∈(a.eval x).cells.toList,v.oneCell'=true) (j:H b=some (.cells cur.toArray ty (0,0))) (k:off+n<=cur.length) :
  ∀ c:Next->Hp->Prop,c .skip (H.set b (.cells (P3 cur off (a.eval x).cells.toList).toArray ty (0,0)))->wpS P (execOp a.eval o) H c:=by
 intro c l
 unfold execOp;rw[e]
 refine P0x _ _ _ ?_
 rw[f]
 have h:(a.eval x).cells.size=n:=by simpa using d
 simp only[Instr.storeAt,ptr,Instr.sureAddr,T2,E3,storeVar,S03 g,h,ne_eq,not_true_eq_false,if_false]
 grind[u08]
theorem d0n(b:Sim P h0 w0 be oe H st h a w){t:TypeId}{p x:Operand}{i off n:Nat}{cs new:List Z6}{ty:TypeId}(A:o.op = .store t p x)(C:rdO st p = .box i off)
  (k:nth st.bx i=some (.live cs ty)) (u:F02 (rdO st x)=some new) (E:A7 P t=some n) (v:I0a new n=true) (m:a09 st new=true)
  (c:m0t cs off new λcs=>K (.val undef) { st with bx:=e03 st.bx i (.live cs ty) } h):o.wp P a w (Nx P h0 w0 st be oe K a o.dst) Q:=by
 have g:=b.rdO p
 rw[C]at g
 have d:=X07 b u
 have q:=Y07 b _ _ m d
 have y:=H05 _ _ v
 obtain⟨J,vs,f,s⟩:=b.box i cs ty k
 unfold m0t at c
 split at c
 ·rename_i j
  have j:=Nat.le_of_ble_eq_true j
  have G:(a.eval x).cells.toList.length=n:=by rw[←d.length,y]
  have F:=M0a (H:=H) (P:=P) (a:=a) A E g.2 G q s (by rw[←f.length];omega)
  obtain⟨L,e,M,D,⟨rfl,rfl⟩,z⟩:=i02 _ _ _ b.mv.vis (F (λn e=>n = .skip/\e=_) ⟨rfl,rfl⟩)
  obtain⟨I,l⟩:=b.updBox k (f.splice d) z
  exact f0d D ⟨_,_,h,_,_,_,_,c,rfl,I,rfl,l⟩
 ·exact c.elim
end
section
variable {P:Program} {h0:Hp} {w0:World} {be:Nat->Nat} {oe:Nat->Value} {H:Hp} {st:St} {h:Hp} {a:Act} {w:World} {o:Oper} {K:AV->St->Hp->Prop} {Q:Exit->Act->World->Prop}
theorem V02{sz:Nat}:∀(xs:LV),(∀ x∈xs,x.length=sz)->xs.flatten.length=xs.length*sz
 | [],_=>by simp
 |x::xs,a=>by
  have:=V02 xs (λy b=>a y (mC _ b))
  grind
def R0r(w:World)(y:Value)(sz:Nat)(a:LV):Prop :=
 (∀ x∈a,x.length=sz/\∀ v∈x,v.oneCell'=true) /\
 ((∃ b c,y = .slice (some b) a.length c/\∀ d u,a.flatten[d]?=some u->w.cell? (b.add d)=some u)∨(∃ c,y = .slice none 0 c/\a = []))
theorem Z2.newD{H:Hp}{w:World}(a:Vis H w)(x:Obj)(b:r0w x=true):Z2 H w (H.set w.heap.size x) (w.drew.alloc x) :=
 (Z2.drawn a (w.drawn+1) (Nat.le_succ _)).trans (Z2.new (w:=w.drew) a x b)
theorem r05{H:Hp}{w:World}(a:Vis H w):H w.heap.size=none:=by
 cases hc:H w.heap.size with
 |none=>rfl
 |some x=>exact absurd (a.lt (b:=w.heap.size) (by simp[hc])) (Nat.lt_irrefl _)
theorem p0j{h H:Hp}(k:∀ b o,h b=some o->H b=some o){g:Nat}(j:H g=none){e sz cap:Nat}{nn:Bool}{xs:LV}{cur:Array Value}
  (a:∀ x∈xs,x.length=sz/\∀ v∈x,v.oneCell'=true) (c:xs.length<=cap) (d:cap<=maxLen) (f:cur.size=cap*sz) (i:cur.toList.take (xs.length*sz)=xs.flatten) :
  b0a h (H.set g (.cells cur e (0,0))) (.slice (some ⟨g,0,none⟩) xs.length cap) e sz nn xs:=by
 refine⟨a,.inr ⟨g,cap,cur,rfl,?_,by simp[Hp.set],c,d,f,i⟩⟩
 cases hc:h g with
 |none=>rfl
 |some o=>grind
theorem Q0h{t e ty sz by_:Nat}{i:TypeInfo}{z:Value}(m:P.underlying t=some (.slice e))(l:P.info? e=some i)(V:i.zero=some z)(ao:i.size=sz)(ar:0<sz)
  (aa:i.bytes=by_) (Z:0<by_) (ap:z.cells.size=sz) {v:Value} {nn:Bool} {xs:LV} (s:b0a h H v e sz nn xs) (j:Vis H w) (an:∀ b o,h b=some o->H b=some o)
  {y:Value} {a:LV} (K:R0r w y sz a) (S:U09 (xs.length+a.length) by_) :
  ∃ E X F,(Builtin.append_ #[t,t] ty #[v,y]).run P w = .ok E X/\Z2 H w F X/\b0a h F E e sz (nn || r07 a) (xs++a) /\
   (∀ b,v.ownBlock≠some b->H b≠none->F b=H b)/\(∀ g,E.ownBlock=some g->v.ownBlock=some g∨H g=none)/\(a = []->E=v):=by
 subst ao
 subst aa
 have ak:xs.length+a.length<=140737488355328:=Nat.le_trans (Nat.le_mul_of_pos_right _ Z) S
 have aj:((xs.length+a.length:Nat):Int)<=9223372036854775807:=by omega
 have M:∀ x∈xs++a,x.length=i.size/\∀ v∈x,v.oneCell'=true:=λx d=>by
  rcases List.mem_append.1 d with d|d
  ·exact s.1 x d
  ·exact K.1 x d
 have N:=V02 xs (λx d=>(s.1 x d).1)
 have q:=V02 a (λx d=>(K.1 x d).1)
 have am:∀ u∈a.flatten,u.oneCell'=true:=λu av=>by
  grind[List.mem_flatten]
 have ab:∀ f,grownCap w (xs.length+a.length) f e<=maxLen:=λf=>grownCap_le_maxLen w _ f e (by unfold maxLen;omega)
 have grown:∀ f,b0a h (H.set w.heap.size (.cells (xs.flatten.toArray++a.flatten.toArray++Builtin.zeroCells z.cells (grownCap w (xs.length+a.length) f e-(xs.length+a.length))) e (0,0)))
   (.slice (some ⟨w.heap.size,0,none⟩) (xs++a).length (grownCap w (xs.length+a.length) f e)) e i.size (nn || r07 a) (xs++a):=λf=>by
  have ag:=grownCap_ge w (xs.length+a.length) f e
  refine p0j an (r05 j) M (by simpa using ag) (ab f) ?_ ?_
  ·simp only[Array.size_append,List.size_toArray,N,q,size_zeroCells,ap,←Nat.add_mul]
   congr 1;omega
  ·simp only[Array.toList_append,List.flatten_append,List.append_assoc,List.length_append]
   rw[←List.append_assoc,List.take_append_of_le_length (by grind),List.take_of_length_le (by grind)]
 have T:a = []->b0a h H v e i.size (nn || r07 a) (xs++a):=λJ=>by grind[r07]
 have W:∀(x:Obj) b,v.ownBlock≠some b->H b≠none->(H.set w.heap.size x) b=H b:=λx b _ aq=>Hp.set_other _ _ (λe=>by grind[r05])
 rcases K.2 with⟨G,c,rfl,I⟩|⟨c,rfl,L⟩
 ·rcases s.2 with⟨rfl,rfl,rfl⟩|⟨g,cap,cur,rfl,af,Q,R,ac,ad,au⟩
  ·by_cases hm:a.length=0
   ·have L:a = []:=List.eq_nil_of_length_eq_zero hm
    refine⟨_,w,H,?_,Z2.refl j,T L,λ_ _ _=>rfl,λg C => .inl C,λ_=>rfl⟩
    simp[Builtin.append_,run_underlying m,sizeOf,typeInfo,l,Builtin.lenOf,Builtin.firstCells,loadCells,loadCellsFrom,hm]
   ·have A:=run_append_nil (P:=P) w t ty e i z m l V G a.length c a.flatten q I (by omega) (by simp at ak;omega) (by grind[U09])
    have p:=grown 0
    simp only[List.length_nil,Nat.zero_add,List.nil_append,List.flatten_nil]at p
    simp only[Array.empty_append]at p
    refine⟨_,_,_,A,Z2.newD j _ rfl,by simpa using p,W _,λg C => .inr ?_,λe=>by grind⟩
    grind[Value.ownBlock,r05]
  ·have al:∀ D u,xs.flatten[D]?=some u->w.cell? ((⟨g,0,none⟩:Addr).add D)=some u:=λD u ah=>by
    rw[r04,Nat.zero_add]
    refine R09 j rfl ?_
    exact s.cells rfl D u ah
   by_cases hroom:xs.length+a.length<=cap
   ·have U:=j _ _ Q
    have ae:xs.length*i.size+a.flatten.length<=cur.size:=by rw[q,ad,←Nat.add_mul];exact Nat.mul_le_mul_right _ hroom
    have A:=run_append_room (P:=P) w t ty e i m l g xs.length cap cur U G a.length c a.flatten q I am hroom ae
    refine⟨_,_,H.set g (.cells (cur.toList.take (xs.length*i.size)++a.flatten++cur.toList.drop (xs.length*i.size+a.flatten.length)).toArray e (0,0)),A,
     Z2.upd j Q (λ_=>rfl) rfl rfl rfl (by simp) (setRow_heap w g cur _ e _ U) (λk ai=>setRow_other w g k _ ai),?_,?_,λY O => .inl O,λJ=>by simp[J]⟩
    ·refine⟨M,.inr ⟨g,cap,_,by simp,af,Hp.set_same _ _ _,by simpa using hroom,ac,?_,?_⟩⟩
     ·grind
     grind[List.flatten_append,List.length_append,Nat.add_mul,List.take_of_length_le]
    grind[Hp.set_other,Value.ownBlock]
   ·have A:=run_append_grow (P:=P) w t ty e i z m l V ⟨g,0,none⟩ xs.length cap xs.flatten N al G a.length c a.flatten q I (by omega) aj (growslice_fits (by omega) S)
    have p:=grown cap
    refine⟨_,_,_,A,Z2.newD j _ rfl,by simpa using p,W _,λY O => .inr ?_,λJ=>by grind⟩
    grind[Value.ownBlock,r05]
 ·refine⟨v,w,H,?_,Z2.refl j,T L,λ_ _ _=>rfl,λg C => .inl C,λ_=>rfl⟩
  rcases s.2 with⟨rfl,_⟩|⟨g,cap,cur,rfl,_,_,R,_⟩
  ·simp[Builtin.append_,run_underlying m,sizeOf,typeInfo,l,Builtin.lenOf,Builtin.firstCells]
  ·simp[Builtin.append_,run_underlying m,sizeOf,typeInfo,l,Builtin.lenOf,Builtin.firstCells,R,storeCells]
theorem V0d(b:Nat):∀(vs:List Value) (o:Nat) (w:World) (cur:Array Value) (ty:TypeId) (a:Nat×Nat),w.heap[b]?=some (.cells cur ty a)->(w.setCells b o vs).heap[b]?=some (.cells (P3 cur.toList o vs).toArray ty a)
 | [],o,w,cur,ty,a,h=>by simp_all[World.setCells,P3]
 |v::r,o,w,cur,ty,a,h=>by
  have c:(w.setCell ⟨b,o,none⟩ v).heap[b]?=some (.cells (cur.setIfInBounds o v) ty a):=by simp[World.setCell,Array.getElem?_modify,h]
  have:=V0d b r (o+1) _ _ _ _ c
  simp_all[World.setCells,P3]
theorem a0c(b:Nat):∀(vs:List Value) (o:Nat) (w:World) (k:Nat),k≠b->(w.setCells b o vs).heap[k]?=w.heap[k]?
 | [],o,w,k,h=>rfl
 |v::r,o,w,k,h=>by
  rw[World.setCells,a0c b r (o+1) _ k h]
  simp only[World.setCell,Array.getElem?_modify]
  rw[if_neg (λe=>h e.symm)]
theorem R0h(b:Nat):∀(vs:List Value) (o:Nat) (w:World),(w.setCells b o vs).drawn=w.drawn
 | [],o,w=>rfl
 |v::r,o,w=>by
  rw[World.setCells,R0h b r (o+1)]
  unfold World.setCell
  split<;>rfl
theorem W0d(b:Nat):∀(vs:List Value) (o:Nat) (w:World),(w.setCells b o vs).os=w.os/\(w.setCells b o vs).tape=w.tape/\(w.setCells b o vs).output=w.output/\(w.setCells b o vs).heap.size=w.heap.size
 | [],o,w=>⟨rfl,rfl,rfl,rfl⟩
 |v::r,o,w=>by
  obtain⟨a,c,d,e⟩:=W0d b r (o+1) (w.setCell ⟨b,o,none⟩ v)
  grind[World.setCells,World.setCell]
theorem b0c:∀(b vs:List Value) (off a:Nat),off+b.length<=vs.length->(P3 vs off b)[a]?=if off<=a/\a<off+b.length then b[a-off]? else vs[a]?
 | [],vs,off,a,h=>by
  simp only[P3,List.length_nil,Nat.add_zero]
  rw[if_neg (by omega)]
 |n::b,vs,off,a,h=>by
  simp only[List.length_cons]at h
  rw[P3,b0c b _ (off+1) a (by simp;omega)]
  grind
theorem e0n{t e ty sz by_:Nat}{i:TypeInfo}{z:Value}(H:P.underlying t=some (.slice e))(F:P.info? e=some i)(an:i.zero=some z)(aj:i.size=sz)(az:0<sz)
  (X:i.bytes=by_) (W:0<by_) (ao:z.cells.size=sz) {g o n c:Nat} {xs:LV} (V:t0i h sz (.slice (some ⟨g,o,none⟩) n c) xs) (l:Vis h w)
  {y:Value} {a:LV} (s:R0r w y sz a) (R:U09 (xs.length+a.length) by_) :
  ∃ S T h',(Builtin.append_ #[t,t] ty #[.slice (some ⟨g,o,none⟩) n c,y]).run P w = .ok S T/\Z2 h w h' T/\d0l h h' sz g S (xs++a):=by
 subst aj
 subst X
 have ay:xs.length+a.length<=140737488355328:=Nat.le_trans (Nat.le_mul_of_pos_right _ W) R
 have ad:((xs.length+a.length:Nat):Int)<=9223372036854775807:=by omega
 obtain⟨C,aw,aA,av,cur,m,U,Q,M,N,q,E⟩:=V
 cases U
 have K:∀ x∈xs++a,x.length=i.size/\∀ v∈x,v.oneCell'=true:=λx j=>by
  rcases List.mem_append.1 j with j|j
  ·exact C x j
  ·exact s.1 x j
 have O:=V02 xs (λx j=>(C x j).1)
 have p:=V02 a (λx j=>(s.1 x j).1)
 have ag:∀ u∈a.flatten,u.oneCell'=true:=λu ak=>by
  obtain⟨x,j,al⟩:=List.mem_flatten.1 ak
  exact(s.1 x j).2 u al
 have ah:a = []->d0l h h i.size g (.slice (some ⟨g,o,none⟩) xs.length c) (xs++a):=λae=>by
  subst ae
  rw[List.append_nil]
  exact⟨⟨C,g,o,c,cur,m,rfl,Q,M,N,q,E⟩,g,o,_,c,rfl,.inl rfl,λ_ _=>rfl⟩
 have I:=l _ _ q
 rcases s.2 with⟨J,A,rfl,L⟩|⟨A,rfl,am⟩
 ·by_cases hroom:xs.length+a.length<=c
  ·have Y:o+xs.length*i.size+a.flatten.length<=cur.size:=by
    have:(xs.length+a.length)*i.size<=c*i.size:=Nat.mul_le_mul_right _ hroom
    rw[Nat.add_mul]at this
    rw[p]
    omega
   have ab:∀ d,d<a.flatten.length->(w.cell? ⟨g,o+xs.length*i.size+d,none⟩).isSome=true:=λd f=>by
    simp only[World.cell?,I]
    simp[show o+xs.length*i.size+d<cur.size by omega]
   have Z:∀ d,d<a.flatten.length->w.frozen? ⟨g,o+xs.length*i.size+d,none⟩=false:=λd f=>by
    rw[Z04 (o := .cells cur m (0,0)) I]
    simp[a04]
   have G:=run_append_room_cells (P:=P) w t ty e i H F g o xs.length c J a.length A a.flatten p L ag hroom ab Z
   have ai:=V0d g a.flatten (o+xs.length*i.size) w cur m (0,0) I
   obtain⟨ap,aq,ar,au⟩:=W0d g a.flatten (o+xs.length*i.size) w
   refine⟨_,_,h.set g (.cells (P3 cur.toList (o+xs.length*i.size) a.flatten).toArray m (0,0)),G,
    Z2.upd l q (λ_=>rfl) ap aq ar au ai (λk ac=>a0c _ _ _ _ k ac) (Nat.le_of_eq (R0h _ _ _ _).symm),⟨K,g,o,c,_,m,by rw[List.length_append],by rw[List.length_append];exact hroom,M,?_,Hp.set_same _ _ _,λd u f=>?_⟩,g,o,_,c,rfl,.inl rfl,λb D=>Hp.set_other _ _ D⟩
   ·simpa [g01] using N
   ·rw[List.flatten_append]at f
    rw[List.getElem?_toArray,b0c _ _ _ _ (by simpa using Y)]
    by_cases hlt:d<xs.flatten.length
    ·rw[List.getElem?_append_left hlt]at f
     rw[if_neg (by omega),Array.getElem?_toList]
     exact E d u f
    ·rw[List.getElem?_append_right (by omega)]at f
     have ax:=(List.getElem?_eq_some_iff.1 f).1
     rw[if_pos (by omega),show o+d-(o+xs.length*i.size)=d-xs.flatten.length by omega]
     exact f
  ·have af:∀ d u,xs.flatten[d]?=some u->w.cell? ((⟨g,o,none⟩:Addr).add d)=some u:=λd u f=>by
    rw[r04]
    refine R09 l rfl ?_
    simp only[Hp.cell,q]
    exact E d u f
   have G:=run_append_grow (P:=P) w t ty e i z H F an ⟨g,o,none⟩ xs.length c xs.flatten O af J a.length A a.flatten p L (by omega) ad (growslice_fits (by omega) R)
   have aa:=grownCap_ge w (xs.length+a.length) c e
   refine⟨_,_,_,G,Z2.newD l _ rfl,⟨K,w.heap.size,0,grownCap w (xs.length+a.length) c e,_,e,by rw[List.length_append],by rw[List.length_append];exact aa,grownCap_le_maxLen w _ c e (by unfold maxLen;omega),?_,Hp.set_same _ _ _,λd u f=>?_⟩,w.heap.size,0,_,_,rfl,.inr (r05 l),λb D=>Hp.set_other _ _ D⟩
   ·simp only[Array.size_append,List.size_toArray,O,p,size_zeroCells,ao,←Nat.add_mul,Nat.zero_add]
    refine Nat.le_of_eq ?_
    congr 1;omega
   ·rw[List.flatten_append]at f
    rw[Nat.zero_add,←Array.getElem?_toList]
    simp only[Array.toList_append]
    rw[List.getElem?_append_left (by simpa using (List.getElem?_eq_some_iff.1 f).1)]
    exact f
 ·refine⟨_,w,h,?_,Z2.refl l,ah am⟩
  simp[Builtin.append_,run_underlying H,sizeOf,typeInfo,F,Builtin.lenOf,Builtin.firstCells,Q,storeCells]
theorem f0n{t e ty sz by_:Nat}{i:TypeInfo}{z:Value}(H:P.underlying t=some (.slice e))(E:P.info? e=some i)(J:i.zero=some z)(G:i.size=sz)(_:0<sz)
  (A:i.bytes=by_) (v:0<by_) (K:z.cells.size=sz) (m:Vis h w)
  {y:Value} {a:LV} (d:R0r w y sz a) (k:r07 a=true) (l:U09 a.length by_) :
  ∃ o p h',(Builtin.append_ #[t,t] ty #[.slice none 0 0,y]).run P w = .ok o p/\Z2 h w h' p/\h0o h h' sz o a:=by
 subst G
 subst A
 have L:a.length<=140737488355328:=Nat.le_trans (Nat.le_mul_of_pos_right _ v) l
 have g:=V02 a (λx I=>(d.1 x I).1)
 rcases d.2 with⟨q,c,rfl,C⟩|⟨c,rfl,f⟩
 ·by_cases hm:a.length=0
  ·have f:a = []:=List.eq_nil_of_length_eq_zero hm
   subst f;cases k
  ·have F:=run_append_nil (P:=P) w t ty e i z H E J q a.length c a.flatten g C (by omega) (by omega) (Nat.le_trans l (by decide))
   have D:=grownCap_ge w a.length 0 e
   refine⟨_,_,_,F,Z2.newD m _ rfl,⟨d.1,w.heap.size,0,grownCap w a.length 0 e,_,e,rfl,D,grownCap_le_maxLen w _ 0 e (by unfold maxLen;omega),?_,Hp.set_same _ _ _,λM u j=>?_⟩,w.heap.size,0,_,_,rfl,r05 m,λb s=>Hp.set_other _ _ s⟩
   ·simp only[Array.size_append,List.size_toArray,g,size_zeroCells,K,←Nat.add_mul,Nat.zero_add]
    refine Nat.le_of_eq ?_
    congr 1;omega
   ·rw[Nat.zero_add,←Array.getElem?_toList]
    simp only[Array.toList_append]
    rw[List.getElem?_append_left (by simpa using (List.getElem?_eq_some_iff.1 j).1)]
    exact j
 ·subst f;cases k
theorem s0e{e sz by_:Nat}{z:Value}(a:A7 P e=some sz)(b:p0e P e=some by_)(c:n03 P e=some z):∃ i,P.info? e=some i/\i.size=sz/\i.bytes=by_/\i.zero=some z:=by
 grind[A7,p0e,n03]
theorem v08(m:Sim P h0 w0 be oe H st h a w){sz:Nat}(O:0<sz){b:Operand}{K:LV->Prop}(d:g0j st h sz (rdO st b) K):∃ e,K e/\R0r w (a.eval b) sz e:=by
 have g:=m.rdO b
 unfold g0j at d
 split at d
 ·rename_i i k l
  obtain⟨M,S,L,R,I,p⟩:=K0a l
  rw[l]at g
  simp only[p]at d
  split at d
  ·rename_i A
   have E:=Nat.eq_of_beq_eq_true A
   subst E
   refine⟨I,d,?_⟩
   have q:=m.own i _ _ _ _ _ _ p
   rw[g.own_cur p]
   refine⟨q.1,?_⟩
   rcases q.2 with⟨f,j,_⟩|⟨z,cap,cur,f,j,s,_⟩
   ·grind
   ·refine .inl ⟨⟨z,0,none⟩,cap,f,λi u o=>?_⟩
    rw[r04,Nat.zero_add]
    exact R09 m.mv.vis rfl (q.cells f i u o)
  ·exact d.elim
 ·rename_i v l
  rw[l]at g
  obtain⟨e,D,C⟩:=d
  refine⟨e,C,?_⟩
  have F:a.eval b=v:=g
  rw[F]
  obtain⟨f,x,n,c,rfl,rfl,N,j⟩:=D
  refine⟨f,?_⟩
  rcases j with j|⟨t,G,rfl,s⟩
  ·cases x with
   |none =>
    have Q:e = []:=by
     cases e with
     |nil=>rfl
     |cons y r =>
      simp_all
    grind
   |some J=>grind
  ·refine .inl ⟨⟨t,G,none⟩,c,rfl,λi u o=>?_⟩
   rw[r04]
   exact R09 (Y0b m) rfl (s i u o)
 ·exact d.elim
theorem d06{t:TypeId}{p q:Operand}{as:Array Operand}{b:Array TypeId}(f:o.op = .call { callee := .builtin .append,args:=as,argTypes:=b })(e:as = #[p,q])(h:b = #[t,t])
  {c:Value} {d:World} (g:(Builtin.append_ #[t,t] o.type #[a.eval p,a.eval q]).run P w = .ok c d):(execOp a.eval o).run P w = .ok (.value c) d:=by
 subst e;subst h
 unfold execOp;rw[f]
 simp only[resolve,invoke,builtin,Sem.run_bind,Sem.run_pure,Result.andThen_ok,List.map_toArray,List.map_cons,List.map_nil,g]
theorem q0t(d:Sim P h0 w0 be oe H st h a w){t:TypeId}{p q:Operand}{as:Array Operand}{Y:Array TypeId}(G:o.op = .call { callee := .builtin .append,args:=as,argTypes:=Y })
  (D:as = #[p,q]) (J:Y = #[t,t]) (c:h0j P t p q st h K):o.wp P a w (Nx P h0 w0 st be oe K a o.dst) Q:=by
 unfold h0j at c
 split at c
 rotate_left
 ·exact c.elim
 rename_i e al
 split at c
 rotate_left
 ·exact c.elim
 rename_i sz by_ z aj E am
 split at c
 rotate_left
 ·exact c.elim
 rename_i an
 obtain⟨i,F,M,N,O⟩:=s0e aj E am
 have I:=I01 al
 have L:z.cells.size=sz+1:=by simpa using H05 _ _ an
 have g:=d.rdO p
 split at c
 ·rename_i ao k y
  obtain⟨au,ax,ar,aw,ay,A⟩:=K0a y
  rw[y]at g
  simp only[A]at c
  split at c
  ·rename_i ac ad av
   have ae:=Nat.eq_of_beq_eq_true ac
   have ak:=Nat.eq_of_beq_eq_true ad
   subst ae
   subst ak
   obtain⟨X,⟨u,j⟩,v⟩:=v08 d (Nat.succ_pos sz) c
   have ai:=d.own ao _ _ _ _ _ _ A
   obtain⟨l,W,R,f,s,C,U,V,_⟩:=Q0h (ty:=o.type) I F O M (Nat.succ_pos _) N (Nat.succ_pos _) L ai d.mv.vis d.sub v u
   obtain⟨x,S⟩:=d.updOwn (s1:=k+1) (by_:=by_+1) A (Nat.le_succ _) (λe=>absurd e (Nat.succ_ne_self k)) s U C V
   rw[←g.own_cur A]at f
   refine I9 (d06 G D J f) ⟨_,_,h,l,_,_,_,j,rfl,x,?_,S⟩
   refine⟨k+1,?_,Nat.le_refl _,λ_=>by simp⟩
   simp[stamp,r9 _ _ _ (F04 A)]
  ·exact c.elim
 ·rename_i y
  rw[y]at g
  rcases c with c|c
  rotate_left
  ·obtain⟨X,⟨⟨af,u⟩,j⟩,v⟩:=v08 d (Nat.succ_pos sz) c
   obtain⟨l,W,h',f,s,T⟩:=f0n (ty:=o.type) I F O M (Nat.succ_pos _) N (Nat.succ_pos _) L (Y0b d) v af u
   have m:a.eval p = .slice none 0 0:=g
   rw[←m]at f
   obtain⟨R,x⟩:=d.moved s
   exact I9 (d06 G D J f) ⟨_,_,_,l,_,_,_,j _ _ T,rfl,x,rfl,P8.refl _ _ _⟩
  obtain⟨X,⟨u,j⟩,v⟩:=v08 d (Nat.succ_pos sz) c
  have ah:b0a h H (.slice none 0 0) e (sz+1) false []:=⟨by simp,.inl ⟨rfl,rfl,rfl⟩⟩
  obtain⟨l,W,R,f,s,C,U,V,_⟩:=Q0h (ty:=o.type) I F O M (Nat.succ_pos _) N (Nat.succ_pos _) L ah d.mv.vis d.sub v (by simpa using u)
  simp only[Bool.false_or,List.nil_append]at C
  have ag:∀ g,l.ownBlock=some g->H g=none:=λg m=>(V g m).resolve_left (by simp[Value.ownBlock])
  rw[E0g]at j
  obtain⟨x,S⟩:=d.newOwn (by_:=by_+1) (λb o E=>by rw[U b (by simp[Value.ownBlock]) (by rw[E];simp)];exact E) s C ag
  have m:a.eval p = .slice none 0 0:=g
  rw[←m]at f
  refine I9 (d06 G D J f) ⟨_,_,h,l,_,_,_,j,rfl,x,?_,S⟩
  refine⟨0,?_,Nat.le_refl _,λ_=>by simp⟩
  simp[stamp,q05]
 ·rename_i aa aq ap Z y
  rw[y]at g
  obtain⟨X,⟨xs,ab,u,j⟩,v⟩:=v08 d (Nat.succ_pos sz) c
  obtain⟨l,W,h',f,s,T⟩:=e0n (ty:=o.type) I F O M (Nat.succ_pos _) N (Nat.succ_pos _) L ab (Y0b d) v u
  have m:a.eval p = .slice (some ⟨aa,aq,none⟩) ap Z:=g
  rw[←m]at f
  obtain⟨R,x⟩:=d.moved s
  exact I9 (d06 G D J f) ⟨_,_,_,l,_,_,_,j _ _ T,rfl,x,rfl,P8.refl _ _ _⟩
 ·exact c.elim
end
section
variable {P:Program} {h0:Hp} {w0:World} {be:Nat->Nat} {oe:Nat->Value} {H:Hp} {st:St} {h:Hp} {a:Act} {w:World} {o:Oper} {K:AV->St->Hp->Prop} {Q:Exit->Act->World->Prop}
theorem N0a:∀(a cs:List Value) (off:Nat),off+a.length<=cs.length->P3 cs off a=cs.take off++a++cs.drop (off+a.length)
 | [],cs,off,_=>by simp[P3]
 |n::a,cs,off,c=>by
  simp only[List.length_cons]at c
  rw[P3,N0a a (cs.set off n) (off+1) (by simp;omega)]
  rw[List.take_set,List.drop_set_of_lt (by omega)]
  have b:(cs.take (off+1)).set off n=cs.take off ++ [n]:=by
   rw[List.take_succ_eq_append_getElem (by omega),List.set_append_right _ _ (by simp;omega)]
   have:off-(cs.take off).length=0:=by simp;omega
   rw[this]
   simp
  rw[b]
  simp only[List.length_cons,List.append_assoc,List.cons_append,List.nil_append]
  rw[show off+1+a.length=off+(a.length+1) from by omega]
theorem w0f(off:Nat):∀(l:List Value) (k:Nat) (a:Array Value),((l.zipIdx k).foldl (λcs p=>cs.setIfInBounds (off+p.2) p.1) a).toList=P3 a.toList (off+k) l
 | [],k,a=>rfl
 |x::l,k,a=>by
  simp only[List.zipIdx_cons,List.foldl_cons,P3]
  rw[w0f off l (k+1)]
  simp[Nat.add_assoc]
theorem q0j(v:Value)(off:Nat)(a:Array Value):(v.cells.zipIdx.foldl (λcs (p:Value×Nat)=>cs.setIfInBounds (off+p.2) p.1) a).toList=P3 a.toList off v.cells.toList:=by
 rw[←Array.foldl_toList,Array.toList_zipIdx]
 simp_all[w0f]
def h0d(a:Act)(sz:Nat):Nat->List (Nat×Operand)->LV->Prop
 |_,[],[]=>True
 |i,(j,x)::r,c::cs=>j=i/\c=(a.eval x).cells.toList/\c.length=sz/\(∀ v∈c,v.oneCell'=true)/\h0d a sz (i+1) r cs
 |_,_,_=>False
theorem h0d.all{sz:Nat}:∀ {i:Nat} {l:List (Nat×Operand)} {xs:LV},h0d a sz i l xs->(∀ x∈xs,x.length=sz/\∀ v∈x,v.oneCell'=true)/\l.length=xs.length
 |_,[],[],_=>by simp
 |i,(e,x)::r,c::cs,h=>by
  have d:=h0d.all h.2.2.2.2
  refine⟨λy b=>?_,by simp[d.2]⟩
  rcases List.mem_cons.1 b with rfl|b
  ·exact⟨h.2.2.1,h.2.2.2.1⟩
  ·exact d.1 y b
 |_,[],_::_,h=>h.elim
 |_,_::_,[],h=>h.elim
theorem r0j{sz:Nat}:∀(l:List (Nat×Operand)) (xs:LV) (i:Nat) (b:Array Value),h0d a sz i l xs->(i+l.length)*sz<=b.size ->
  ∃ e,Instr.fill (λi=>some (i*sz,sz)) b (l.map λp=>(p.1,a.eval p.2))=some e/\e.toList=b.toList.take (i*sz)++xs.flatten++b.toList.drop ((i+l.length)*sz)
 | [],[],i,b,_,f=>⟨b,rfl,by simp⟩
 |(d,x)::r,c::cs,i,b,h,f=>by
  obtain⟨rfl,j,k,_,q⟩:=h
  have t:(a.eval x).cells.size=sz:=by rw[←k,j];simp
  have z:d*sz+sz<=b.size:=by
   refine Nat.le_trans ?_ f
   simp only[List.length_cons]
   grind
  have g:=q0j (a.eval x) (d*sz) b
  rw[←j]at g
  have s:=N0a c b.toList (d*sz) (by grind)
  have u:((a.eval x).cells.zipIdx.foldl (λcs (p:Value×Nat)=>cs.setIfInBounds (d*sz+p.2) p.1) b).size=b.size:=by
   grind[Array.length_toList,g01]
  obtain⟨e,y,m⟩:=r0j r cs (d+1) ((a.eval x).cells.zipIdx.foldl (λcs (p:Value×Nat)=>cs.setIfInBounds (d*sz+p.2) p.1) b) q (by
   rw[u];simp only[List.length_cons]at f;grind)
  refine⟨e,?_,?_⟩
  ·simp only[List.map_cons,Instr.fill,t,ne_eq,not_true_eq_false,decide_false,Bool.false_or,decide_eq_true_eq]
   grind
  ·rw[m,g,s,k]
   have v:(b.toList.take (d*sz)++c++b.toList.drop (d*sz+sz)).take ((d+1)*sz)=b.toList.take (d*sz)++c:=by
    rw[List.take_append_of_le_length,List.take_of_length_le]
    all_goals grind
   have w:(b.toList.take (d*sz)++c++b.toList.drop (d*sz+sz)).drop ((d+1+r.length)*sz)=b.toList.drop ((d+(r.length+1))*sz):=by
    have o:(b.toList.take (d*sz)++c).length=d*sz+sz:=by grind
    rw[List.drop_append,List.drop_eq_nil_of_le (by grind),o,List.nil_append,List.drop_drop]
    congr 1
    simp only[Nat.add_mul]
    omega
   grind
 | [],_::_,_,_,h,_=>h.elim
 |_::_,[],_,_,h,_=>h.elim
theorem S0h{sz:Nat}:∀(l:List (Nat×Operand)) (i:Nat) {st:St} {h:Hp} {K:LV->St->Hp->Prop},Sim P h0 w0 be oe H st h a w->g0o sz i l st h K ->
  ∃ xs st' h',K xs st' h'/\Sim P h0 w0 be oe H st' h' a w/\P8 st be oe st' be oe/\h0d a sz i l xs
 | [],i,st,h,K,c,b=>⟨[],st,h,b,c,P8.refl _ _ _,trivial⟩
 |(u,x)::r,i,st,h,K,c,b=>by
  simp only[g0o]at b
  split at b
  ·rename_i k
   have m:=Nat.eq_of_beq_eq_true k
   obtain⟨v,t,d,s1,f⟩:=c06 c (c.rdO x) b
   split at d
   ·rename_i o p
    obtain⟨xs,s,j,e,s2,g,q⟩:=S0h r (i+1) s1 d
    exact⟨_,s,j,e,s2,f.trans g,m.symm,rfl,H05 _ _ o,s07 _ p,q⟩
   ·exact d.elim
  ·exact b.elim
theorem j0l(V:Sim P h0 w0 be oe H st h a w){t n:Nat}{c:Array (Nat×Operand)}{e sz by_:Nat}{z:Value}(M:o.op = .buildSlice t n c)(R:O03 P t=some e)(O:A7 P e=some (sz+1))
  (T:n03 P e=some z) (aa:Nat.beq n c.size=true) (G:Nat.ble (n*(sz+1)) 16777216=true)
  (E:g0o (sz+1) 0 c.toList st h λxs st h=>newOwn st e (sz+1) by_ true xs λav st=>K av st h):o.wp P a w (Nx P h0 w0 st be oe K a o.dst) Q:=by
 obtain⟨xs,ac,C,q,s1,v,U⟩:=S0h _ _ V E
 obtain⟨D,Y⟩:=U.all
 have k:n=xs.length:=by simp_all
 have I:=Nat.le_of_ble_eq_true G
 have S:wpS P (execOp a.eval o) H (λu m=>∃ b d,H b=none/\u = .value (.slice (some ⟨b,0,none⟩) xs.length xs.length)/\m=H.set b (.cells d e (0,0))/\d.toList=xs.flatten/\d.size=xs.length*(sz+1)):=by
  unfold execOp;rw[M]
  refine e00 _ _ _ ?_
  have s:∀ d:Array Value,d.size=xs.length*(sz+1)->∃ f,Instr.fill (λi=>some (i*(sz+1),sz+1)) d (c.toList.map λp=>(p.1,a.eval p.2))=some f/\f.toList=xs.flatten/\f.size=xs.length*(sz+1):=by
   grind[r0j,Array.length_toList,V02]
  have F : ¬ (n*(sz+1)>2 ^ 24):=Nat.not_lt.2 I
  simp only[Instr.buildSlice,T2,D7 (I01 R),S03 O,if_neg F,E3]
  have Z:(c.map λx=>(x.1,a.eval x.2)).toList=c.toList.map λp=>(p.1,a.eval p.2):=by simp
  by_cases h00:n*(sz+1)=0
  ·simp only[if_pos h00,E3]
   obtain⟨f,l,f2,f3⟩:=s ((Array.range (n*(sz+1))).map λi=>(#[]:Array Value)[i % (#[]:Array Value).size]!) (by simp[k])
   rw[show(Array.map (λx=>(x.1,a.eval x.2)) c).toList=c.toList.map λp=>(p.1,a.eval p.2) from by simp]
   simp only[l,T2,newRow,newObj,wpS,E3]
   exact λb j=>⟨b,f,j,by rw[k],rfl,f2,f3⟩
  ·simp only[if_neg h00,T2,v0f T,E3]
   obtain⟨f,l,f2,f3⟩:=s ((Array.range (n*(sz+1))).map λi=>z.cells[i % z.cells.size]!) (by simp[k])
   rw[show(Array.map (λx=>(x.1,a.eval x.2)) c).toList=c.toList.map λp=>(p.1,a.eval p.2) from by simp]
   simp only[l,T2,newRow,newObj,wpS,E3]
   exact λb j=>⟨b,f,j,by rw[k],rfl,f2,f3⟩
 obtain⟨u,m,ad,N,⟨b,d,j,rfl,rfl,f2,f3⟩,L⟩:=i02 _ _ _ s1.mv.vis S
 have J:xs.length<=maxLen:=by
  have:xs.length<=xs.length*(sz+1):=Nat.le_mul_of_pos_right _ (Nat.succ_pos _)
  grind[maxLen]
 rw[E0g]at q
 obtain⟨W,A⟩:=s1.newOwn (nn:=true) (by_:=by_) (λx y ab=>by grind[Hp.set_other]) L
  (p0j s1.sub j D (Nat.le_refl _) J f3 (by rw[f2,List.take_of_length_le (by grind)])) (λg X=>by grind[Value.ownBlock])
 refine I9 N ⟨_,_,C,_,_,_,_,q,rfl,W,?_,v.trans A⟩
 refine⟨0,?_,Nat.le_refl _,λ_=>by simp⟩
 simp[stamp,q05]
theorem w08{sz:Nat}(c:List Value)(d:c.length=sz)(e:0<sz):∀(l b:Nat),b<l*sz->(List.replicate l c).flatten[b]?=c[b % sz]?
 |0,b,h=>by simp at h
 |l+1,b,h=>by
  simp only[List.replicate_succ,List.flatten_cons]
  have h':b<l*sz+sz:=by grind
  by_cases hj:b<sz
  ·rw[List.getElem?_append_left (by omega),Nat.mod_eq_of_lt hj]
  ·rw[List.getElem?_append_right (by omega),d,w08 c d e l (b-sz) (by omega),←Nat.mod_eq_sub_mod (a:=b) (by omega)]
theorem r0t{sz:Nat}(z:Value)(c:z.cells.toList.length=sz)(d:0<sz)(l n:Nat)(f:l*sz<=n):(madeCells z.cells n).toList.take (l*sz)=(List.replicate l z.cells.toList).flatten:=by
 have e:z.cells.size=sz:=by simpa using c
 apply List.ext_getElem?
 intro a
 rw[List.getElem?_take]
 by_cases hj:a<l*sz
 ·rw[if_pos hj,w08 _ c d l a hj]
  have b:a % sz<z.cells.size:=by simp_all[Nat.mod_lt]
  simp only[madeCells,e,Array.toList_map,Array.toList_range,List.getElem?_map,List.getElem?_range (show a<n from by omega),Option.map_some,Array.getElem?_toList,Array.getElem?_eq_getElem b]
  congr 1
  simp[b]
 ·rw[if_neg hj]
  simp_all
theorem g0n(f:Sim P h0 w0 be oe H st h a w){t e sz by_:Nat}{l c:Operand}{z:Value}{m k:IntKind}{d b:Int}(Z:o.op = .makeSlice t l c)(R:O03 P t=some e)
  (O:A7 P e=some (sz+1)) (E:p0e P e=some by_) (S:n03 P e=some z) (J:rdO st l = .val (.int m d)) (G:rdO st c = .val (.int k b))
  (T:I0a z.cells.toList (sz+1)=true) (aa:n08 z.cells.toList=true) (F:0<=d/\d<=b/\b*by_<=140737488355328/\b<=9223372036854775807)
  (q:newOwn st e (sz+1) by_ true (List.replicate d.toNat z.cells.toList) λav st=>K av st h):o.wp P a w (Nx P h0 w0 st be oe K a o.dst) Q:=by
 obtain⟨i,I,v,ac,U⟩:=s0e O E S
 have Y:a.eval l = .int m d:=by have:=f.rdO l;rw[J]at this;exact this
 have X:a.eval c = .int k b:=by have:=f.rdO c;rw[G]at this;exact this
 obtain⟨A,C,W,b4⟩:=F
 have L:=H05 _ _ T
 have ab:=run_make (P:=P) w t e i z (I01 R) I U m k d b A C (by grind) b4
 have N:(execOp a.eval o).run P w = .ok (.value (.slice (some ⟨w.heap.size,0,none⟩) d.toNat b.toNat)) (w.alloc (.cells (madeCells z.cells (b.toNat*i.size)) e)):=by
  simp_all[execOp,Sem.run_bind,Result.andThen_ok,Sem.run_pure]
 have M:Z2 H w (H.set w.heap.size (.cells (madeCells z.cells (b.toNat*i.size)) e (0,0))) (w.alloc (.cells (madeCells z.cells (b.toNat*i.size)) e)):=Z2.new f.mv.vis _ rfl
 have s:(List.replicate d.toNat z.cells.toList).length=d.toNat:=by simp
 have p:=p0j (h:=h) (H:=H) (e:=e) (sz:=sz+1) (nn:=true) (cap:=b.toNat) (xs:=List.replicate d.toNat z.cells.toList) (cur:=madeCells z.cells (b.toNat*i.size)) f.sub (r05 f.mv.vis)
  (λx j=>by grind[s07]) (by simp;omega) (by unfold maxLen;omega) (by rw[size_madeCells,v])
  (by rw[s,v];exact r0t z L (Nat.succ_pos _) _ _ (Nat.mul_le_mul_right _ (by omega)))
 rw[s]at p
 rw[E0g]at q
 obtain⟨V,D⟩:=f.newOwn (by_:=by_) (λx y j=>by rw[Hp.set_other _ _ (λe=>by subst e;rw[r05 f.mv.vis]at j;cases j)];exact j) M p
  (λg u=>by simp[Value.ownBlock]at u;rw[←u];exact r05 f.mv.vis)
 refine I9 N ⟨_,_,h,_,_,_,_,q,rfl,V,?_,D⟩
 refine⟨0,?_,Nat.le_refl _,λ_=>by simp⟩
 simp[stamp,q05]
end
section
variable {P:Program} {h0:Hp} {w0:World} {be:Nat->Nat} {oe:Nat->Value} {H:Hp} {st:St} {h:Hp} {a:Act} {w:World} {o:Oper} {K:AV->St->Hp->Prop} {Q:Exit->Act->World->Prop}
theorem h0n(j:Sim P h0 w0 be oe H st h a w){t:TypeId}{x i:Operand}(z:o.op = .indexAddr t x i)
  (d:match rdO st i with
  | .val (.int _ m)=>match O03 P t with
   |some e=>match A7 P e with
    |some sz=>match rdO st x with
     | .val (.slice a n c)=>InB (.slice a n c) m/\K (.hel (.slice a n c) m sz 0) st h
     | .own i k=>match nth st.ow i with
      |some ⟨_,.live _ N _ _ xs⟩=>match Nat.beq N sz with
       |true=>(0<=m/\m<(xs.length:Int))/\K (.oel i k m sz 0) st h
       |false=>False
      |_=>False
     |_=>False
    |none=>False
   |none=>match rdO st x,n0u P t m with
    | .box i off,some l=>K (.box i (off+l)) st h
    | .hel j i sz k,some l=>K (.hel j i sz (k+l)) st h
    | .oel i j m sz k,some l=>K (.oel i j m sz (k+l)) st h
    |_,_=>False
  |_=>False):o.wp P a w (Nx P h0 w0 st be oe K a o.dst) Q:=by
 have gi:=j.rdO i
 have f:=j.rdO x
 split at d
 rotate_left
 ·exact d.elim
 rename_i k m U
 rw[U]at gi
 split at d
 rotate_left
 ·split at d
  ·rename_i p off l q y
   rw[q]at f
   exact L8 j (av := .box p (off+l)) (L0a z y f.2 gi) ⟨f.1,rfl⟩ d
  ·rename_i sl p sz G l q y
   rw[q]at f
   obtain⟨b,Y,n,c,v,E⟩:=f
   refine L8 j (av := .hel sl p sz (G+l)) (L0a z y E gi) ⟨b,Y,n,c,v,?_⟩ d
   simp[Nat.add_assoc]
  ·rename_i p Z X sz G l q y
   rw[q]at f
   obtain⟨e,N,by_,nn,xs,s⟩:=b0n q
   obtain⟨S,n,c,v,E⟩:=f.oel_cur s
   obtain⟨ab,O,R,ag⟩:=f
   refine L8 j (av := .oel p Z X sz (G+l)) (L0a z y E gi) ⟨ab,O,R,λ_=>⟨S,n,c,v,by simp[Nat.add_assoc]⟩⟩ d
  ·exact d.elim
 rename_i e J
 split at d
 rotate_left
 ·exact d.elim
 rename_i sz I
 split at d
 ·rename_i ac n c A
  rw[A]at f
  obtain⟨⟨b,off,ah,ae,v,D,u⟩,F⟩:=d
  cases v
  exact L8 j (av := .hel _ m sz 0) (exec_indexAddr z J I f gi D u) ⟨b,off,n,c,rfl,by simp⟩ F
 ·rename_i p M A
  obtain⟨af,aa,ad,ai,xs,s⟩:=K0a A
  rw[A]at f
  simp only[s]at d
  split at d
  ·rename_i T
   have W:=Nat.eq_of_beq_eq_true T
   subst W
   obtain⟨⟨D,u⟩,F⟩:=d
   have V:=j.own p _ _ _ _ _ _ s
   rcases V.2 with⟨_,C,_⟩|⟨g,cap,cur,L,_⟩
   ·rw[C]at u;simp at u;omega
   ·have C:=f.own_cur s
    rw[L]at C
    refine L8 j (av := .oel p M m aa 0) (exec_indexAddr z J I C gi D u) ⟨M,by simp[stamp,s],Nat.le_refl _,λ_=>⟨g,xs.length,cap,L,by simp⟩⟩ F
  ·exact d.elim
 ·exact d.elim
theorem i0d{sz:Nat}:∀(xs:LV) (k:Nat),(∀ x∈xs,x.length=sz)->(xs.take k).flatten=xs.flatten.take (k*sz)
 | [],k,_=>by simp
 |x::xs,0,_=>by simp
 |x::xs,k+1,a=>by
  have b:=a x mS
  simp only[List.take_succ_cons,List.flatten_cons]
  rw[i0d xs k (λy c=>a y (mC _ c)),List.take_append (l₁:=x),List.take_of_length_le (l:=x) (by grind),b,Nat.add_mul,Nat.one_mul,Nat.add_sub_cancel]
theorem D0l{sz:Nat}:∀(xs:LV) (k:Nat),(∀ x∈xs,x.length=sz)->(xs.drop k).flatten=xs.flatten.drop (k*sz)
 | [],k,_=>by simp
 |x::xs,0,_=>by simp
 |x::xs,k+1,a=>by
  have b:=a x mS
  simp only[List.drop_succ_cons,List.flatten_cons]
  rw[D0l xs k (λy c=>a y (mC _ c)),List.drop_append (l₁:=x),List.drop_of_length_le (l:=x) (by grind),b,Nat.add_mul,Nat.one_mul,Nat.add_sub_cancel,List.nil_append]
def x08(a:Act)(d:Int)(x:Option Operand)(l:Int):Prop:=match x with
 |none=>l=d
 |some y=>∃ k,a.eval y = .int k l
theorem O0a(c:Sim P h0 w0 be oe H st h a w){d l:Int}{x:Option Operand}(b:b09 d (x.map (rdO st))=some l):x08 a d x l:=by
 cases x with
 |none=>simp only[Option.map_none,b09,Option.some.injEq]at b;exact b.symm
 |some y =>
  have g:=c.rdO y
  simp only[Option.map_some]at b
  cases hr:rdO st y with
  |val v =>
   rw[hr]at b g
   cases v<;>simp only[b09,Option.some.injEq]at b<;>first|(subst b;exact⟨_,g⟩)|cases b
  |_=>rw[hr]at b;cases b
theorem j0d{x:Value}{k:IntKind}{i:Int}{y:Nat}{b:BoundsCode}(e:x = .int k i)(c:0<=i)(d:i<=(y:Int))(a:Nat->Hp->Prop):wpS P (Instr.sliceBound x y b) H a=a i.toNat H:=by
 subst e
 simp only[Instr.sliceBound,asIntOf,T2,E3,c,d,and_self,if_true]
theorem s0j{isS:Bool}{n c:Nat}{f b:Option Operand}{l m:Int}(i:x08 a 0 f l)(d:x08 a n b m)(h:0<=l)(s:l<=m)(t:m<=(n:Int))(u:n<=c)
  (g:Nat×Nat×Nat->Hp->Prop):wpS P (Instr.sliceBounds isS n c (f.map a.eval) (b.map a.eval) none) H g=g (l.toNat,m.toNat,c) H:=by
 have q:l<=(m.toNat:Int):=by omega
 cases f with
 |none =>
  have p:l=0:=i
  subst p
  cases b with
  |none =>
   have j:m=(n:Int):=d
   simp_all[Instr.sliceBounds,Option.map_none,T2,E3]
  |some y =>
   obtain⟨k,e⟩:=d
   simp only[Instr.sliceBounds,Option.map_none,Option.map_some,T2,E3,j0d e (by omega) (show m<=(c:Int) by omega)];rfl
 |some x =>
  obtain⟨k,o⟩:=i
  cases b with
  |none =>
   have j:m=(n:Int):=d
   subst j
   simp only[Instr.sliceBounds,Option.map_none,Option.map_some,T2,E3,j0d o h (show l<=((n:Nat):Int) by omega)];rfl
  |some y =>
   obtain⟨v,e⟩:=d
   simp only[Instr.sliceBounds,Option.map_some,T2,E3,j0d e (by omega) (show m<=(c:Int) by omega),j0d o h q]
theorem exec_slice{t e sz:Nat}{x:Operand}{g f:Option Operand}{d:Option Addr}{n c:Nat}{l m:Int}(s:o.op = .slice t x g f none)(u:O03 P t=some e)(y:A7 P e=some sz)
  (v:a.eval x = .slice d n c) (k:x08 a 0 g l) (p:x08 a n f m) (h:0<=l) (i:l<=m) (j:m<=(n:Int)) (q:n<=c) :
  ∀ b:Next->Hp->Prop,b (.value (.slice (if c=l.toNat then d else d.map (·.add (l.toNat*sz))) (m.toNat-l.toNat) (c-l.toNat))) H->wpS P (execOp a.eval o) H b:=by
 intro b w
 unfold execOp;rw[s]
 refine e00 _ _ _ ?_
 simp only[Instr.sliceAt,T2,D7 (I01 u),Instr.slice,v,Option.map_none]
 rw[s0j k p h i j q]
 grind[S03,E3]
theorem s0t(j:Sim P h0 w0 be oe H st h a w){t e sz:Nat}{x:Operand}{z u:Option Operand}{d:Option Addr}{n c:Nat}(O:o.op = .slice t x z u none)(T:O03 P t=some e)(S:A7 P e=some sz)
  (R:rdO st x = .val (.slice d n c)) (g:u0q sz (.slice d n c) n (z.map (rdO st)) (u.map (rdO st)) st h K):o.wp P a w (Nx P h0 w0 st be oe K a o.dst) Q:=by
 have q:=j.rdO x
 rw[R]at q
 unfold u0q at g
 split at g
 rotate_left
 ·exact g.elim
 rename_i l m I L
 obtain⟨⟨A,C,D⟩,xs,E,G⟩:=g
 obtain⟨f,U,aa,V,p,Y,M,s⟩:=E
 cases p
 have J:((xs.take m.toNat).drop l.toNat).length=m.toNat-l.toNat:=by simp;omega
 have N:SlE h sz (.slice (if c=l.toNat then d else d.map (·.add (l.toNat*sz))) (m.toNat-l.toNat) (c-l.toNat)) ((xs.take m.toNat).drop l.toNat):=by
  refine⟨λy k=>f y (List.mem_of_mem_take (List.mem_of_mem_drop k)),_,_,_,rfl,J.symm,by omega,?_⟩
  rcases s with s|⟨b,off,rfl,F⟩
  ·grind[List.flatten_eq_nil_iff,List.mem_of_mem_take,List.mem_of_mem_drop]
  ·by_cases hcl:c=l.toNat
   ·grind
   ·right
    rw[if_neg hcl]
    refine⟨b,off+l.toNat*sz,by simp[r04],λZ v X=>?_⟩
    have i:=V02 xs (λx i=>(f x i).1)
    rw[Nat.add_assoc]
    refine F _ _ ?_
    have p:(xs.take m.toNat).flatten=xs.flatten.take (m.toNat*sz):=i0d xs _ (λx i=>(f x i).1)
    have W:((xs.take m.toNat).drop l.toNat).flatten=((xs.take m.toNat).flatten).drop (l.toNat*sz):=D0l _ _ (λy k=>(f y (List.mem_of_mem_take k)).1)
    grind
 exact L8 j (av := .val _) (exec_slice O T S q (O0a j I) (O0a j L) A C D M) rfl (G _ N λ_ _ _ e=>by cases e;rfl)
theorem t0t(d:Sim P h0 w0 be oe H st h a w){t e sz:Nat}{x:Operand}{C p:Option Operand}{i k:Nat}(M:o.op = .slice t x C p none)(R:O03 P t=some e)(O:A7 P e=some sz)
  (N:rdO st x = .own i k) (c:t0q i (C.map (rdO st)) (p.map (rdO st)) st h K):o.wp P a w (Nx P h0 w0 st be oe K a o.dst) Q:=by
 have G:=d.rdO x
 rw[N]at G
 obtain⟨U,D,T,ao,xs,q⟩:=K0a N
 unfold t0q at c
 split at c
 rotate_left
 ·exact c.elim
 rename_i am m aq z
 simp only[q]at c
 obtain⟨⟨S,F⟩,J⟩:=c
 have af:C=none:=by simp_all
 subst af
 have L:x08 a (xs.length:Int) p m:=by
  cases p with
  |none=>simp at z
  |some y =>
   have g:=d.rdO y
   simp only[Option.map_some,Option.some.injEq]at z
   rw[z]at g
   exact⟨am,g⟩
 have A:=d.own i _ _ _ _ _ _ q
 have b:=G.own_cur q
 have ar:∀ v,v=oe i->v.ownBlock=(oe i).ownBlock:=λv aj=>by rw[aj]
 have an:∃ v,(∀ f:Next->Hp->Prop,f (.value v) H->wpS P (execOp a.eval o) H f)/\v.ownBlock=(oe i).ownBlock/\b0a h H v U D ao (xs.take m.toNat):=by
  have I:∀ y∈xs.take m.toNat,y.length=D/\∀ v∈y,v.oneCell'=true:=λy al=>A.1 y (List.mem_of_mem_take al)
  rcases A.2 with⟨j,s,u⟩|⟨g,cap,cur,j,s,u,X,Y,Z,aa⟩
  ·rw[j]at b
   subst s
   have ag:m=0:=by simp at F;omega
   subst ag
   refine⟨_,exec_slice M R O b (l:=0) rfl L (by omega) (by omega) (by simp) (Nat.le_refl _),?_,I,.inl ⟨by simp,by simp,u⟩⟩
   grind
  ·rw[j]at b
   refine⟨.slice (some ⟨g,0,none⟩) m.toNat cap,λf J=>exec_slice M R O b (l:=0) rfl L (by omega) S F X f ?_,by rw[j];rfl,I,.inr ⟨g,cap,cur,?_,s,u,?_,Y,Z,?_⟩⟩
   ·grind[Int.toNat,Addr.add]
   ·have:(xs.take m.toNat).length=m.toNat:=by simp;omega
    rw[this]
   ·simp;omega
   ·have ae:(xs.take m.toNat).length=m.toNat:=by simp;omega
    rw[ae]
    have V:(xs.take m.toNat).flatten=xs.flatten.take (m.toNat*D):=i0d xs _ (λx b=>(A.1 x b).1)
    rw[V,←aa,List.take_take]
    congr 1
    rw[Nat.min_eq_left (Nat.mul_le_mul_right _ (by omega))]
 obtain⟨v,ak,ac,ab⟩:=an
 obtain⟨au,E,av,ai,⟨rfl,rfl⟩,ah⟩:=i02 _ _ _ d.mv.vis (ak (λn E=>n = .value v/\E=H) ⟨rfl,rfl⟩)
 obtain⟨ap,W⟩:=d.updOwn (s1:=k+1) (by_:=T) q (Nat.le_succ _) (λe=>absurd e (Nat.succ_ne_self k)) ah (λ_ _ _=>rfl) ab (λg ad => .inl (by rw[←ac];exact ad))
 refine I9 ai ⟨_,_,h,v,_,_,_,J,rfl,ap,?_,W⟩
 refine⟨k+1,?_,Nat.le_refl _,λ_=>by simp⟩
 simp_all[stamp,r9,F04]
theorem exec_cutStr{t:TypeId}{x:Operand}{e d:Option Operand}{b:ByteArray}{l m:Int}(p:o.op = .slice t x e d none)(q:P.underlying t=some .string)
  (s:a.eval x = .string b) (j:x08 a 0 e l) (k:x08 a b.size d m) (f:0<=l) (g:l<=m) (h:m<=(b.size:Int)) :
  ∀ c:Next->Hp->Prop,c (.value (.string (b.extract l.toNat m.toNat))) H->wpS P (execOp a.eval o) H c:=by
 intro c i
 unfold execOp;rw[p]
 refine e00 _ _ _ ?_
 simp only[Instr.sliceAt,T2,D7 q,Instr.slice,s,Option.map_none,Option.isSome_none,Bool.false_eq_true,if_false,E3]
 rw[s0j j k f g h (Nat.le_refl _)]
 exact i
theorem exec_index{t:TypeId}{x i:Operand}{b:ByteArray}{k:IntKind}{e:Int}{c:UInt8}(l:o.op = .index t x i)(m:P.underlying t=some .string)(p:a.eval x = .string b)(h:a.eval i = .int k e)
  (f:0<=e) (g:b[e.toNat]?=some c):∀ d:Next->Hp->Prop,d (.value (.int .u8 c.toNat)) H->wpS P (execOp a.eval o) H d:=by
 intro d j
 unfold execOp;rw[l]
 refine e00 _ _ _ ?_
 simp only[Instr.index,p,h,asIntOf,T2,E3,D7 m,f,if_true,g]
 exact j
theorem exec_quo{t j:TypeId}{x y:Operand}{b c:Int}(g:o.op = .binOp .quo t x y j)(h:a.eval x = .int .i64 b)(i:a.eval y = .int .i64 c)(f:c≠0):
  ∀ d:Next->Hp->Prop,d (.value (.int .i64 (IntKind.i64.wrap (b.tdiv c)))) H->wpS P (execOp a.eval o) H d:=by
 intro d e
 unfold execOp;rw[g]
 refine e00 _ _ _ ?_
 simp only[h,i,eqGuard,T2,Bool.not_false,if_true,E3,binOp,Go.Op.intDiv,if_neg f,ne_eq,not_true_eq_false,if_false]
 exact e
theorem exec_rem{t j:TypeId}{x y:Operand}{b c:Int}(g:o.op = .binOp .rem t x y j)(h:a.eval x = .int .i64 b)(i:a.eval y = .int .i64 c)(f:c≠0):
  ∀ d:Next->Hp->Prop,d (.value (.int .i64 (b.tmod c))) H->wpS P (execOp a.eval o) H d:=by
 intro d e
 unfold execOp;rw[g]
 refine e00 _ _ _ ?_
 simp only[h,i,eqGuard,T2,Bool.not_false,if_true,E3,binOp,Go.Op.intDiv,if_neg f,ne_eq,not_true_eq_false,if_false]
 exact e
theorem I0u{t j:TypeId}{x y:Operand}{b c:Int}(g:o.op = .binOp .shl t x y j)(h:a.eval x = .int .i64 b)(i:a.eval y = .int .i64 c)(k:0<=c):
  ∀ d:Next->Hp->Prop,d (.value (.int .i64 (IntKind.i64.wrap (b*2 ^ min c.toNat 64)))) H->wpS P (execOp a.eval o) H d:=by
 intro d e
 unfold execOp;rw[g]
 refine e00 _ _ _ ?_
 have f : ¬ c<0:=by omega
 simp only[h,i,eqGuard,T2,Bool.not_false,if_true,E3,binOp,Go.Op.shift,if_neg f,IntKind.bits]
 exact e
theorem J0u{t j:TypeId}{x y:Operand}{b c:Int}(g:o.op = .binOp .shr t x y j)(h:a.eval x = .int .i64 b)(i:a.eval y = .int .i64 c)(k:0<=c):
  ∀ d:Next->Hp->Prop,d (.value (.int .i64 (b.fdiv (2 ^ min c.toNat 64)))) H->wpS P (execOp a.eval o) H d:=by
 intro d e
 unfold execOp;rw[g]
 refine e00 _ _ _ ?_
 have f : ¬ c<0:=by omega
 simp only[h,i,eqGuard,T2,Bool.not_false,if_true,E3,binOp,Go.Op.shift,if_neg f,IntKind.bits]
 exact e
theorem exec_cat{t j:TypeId}{x y:Operand}{b c:ByteArray}(g:o.op = .binOp .add t x y j)(h:a.eval x = .string b)(i:a.eval y = .string c)(k:b.size+c.size<=9223372036854775807):
  ∀ d:Next->Hp->Prop,d (.value (.string (b++c))) H->wpS P (execOp a.eval o) H d:=by
 intro d e
 unfold execOp;rw[g]
 refine e00 _ _ _ ?_
 have f : ¬ (((b.size+c.size:Nat):Int)>IntKind.i64.max):=by
  have:IntKind.i64.max=9223372036854775807:=by decide
  rw[this];omega
 simp only[h,i,eqGuard,T2,Bool.not_false,if_true,E3,binOp,Go.Op.stringOp,if_neg f]
 exact e
end
section
variable {P:Program} {h0:Hp} {w0:World} {be:Nat->Nat} {oe:Nat->Value} {H:Hp} {st:St} {h:Hp} {a:Act} {w:World} {o:Oper} {K:AV->St->Hp->Prop} {Q:Exit->Act->World->Prop}
theorem T0h:∀(a c r:List Value) (k:Nat),k+a.length<=c.length->P3 (c++r) k a=P3 c k a++r
 | [],c,r,k,_=>rfl
 |n::a,c,r,k,b=>by
  simp only[List.length_cons]at b
  simp only[P3]
  rw[List.set_append_left _ _ (by omega),T0h a _ r (k+1) (by simp;omega)]
theorem x0f:∀(a x l:List Value) (k:Nat),P3 (x++l) (x.length+k) a=x++P3 l k a
 | [],x,l,k=>rfl
 |n::a,x,l,k=>by
  simp only[P3]
  rw[List.set_append_right _ _ (by omega),Nat.add_sub_cancel_left,Nat.add_assoc,x0f a x _ (k+1)]
theorem c0c{sz:Nat}(a:List Value)(k:Nat):∀(xs:LV) (i:Nat) (c:List Value),(∀ x∈xs,x.length=sz)->xs[i]?=some c->k+a.length<=c.length ->
  (xs.set i (P3 c k a)).flatten=P3 xs.flatten (i*sz+k) a
 | [],i,c,_,h,_=>by simp at h
 |x::xs,0,c,d,h,b=>by
  simp at h;subst h
  simp only[List.set_cons_zero,List.flatten_cons,Nat.zero_mul,Nat.zero_add]
  rw[T0h a x _ k b]
 |x::xs,i+1,c,d,h,b=>by
  simp at h
  have f:=d x mS
  simp only[List.set_cons_succ,List.flatten_cons]
  rw[c0c a k xs i c (λy e=>d y (mC _ e)) h b]
  rw[show(i+1)*sz+k=x.length+(i*sz+k) from by grind,x0f]
theorem f09:∀(a cs:List Value) (off N:Nat),(P3 cs off a).take N=P3 (cs.take N) off a
 | [],cs,off,N=>rfl
 |n::a,cs,off,N=>by
  simp only[P3]
  rw[f09 a _ (off+1) N,List.take_set]
theorem t0j:∀(a cs:List Value) (off:Nat) (v:Value),v∈P3 cs off a->v∈cs∨v∈a
 | [],cs,off,v,h => .inl h
 |n::a,cs,off,v,h=>by
  rcases t0j a _ (off+1) v h with h|h
  all_goals grind
theorem i0n(F:Sim P h0 w0 be oe H st h a w){t:TypeId}{p x:Operand}{i O:Nat}{idx:Int}{sz k:Nat}(ak:o.op = .store t p x)(am:rdO st p = .oel i O idx sz k)
  (ad:rfy (rdO st x) st h λv st h=>match nth st.ow i,A7 P t with
   |some ⟨z,.live e d by_ nn xs⟩,some n=>match I0a v.cells.toList n,n08 v.cells.toList,Nat.beq z O,Nat.beq d sz with
    |true,true,true,true=>∃ c,xs[idx.toNat]?=some c/\m0t c k v.cells.toList λq =>
      K (.val undef) { st with ow:=e03 st.ow i ⟨z,.live e d by_ nn (xs.set idx.toNat q)⟩ } h
    |_,_,_,_=>False
   |_,_=>False):o.wp P a w (Nx P h0 w0 st be oe K a o.dst) Q:=by
 have J:=F.rdO p
 rw[am]at J
 obtain⟨az,L,f,s1,I⟩:=c06 F (F.rdO x) ad
 have S:=J.grow I
 split at f
 rotate_left
 ·exact f.elim
 rename_i z e d by_ nn xs n C ao
 split at f
 rotate_left
 ·exact f.elim
 rename_i ah al X Y
 have ap:=Nat.eq_of_beq_eq_true X
 have aq:=Nat.eq_of_beq_eq_true Y
 subst ap;subst aq
 obtain⟨c,s,j⟩:=f
 unfold m0t at j
 split at j
 rotate_left
 ·exact j.elim
 rename_i A
 have A:=Nat.le_of_ble_eq_true A
 have ai:=H05 _ _ ah
 have N:=s07 _ al
 obtain⟨g,ax,q,u,D⟩:=S.oel_cur C
 have l:=s1.own i _ _ _ _ _ _ C
 rcases l.2 with⟨m,_⟩|⟨R,cap,cur,m,af,ag,M,ab,ac,ar⟩
 ·rw[m]at u;cases u
 rw[m]at u;cases u
 have Z:=(List.getElem?_eq_some_iff.1 s)
 have aa:c.length=d:=(l.1 c (List.mem_of_getElem? s)).1
 have V:idx.toNat*d+k+n<=cur.toList.length:=by
  have:(idx.toNat+1)*d<=q*d:=Nat.mul_le_mul_right _ (Nat.le_trans Z.1 M)
  grind
 have av:=M0a (H:=H) (P:=P) (a:=a) (cur:=cur.toList) ak ao D ai N (by simpa using ag) V
 obtain⟨ay,G,aA,an,⟨rfl,rfl⟩,aj⟩:=i02 _ _ _ s1.mv.vis (av (λn G=>n = .skip/\G=_) ⟨rfl,rfl⟩)
 rw[d0a]at j
 have U:b0a L (H.set g (.cells (P3 cur.toList (idx.toNat*d+k) (a.eval x).cells.toList).toArray e (0,0))) (oe i) e d nn (xs.set idx.toNat (P3 c k (a.eval x).cells.toList)):=by
  refine⟨λy E=>?_,.inr ⟨g,q,_,by simpa using m,af,Hp.set_same _ _ _,by simpa using M,ab,by simp[g01,ac],?_⟩⟩
  ·rcases List.mem_or_eq_of_mem_set E with E|rfl
   ·exact l.1 y E
   ·refine⟨by rw[g01,aa],λv au=>?_⟩
    rcases t0j _ _ _ _ au with h'|h'
    ·exact(l.1 c (List.mem_of_getElem? s)).2 v h'
    ·exact N v h'
  ·rw[c0c (sz:=d) _ _ xs idx.toNat c (λx D=>(l.1 x D).1) s A,←ar]
   simp only[List.length_set]
   rw[f09]
 obtain⟨aw,T⟩:=s1.updOwn (s1:=z) (by_:=by_) C (Nat.le_refl _) (λ_=>rfl) aj (λb W _=>Hp.set_other _ _ (λe=>W (by rw[m,e];rfl))) U (λR ae => .inl ae)
 exact f0d an ⟨_,_,L,_,_,_,_,j,rfl,aw,rfl,I.trans T⟩
theorem j0n(c:Sim P h0 w0 be oe H st h a w){t:TypeId}{p x:Operand}{sl:Value}{idx:Int}{sz k:Nat}{v:Value}(z:o.op = .store t p x)(A:rdO st p = .hel sl idx sz k)
    (F:rdO st x = .val v) (D:A7 P t=some 1)
    (s : ∃ b of n cp cur ty, (sl = .slice (some ⟨b, of, none⟩) n cp ∧ 0 ≤ idx ∧ h b = some (.cells cur ty (0, 0)) ∧ of + (idx.toNat * sz + k) < cur.size ∧ G05 v) ∧
            K (.val undef) st (h.set b (.cells (cur.setIfInBounds (of+(idx.toNat*sz+k)) v) ty (0,0)))):o.wp P a w (Nx P h0 w0 st be oe K a o.dst) Q:=by
  have e:=c.rdO p
  rw[A]at e
  have f:a.eval x=v:=by have:=c.rdO x;rw[F]at this;exact this
  obtain⟨b,off,n,cp,cur,ty,⟨j,_,q,L,M⟩,u⟩:=s
  obtain⟨I,S,O,J,d,l⟩:=e
  rw[j]at d;cases d
  have g:v.cells = #[v]:=by cases v<;>simp_all [G05,Value.cells]
  have N:v.oneCell'=true:=by cases v<;>simp_all [G05,Value.oneCell']
  have E:=M0a (H:=h) (P:=P) (a:=a) (cur:=cur.toList) z D l (by rw[f,g];rfl) (by grind) (by simpa using q) (by simp;omega)
  obtain⟨R,h',T,C,⟨rfl,rfl⟩,y⟩:=i02 _ _ _ (Y0b c) (E (λn h'=>n = .skip/\h'=_) ⟨rfl,rfl⟩)
  obtain⟨G,i⟩:=c.moved y
  have m:(P3 cur.toList (off+(idx.toNat*sz+k)) (a.eval x).cells.toList).toArray=cur.setIfInBounds (off+(idx.toNat*sz+k)) v:=by
    rw[f,g]
    apply Array.ext'
    simp[P3]
  rw[m]at i
  exact f0d C ⟨_,_,_,_,_,_,_,u,rfl,i,rfl,P8.refl _ _ _⟩
theorem X0d(c:Sim P h0 w0 be oe H st h a w){t:TypeId}{p x:Operand}{sl:Value}{idx:Int}{sz k n:Nat}{new:List Value}(y:o.op = .store t p x)(z:rdO st p = .hel sl idx sz k)
  (g:(a.eval x).cells.toList=new) (C:A7 P t=some n) (s:I0a new n=true) (I:n08 new=true)
  (q:V09 h sl idx (idx.toNat*sz+k) new λh'=>K (.val undef) st h'):o.wp P a w (Nx P h0 w0 st be oe K a o.dst) Q:=by
 have e:=c.rdO p
 rw[z]at e
 obtain⟨b,off,L,cp,cur,ty,⟨j,_,m,J⟩,f⟩:=q
 obtain⟨F,O,M,G,d,l⟩:=e
 rw[j]at d;cases d
 have u:=H05 _ _ s
 have D:=M0a (H:=h) (P:=P) (a:=a) (cur:=cur.toList) y C l (by rw[g];exact u) (by grind[s07]) (by simpa using m) (by simp;omega)
 obtain⟨N,h',R,A,⟨rfl,rfl⟩,v⟩:=i02 _ _ _ (Y0b c) (D (λn h'=>n = .skip/\h'=_) ⟨rfl,rfl⟩)
 obtain⟨E,i⟩:=c.moved v
 rw[d0a]at f
 rw[g]at i
 exact f0d A ⟨_,_,_,_,_,_,_,f,rfl,i,rfl,P8.refl _ _ _⟩
theorem Y0d:∀(c:List Field),T09 P c=true->∃ b,c.mapM (λf:Field=>(P.info? f.type).map λi=>(f.offset,i.size))=some b /\
  ∀(k:Nat) (f:Field) (n:Nat),c[k]?=some f->A7 P f.type=some n->b[k]?=some (f.offset,n)
 | [],_=>⟨[],rfl,by simp⟩
 |f::r,h=>by
  simp only[T09]at h
  split at h
  ·rename_i m a
   obtain⟨b,d,e⟩:=Y0d r h
   unfold A7 at a
   split at a
   ·rename_i i j
    cases a
    refine⟨(f.offset,i.size)::b,by simp_all,λk g n l o=>?_⟩
    grind[A7]
   ·cases a
  ·cases h
theorem y0f{d:Array Field}{m:List (Nat×Nat)}(h:∀(k:Nat) (f:Field) (n:Nat),d.toList[k]?=some f->A7 P f.type=some n->m[k]?=some (f.offset,n)){rd:Operand->AV}
  (j:∀ x cs,F02 (rd x)=some cs->M2 st oe cs (a.eval x).cells.toList):∀(l:List (Nat×Operand)) {cs:List Z6} {vs:List Value} {K:List Z6->Prop},M2 st oe cs vs->O0b P d rd l cs K ->
  ∃ cs' c,K cs'/\M2 st oe cs' c/\Instr.fill (m.toArray[·]?) vs.toArray (l.map λp=>(p.1,a.eval p.2))=some c.toArray
 | [],cs,vs,K,g,b=>⟨cs,vs,b,g,rfl⟩
 |(i,x)::r,cs,vs,K,g,b=>by
  simp only[O0b]at b
  split at b
  rotate_left
  ·exact b.elim
  rename_i f new hf t
  split at b
  rotate_left
  ·exact b.elim
  rename_i n v
  split at b
  rotate_left
  ·exact b.elim
  rename_i s q
  have E:=H05 _ _ s
  have D:=Nat.le_of_ble_eq_true q
  have e:=j x new t
  have u:=h i f n (by simpa using hf) v
  have C:=g.length
  have F:=e.length
  obtain⟨cs',c,y,z,G⟩:=y0f h j r (g.splice e) b
  refine⟨cs',c,y,z,?_⟩
  have w:(a.eval x).cells.size=n:=by grind
  simp only[List.map_cons,Instr.fill,List.getElem?_toArray,u,w,ne_eq,not_true_eq_false,decide_false,Bool.false_or,decide_eq_true_eq]
  rw[if_neg (by simp;omega)]
  have o:=q0j (a.eval x) f.offset vs.toArray
  have A:((a.eval x).cells.zipIdx.foldl (λcs (p:Value×Nat)=>cs.setIfInBounds (f.offset+p.2) p.1) vs.toArray)=(P3 vs f.offset (a.eval x).cells.toList).toArray:=by
   rw[←o]
  grind
theorem A0o(E:Sim P h0 w0 be oe H st h a w){t:TypeId}{c:Array (Nat×Operand)}{b:Array Field}{z:Value}{rd:Operand->AV}{K':AV->Prop}(y:o.op = .build t c)(A:P.underlying t=some (.struct b))
  (l:n03 P t=some z) (g:T09 P b.toList=true) (k:∀ x cs,F02 (rd x)=some cs->M2 st oe cs (a.eval x).cells.toList)
  (j:O0b P b rd c.toList (vals z.cells.toList) λcs=>K' (.agg cs)) :
  ∃ av v,K' av/\N2 st be oe av v/\∀ w:World,(execOp a.eval o).run P w = .ok (.value v) w:=by
 obtain⟨D,q,f⟩:=Y0d b.toList g
 obtain⟨cs',e,m,p,C⟩:=y0f (st:=st) (oe:=oe) (a:=a) f k c.toList (M2.vals st oe z.cells.toList) j
 have d:=l
 unfold n03 at d
 split at d
 rotate_left
 ·cases d
 rename_i i u
 have s:P.built t (c.map λx=>(x.1,a.eval x.2)).toList=some e.toArray:=by
  unfold Program.built
  simp_all
 refine⟨_,.agg e.toArray,m,⟨e,rfl,p⟩,λw=>?_⟩
 simp_all[execOp,Sem.run_bind,run_build,Result.andThen_ok,Sem.run_pure]
theorem Z0d{sz:Nat}{rd:Operand->AV}
  (f:∀ x cs,F02 (rd x)=some cs->M2 st oe cs (a.eval x).cells.toList):∀(l:List (Nat×Operand)) {cs:List Z6} {vs:List Value} {K:List Z6->Prop},M2 st oe cs vs->h0f sz rd l cs K ->
  ∃ cs' d,K cs'/\M2 st oe cs' d/\Instr.fill (λi=>some (i*sz,sz)) vs.toArray (l.map λp=>(p.1,a.eval p.2))=some d.toArray
 | [],cs,vs,K,g,b=>⟨cs,vs,b,g,rfl⟩
 |(i,x)::r,cs,vs,K,g,b=>by
  simp only[h0f]at b
  split at b
  rotate_left
  ·exact b.elim
  rename_i new s
  split at b
  rotate_left
  ·exact b.elim
  rename_i o m
  have q:=H05 _ _ o
  have A:=Nat.le_of_ble_eq_true m
  have e:=f x new s
  have z:=g.length
  have u:=e.length
  obtain⟨cs',d,v,w,y⟩:=Z0d f r (g.splice e) b
  refine⟨cs',d,v,w,?_⟩
  have t:(a.eval x).cells.size=sz:=by rw[←q,u];simp
  simp only[List.map_cons,Instr.fill,t,ne_eq,not_true_eq_false,decide_false,Bool.false_or,decide_eq_true_eq]
  rw[if_neg (by simp;omega)]
  have h:=q0j (a.eval x) (i*sz) vs.toArray
  have k:((a.eval x).cells.zipIdx.foldl (λcs (p:Value×Nat)=>cs.setIfInBounds (i*sz+p.2) p.1) vs.toArray)=(P3 vs (i*sz) (a.eval x).cells.toList).toArray:=by
   rw[←h]
  rw[show((a.eval x).cells.zipIdx.foldl (λcs (x:Value×Nat)=>match x with|(c,j)=>cs.setIfInBounds (i*sz+j) c) vs.toArray)=(P3 vs (i*sz) (a.eval x).cells.toList).toArray from k]
  simpa using y
theorem B0o(E:Sim P h0 w0 be oe H st h a w){t e:TypeId}{n sz:Nat}{b:Array (Nat×Operand)}{z:Value}{rd:Operand->AV}{K':AV->Prop}(m:o.op = .build t b)(s:P.underlying t=some (.array n e))
  (u:n03 P t=some z) (c:A7 P e=some sz) (q:∀ x cs,F02 (rd x)=some cs->M2 st oe cs (a.eval x).cells.toList)
  (j:h0f sz rd b.toList (vals z.cells.toList) λcs=>K' (.agg cs)) :
  ∃ av v,K' av/\N2 st be oe av v/\∀ w:World,(execOp a.eval o).run P w = .ok (.value v) w:=by
 obtain⟨cs',f,y,A,C⟩:=Z0d (st:=st) (oe:=oe) (a:=a) q b.toList (M2.vals st oe z.cells.toList) j
 have d:=u
 unfold n03 at d
 split at d
 rotate_left
 ·cases d
 rename_i i k
 unfold A7 at c
 split at c
 rotate_left
 ·cases c
 rename_i D l
 cases c
 have g:P.built t (b.map λx=>(x.1,a.eval x.2)).toList=some f.toArray:=by
  unfold Program.built
  simp only[k,s,d,l]
  rw[show(Array.map (λx=>(x.1,a.eval x.2)) b).toList=b.toList.map λp=>(p.1,a.eval p.2) from by simp]
  simpa using C
 refine⟨_,.agg f.toArray,y,⟨f,rfl,A⟩,λw=>?_⟩
 unfold execOp;rw[m]
 simp only[Sem.run_bind,run_build w t _ _ g,Result.andThen_ok,Sem.run_pure]
theorem k0l(c:Sim P h0 w0 be oe H st h a w){x:Operand}{cs:List Z6}(b:N0b (rdO st x)=some cs):∃ vs:List Value,a.eval x = .agg vs.toArray/\M2 st oe cs vs:=by
 have g:=c.rdO x
 cases hr:rdO st x with
 |val v =>
  rw[hr]at b g
  cases v<;>simp only[N0b,Option.some.injEq]at b<;>first|(subst b;exact⟨_,by rw[show a.eval x=_ from g],M2.vals _ _ _⟩)|cases b
 |agg cs' =>
  rw[hr]at b g
  simp only[N0b,Option.some.injEq]at b
  subst b
  exact g
 |_=>rw[hr]at b;cases b
theorem K0u(m:Sim P h0 w0 be oe H st h a w){t:TypeId}{x:Operand}{k:Nat}{cs:List Z6}{l:Array Field}{f:Field}(u:o.op = .field t x k)(q:N0b (rdO st x)=some cs)
  (z:P.underlying t=some (.struct l)) (hf:l[k]?=some f) (b:m08 P f.type cs f.offset λav=>K av st h):o.wp P a w (Nx P h0 w0 st be oe K a o.dst) Q:=by
 obtain⟨vs,D,g⟩:=k0l m q
 unfold m08 at b
 have fin:∀(av:AV) (v:Value),K av st h->N2 st be oe av v->(∀ d:Value->Hp->Prop,d v H->wpS P (part f.type vs.toArray f.offset) H d)->o.wp P a w (Nx P h0 w0 st be oe K a o.dst) Q:=by
  intro av v i s C
  refine L8 m (λd y=>?_) s i
  unfold execOp;rw[u]
  refine e00 _ _ _ ?_
  grind[Instr.field,T2,D7,asAgg,E3]
 split at b
 ·rename_i e
  split at b
  ·rename_i n j
   split at b
   ·refine fin _ (.agg ((vs.drop f.offset).take n).toArray) b ⟨_,rfl,(g.drop _).take _⟩ λd i=>?_
    simp only[part,T2,g0d e,if_true,S03 j,E3]
    grind
   ·exact b.elim
  ·exact b.elim
 ·rename_i e
  split at b
  ·rename_i c j
   obtain⟨v,A,p⟩:=g.nth j
   refine fin _ v b (N2.ofCell p) λd i=>?_
   simp only[part,T2,g0d e,Bool.false_eq_true,if_false]
   grind[E3]
  ·exact b.elim
 ·exact b.elim
theorem z0f{t:TypeId}{e:TypeId}{x:Operand}{as:Array Operand}{b:Array TypeId}{d:Option Addr}{n c:Nat}(g:o.op = .call { callee := .builtin .len,args:=as,argTypes:=b })(f:as = #[x])(i:b = #[t])
  (h:O03 P t=some e) (j:a.eval x = .slice d n c) (w:World):(execOp a.eval o).run P w = .ok (.value (.int .i64 n)) w:=by
 subst f;subst i
 unfold execOp;rw[g]
 simp only[resolve,invoke,builtin,Builtin.len_,Sem.run_bind,Sem.run_pure,Result.andThen_ok,List.map_toArray,List.map_cons,List.map_nil,j,List.getElem?_toArray,List.getElem?_cons_zero,run_underlying (I01 h),goInt]
end
section
variable {P:Program} {h0:Hp} {w0:World} {be:Nat->Nat} {oe:Nat->Value} {H:Hp} {st:St} {h:Hp} {a:Act} {w:World} {o:Oper} {K:AV->St->Hp->Prop} {Q:Exit->Act->World->Prop}
theorem d0c(d:Sim P h0 w0 be oe H st h a w){av:AV}{v:Value}(c:∀ w:World,(execOp a.eval o).run P w = .ok (.value v) w)(g:N2 st be oe av v)(b:K av st h):o.wp P a w (Nx P h0 w0 st be oe K a o.dst) Q :=
 I9 (c w) ⟨av,st,h,v,be,oe,H,b,rfl,d,g,P8.refl _ _ _⟩
set_option maxHeartbeats 1000000 in
theorem g03(j:Sim P h0 w0 be oe H st h a w)(d:w00 P o st h K):o.wp P a w (Nx P h0 w0 st be oe K a o.dst) Q:=by
 cases ho:o.op with
 |move x=>simp only[w00,ho]at d;exact Q0r j (.inl ho) d
 |assign x=>simp only[w00,ho]at d;exact Q0r j (.inr ho) d
 |box t x =>
  simp only[w00,ho]at d
  split at d
  ·rename_i cs E;exact Q0x j ho E d
  ·exact d.elim
 |alloc t =>
  simp only[w00,ho]at d
  split at d
  ·rename_i z O;exact H0u j ho O d
  ·exact d.elim
 |fieldAddr t x k=>simp only[w00,ho]at d;exact c0n j ho d
 |indexAddr t x i=>simp only[w00,ho]at d;exact h0n j ho d
 |load t x =>
  simp only[w00,ho]at d
  split at d
  ·rename_i i off s
   split at d
   ·rename_i cs ty I;exact x0o j ho s I d
   ·exact d.elim
  ·rename_i sl idx sz k s
   obtain⟨c,E,u⟩:=d
   exact y0o j ho s E u
  ·rename_i i ah idx sz k s
   split at d
   ·rename_i bb e bc by_ nn xs I
    split at d
    ·rename_i V
     have ac:=Nat.eq_of_beq_eq_true V
     subst ac
     obtain⟨c,E,u⟩:=d
     exact z0o j ho s I E u
    ·exact d.elim
   ·exact d.elim
  ·exact h01 j d
 |store t p x =>
  simp only[w00,ho]at d
  split at d
  ·rename_i i off s
   split at d
   ·rename_i cs ty new n I E C
    split at d
    ·rename_i G A;exact d0n j ho s I E C G A d
    ·exact d.elim
   ·exact d.elim
  ·rename_i i ah idx sz k s
   exact i0n j ho s d
  ·rename_i sl idx sz k s
   split at d
   ·rename_i v q
    split at d
    ·rename_i C;exact j0n j ho s q C d
    ·rename_i n _ C
     split at d
     ·rename_i G A
      exact X0d j ho s (by have:=j.rdO x;rw[q]at this;rw[show a.eval x=v from this]) C G A d
     ·exact d.elim
    ·exact d.elim
   ·rename_i cs q
    split at d
    ·rename_i n new C N
     split at d
     ·rename_i G A
      refine X0d j ho s ?_ C G A d
      have g:=j.rdO x
      rw[q]at g
      obtain⟨vs,az,aA⟩:=g
      rw[az,Z0b N aA]
      rfl
     ·exact d.elim
    ·exact d.elim
   ·exact d.elim
  ·exact h01 j d
 |build t aR =>
  simp only[w00,ho]at d
  split at d
  ·rename_i ay z M O
   split at d
   ·rename_i W
    obtain⟨av,v,ae,af,ag⟩:=A0o (K':=λav=>K av st h) j ho M O W (λx cs E=>X07 j E) d
    exact d0c j ag af ae
   ·exact d.elim
  ·rename_i n e z M O
   split at d
   ·rename_i sz C
    obtain⟨av,v,ae,af,ag⟩:=B0o (K':=λav=>K av st h) j ho M O C (λx cs E=>X07 j E) d
    exact d0c j ag af ae
   ·exact d.elim
  ·exact d.elim
 |buildSlice t n aR =>
  simp only[w00,ho]at d
  split at d
  ·rename_i e J
   split at d
   ·rename_i sz by_ z C V O
    split at d
    ·rename_i I aa G;exact j0l j ho J C O I aa d
    ·exact d.elim
   ·exact d.elim
  ·exact d.elim
 |makeSlice t l c =>
  simp only[w00,ho]at d
  split at d
  ·rename_i e J
   split at d
   ·rename_i sz by_ z a6 ba a5 a8 C V O G E
    split at d
    ·rename_i aK aG;exact g0n j ho J C V O G E aK aG d.1 d.2
    ·exact d.elim
   ·exact d.elim
  ·exact d.elim
 |field t x k =>
  simp only[w00,ho]at d
  split at d
  ·rename_i cs ay E M
   split at d
   ·rename_i f hf;exact K0u j ho E M hf d
   ·exact d.elim
  ·exact d.elim
 |slice t x a7 ak aN =>
  cases aN with
  |some m=>simp only[w00,ho]at d;exact f03 j d
  |none =>
   simp only[w00,ho]at d
   split at d
   ·rename_i i k s
    split at d
    ·rename_i e J
     split at d
     ·rename_i sz C;exact t0t j ho J C s d
     ·exact d.elim
    ·exact d.elim
   ·rename_i aZ n c s
    split at d
    ·rename_i e J
     split at d
     ·rename_i sz C;exact s0t j ho J C s d
     ·exact d.elim
    ·exact d.elim
   ·rename_i b s
    split at d
    ·rename_i M
     unfold t0u at d
     split at d
     ·rename_i l m G aa
      have F:a.eval x = .string b:=by have:=j.rdO x;rw[s]at this;exact this
      obtain⟨⟨A,U,aB⟩,u⟩:=d
      exact L8 j (av := .val _) (exec_cutStr ho M F (O0a j G) (O0a j aa) A U aB) rfl u
     ·exact d.elim
    ·exact d.elim
   ·exact d.elim
 |index t x i =>
  simp only[w00,ho]at d
  split at d
  ·rename_i b k T q ak M
   have F:a.eval x = .string b:=by have:=j.rdO x;rw[q]at this;exact this
   have gi:a.eval i = .int k T:=by have:=j.rdO i;rw[ak]at this;exact this
   obtain⟨c,⟨A,U⟩,u⟩:=d
   exact L8 j (av := .val _) (exec_index ho M F gi A U) rfl u
  ·exact h01 j d
 |binOp aQ t x y aV =>
  cases aQ with
  |add =>
   simp only[w00,ho]at d
   split at d
   ·rename_i b c q D
    have F:a.eval x = .string b:=by have:=j.rdO x;rw[q]at this;exact this
    have L:a.eval y = .string c:=by have:=j.rdO y;rw[D]at this;exact this
    exact L8 j (av := .val _) (exec_cat ho F L d.1) rfl d.2
   ·exact h01 j d
  |quo =>
   simp only[w00,ho]at d
   split at d
   ·rename_i b c q D
    have F:a.eval x = .int .i64 b:=by have:=j.rdO x;rw[q]at this;exact this
    have L:a.eval y = .int .i64 c:=by have:=j.rdO y;rw[D]at this;exact this
    exact L8 j (av := .val _) (exec_quo ho F L d.1) rfl d.2
   ·exact h01 j d
  |rem =>
   simp only[w00,ho]at d
   split at d
   ·rename_i b c q D
    have F:a.eval x = .int .i64 b:=by have:=j.rdO x;rw[q]at this;exact this
    have L:a.eval y = .int .i64 c:=by have:=j.rdO y;rw[D]at this;exact this
    exact L8 j (av := .val _) (exec_rem ho F L d.1) rfl d.2
   ·exact h01 j d
  |shl =>
   simp only[w00,ho]at d
   split at d
   ·rename_i b c q D
    have F:a.eval x = .int .i64 b:=by have:=j.rdO x;rw[q]at this;exact this
    have L:a.eval y = .int .i64 c:=by have:=j.rdO y;rw[D]at this;exact this
    exact L8 j (av := .val _) (I0u ho F L d.1) rfl d.2
   ·exact h01 j d
  |shr =>
   simp only[w00,ho]at d
   split at d
   ·rename_i b c q D
    have F:a.eval x = .int .i64 b:=by have:=j.rdO x;rw[q]at this;exact this
    have L:a.eval y = .int .i64 c:=by have:=j.rdO y;rw[D]at this;exact this
    exact L8 j (av := .val _) (J0u ho F L d.1) rfl d.2
   ·exact h01 j d
  |eql =>
   simp only[w00,ho]at d
   split at d
   ·rename_i xs aY q D
    obtain⟨b,A,u⟩:=d
    exact d0c j (av := .val _) (A _ (d7 q (j.rdO x)) (d7 D (j.rdO y))) rfl u
   ·rename_i ar aO aM q D
    obtain⟨b,A,u⟩:=d
    exact d0c j (av := .val _) (A _ (d7 q (j.rdO x)) (d7 D (j.rdO y))) rfl u
   ·exact f03 j d
  |neq =>
   simp only[w00,ho]at d
   split at d
   ·rename_i xs aY q D
    obtain⟨b,A,u⟩:=d
    exact d0c j (av := .val _) (A _ (d7 q (j.rdO x)) (d7 D (j.rdO y))) rfl u
   ·rename_i ar aO aM q D
    obtain⟨b,A,u⟩:=d
    exact d0c j (av := .val _) (A _ (d7 q (j.rdO x)) (d7 D (j.rdO y))) rfl u
   ·exact f03 j d
  |_=>simp only[w00,ho]at d;exact f03 j d
 |convert ap aq x =>
  simp only[w00,ho]at d
  split at d
  ·rename_i i k s
   split at d
   ·rename_i ah a1 sz by_ nn xs e I am an
    split at d
    ·rename_i ao
     obtain⟨R,S,u⟩:=d
     obtain⟨ax,aU,au,aP,aX,ab⟩:=K0a s
     have g:=j.rdO x
     rw[s]at g
     have q:=g.own_cur ab
     have X:=j.own i _ _ _ _ _ _ I
     have aS:(execOp a.eval o).run P w = .ok (.value (.string (strOfNums R))) w:=by
      unfold execOp
      rw[ho]
      rcases X.2 with⟨N,aJ,_⟩|⟨Y,cap,cur,N,_,aC,a2,a3,a4,aj⟩
      ·rw[aJ]at S
       have aF:R = []:=by cases R with
        |nil=>rfl
        |cons n r=>cases S
       subst aF
       rw[N]at q
       simp only[q,Sem.run_bind,run_convert_bytes_nil w ap e am ao 0 0 aq an,Result.andThen_ok,Sem.run_pure]
       rfl
      ·rw[N]at q
       have G:R.length=xs.length:=by rw[S];simp
       have aD:∀ T,T<xs.length->w.cell? ⟨Y,0+T,none⟩=some (.int .u8 (R.getD T 0)):=λT Z=>by
        have ac:sz=1:=by
         have:=(X.1 _ (List.getElem_mem Z)).1
         rw[←this]
         simp only[S,List.getElem_map]
         rfl
        subst ac
        have hf:xs.flatten=R.map (Value.int .u8):=by
         rw[S]
         clear S G Z I X aj u
         induction R with
         |nil=>rfl
         |cons n r aL=>simp[aL]
        have aH:=G0u j _ _ aC
        have U:=congrArg (λl:List Value=>l[T]?) (aj.trans hf)
        simp only[List.getElem?_take,Nat.mul_one,if_pos Z,List.getElem?_map,Array.getElem?_toList]at U
        simp only[World.cell?,aH,Nat.zero_add]
        rw[if_neg (by simp),U]
        simp[List.getD_eq_getElem?_getD,List.getElem?_eq_getElem (show T<R.length by omega)]
       simp only[q,Sem.run_bind,run_convert_bytes_arg w ap e am ao Y 0 xs.length cap R G aD aq an,Result.andThen_ok,Sem.run_pure]
     exact I9 aS ⟨_,_,_,_,_,_,_,u,rfl,j,rfl,P8.refl _ _ _⟩
    ·exact d.elim
   ·exact f03 j d
  ·exact f03 j d
 |call c =>
  obtain⟨aw,as,aW⟩:=c
  cases aw with
  |builtin b =>
   cases b with
   |len =>
    simp only[w00,ho]at d
    split at d
    ·rename_i x t W ad
     have ai:as = #[x]:=by apply Array.ext';simpa using W
     have al:aW = #[t]:=by apply Array.ext';simpa using ad
     split at d
     ·rename_i i k s
      split at d
      ·rename_i ah e sz by_ nn xs a0 I J
       obtain⟨ax,aU,au,aP,aX,ab⟩:=K0a s
       have g:=j.rdO x
       rw[s]at g
       have q:=g.own_cur ab
       have X:=j.own i _ _ _ _ _ _ I
       rcases X.2 with⟨N,S,_⟩|⟨Y,cap,cur,N,_⟩
       ·rw[N]at q
        refine d0c j (av := .val _) (z0f ho ai al J q) ?_ d
        rw[S];rfl
       ·rw[N]at q
        exact d0c j (av := .val _) (z0f ho ai al J q) rfl d
      ·exact d.elim
     ·exact h01 j d
    ·exact d.elim
   |append =>
    simp only[w00,ho]at d
    split at d
    ·rename_i x y t aV W ad
     split at d
     ·rename_i V
      have:=Nat.eq_of_beq_eq_true V
      subst this
      exact q0t j ho (by apply Array.ext';simpa using W) (by apply Array.ext';simpa using ad) d
     ·exact d.elim
    ·exact d.elim
   |_=>simp only[w00,ho]at d;exact f03 j d
  |value f=>simp only[w00,ho]at d;exact f03 j d
  |invoke r m=>simp only[w00,ho]at d;exact f03 j d
 |lookup _ _ _ _=>simp only[w00,ho]at d;exact r0e j d
 |mapUpdate _ _ _ _=>simp only[w00,ho]at d;exact r0e j d
 |insert _ _ _ _=>simp only[w00,ho]at d;exact r0e j d
 |_=>simp only[w00,ho]at d;exact f03 j d
end
end Go.H
