/- The library of the walks, part HB: plain laws over the model. -/
import Derived.Test.YtmgikbbmpnbbjaaGreatH3
import Derived.Laws.Tables
namespace Go.H
set_option linter.unusedVariables false
theorem W05{a:Type}:∀(l:List a) (k:Nat),nth l k=l[k]?
 | [],k=>by simp[nth]
 |x::r,0=>by simp[nth]
 |x::r,k+1=>by simp[nth,W05 r k]
theorem n0b{a:Type}:∀(l:List a) (k:Nat) (x:a),E01 l k x=l.set k x
 | [],k,x=>by simp[E01]
 |y::r,0,x=>by simp[E01]
 |y::r,k+1,x=>by simp[E01,n0b r k x]
theorem c8{a:Type}(l:List a)(k:Nat)(x:a)(b:k<l.length)(j:Nat):nth (E01 l k x) j=if j=k then some x else nth l j:=by
 rw[W05,W05,n0b,List.getElem?_set]
 grind
theorem T02{a:Type}{l:List a}{k:Nat}{x:a}(h:nth l k=some x):k<l.length:=by
 grind[W05,List.getElem?_eq_some_iff]
theorem C03{a:Type}(l:List a)(x:a)(j:Nat):nth (l ++ [x]) j=if j=l.length then some x else nth l j:=by
 rw[W05,W05,List.getElem?_append]
 grind
theorem A06{a:Type}(l:List a)(k:Nat)(x:a):(E01 l k x).length=l.length:=by rw[n0b];simp
def stamp(st:St)(i:Nat):Option Nat:=match nth st.ow i with
 |some o=>some o.stamp
 |none=>none
def b0f(st:St)(oe:Nat->Value):c6->Value->Prop
 | .val v,x=>x=v
 | .own i k,x=>∃ s,stamp st i=some s/\k<=s/\(k=s->x=oe i)
def Y2(st:St)(oe:Nat->Value):List c6->List Value->Prop
 | [],[]=>True
 |c::cs,v::vs=>b0f st oe c v/\Y2 st oe cs vs
 |_,_=>False
def C3(st:St)(be:Nat->Nat)(oe:Nat->Value):AV->Value->Prop
 | .val v,x=>x=v
 | .own i k,x=>∃ s,stamp st i=some s/\k<=s/\(k=s->x=oe i)
 | .box i off,x=>i<st.bx.length/\x=ptr (be i) off
 | .hel s idx sz k,x=>∃ b o n c,s = .slice (some ⟨b,o,none⟩) n c/\x=ptr b (o+(idx.toNat*sz+k))
 | .oel i a idx sz k,x=>∃ s,stamp st i=some s/\a<=s/\(a=s->∃ g n c,oe i = .slice (some ⟨g,0,none⟩) n c/\x=ptr g (idx.toNat*sz+k))
 | .agg cs,x=>∃ vs,x = .agg vs.toArray/\Y2 st oe cs vs
 | .dead,_=>True
structure F7 (st:St) (be:Nat->Nat) (oe:Nat->Value) (st':St) (be':Nat->Nat) (oe':Nat->Value):Prop where
 bl:st.bx.length<=st'.bx.length
 be:∀ i,i<st.bx.length->be' i=be i
 sm:∀ i s,stamp st i=some s->∃ s',stamp st' i=some s'/\s<=s'/\(s'=s->oe' i=oe i)
theorem F7.refl(st:St)(be:Nat->Nat)(oe:Nat->Value):F7 st be oe st be oe :=
 ⟨Nat.le_refl _,λ_ _=>rfl,λi s h=>⟨s,h,Nat.le_refl _,λ_=>rfl⟩⟩
theorem b0f.grow{st st':St}{be be':Nat->Nat}{oe oe':Nat->Value}(g:F7 st be oe st' be' oe'){c:c6}{x:Value}(h:b0f st oe c x):b0f st' oe' c x:=by
 cases c with
 |val v=>exact h
 |own i k =>
  obtain⟨s,d,f,l⟩:=h
  obtain⟨s',a,b,j⟩:=g.sm i s d
  exact⟨s',a,Nat.le_trans f b,λe=>by grind⟩
theorem Y2.grow{st st':St}{be be':Nat->Nat}{oe oe':Nat->Value}(g:F7 st be oe st' be' oe'):∀ {cs:List c6} {vs:List Value},Y2 st oe cs vs->Y2 st' oe' cs vs
 | [],[],_=>trivial
 |_::_,_::_,h=>⟨h.1.grow g,Y2.grow g h.2⟩
 | [],_::_,h=>h.elim
 |_::_,[],h=>h.elim
theorem C3.grow{st st':St}{be be':Nat->Nat}{oe oe':Nat->Value}(g:F7 st be oe st' be' oe'){av:AV}{x:Value}(h:C3 st be oe av x):C3 st' be' oe' av x:=by
 cases av with
 |val v=>exact h
 |own i k =>
  obtain⟨s,a,b,j⟩:=h
  obtain⟨s',c,d,f⟩:=g.sm i s a
  exact⟨s',c,Nat.le_trans b d,λe=>by grind⟩
 |box i off=>exact⟨Nat.lt_of_lt_of_le h.1 g.bl,by rw[g.be i h.1];exact h.2⟩
 |hel s idx sz k=>exact h
 |oel i l idx sz k =>
  obtain⟨s,a,b,j⟩:=h
  obtain⟨s',c,d,f⟩:=g.sm i s a
  exact⟨s',c,Nat.le_trans b d,λe=>by grind⟩
 |agg cs=>obtain⟨vs,a,b⟩:=h;exact⟨vs,a,b.grow g⟩
 |dead=>trivial
theorem Y2.length{st:St}{oe:Nat->Value}:∀ {cs:List c6} {vs:List Value},Y2 st oe cs vs->cs.length=vs.length
 | [],[],_=>rfl
 |_::_,_::_,h=>by simp[Y2.length h.2]
 | [],_::_,h=>h.elim
 |_::_,[],h=>h.elim
theorem Y2.vals(st:St)(oe:Nat->Value):∀(vs:List Value),Y2 st oe (vals vs) vs
 | []=>trivial
 |_::r=>⟨rfl,Y2.vals st oe r⟩
theorem Y2.nth{st:St}{oe:Nat->Value}:∀ {cs:List c6} {vs:List Value} {k:Nat} {c:c6},Y2 st oe cs vs->nth cs k=some c->∃ v,vs[k]?=some v/\b0f st oe c v
 | [],_,k,c,_,h=>by simp[H.nth]at h
 |d::cs,b::vs,0,c,h,a=>by simp[H.nth]at a;subst a;exact⟨b,by simp,h.1⟩
 |d::cs,b::vs,k+1,c,h,a=>by
  simp[H.nth]at a
  obtain⟨v,e,f⟩:=Y2.nth h.2 a
  exact⟨v,by simpa using e,f⟩
 |_::_,[],_,_,h,_=>h.elim
theorem Y2.drop{st:St}{oe:Nat->Value}:∀ {cs:List c6} {vs:List Value} (k:Nat),Y2 st oe cs vs->Y2 st oe (cs.drop k) (vs.drop k)
 |cs,vs,0,h=>by simpa using h
 | [],[],k+1,h=>by simpa using h
 |_::cs,_::vs,k+1,h=>by simpa using Y2.drop k h.2
 | [],_::_,_+1,h=>h.elim
 |_::_,[],_+1,h=>h.elim
theorem Y2.take{st:St}{oe:Nat->Value}:∀ {cs:List c6} {vs:List Value} (k:Nat),Y2 st oe cs vs->Y2 st oe (cs.take k) (vs.take k)
 |cs,vs,0,h=>by simp[Y2]
 | [],[],k+1,h=>by simp[Y2]
 |_::cs,_::vs,k+1,h=>by simpa [Y2] using ⟨h.1,Y2.take k h.2⟩
 | [],_::_,_+1,h=>h.elim
 |_::_,[],_+1,h=>h.elim
theorem Y2.upd{st:St}{oe:Nat->Value}:∀ {cs:List c6} {vs:List Value} {k:Nat} {c:c6} {v:Value},Y2 st oe cs vs->b0f st oe c v->Y2 st oe (E01 cs k c) (vs.set k v)
 | [],[],k,c,v,h,a=>by simp[E01,Y2]
 |_::cs,_::vs,0,c,v,h,a=>⟨a,h.2⟩
 |_::cs,_::vs,k+1,c,v,h,a=>⟨h.1,Y2.upd h.2 a⟩
 | [],_::_,_,_,_,h,_=>h.elim
 |_::_,[],_,_,_,h,_=>h.elim
def R3:List Value->Nat->List Value->List Value
 |cs,_,[]=>cs
 |cs,off,x::r=>R3 (cs.set off x) (off+1) r
theorem Y2.splice{st:St}{oe:Nat->Value}:∀ {new:List c6} {a:List Value} {cs:List c6} {vs:List Value} {off:Nat},Y2 st oe cs vs->Y2 st oe new a->Y2 st oe (splice cs off new) (R3 vs off a)
 | [],[],cs,vs,off,h,_=>h
 |c::new,v::a,cs,vs,off,h,b=>by
  simp only[H.splice,R3]
  exact Y2.splice (h.upd b.1) b.2
 | [],_::_,_,_,_,_,h=>h.elim
 |_::_,[],_,_,_,_,h=>h.elim
theorem d8:∀(a vs:List Value) (off:Nat),(R3 vs off a).length=vs.length
 | [],vs,off=>rfl
 |n::a,vs,off=>by simp[R3,d8 a]
def j07(h H:Hp)(v:Value)(e:TypeId)(sz:Nat)(nn:Bool)(xs:List (List Value)):Prop :=
  (∀ x∈xs,x.length=sz/\∀ v∈x,v.oneCell'=true) /\
  ((v = .slice none 0 0/\xs = []/\nn=false) ∨
   ∃ g cap cur,v = .slice (some ⟨g,0,none⟩) xs.length cap/\h g=none/\H g=some (.cells cur e (0,0)) /\
     xs.length<=cap/\cap<=maxLen/\cur.size=cap*sz/\cur.toList.take (xs.length*sz)=xs.flatten)
structure Sim (P:Program) (h0:Hp) (w0:World) (be:Nat->Nat) (oe:Nat->Value) (H:Hp) (st:St) (h:Hp) (a:Act) (w:World):Prop where
 mv:I3 h0 w0 H w
 sub:∀ b o,h b=some o->H b=some o
 box:∀ i cs ty,nth st.bx i=some (.live cs ty)->h (be i)=none/\∃ vs,Y2 st oe cs vs/\H (be i)=some (.cells vs.toArray ty (0,0))
 pub:∀ i b,nth st.bx i=some (.publ b)->be i=b
 own:∀ i s e sz by_ nn xs,nth st.ow i=some ⟨s,.live e sz by_ nn xs⟩->j07 h H (oe i) e sz nn xs
 frz:∀ i s v,nth st.ow i=some ⟨s,.frozen v⟩->oe i=v
 bb:∀ i j cs ty cs' ty',nth st.bx i=some (.live cs ty)->nth st.bx j=some (.live cs' ty')->be i=be j->i=j
 oo:∀ i j s e sz by_ nn xs s' e' sz' by' nn' xs' g,nth st.ow i=some ⟨s,.live e sz by_ nn xs⟩->nth st.ow j=some ⟨s',.live e' sz' by' nn' xs'⟩ ->
  (oe i).ownBlock=some g->(oe j).ownBlock=some g->i=j
 bo:∀ i cs ty j s e sz by_ nn xs,nth st.bx i=some (.live cs ty)->nth st.ow j=some ⟨s,.live e sz by_ nn xs⟩->(oe j).ownBlock≠some (be i)
 dfr:a.defers = []
 siz:a.tmps.size=st.n
 fr:∀ s,C3 st be oe (O3 st.fr s) (a.tmps.getD s undef)
section
variable {P:Program} {h0:Hp} {w0:World} {be:Nat->Nat} {oe:Nat->Value} {H:Hp} {st:St} {h:Hp} {a:Act} {w:World}
theorem j07.block{h H:Hp}{v:Value}{e sz:Nat}{nn:Bool}{xs:List (List Value)}(o:j07 h H v e sz nn xs){g:Nat}(d:v.ownBlock=some g):
  h g=none/\∃ cap cur,v = .slice (some ⟨g,0,none⟩) xs.length cap/\H g=some (.cells cur e (0,0)):=by
 rcases o.2 with⟨rfl,_⟩|⟨a,cap,cur,rfl,b,c,_⟩
 all_goals grind[Value.ownBlock]
theorem j07.keep{h h' H a:Hp}{v:Value}{e sz:Nat}{nn:Bool}{xs:List (List Value)}(o:j07 h H v e sz nn xs)
  (c:∀ g,v.ownBlock=some g->a g=H g/\h' g=none):j07 h' a v e sz nn xs:=by
 refine⟨o.1,?_⟩
 rcases o.2 with d|⟨g,cap,cur,rfl,j,b,r⟩
 ·exact .inl d
 ·obtain⟨f,i⟩:=c g rfl
  exact .inr ⟨g,cap,cur,rfl,i,by rw[f];exact b,r⟩
theorem S0q(s:Sim P h0 w0 be oe H st h a w):Vis H w:=s.mv.vis
theorem R08(s:Sim P h0 w0 be oe H st h a w):Vis h w:=λb o c=>s.mv.vis b o (s.sub b o c)
theorem Sim.moved(s:Sim P h0 w0 be oe H st h a w){h':Hp}{q:World}(m:I3 h w h' q):∃ d,Sim P h0 w0 be oe d st h' a q:=by
 let d:Hp:=λb=>match h' b with
  |some o=>some o
  |none=>match h b with
   |some _=>none
   |none=>H b
 have A:∀ b,h b=none->H b≠none->d b=H b/\h' b=none:=by
  intro b c k
  have p:b<w.heap.size:=s.mv.vis.lt k
  have z:h' b=none:=m.none_of p c
  grind
 have v:I3 H w d q:=by
  refine⟨m.os,m.tape,m.output,m.size,?_,?_,?_,m.fz,m.dn⟩
  ·intro b c k
   have:h b=none:=by
    cases hc:h b with
    |none=>rfl
    |some o=>rw[s.sub b o hc]at k;cases k
   exact m.keep b c this
  ·intro b o f
   simp only[d]at f
   split at f
   ·rename_i x n;cases f;exact m.vis b _ n
   ·split at f
    ·cases f
    ·rename_i n c
     have p:b<w.heap.size:=s.mv.vis.lt (by rw[f];simp)
     rw[m.keep b p c]
     exact s.mv.vis b o f
  ·intro b c
   simp only[d]at c
   split at c
   ·rename_i x n
    rcases m.fresh b (by simp[n])with j|j
    ·left
     cases hc:h b with
     |none=>exact absurd hc j
     |some o=>rw[s.sub b o hc];simp
    ·exact .inr j
   grind
 refine⟨d,⟨s.mv.trans v,?_,?_,s.pub,?_,s.frz,s.bb,s.oo,s.bo,s.dfr,s.siz,s.fr⟩⟩
 ·grind
 ·intro i cs ty l
  obtain⟨j,vs,y,t⟩:=s.box i cs ty l
  grind
 ·intro i s' e sz by_ nn xs l
  refine(s.own i s' e sz by_ nn xs l).keep λg u=>?_
  obtain⟨j,cap,cur,_,t⟩:=(s.own i s' e sz by_ nn xs l).block u
  grind
theorem i4(d:Nat)(av:AV)(r:List (Nat×AV))(s:Nat):O3 ((d,av)::r) s=if d=s then av else O3 r s:=by
 grind[O3,Nat.beq,Nat.eq_of_beq_eq_true,Nat.ne_of_beq_eq_false]
theorem Sim.put(s:Sim P h0 w0 be oe H st h a w){d:Nat}{av:AV}{v:Value}(j:d<st.n)(k:C3 st be oe av v):
  Sim P h0 w0 be oe H { st with fr:=(d,av)::st.fr } h (a.put (some d) v) w:=by
 have b:F7 st be oe { st with fr:=(d,av)::st.fr } be oe:=⟨Nat.le_refl _,λ_ _=>rfl,λi s h=>⟨s,h,Nat.le_refl _,λ_=>rfl⟩⟩
 refine⟨s.mv,s.sub,λi cs ty l=>?_,s.pub,s.own,s.frz,s.bb,s.oo,s.bo,s.dfr,by simp[Act.put,s.siz],?_⟩
 ·obtain⟨c,vs,f,g⟩:=s.box i cs ty l
  exact⟨c,vs,f.grow b,g⟩
 intro t
 refine C3.grow b ?_
 rw[i4]
 by_cases e:d=t
 ·subst e
  rw[if_pos rfl]
  have:(a.put (some d) v).tmps.getD d undef=v:=by simp[Act.put,s.siz,j]
  rw[this]
  exact k
 ·rw[if_neg e]
  have:(a.put (some d) v).tmps.getD t undef=a.tmps.getD t undef:=by simp[Act.put,Array.getElem?_setIfInBounds_ne e]
  rw[this]
  exact s.fr t
theorem Sim.newBox(s:Sim P h0 w0 be oe H st h a w){cs:List c6}{vs:List Value}{t:TypeId}{b:Nat}{C:World}(y:Y2 st oe cs vs)(v:H b=none)
  (m:I3 H w (H.set b (.cells vs.toArray t (0,0))) C) :
  let be':=λj=>if j=st.bx.length then b else be j
  let st':St := { st with bx:=st.bx ++ [.live cs t] }
  Sim P h0 w0 be' oe (H.set b (.cells vs.toArray t (0,0))) st' h a C/\F7 st be oe st' be' oe:=by
 intro be' st'
 have J:h b=none:=by
  cases l:h b with
  |none=>rfl
  |some o=>rw[s.sub b o l]at v;cases v
 have k:F7 st be oe st' be' oe:=by
  refine⟨by simp[st'],λi c=>?_,λi s L=>⟨s,L,Nat.le_refl _,λ_=>rfl⟩⟩
  grind
 have K:∀ x,H x≠none->x≠b:=λx n e=>by subst e;exact n v
 have p:∀ i cs ty,nth st.bx i=some (.live cs ty)->be' i=be i:=λi cs ty c=>by simp[be',Nat.ne_of_lt (T02 c)]
 have f:∀ i x,nth st'.bx i=some x->(i=st.bx.length/\x = .live cs t)∨(i≠st.bx.length/\nth st.bx i=some x):=by
  grind[C03]
 have O:∀ i cs ty,nth st.bx i=some (.live cs ty)->be i≠b:=λi cs ty c=>by
  obtain⟨_,vs,_,u⟩:=s.box i cs ty c
  grind
 have Q:∀ i s' e sz by_ nn xs g,nth st.ow i=some ⟨s',.live e sz by_ nn xs⟩->(oe i).ownBlock=some g->g≠b:=λi s' e sz by_ nn xs g c y=>by
  obtain⟨_,_,_,_,u⟩:=(s.own i s' e sz by_ nn xs c).block y
  grind
 refine⟨⟨s.mv.trans m,?_,?_,?_,?_,s.frz,?_,s.oo,?_,s.dfr,s.siz,λt=>(s.fr t).grow k⟩,k⟩
 ·intro x o n
  rw[Hp.set_other _ _ (K x (by rw[s.sub x o n];simp))]
  exact s.sub x o n
 ·intro i cs' ty c
  rcases f i _ c with⟨rfl,e⟩|⟨e,d⟩
  ·cases e
   exact⟨by simp[be',J],vs,y.grow k,by simp[be',Hp.set]⟩
  ·obtain⟨A,N,G,u⟩:=s.box i cs' ty d
   rw[p i cs' ty d]
   exact⟨A,N,G.grow k,by grind[Hp.set_other]⟩
 ·intro i D c
  rcases f i _ c with⟨_,e⟩|⟨e,d⟩
  ·cases e
  ·simp[be',e,s.pub i D d]
 ·intro i s' e sz by_ nn xs c
  refine(s.own i s' e sz by_ nn xs c).keep λg I=>?_
  obtain⟨A,cap,cur,_,u⟩:=(s.own i s' e sz by_ nn xs c).block I
  grind[Hp.set_other]
 ·intro i j E M R S c z e
  rcases f i _ c with⟨rfl,q⟩|⟨q,d⟩<;>rcases f j _ z with⟨rfl,F⟩|⟨F,B⟩
  ·rfl
  ·grind
  ·grind
  ·rw[p i _ _ d,p j _ _ B]at e;exact s.bb i j _ _ _ _ d B e
 ·intro i E M j s' e sz by_ nn xs c z l
  rcases f i _ c with⟨rfl,q⟩|⟨q,d⟩
  ·grind
  ·rw[p i _ _ d]at l;exact s.bo i _ _ j _ _ _ _ _ _ d z l
theorem Sim.updBox(s:Sim P h0 w0 be oe H st h a w){i:Nat}{z cs:List c6}{vs:List Value}{t:TypeId}{C:World}(d:nth st.bx i=some (.live z t))
  (I:Y2 st oe cs vs) (m:I3 H w (H.set (be i) (.cells vs.toArray t (0,0))) C) :
  Sim P h0 w0 be oe (H.set (be i) (.cells vs.toArray t (0,0))) { st with bx:=E01 st.bx i (.live cs t) } h a C/\F7 st be oe { st with bx:=E01 st.bx i (.live cs t) } be oe:=by
 have l:F7 st be oe { st with bx:=E01 st.bx i (.live cs t) } be oe :=
  ⟨by simp[A06],λ_ _=>rfl,λi s K=>⟨s,K,Nat.le_refl _,λ_=>rfl⟩⟩
 have J:=(s.box i z t d).1
 have f:∀ j x,nth (E01 st.bx i (.live cs t)) j=some x->(j=i/\x = .live cs t)∨(j≠i/\nth st.bx j=some x):=by
  grind[c8,T02]
 refine⟨⟨s.mv.trans m,?_,?_,?_,?_,s.frz,?_,s.oo,?_,s.dfr,s.siz,λt=>(s.fr t).grow l⟩,l⟩
 ·intro x o k
  have:x≠be i:=λe=>by grind
  rw[Hp.set_other _ _ this];exact s.sub x o k
 ·intro j cs' ty c
  rcases f j _ c with⟨rfl,e⟩|⟨e,n⟩
  ·cases e;exact⟨J,vs,I.grow l,by simp[Hp.set]⟩
  ·obtain⟨v,N,F,G⟩:=s.box j cs' ty n
   have:be j≠be i:=λq=>e (s.bb j i _ _ _ _ n d q)
   exact⟨v,N,F.grow l,by grind[Hp.set_other]⟩
 ·intro j b c
  rcases f j _ c with⟨_,e⟩|⟨e,n⟩
  ·cases e
  ·exact s.pub j b n
 ·intro j s' e sz by_ nn xs c
  refine(s.own j s' e sz by_ nn xs c).keep λg A=>?_
  obtain⟨v,cap,cur,_,G⟩:=(s.own j s' e sz by_ nn xs c).block A
  exact⟨Hp.set_other _ _ (λq=>by subst q;exact s.bo i _ _ j _ _ _ _ _ _ d c A),v⟩
 ·intro x y D M O Q k L e
  rcases f x _ k with⟨rfl,u⟩|⟨u,p⟩<;>rcases f y _ L with⟨rfl,E⟩|⟨E,B⟩
  ·rfl
  ·exact s.bb _ _ _ _ _ _ d B e
  ·exact s.bb _ _ _ _ _ _ p d e
  ·exact s.bb _ _ _ _ _ _ p B e
 ·intro x D M j s' e sz by_ nn xs k c
  rcases f x _ k with⟨rfl,u⟩|⟨u,p⟩
  ·exact s.bo _ _ _ j _ _ _ _ _ _ d c
  ·exact s.bo _ _ _ j _ _ _ _ _ _ p c
end
section
variable {P:Program} {h0:Hp} {w0:World} {be:Nat->Nat} {oe:Nat->Value} {H:Hp} {st:St} {h:Hp} {a:Act} {w:World}
theorem G0m(st:St)(o:Own)(i s:Nat)(a:stamp st i=some s):stamp { st with ow:=st.ow ++ [o] } i=some s:=by
 unfold stamp at *
 have b:i<st.ow.length:=by
  cases hn:nth st.ow i with
  |none=>rw[hn]at a;cases a
  |some x=>exact T02 hn
 simp_all[C03,Nat.ne_of_lt]
theorem Sim.newOwn(s:Sim P h0 w0 be oe H st h a w){v:Value}{e sz by_:Nat}{nn:Bool}{xs:List (List Value)}{n:Hp}{O:World}
  (G:∀ b o,H b=some o->n b=some o) (m:I3 H w n O) (W:j07 h n v e sz nn xs) (V:∀ g,v.ownBlock=some g->H g=none) :
  let oe':=λj=>if j=st.ow.length then v else oe j
  let st':St := { st with ow:=st.ow ++ [⟨0,.live e sz by_ nn xs⟩] }
  Sim P h0 w0 be oe' n st' h a O/\F7 st be oe st' be oe':=by
 intro oe' st'
 have E:F7 st be oe st' be oe':=by
  refine⟨Nat.le_refl _,λ_ _=>rfl,λi s A=>⟨s,G0m st _ i s A,Nat.le_refl _,λ_=>?_⟩⟩
  have U:i<st.ow.length:=by
   unfold stamp at A
   cases hn:nth st.ow i with
   |none=>rw[hn]at A;cases A
   |some x=>exact T02 hn
  grind
 have p:∀ i x,nth st'.ow i=some x->(i=st.ow.length/\x=⟨0,.live e sz by_ nn xs⟩)∨(i≠st.ow.length/\nth st.ow i=some x):=by
  grind[C03]
 have Y:∀ b,H b≠none->n b=H b:=by
  intro b I
  cases f:H b with
  |none=>exact absurd f I
  |some o=>exact G b o f
 refine⟨⟨s.mv.trans m,λb o I=>G b o (s.sub b o I),?_,s.pub,?_,?_,s.bb,?_,?_,s.dfr,s.siz,λt=>(s.fr t).grow E⟩,E⟩
 ·intro i cs ty c
  obtain⟨F,vs,Q,z⟩:=s.box i cs ty c
  exact⟨F,vs,Q.grow E,G _ _ z⟩
 ·intro i s' y C u B D c
  rcases p i _ c with⟨rfl,d⟩|⟨d,l⟩
  ·grind
  ·simp only[oe',if_neg d]
   refine(s.own i _ _ _ _ _ _ l).keep λg J=>?_
   obtain⟨F,cap,cur,_,z⟩:=(s.own i _ _ _ _ _ _ l).block J
   grind
 ·intro i s' S c
  rcases p i _ c with⟨rfl,d⟩|⟨d,l⟩
  ·cases d
  ·simp only[oe',if_neg d];exact s.frz i s' S l
 ·intro i j s1 y C u B D s2 d aa T Z ab g c K gi N
  have X:∀ k s1 y C u B D,nth st.ow k=some ⟨s1,.live y C u B D⟩->(oe k).ownBlock=some g->v.ownBlock≠some g:=λk _ _ _ _ _ _ R J f=>by
   obtain⟨F,cap,cur,_,z⟩:=(s.own k _ _ _ _ _ _ R).block J
   grind
  rcases p i _ c with⟨rfl,M⟩|⟨M,l⟩<;>rcases p j _ K with⟨rfl,q⟩|⟨q,L⟩
  ·rfl
  ·grind
  ·grind
  ·simp only[oe',if_neg M]at gi;simp only[oe',if_neg q]at N;exact s.oo i j _ _ _ _ _ _ _ _ _ _ _ _ g l L gi N
 ·intro i cs ty j s1 y C u B D c K f
  rcases p j _ K with⟨rfl,q⟩|⟨q,L⟩
  ·simp only[oe',if_pos rfl]at f
   obtain⟨_,vs,_,z⟩:=s.box i cs ty c
   grind
  ·simp only[oe',if_neg q]at f;exact s.bo i cs ty j _ _ _ _ _ _ c L f
theorem Sim.updOwn(s:Sim P h0 w0 be oe H st h a w){i L T ad S:Nat}{ac:Bool}{af:List (List Value)}(J:nth st.ow i=some ⟨L,.live T ad S ac af⟩)
  {v:Value} {s1 e sz by_:Nat} {nn:Bool} {xs:List (List Value)} {I:Hp} {R:World} (am:L<=s1) (an:s1=L->v=oe i)
  (m:I3 H w I R) (ak:∀ b,(oe i).ownBlock≠some b->H b≠none->I b=H b) (al:j07 h I v e sz nn xs)
  (Q:∀ g,v.ownBlock=some g->(oe i).ownBlock=some g∨H g=none) :
  let oe':=λj=>if j=i then v else oe j
  let st':St := { st with ow:=E01 st.ow i ⟨s1,.live e sz by_ nn xs⟩ }
  Sim P h0 w0 be oe' I st' h a R/\F7 st be oe st' be oe':=by
 intro oe' st'
 have V:=T02 J
 have K:F7 st be oe st' be oe':=by
  refine⟨Nat.le_refl _,λ_ _=>rfl,λj t X=>?_⟩
  unfold stamp at X ⊢
  simp only[st',c8 _ _ _ V]
  grind
 have B:∀ j x,nth st'.ow j=some x->(j=i/\x=⟨s1,.live e sz by_ nn xs⟩)∨(j≠i/\nth st.ow j=some x):=by
  grind[c8]
 have aj:∀ g,(oe i).ownBlock=some g->h g=none:=λg q=>((s.own i _ _ _ _ _ _ J).block q).1
 have ap:∀ j s1 C F A E G g,j≠i->nth st.ow j=some ⟨s1,.live C F A E G⟩->(oe j).ownBlock=some g->(oe i).ownBlock≠some g/\v.ownBlock≠some g:=by
  intro j s1 C F A E G g W l q
  have d:(oe i).ownBlock≠some g:=λf=>W (s.oo j i _ _ _ _ _ _ _ _ _ _ _ _ g l J q f)
  refine⟨d,λf=>?_⟩
  rcases Q g f with c|c
  ·exact d c
  ·obtain⟨_,cap,cur,_,p⟩:=(s.own j _ _ _ _ _ _ l).block q
   rw[c]at p;cases p
 have ag:∀ k cs ty,nth st.bx k=some (.live cs ty)->(oe i).ownBlock≠some (be k)/\v.ownBlock≠some (be k):=by
  intro k cs ty z
  have d:=s.bo k cs ty i _ _ _ _ _ _ z J
  refine⟨d,λf=>?_⟩
  rcases Q _ f with c|c
  ·exact d c
  ·obtain⟨_,vs,_,p⟩:=s.box k cs ty z
   rw[c]at p;cases p
 refine⟨⟨s.mv.trans m,?_,?_,s.pub,?_,?_,s.bb,?_,?_,s.dfr,s.siz,λt=>(s.fr t).grow K⟩,K⟩
 ·intro b o U
  have ai:=s.sub b o U
  grind
 ·intro k cs ty z
  obtain⟨d,vs,c,p⟩:=s.box k cs ty z
  exact⟨d,vs,c.grow K,by grind⟩
 ·intro j s' C F A E G l
  rcases B j _ l with⟨rfl,n⟩|⟨n,u⟩
  ·grind
  ·simp only[oe',if_neg n]
   refine(s.own j _ _ _ _ _ _ u).keep λg q=>?_
   obtain⟨d,cap,cur,_,p⟩:=(s.own j _ _ _ _ _ _ u).block q
   grind
 ·intro j s' ae l
  rcases B j _ l with⟨rfl,n⟩|⟨n,u⟩
  ·cases n
  ·simp only[oe',if_neg n];exact s.frz j s' ae u
 ·intro x y s1 C F A E G s2 n aq ah ao ar g Y aa N O
  rcases B x _ Y with⟨rfl,M⟩|⟨M,Z⟩<;>rcases B y _ aa with⟨rfl,D⟩|⟨D,ab⟩
  ·rfl
  ·grind
  ·grind
  ·simp only[oe',if_neg M]at N;simp only[oe',if_neg D]at O;exact s.oo x y _ _ _ _ _ _ _ _ _ _ _ _ g Z ab N O
 ·intro k cs ty j s1 C F A E G z l f
  rcases B j _ l with⟨rfl,D⟩|⟨D,u⟩
  ·grind
  ·simp only[oe',if_neg D]at f;exact s.bo k cs ty j _ _ _ _ _ _ z u f
theorem Sim.freeze(s:Sim P h0 w0 be oe H st h a w){i f e sz by_:Nat}{nn:Bool}{xs:List (List Value)}(q:nth st.ow i=some ⟨f,.live e sz by_ nn xs⟩):
  ∃ h',J1 h h' (oe i) e sz nn xs/\Sim P h0 w0 be oe H { st with ow:=E01 st.ow i ⟨f,.frozen (oe i)⟩ } h' a w /\
   F7 st be oe { st with ow:=E01 st.ow i ⟨f,.frozen (oe i)⟩ } be oe:=by
 have T:=T02 q
 have A:=s.own i _ _ _ _ _ _ q
 have p:F7 st be oe { st with ow:=E01 st.ow i ⟨f,.frozen (oe i)⟩ } be oe:=by
  refine⟨Nat.le_refl _,λ_ _=>rfl,λj t W=>⟨t,?_,Nat.le_refl _,λ_=>rfl⟩⟩
  unfold stamp at W ⊢
  simp only[c8 _ _ _ T]
  grind
 have l:∀ j x,nth (E01 st.ow i ⟨f,.frozen (oe i)⟩) j=some x->(j=i/\x=⟨f,.frozen (oe i)⟩)∨(j≠i/\nth st.ow j=some x):=by
  grind[c8]
 have L:∀ h',(∀ b,(oe i).ownBlock≠some b->h' b=h b)->(∀ b o,h' b=some o->H b=some o) ->
   Sim P h0 w0 be oe H { st with ow:=E01 st.ow i ⟨f,.frozen (oe i)⟩ } h' a w:=by
  intro h' K V
  refine⟨s.mv,V,?_,s.pub,?_,?_,s.bb,?_,?_,s.dfr,s.siz,λt=>(s.fr t).grow p⟩
  ·intro k cs ty u
   obtain⟨v,vs,G,S⟩:=s.box k cs ty u
   exact⟨by rw[K _ (s.bo k cs ty i _ _ _ _ _ _ u q)];exact v,vs,G.grow p,S⟩
  ·intro j s' E N D M O n
   rcases l j _ n with⟨rfl,c⟩|⟨c,d⟩
   ·cases c
   ·refine(s.own j _ _ _ _ _ _ d).keep λg J=>⟨rfl,?_⟩
    rw[K g (λz=>c (s.oo j i _ _ _ _ _ _ _ _ _ _ _ _ g d q J z))]
    exact((s.own j _ _ _ _ _ _ d).block J).1
  ·intro j s' aa n
   rcases l j _ n with⟨rfl,c⟩|⟨c,d⟩
   ·cases c;rfl
   ·exact s.frz j s' aa d
  ·intro x y s1 E N D M O s2 c ad ab ac ae g C Y Q R
   rcases l x _ C with⟨rfl,F⟩|⟨F,X⟩<;>rcases l y _ Y with⟨rfl,m⟩|⟨m,Z⟩
   ·rfl
   ·cases F
   ·cases m
   ·exact s.oo x y _ _ _ _ _ _ _ _ _ _ _ _ g X Z Q R
  ·intro k cs ty j s1 E N D M O u n z
   rcases l j _ n with⟨rfl,m⟩|⟨m,d⟩
   ·cases m
   ·exact s.bo k cs ty j _ _ _ _ _ _ u d z
 rcases A.2 with⟨B,C,U⟩|⟨g,cap,cur,B,v,G,r⟩
 ·exact⟨h,⟨A.1,.inl ⟨B,C,U,rfl⟩⟩,L h (λ_ _=>rfl) s.sub,p⟩
 ·refine⟨h.set g (.cells cur e (0,0)),⟨A.1,.inr ⟨g,cap,cur,B,v,rfl,r⟩⟩,L _ ?_ ?_,p⟩
  ·grind[Hp.set_other,Value.ownBlock]
  ·intro b o I
   by_cases e':b=g
   ·grind[Hp.set]
   ·rw[Hp.set_other _ _ e']at I;exact s.sub b o I
theorem Sim.publ(s:Sim P h0 w0 be oe H st h a w){i:Nat}{cs:List c6}{ty:TypeId}(m:nth st.bx i=some (.live cs ty)){vs:List Value}
  (R:H (be i)=some (.cells vs.toArray ty (0,0))) :
  h (be i)=none/\Sim P h0 w0 be oe H { st with bx:=E01 st.bx i (.publ (be i)) } (h.set (be i) (.cells vs.toArray ty (0,0))) a w /\
   F7 st be oe { st with bx:=E01 st.bx i (.publ (be i)) } be oe:=by
 have S:=T02 m
 have G:=(s.box i cs ty m).1
 have p:F7 st be oe { st with bx:=E01 st.bx i (.publ (be i)) } be oe :=
  ⟨by simp[A06],λ_ _=>rfl,λj t I=>⟨t,I,Nat.le_refl _,λ_=>rfl⟩⟩
 have d:∀ j x,nth (E01 st.bx i (.publ (be i))) j=some x->(j=i/\x = .publ (be i))∨(j≠i/\nth st.bx j=some x):=by
  grind[c8]
 refine⟨G,⟨s.mv,?_,?_,?_,?_,s.frz,?_,s.oo,?_,s.dfr,s.siz,λt=>(s.fr t).grow p⟩,p⟩
 ·intro b o A
  by_cases f:b=be i
  ·grind[Hp.set]
  ·rw[Hp.set_other _ _ f]at A;exact s.sub b o A
 ·intro k cs' L q
  rcases d k _ q with⟨rfl,e⟩|⟨e,n⟩
  ·cases e
  ·obtain⟨D,N,E,F⟩:=s.box k cs' L n
   exact⟨by rw[Hp.set_other _ _ (λf=>e (s.bb k i _ _ _ _ n m f))];exact D,N,E.grow p,F⟩
 ·intro k b q
  rcases d k _ q with⟨rfl,e⟩|⟨e,n⟩
  ·cases e;rfl
  ·exact s.pub k b n
 ·intro j s' c U O T W l
  refine(s.own j _ _ _ _ _ _ l).keep λg B=>⟨rfl,?_⟩
  rw[Hp.set_other _ _ (λf=>by subst f;exact s.bo i cs ty j _ _ _ _ _ _ m l B)]
  exact((s.own j _ _ _ _ _ _ l).block B).1
 ·intro x y C M Q V u J e
  rcases d x _ u with⟨_,c⟩|⟨c,v⟩
  ·cases c
  rcases d y _ J with⟨_,z⟩|⟨z,K⟩
  ·cases z
  exact s.bb _ _ _ _ _ _ v K e
 ·intro x C M j s' e sz by_ nn xs u l
  rcases d x _ u with⟨_,c⟩|⟨c,v⟩
  ·cases c
  ·exact s.bo _ _ _ j _ _ _ _ _ _ v l
theorem Sim.rdA(s:Sim P h0 w0 be oe H st h a w){av:AV}{x:Value}(g:C3 st be oe av x):C3 st be oe (rdA st av) x:=by
 cases av with
 |own i k =>
  simp only[Go.H.rdA]
  split
  ·rename_i s' o c
   split
   ·rename_i e
    have j:=Nat.eq_of_beq_eq_true e
    split
    ·exact g
    ·rename_i v
     obtain⟨t,l,_,d⟩:=g
     have:t=s':=by grind[stamp]
     subst this
     have:=d j.symm
     rw[s.frz i _ v c]at this
     exact this
   ·trivial
  ·trivial
 |box i off =>
  simp only[Go.H.rdA]
  split
  ·exact g
  ·rename_i b c
   have:=g.2
   rw[s.pub i b c]at this
   exact this
  ·trivial
 |oel i k idx sz f =>
  simp only[Go.H.rdA]
  split
  ·split
   ·exact g
   ·trivial
  ·trivial
 |_=>exact g
theorem Sim.rdO(s:Sim P h0 w0 be oe H st h a w)(x:Operand):C3 st be oe (rdO st x) (a.eval x):=by
 cases x with
 |tmp t=>exact s.rdA (s.fr t)
 |const v=>rfl
 |global g=>trivial
 |func f=>rfl
theorem M07{st:St}{av:AV}{i k:Nat}(h:Go.H.rdA st av = .own i k):∃ e sz by_ nn xs,nth st.ow i=some ⟨k,.live e sz by_ nn xs⟩:=by
 cases av with
 |own j l =>
  grind[Go.H.rdA,Nat.eq_of_beq_eq_true]
 |box j off=>simp only[Go.H.rdA]at h;split at h<;>cases h
 |oel j l idx sz f=>simp only[Go.H.rdA]at h;split at h<;>(try split at h)<;>cases h
 |_=>cases h
theorem N07{st:St}{x:Operand}{i k:Nat}(h:Go.H.rdO st x = .own i k):∃ e sz by_ nn xs,nth st.ow i=some ⟨k,.live e sz by_ nn xs⟩:=by
 cases x with
 |tmp t=>exact M07 h
 |_=>cases h
theorem U0i{st:St}{av:AV}{i k:Nat}{idx:Int}{sz f:Nat}(h:Go.H.rdA st av = .oel i k idx sz f):∃ e a by_ nn xs,nth st.ow i=some ⟨k,.live e a by_ nn xs⟩:=by
 cases av with
 |own j l=>simp only[Go.H.rdA]at h;split at h<;>(try split at h)<;>(try split at h)<;>cases h
 |box j off=>simp only[Go.H.rdA]at h;split at h<;>cases h
 |oel j l idx sz f =>
  grind[Go.H.rdA,Nat.eq_of_beq_eq_true]
 |_=>cases h
theorem V0i{st:St}{x:Operand}{i k:Nat}{idx:Int}{sz f:Nat}(h:Go.H.rdO st x = .oel i k idx sz f):∃ e a by_ nn xs,nth st.ow i=some ⟨k,.live e a by_ nn xs⟩:=by
 cases x with
 |tmp t=>exact U0i h
 |_=>cases h
theorem C3.own_cur{st:St}{be:Nat->Nat}{oe:Nat->Value}{i k:Nat}{x:Value}{o:OSt}(g:C3 st be oe (.own i k) x)(c:nth st.ow i=some ⟨k,o⟩):x=oe i:=by
 obtain⟨s,a,_,b⟩:=g
 grind[stamp]
theorem C3.oel_cur{st:St}{be:Nat->Nat}{oe:Nat->Value}{i k:Nat}{idx:Int}{sz f:Nat}{x:Value}{o:OSt}(g:C3 st be oe (.oel i k idx sz f) x)(d:nth st.ow i=some ⟨k,o⟩):
  ∃ g n c,oe i = .slice (some ⟨g,0,none⟩) n c/\x=ptr g (idx.toNat*sz+f):=by
 obtain⟨s,a,_,b⟩:=g
 grind[stamp]
theorem S08{st:St}:∀ {cs:List c6} {vs a:List Value},O0e cs=some vs->Y2 st oe cs a->a=vs
 | [],vs,[],h,_=>by cases h;rfl
 | [],vs,_::_,h,g=>g.elim
 | .val v::r,vs,[],h,g=>g.elim
 | .val v::r,vs,w::a,h,g=>by
  simp only[O0e]at h
  split at h
  ·rename_i e d
   cases h
   obtain⟨b,c⟩:=g
   rw[S08 d c,show w=v from b]
  ·cases h
 | .own i k::r,vs,a,h,g=>by cases h
theorem t8{st:St}{av:AV}{v x:Value}(h:R05 av=some v)(g:C3 st be oe av x):x=v:=by
 cases av with
 |val u=>cases h;exact g
 |agg cs =>
  simp only[R05]at h
  split at h
  ·rename_i vs b
   cases h
   obtain⟨c,rfl,a⟩:=g
   rw[S08 b a]
  ·cases h
 |_=>cases h
end
theorem J2{P:Program}{e d:Type}(s:Sem e)(f:e->Sem d):∀(h:Hp) (K:d->Hp->Prop),wpS P (s >>= f) h K=wpS P s h (λx h'=>wpS P (f x) h' K):=by
 change ∀(h:Hp) (K:d->Hp->Prop),wpS P (s.bind f) h K=wpS P s h (λx h'=>wpS P (f x) h' K)
 induction s with
 |pure a=>intro h K;rfl
 |load m a k b=>grind[Sem.bind,wpS]
 |store m a v k b=>intro h K;simp only[Sem.bind,wpS,b]
 |new o k b=>grind[Sem.bind,wpS]
 |shape r k b=>grind[Sem.bind,wpS]
 |freeze a n k b=>intro h K;rfl
 |frozen a k b=>grind[Sem.bind,wpS]
 |getObj r k b=>grind[Sem.bind,wpS]
 |setObj r o k b=>grind[Sem.bind,wpS]
 |choose q k b=>grind[Sem.bind,wpS]
 |sys c k b=>intro h K;rfl
 |program k b=>grind[Sem.bind,wpS]
 |mark m k b=>grind[Sem.bind,wpS]
 |halt x=>intro h K;rfl
theorem O2{P:Program}{a:Type}(x:a)(h:Hp)(K:a->Hp->Prop):wpS P (pure x) h K=K x h:=rfl
theorem W0n{P:Program}{d:Type}(s:Sem d){x:d}(b:evP P s=some x):∀ w:World,s.run P w = .ok x w:=by
 induction s with
 |pure a=>simp_all[evP,Option.some.injEq]
 |program k c=>intro w;exact c _ b w
 |mark m k c=>intro w;exact c b w
 |_=>simp[evP]at b
theorem o0b(a:Operand->Value):∀ l:List Operand,N0i a l=l.map a
 | []=>rfl
 |x::r=>by simp only[N0i,List.map_cons,o0b a r]
theorem X0n:∀ a b:List Value,C0q a b=a++b
 | [],b=>rfl
 |x::r,b=>by simp only[C0q,List.cons_append,X0n r b]
theorem k07:∀ l:List Operand,G08 l=l.map fun | .const _=>true|_=>false
 | []=>rfl
 | .const _::r=>by simp only[G08,List.map_cons,k07 r]
 | .tmp _::r=>by simp only[G08,List.map_cons,k07 r]
 | .global _::r=>by simp only[G08,List.map_cons,k07 r]
 | .func _::r=>by simp only[G08,List.map_cons,k07 r]
theorem p0b(a:Operand->Value)(o:Oper):c0a a o=execOp a o:=by
 unfold c0a
 split
 ·rename_i c d
  obtain⟨i,as,j⟩:=c
  split
  ·rename_i b g
   simp only at g
   subst g
   unfold execOp
   rw[d]
   simp only[resolve,o0b,k07]
   rw[show(List.map a as.toList).toArray=as.map a from by apply Array.ext';simp]
   have h:∀ f:Operand->Bool,(List.map f as.toList).toArray=as.map f:=λf=>by apply Array.ext';simp
   rw[h]
   rfl
  ·rfl
 ·rename_i fn first e d
  unfold execOp
  rw[d]
  simp only[o0b]
  rw[show(List.map a first.toList).toArray=first.map a from by apply Array.ext';simp,show(List.map a e.toList).toArray=e.map a from by apply Array.ext';simp]
 ·rfl
theorem A09{P:Program}{e:Operand->Value}{o:Oper}{f:FuncId}{l:List Value}(a:F08 e o=some (f,l))(b:okF P f=true)(w:World):(execOp e o).run P w = .ok (.enter f l.toArray) w:=by
 unfold F08 at a
 split at a
 ·rename_i c i
  obtain⟨m,as,q⟩:=c
  split at a
  ·rename_i x d
   simp only at d
   subst d
   split at a
   ·rename_i p first n j
    cases a
    unfold okF at b
    split at b
    ·rename_i fn hf
     split at b
     ·rename_i k g
      split at b
      ·cases b
      ·rename_i h
       unfold execOp
       rw[i]
       simp only[resolve,j,Deferred.ofValue,Sem.run_bind,Sem.run_pure,Result.andThen_ok,invoke,callFunc,program,Sem.run,hf,h,g,Bool.false_eq_true,if_false,Option.isNone_some]
       simp_all[X0n,o0b]
     ·cases b
    ·cases b
   ·cases a
  ·cases a
 ·cases a
section
variable {P:Program} {h0:Hp} {w0:World} {be:Nat->Nat} {oe:Nat->Value} {H:Hp} {st:St} {h:Hp} {a:Act} {w:World}
theorem F7.trans{st f h:St}{be a b:Nat->Nat}{oe d e:Nat->Value}(g:F7 st be oe f a d)(k:F7 f a d h b e):F7 st be oe h b e:=by
 refine⟨Nat.le_trans g.bl k.bl,λi c=>?_,λi s l=>?_⟩
 ·rw[k.be i (Nat.lt_of_lt_of_le c g.bl),g.be i c]
 ·obtain⟨s1,j,m,n⟩:=g.sm i s l
  obtain⟨s2,o,p,q⟩:=k.sm i s1 j
  grind
theorem q0b(s:Sim P h0 w0 be oe H st h a w){i k:Nat}{x:Value}(g:∃ t,stamp st i=some t/\k<=t/\(k=t->x=oe i)){K:Value->St->Hp->Prop}
  (b:M0i i k st h K):∃ st' h',K x st' h'/\Sim P h0 w0 be oe H st' h' a w/\F7 st be oe st' be oe/\st'.bx=st.bx:=by
 unfold M0i at b
 obtain⟨t,o,_,l⟩:=g
 split at b
 ·rename_i s' e sz by_ nn xs f
  split at b
  ·rename_i c
   have d:=Nat.eq_of_beq_eq_true c
   have j:t=s':=by grind[stamp]
   have m:x=oe i:=l (by rw[j,d])
   obtain⟨h',n,f2,f3⟩:=s.freeze f
   rw[m]
   exact⟨_,h',b _ _ n,f2,f3,rfl⟩
  ·exact b.elim
 ·rename_i s' v f
  split at b
  ·rename_i c
   have d:=Nat.eq_of_beq_eq_true c
   have j:t=s':=by grind[stamp]
   have m:x=v:=by rw[l (by rw[j,d]),s.frz i _ v f]
   grind[F7.refl]
  ·exact b.elim
 ·exact b.elim
theorem i04:∀(cs:List c6) {st:St} {h:Hp} {vs:List Value} {K:List Value->St->Hp->Prop},Sim P h0 w0 be oe H st h a w->Y2 st oe cs vs->E08 cs st h K ->
  ∃ st' h',K vs st' h'/\Sim P h0 w0 be oe H st' h' a w/\F7 st be oe st' be oe/\st'.bx=st.bx
 | [],st,h,[],K,s,_,b=>⟨st,h,b,s,F7.refl _ _ _,rfl⟩
 | .val v::r,st,h,x::vs,K,s,g,b=>by
  have n:x=v:=g.1
  subst n
  obtain⟨st',h',q,t⟩:=i04 r s g.2 b
  grind
 | .own i k::r,st,h,x::vs,K,s,g,b=>by
  obtain⟨u,p,d,s1,c,l⟩:=q0b s g.1 b
  obtain⟨o,j,e,s2,f,m⟩:=i04 r s1 (g.2.grow c) d
  exact⟨o,j,e,s2,c.trans f,m.trans l⟩
 | [],_,_,_::_,_,_,g,_=>g.elim
 |_::_,_,_,[],_,_,g,_=>g.elim
theorem X03(s:Sim P h0 w0 be oe H st h a w){av:AV}{x:Value}(g:C3 st be oe av x){K:Value->St->Hp->Prop}(c:rfy av st h K):
  ∃ st' h',K x st' h'/\Sim P h0 w0 be oe H st' h' a w/\F7 st be oe st' be oe:=by
 cases av with
 |val v=>have e:x=v:=g;subst e;exact⟨st,h,c,s,F7.refl _ _ _⟩
 |own i k=>obtain⟨st',h',p,q,t,_⟩:=q0b s g c;grind
 |box i off =>
  have e:=g.2
  simp only[rfy,B0q]at c
  split at c
  ·rename_i cells ty d
   obtain⟨C,vs,f,n⟩:=s.box i cells ty d
   obtain⟨A,B,j,s1,m,l⟩:=i04 cells s f c
   have o:nth A.bx i=some (.live cells ty):=by rw[l];exact d
   obtain⟨u,y,z⟩:=s1.publ o n
   rw[e]
   exact⟨_,_,j (be i) u,y,m.trans z⟩
  ·rename_i b d
   rw[e,s.pub i b d]
   grind[F7.refl]
  ·exact c.elim
 |agg cs =>
  obtain⟨vs,rfl,f⟩:=g
  obtain⟨st',h',p,q,t,_⟩:=i04 cs s f c
  grind
 |_=>exact c.elim
theorem l03:∀(l:List Operand) {st:St} {h:Hp} {K:List (Nat×Value)->St->Hp->Prop},Sim P h0 w0 be oe H st h a w->E0c l st h K ->
  ∃ vs st' h',K vs st' h'/\Sim P h0 w0 be oe H st' h' a w/\F7 st be oe st' be oe/\(∀ p∈vs,p.2=a.eval (.tmp p.1))/\(∀ x∈l,(∃ t v,x = .tmp t/\(t,v)∈vs)∨(∀ o,rho o x=a.eval x))
 | [],st,h,K,s,b=>⟨[],st,h,b,s,F7.refl _ _ _,by simp,by simp⟩
 | .tmp t::r,st,h,K,s,b=>by
  obtain⟨u,q,m,s1,n⟩:=X03 s (s.rdO (.tmp t)) b
  obtain⟨vs,i,g,d,s2,e,j,k⟩:=l03 r s1 m
  refine⟨_,i,g,d,s2,n.trans e,?_,?_⟩
  all_goals grind
 | .const v::r,st,h,K,s,b=>by
  obtain⟨vs,i,g,d,s2,e,j,k⟩:=l03 r s b
  refine⟨vs,i,g,d,s2,e,j,λx c=>?_⟩
  rcases List.mem_cons.1 c with rfl|c
  ·exact .inr λ_=>rfl
  ·exact k x c
 | .func f::r,st,h,K,s,b=>by
  obtain⟨vs,i,g,d,s2,e,j,k⟩:=l03 r s b
  refine⟨vs,i,g,d,s2,e,j,λx c=>?_⟩
  rcases List.mem_cons.1 c with rfl|c
  ·exact .inr λ_=>rfl
  ·exact k x c
 | .global _::_,_,_,_,_,b=>b.elim
theorem P0c:∀(vs:List (Nat×Value)) (t:Nat) (y:Value),(∀ p∈vs,p.1=t->p.2=y)->(∃ v,(t,v)∈vs)->N0n vs t=y
 | [],t,y,_,h=>by grind
 |(k,v)::r,t,y,a,h=>by
  simp only[N0n]
  split
  ·simp_all
  ·rename_i c
   refine P0c r t y (λp b=>a p (mC _ b)) ?_
   grind[absurd,Nat.ne_of_beq_eq_false]
theorem B09{o:Oper}{vs:List (Nat×Value)}(c:b0b o.op=false)(d:∀ p∈vs,p.2=a.eval (.tmp p.1))
  (f:∀ x∈o.op.operands.toList,(∃ t v,x = .tmp t/\(t,v)∈vs)∨(∀ k,rho k x=a.eval x)):execOp (rho vs) o=execOp a.eval o:=by
 refine execOp_congr o (λcs b g=>by rw[g]at c;cases c) λx j=>?_
 rcases f x (by simpa using j)with⟨t,v,rfl,h⟩|hf
 ·exact P0c vs t _ (λp i e=>by rw[d p i,e]) ⟨v,h⟩
 ·exact hf vs
def Nx(P:Program)(h0:Hp)(w0:World)(f:St)(c:Nat->Nat)(e:Nat->Value)(K:AV->St->Hp->Prop)(a:Act)(d:Option Tmp):Act->World->Prop:=λb g =>
 ∃ av st' h' v be oe H,K av st' h'/\b=a.put d v/\Sim P h0 w0 be oe H st' h' a g/\C3 st' be oe av v/\F7 f c e st' be oe
theorem w8{o:Oper}{next:Act->World->Prop}{Q:Exit->Act->World->Prop}{v:Value}{b:World}(d:(execOp a.eval o).run P w = .ok (.value v) b)
  (c:next (a.put o.dst v) b):o.wp P a w next Q:=by
 unfold Oper.wp;rw[d];exact c
theorem C09{o:Oper}{next:Act->World->Prop}{Q:Exit->Act->World->Prop}{w':World}(hr:(execOp a.eval o).run P w = .ok .skip w')
  (hn:next (a.put o.dst undef) w'):o.wp P a w next Q:=by
 unfold Oper.wp;rw[hr];exact hn
theorem X05{o:Oper}{vs:List (Nat×Value)}(d:∀ p∈vs,p.2=a.eval (.tmp p.1))
  (f:∀ x∈o.op.operands.toList,(∃ t v,x = .tmp t/\(t,v)∈vs)∨(∀ j,rho j x=a.eval x)):F08 (rho vs) o=F08 a.eval o:=by
 have key:∀ x∈o.op.operands.toList,rho vs x=a.eval x:=λx b=>by
  rcases f x b with⟨t,v,rfl,h⟩|hf
  ·exact P0c vs t _ (λp i e=>by rw[d p i,e]) ⟨v,h⟩
  ·exact hf vs
 unfold F08
 split
 ·rename_i c k
  split
  ·rename_i x b
   have g:∀ y,y=x∨y∈c.args.toList->y∈o.op.operands.toList:=λy l=>by
    grind[Op.operands,Call.operands]
   rw[key x (g x (.inl rfl))]
   have:N0i (rho vs) c.args.toList=N0i a.eval c.args.toList:=by
    grind[o0b,List.map_congr_left]
   rw[this]
  ·rfl
 ·rfl
theorem f00(s:Sim P h0 w0 be oe H st h a w){o:Oper}{K:AV->St->Hp->Prop}{Q:Exit->Act->World->Prop}(c:b07 P o st h K):o.wp P a w (Nx P h0 w0 st be oe K a o.dst) Q:=by
 unfold b07 at c
 split at c
 ·exact c.elim
 rename_i C
 obtain⟨vs,i,E,b,s1,d,p,q⟩:=l03 _ s c
 rw[p0b,B09 C p q,X05 p q]at b
 split at b
 ·rename_i f l x
  split at b
  ·rename_i B
   unfold Oper.wp
   rw[A09 x B,Oper.upon_enter]
   refine(b.run w (R08 s1)).mono ?_
   rintro e G ⟨v,u,rfl,y,A⟩
   obtain⟨t,D⟩:=s1.moved A
   exact⟨.val v,i,u,v,be,oe,t,y,rfl,D,rfl,d⟩
  ·exact b.elim
 ·obtain⟨n,k,F,m,g,z⟩:=I00 _ _ _ (R08 s1) b
  obtain⟨j,s2⟩:=s1.moved z
  cases n with
  |value v=>exact w8 m ⟨.val v,i,k,v,be,oe,j,g,rfl,s2,rfl,d⟩
  |skip=>exact C09 m ⟨.val undef,i,k,undef,be,oe,j,g,rfl,s2,rfl,d⟩
  |_=>exact g.elim
theorem Sim.still(s:Sim P h0 w0 be oe H st h a w){hf:Hp}{d:World}(e:∀ b o,hf b=some o->H b=some o)(m:I3 hf w hf d):Sim P h0 w0 be oe H st h a d:=by
 refine⟨s.mv.trans ⟨m.os,m.tape,m.output,m.size,?_,?_,λb c => .inl c,m.fz,m.dn⟩,s.sub,s.box,s.pub,s.own,s.frz,s.bb,s.oo,s.bo,s.dfr,s.siz,s.fr⟩
 ·intro b c g
  refine m.keep b c ?_
  cases hc:hf b with
  |none=>rfl
  |some o=>grind
 ·intro b o c
  cases hc:hf b with
  |some f =>
   have:=e b f hc
   rw[this]at c;cases c
   exact m.vis b _ hc
  |none=>rw[m.keep b (s.mv.vis.lt (by rw[c];simp)) hc];exact s.mv.vis b o c
theorem r0k(s:Sim P h0 w0 be oe H st h a w){o:Oper}{K:AV->St->Hp->Prop}{Q:Exit->Act->World->Prop}(c:D0q P o st h K):o.wp P a w (Nx P h0 w0 st be oe K a o.dst) Q:=by
 unfold D0q at c
 split at c
 ·exact c.elim
 rename_i q
 obtain⟨vs,t,n,b,s1,_,k,m⟩:=l03 _ s c
 rw[X05 k m]at b
 split at b
 ·rename_i f l d
  split at b
  ·rename_i j
   unfold Oper.wp
   rw[A09 d j,Oper.upon_enter]
   refine(b.run w (R08 s1)).mono ?_
   rintro e u ⟨v,p,rfl,⟨rfl,g⟩,i⟩
   exact⟨.val v,st,h,v,be,oe,H,g,rfl,s.still s1.sub i,rfl,F7.refl _ _ _⟩
  ·exact b.elim
 ·exact b.elim
theorem F01(s:Sim P h0 w0 be oe H st h a w){o:Oper}{K:AV->St->Hp->Prop}{Q:Exit->Act->World->Prop}(b:r0m P o st h K):o.wp P a w (Nx P h0 w0 st be oe K a o.dst) Q:=by
 unfold r0m at b
 split at b
 ·rcases b with b|b
  ·exact f00 s b
  ·exact r0k s b
 ·exact f00 s b
theorem A0a(s:Sim P h0 w0 be oe H st h a w){o:Oper}{K:AV->St->Hp->Prop}{Q:Exit->Act->World->Prop}(c:F0q P o st h K):o.wp P a w (Nx P h0 w0 st be oe K a o.dst) Q:=by
 unfold F0q at c
 split at c
 ·exact c.elim
 rename_i y
 obtain⟨vs,p,z,b,s1,g,l,m⟩:=l03 _ s c
 rw[X05 l m]at b
 split at b
 ·exact b.elim
 obtain⟨v,t,q,j⟩:=b
 have f:=q (λn h'=>(n = .value v∨n = .skip/\v=undef)/\h'=t) ⟨⟨.inl rfl,rfl⟩,λe=>⟨.inr ⟨rfl,e⟩,rfl⟩⟩
 rw[p0b,B09 y l m]at f
 obtain⟨n,i,A,k,⟨x,rfl⟩,u⟩:=I00 _ _ _ (R08 s1) f
 obtain⟨d,s2⟩:=s1.moved u
 rcases x with rfl|⟨rfl,rfl⟩
 ·exact w8 k ⟨.val v,p,i,v,be,oe,d,j,rfl,s2,rfl,g⟩
 ·exact C09 k ⟨.val undef,p,i,undef,be,oe,d,j,rfl,s2,rfl,g⟩
end
section
variable {P:Program}
theorem M3{t:TypeId}{d:TypeDesc}(a:P.underlying t=some d)(h:Hp)(K:TypeDesc->Hp->Prop):wpS P (underlying t) h K=K d h:=by
 grind[underlying,program,J2,wpS,O2]
theorem r0b{t:TypeId}{i:TypeInfo}(a:P.info? t=some i)(h:Hp)(K:TypeInfo->Hp->Prop):wpS P (typeInfo t) h K=K i h:=by
 grind[typeInfo,program,J2,wpS,O2]
theorem P00{t:TypeId}{n:Nat}(a:d6 P t=some n)(h:Hp)(K:Nat->Hp->Prop):wpS P (sizeOf t) h K=K n h:=by
 grind[d6,sizeOf,J2,r0b,O2]
theorem T08{t:TypeId}{z:Value}(a:Q01 P t=some z)(h:Hp)(K:Value->Hp->Prop):wpS P (zeroValue t) h K=K z h:=by
 grind[Q01,zeroValue,J2,r0b,O2]
theorem l07{t:TypeId}{b:Bool}(a:N0e P t=some b)(h:Hp)(K:Bool->Hp->Prop):wpS P (isAgg t) h K=K b h:=by
 unfold N0e at a
 grind[isAgg,J2,M3,O2,absurd]
theorem B06{H:Hp}{b o:Nat}:∀(vs:List Value) (i:Nat) (acc:Array Value) (K:Array Value->Hp->Prop),(∀ j v,vs[j]?=some v->Hp.cell H b (o+i+j)=some v) ->
  K (acc++vs.toArray) H->wpS P (loadCellsFrom ⟨b,o,none⟩ i vs.length acc) H K
 | [],i,acc,K,_,c=>by grind[loadCellsFrom,O2]
 |v::vs,i,acc,K,a,c=>by
  have h0:=a 0 v (by simp)
  simp only[loadCellsFrom,List.length_cons,J2,load,wpS]
  have d:(⟨b,o,none⟩:Addr).add i=⟨b,o+i,none⟩:=by unfold Addr.add;split<;>simp_all
  rw[d]
  refine⟨v,⟨rfl,by simpa using h0⟩,B06 vs (i+1) (acc.push v) K ?_ ?_⟩
  ·intro j u e
   have:=a (j+1) u (by simpa using e)
   grind
  ·simpa using c
theorem N03{a:Type}:∀(l:List a) (n:Nat),K07 l n=true->l.length=n
 | [],0,_=>rfl
 |_::r,k+1,h=>by simp[N03 r k h]
 | [],_+1,h=>by cases h
 |_::_,0,h=>by cases h
variable {h0:Hp} {w0:World} {be:Nat->Nat} {oe:Nat->Value} {H:Hp} {st:St} {h:Hp} {a:Act} {w:World}
theorem C3.ofCell{st:St}{be:Nat->Nat}{oe:Nat->Value}{c:c6}{v:Value}(g:b0f st oe c v):C3 st be oe (ofCell c) v:=by
 cases c with
 |val u=>exact g
 |own i k=>exact g
theorem load_row{t:TypeId}{cs:List c6}{vs:List Value}{off:Nat}{K:AV->Prop}{b o:Nat}(a:P05 P t cs off K)(g:Y2 st oe cs vs)
  (p:∀ j v,vs[j]?=some v->Hp.cell H b (o+j)=some v):∃ av v,K av/\C3 st be oe av v/\∀ d:Value->Hp->Prop,d v H->wpS P (loadVar t ⟨b,o+off,none⟩) H d:=by
 unfold P05 at a
 split at a
 ·rename_i e
  split at a
  ·rename_i n f
   split at a
   ·rename_i l
    have m:=N03 _ _ l
    have h:=(g.drop off).take n
    refine⟨_,.agg ((vs.drop off).take n).toArray,a,⟨_,rfl,h⟩,λd k=>?_⟩
    have s:((vs.drop off).take n).length=n:=by rw[←h.length,m]
    simp only[loadVar,J2,l07 e,if_true,P00 f,loadCells]
    have:=B06 (P:=P) (H:=H) (b:=b) (o:=o+off) ((vs.drop off).take n) 0 #[] (λx h'=>wpS P (pure (Value.agg x)) h' d) (λj v q=>by
     grind) (by grind[O2])
    grind
   ·exact a.elim
  ·exact a.elim
 ·rename_i e
  split at a
  ·rename_i c f
   obtain⟨v,u,i⟩:=g.nth f
   refine⟨_,v,a,C3.ofCell i,λd k=>?_⟩
   simp only[loadVar,J2,l07 e,Bool.false_eq_true,if_false,load,wpS]
   grind
  ·exact a.elim
 ·exact a.elim
theorem Hp.set_set(h:Hp)(b:Nat)(x y:Obj):(h.set b x).set b y=h.set b y:=by
 funext k;simp only[Hp.set];split<;>rfl
theorem m0u{v:Value}(h:v.oneCell'=true):L03 v:=by cases v<;>simp_all [Value.oneCell',L03]
theorem Y05{b:Nat}{t:TypeId}:∀(a:List Value) (cur:List Value) (off i:Nat) (K:Unit->Hp->Prop) (H:Hp),H b=some (.cells cur.toArray t (0,0)) ->
  off+i+a.length<=cur.length->(∀ v∈a,v.oneCell'=true)->K () (H.set b (.cells (R3 cur (off+i) a).toArray t (0,0)))->wpS P (storeCells ⟨b,off,none⟩ a i) H K
 | [],cur,off,i,K,H,e,_,_,c=>by
  have:H.set b (.cells cur.toArray t (0,0))=H:=by
   grind[Hp.set]
  simp only[R3,this]at c
  exact c
 |n::a,cur,off,i,K,H,e,g,d,c=>by
  simp only[storeCells,J2,store,wpS]
  have f:(⟨b,off,none⟩:Addr).add i=⟨b,off+i,none⟩:=by unfold Addr.add;split<;>simp_all
  rw[f]
  simp only[List.length_cons]at g
  refine⟨cur.toArray,t,(0,0),⟨e,rfl,by simp;omega,by simp,m0u (d n mS)⟩,?_⟩
  refine Y05 (t:=t) a (cur.set (off+i) n) off (i+1) K _ (by simp[Hp.set]) (by simp;omega) (λv h=>d v (mC _ h)) ?_
  grind[Hp.set_set,R3,Nat.add_assoc]
theorem m03:∀(a cs:List Value) (off:Nat),splice cs off a=R3 cs off a
 | [],cs,off=>rfl
 |n::a,cs,off=>by simp only[splice,R3,n0b,m03 a]
theorem c0f(s:Sim P h0 w0 be oe H st h a w){i k:Nat}{e sz by_:Nat}{nn:Bool}{xs:List (List Value)}(d:nth st.ow i=some ⟨k,.live e sz by_ nn xs⟩):∃ x n c,oe i = .slice x n c:=by
 rcases(s.own i _ _ _ _ _ _ d).2 with⟨b,_⟩|⟨g,cap,cur,b,_⟩
 all_goals grind
theorem C05(s:Sim P h0 w0 be oe H st h a w){x:Operand}{cs:List c6}(b:a01 (rdO st x)=some cs):Y2 st oe cs (a.eval x).cells.toList:=by
 have g:=s.rdO x
 cases hr:rdO st x with
 |val v =>
  rw[hr]at b g
  have d:a.eval x=v:=g
  rw[d]
  cases v<;>simp only[a01,Option.some.injEq]at b<;>first|(subst b;first|exact Y2.vals _ _ _|exact⟨rfl,trivial⟩)|cases b
 |own i k =>
  rw[hr]at b g
  obtain⟨e,sz,by_,nn,xs,f⟩:=N07 hr
  simp only[a01,Option.some.injEq]at b
  subst b
  have j:a.eval x=oe i:=g.own_cur f
  obtain⟨y,n,c,l⟩:=c0f s f
  rw[j,l]
  rw[j,l]at g
  exact⟨g,trivial⟩
 |agg cs' =>
  rw[hr]at b g
  simp only[a01,Option.some.injEq]at b
  subst b
  obtain⟨vs,d,m⟩:=g
  rw[d]
  exact m
 |_=>rw[hr]at b;cases b
theorem D05(s:Sim P h0 w0 be oe H st h a w):∀(cs:List c6) (vs:List Value),y06 st cs=true->Y2 st oe cs vs->∀ v∈vs,v.oneCell'=true
 | [],[],_,_,v,d=>by cases d
 | .val u::r,x::vs,b,g,v,d=>by
  simp only[y06]at b
  split at b
  ·rename_i m
   rcases List.mem_cons.1 d with rfl|d
   ·have:v=u:=g.1
    rw[this];exact m
   ·exact D05 s r vs b g.2 v d
  ·cases b
 | .own i k::r,x::vs,b,g,v,d=>by
  have f:C3 st be oe (rdA st (.own i k)) x:=s.rdA (av := .own i k) g.1
  simp only[y06]at b
  split at b
  ·rename_i j l o
   rcases List.mem_cons.1 d with rfl|d
   ·rw[o]at f
    obtain⟨e,sz,by_,nn,xs,p⟩:=M07 o
    obtain⟨y,n,c,t⟩:=c0f s p
    rw[f.own_cur p,t];rfl
   ·exact D05 s r vs b g.2 v d
  ·rename_i u q
   split at b
   ·rename_i m
    rcases List.mem_cons.1 d with rfl|d
    ·rw[q]at f
     have:v=u:=f
     rw[this];exact m
    ·exact D05 s r vs b g.2 v d
   ·cases b
  ·cases b
 | [],_::_,_,g,_,_=>g.elim
 |_::_,[],_,g,_,_=>g.elim
theorem c05:∀(vs:List Value),Q05 vs=true->∀ v∈vs,v.oneCell'=true
 | [],_,v,a=>by cases a
 |x::r,b,v,a=>by
  simp only[Q05]at b
  split at b
  ·rename_i c
   rcases List.mem_cons.1 a with rfl|a
   ·exact c
   ·exact c05 r b v a
  ·cases b
end
section
variable {P:Program} {h0:Hp} {w0:World} {be:Nat->Nat} {oe:Nat->Value} {H:Hp} {st:St} {h:Hp} {a:Act} {w:World} {o:Oper} {K:AV->St->Hp->Prop} {Q:Exit->Act->World->Prop}
theorem E02(b o n:Nat):(⟨b,o,none⟩:Addr).add n=⟨b,o+n,none⟩:=by unfold Addr.add;split<;>simp_all
theorem B7(s:Sim P h0 w0 be oe H st h a w){av:AV}{v:Value}(j:∀ c:Next->Hp->Prop,c (.value v) H->wpS P (execOp a.eval o) H c)(g:C3 st be oe av v)(e:K av st h):
  o.wp P a w (Nx P h0 w0 st be oe K a o.dst) Q:=by
 obtain⟨n,b,k,i,⟨rfl,rfl⟩,f⟩:=I00 _ _ _ s.mv.vis (j (λn b=>n = .value v/\b=H) ⟨rfl,rfl⟩)
 have s':Sim P h0 w0 be oe b st h a k:=s.still (hf:=b) (λ_ _ d=>d) f
 exact w8 i ⟨av,st,h,v,be,oe,b,e,rfl,s',g,F7.refl _ _ _⟩
theorem o8{P:Program}(s:Sem Value)(H:Hp)(a:Next->Hp->Prop)(h:wpS P s H (λv H=>a (.value v) H)):wpS P (do pure (Next.value (←s))) H a:=by
 rw[J2];exact h
theorem n0u{P:Program}(s:Sem Unit)(H:Hp)(a:Next->Hp->Prop)(h:wpS P s H (λ_ H=>a .skip H)):wpS P (do s;pure Next.skip) H a:=by
 rw[J2];exact h
theorem Y0n(s:Sim P h0 w0 be oe H st h a w){x:Operand}(c:o.op = .move x∨o.op = .assign x)(b:match rdO st x with | .dead=>False|a=>K a st h):o.wp P a w (Nx P h0 w0 st be oe K a o.dst) Q:=by
 have d:K (rdO st x) st h:=by
  revert b;cases rdO st x<;>intro b<;>first|exact b|exact b.elim
 refine B7 s (v:=a.eval x) (λf e=>?_) (s.rdO x) d
 unfold execOp
 rcases c with c|c<;>rw[c]<;>exact e
theorem o0u(s:Sim P h0 w0 be oe H st h a w){t:TypeId}{x:Operand}(l:o.op = .box t x){cs:List c6}(k:a01 (rdO st x)=some cs)
  (e:newBox st cs t λav st=>K av st h):o.wp P a w (Nx P h0 w0 st be oe K a o.dst) Q:=by
 have g:=C05 s k
 have p:wpS P (execOp a.eval o) H (λn d=>∃ b,H b=none/\n = .value (ptr b 0)/\d=H.set b (.cells (a.eval x).cells t (0,0))):=by
  unfold execOp;rw[l]
  refine o8 _ _ _ ?_
  simp only[Instr.box,newVar,newRow,newObj,J2,O2,wpS]
  exact λb c=>⟨b,c,rfl,rfl⟩
 obtain⟨n,d,q,m,⟨b,c,rfl,rfl⟩,f⟩:=I00 _ _ _ s.mv.vis p
 have j:(a.eval x).cells=(a.eval x).cells.toList.toArray:=by simp
 rw[j]at f
 rw[G0c]at e
 obtain⟨s',i⟩:=s.newBox g c f
 exact w8 m ⟨_,_,h,_,_,_,_,e,rfl,s',⟨by simp,by simp⟩,i⟩
theorem T0q(s:Sim P h0 w0 be oe H st h a w){t:TypeId}(j:o.op = .alloc t){z:Value}(m:Q01 P t=some z)
  (e:newBox st (vals z.cells.toList) t λav st=>K av st h):o.wp P a w (Nx P h0 w0 st be oe K a o.dst) Q:=by
 have l:wpS P (execOp a.eval o) H (λn d=>∃ b,H b=none/\n = .value (ptr b 0)/\d=H.set b (.cells z.cells t (0,0))):=by
  unfold execOp;rw[j]
  refine o8 _ _ _ ?_
  simp only[Instr.alloc,newVar,newRow,newObj,J2,T08 m,O2,wpS]
  exact λb c=>⟨b,c,rfl,rfl⟩
 obtain⟨n,d,p,k,⟨b,c,rfl,rfl⟩,f⟩:=I00 _ _ _ s.mv.vis l
 have i:z.cells=z.cells.toList.toArray:=by simp
 rw[i]at f
 rw[G0c]at e
 obtain⟨s',g⟩:=s.newBox (Y2.vals st oe _) c f
 exact w8 k ⟨_,_,h,_,_,_,_,e,rfl,s',⟨by simp,by simp⟩,g⟩
theorem x0h{t:TypeId}{k a:Nat}(c:L0i P t k=some a):∃ b f n,P.underlying t=some (.struct b)/\b[k]?=some f/\d6 P f.type=some (n+1)/\f.offset=a:=by
 grind[L0i]
theorem D0p{t:TypeId}{j:Int}{b:Nat}(a:A0q P t j=some b):∃ n e sz,P.underlying t=some (.array n e)/\d6 P e=some (sz+1)/\0<=j/\j<(n:Int)/\b=j.toNat*(sz+1):=by
 unfold A0q at a
 split at a
 ·rename_i n e m f
  split at a
  ·rename_i sz d c
   cases a
   refine⟨n,e,sz,f,d,Int.natCast_nonneg m,?_,rfl⟩
   have:m<n:=by simpa [Nat.blt_eq] using c
   exact Int.ofNat_lt.2 this
  ·cases a
 ·cases a
theorem O07{t:TypeId}{x i:Operand}{k:IntKind}{j:Int}{d b off:Nat}(m:o.op = .indexAddr t x i)(q:A0q P t j=some d)(u:a.eval x=ptr b off)(h:a.eval i = .int k j):
  ∀ c:Next->Hp->Prop,c (.value (ptr b (off+d))) H->wpS P (execOp a.eval o) H c:=by
 intro c l
 obtain⟨n,e,sz,s,p,f,g,rfl⟩:=D0p q
 unfold execOp;rw[m]
 refine o8 _ _ _ ?_
 simp only[Instr.indexAt,u,h,asIntOf,J2,O2,M3 s,f,g,and_self,if_true,P00 p,E02,ptr,Instr.sureAddr]
 exact l
theorem exec_fieldAddr{t:TypeId}{x:Operand}{k d b off:Nat}(h:o.op = .fieldAddr t x k)(i:L0i P t k=some d)(l:a.eval x=ptr b off):
  ∀ c:Next->Hp->Prop,c (.value (ptr b (off+d))) H->wpS P (execOp a.eval o) H c:=by
 intro c e
 obtain⟨m,f,n,j,hf,g,rfl⟩:=x0h i
 unfold execOp;rw[h]
 refine o8 _ _ _ ?_
 simp only[Instr.fieldAt,J2,M3 j,hf,l,ptr,Instr.sureAddr,O2,fieldPlace,P00 g,Nat.add_one_ne_zero,if_false,E02]
 exact e
theorem W0i(s:Sim P h0 w0 be oe H st h a w){t:TypeId}{x:Operand}{k:Nat}(p:o.op = .fieldAddr t x k)
  (m:match rdO st x,L0i P t k with
  | .box i off,some d=>K (.box i (off+d)) st h
  | .hel s i sz k,some d=>K (.hel s i sz (k+d)) st h
  | .oel i s j sz k,some d=>K (.oel i s j sz (k+d)) st h
  | .val (.pointer (some ⟨b,off,none⟩)),some d=>K (.val (ptr b (off+d))) st h
  |_,_=>False):o.wp P a w (Nx P h0 w0 st be oe K a o.dst) Q:=by
 have g:=s.rdO x
 split at m
 ·rename_i i off d f l
  rw[f]at g
  exact B7 s (av := .box i (off+d)) (exec_fieldAddr p l g.2) ⟨g.1,rfl⟩ m
 ·rename_i sl i sz v d f l
  rw[f]at g
  obtain⟨b,C,n,c,q,u⟩:=g
  refine B7 s (av := .hel sl i sz (v+d)) (exec_fieldAddr p l u) ⟨b,C,n,c,q,?_⟩ m
  simp[Nat.add_assoc]
 ·rename_i i D j sz v d f l
  rw[f]at g
  obtain⟨e,G,by_,nn,xs,B⟩:=V0i f
  obtain⟨A,n,c,q,u⟩:=g.oel_cur B
  obtain⟨E,y,z,F⟩:=g
  refine B7 s (av := .oel i D j sz (v+d)) (exec_fieldAddr p l u) ⟨E,y,z,λ_=>⟨A,n,c,q,by simp[Nat.add_assoc]⟩⟩ m
 ·rename_i b off d f l
  rw[f]at g
  exact B7 s (av := .val (ptr b (off+d))) (exec_fieldAddr (b:=b) (off:=off) p l g) rfl m
 ·exact m.elim
theorem u00{t e:TypeId}(a:j02 P t=some e):P.underlying t=some (.slice e):=by
 grind[j02]
theorem exec_indexAddr{t e:TypeId}{x i:Operand}{k:IntKind}{j:Int}{sz b off n c:Nat}(m:o.op = .indexAddr t x i)(q:j02 P t=some e)(p:d6 P e=some sz)
  (u:a.eval x = .slice (some ⟨b,off,none⟩) n c) (h:a.eval i = .int k j) (f:0<=j) (g:j<(n:Int)) :
  ∀ d:Next->Hp->Prop,d (.value (ptr b (off+j.toNat*sz))) H->wpS P (execOp a.eval o) H d:=by
 intro d l
 have s:=u00 q
 unfold execOp;rw[m]
 refine o8 _ _ _ ?_
 simp only[Instr.indexAt,u,h,asIntOf,J2,O2,M3 s,f,g,and_self,if_true,P00 p,E02]
 exact l
theorem s0k(s:Sim P h0 w0 be oe H st h a w){t:TypeId}{x:Operand}{i off:Nat}{cs:List c6}{ty:TypeId}(l:o.op = .load t x)(m:rdO st x = .box i off)
  (k:nth st.bx i=some (.live cs ty)) (e:P05 P t cs off λav=>K av st h):o.wp P a w (Nx P h0 w0 st be oe K a o.dst) Q:=by
 have g:=s.rdO x
 rw[m]at g
 obtain⟨u,vs,c,d⟩:=s.box i cs ty k
 obtain⟨av,v,n,p,z⟩:=load_row (H:=H) (b:=be i) (o:=0) (be:=be) e c (λj v f=>by simp[Hp.cell,d,f])
 refine B7 s (λq y=>?_) p n
 unfold execOp;rw[l]
 refine o8 _ _ _ ?_
 rw[g.2]
 grind[Instr.loadAt,ptr,Instr.sureAddr,J2,O2]
theorem t0k(s:Sim P h0 w0 be oe H st h a w){t:TypeId}{x:Operand}{sl:Value}{idx:Int}{sz k:Nat}{c:List Value}(q:o.op = .load t x)(y:rdO st x = .hel sl idx sz k)
  (i:A5 h sl sz idx c) (m:P05 P t (vals c) k λav=>K av st h):o.wp P a w (Nx P h0 w0 st be oe K a o.dst) Q:=by
 have g:=s.rdO x
 rw[y]at g
 obtain⟨b,B,n,E,e,f⟩:=g
 obtain⟨_,_,D,L,J,F,d,l⟩:=i
 rw[e]at d;cases d
 obtain⟨av,v,z,A,I⟩:=load_row (H:=H) (b:=b) (o:=B+idx.toNat*sz) (be:=be) m (Y2.vals st oe c) (λj v p=>by
  have:=l j v p
  unfold Hp.cell at this ⊢
  split at this
  ·rename_i u;rw[s.sub _ _ u];exact this
  ·cases this)
 refine B7 s (λC G=>?_) A z
 unfold execOp;rw[q]
 refine o8 _ _ _ ?_
 rw[f]
 simp only[Instr.loadAt,ptr,Instr.sureAddr,J2,O2]
 grind
theorem d05{sz:Nat}:∀(xs:List (List Value)) (i:Nat) (c:List Value),(∀ x∈xs,x.length=sz)->xs[i]?=some c->∀ j v,c[j]?=some v->xs.flatten[i*sz+j]?=some v
 | [],i,c,_,h,j,v,b=>by simp at h
 |x::xs,0,c,a,h,j,v,b=>by
  grind
 |x::xs,i+1,c,a,h,j,v,b=>by
  simp at h
  have e:=a x mS
  have:=d05 xs i c (λy d=>a y (mC _ d)) h j v b
  grind
theorem j07.cells{h H:Hp}{v:Value}{e sz:Nat}{nn:Bool}{xs:List (List Value)}(b:j07 h H v e sz nn xs){g n c:Nat}(l:v = .slice (some ⟨g,0,none⟩) n c):
  ∀ j u,xs.flatten[j]?=some u->Hp.cell H g j=some u:=by
 intro j u i
 rcases b.2 with⟨a,_⟩|⟨d,cap,cur,a,_,f,_,_,_,k⟩
 all_goals grind[Hp.cell]
theorem u0k(s:Sim P h0 w0 be oe H st h a w){t:TypeId}{x:Operand}{i E:Nat}{idx:Int}{sz k:Nat}{F e by_:Nat}{nn:Bool}{xs:List (List Value)}{c:List Value}
  (A:o.op = .load t x) (f:rdO st x = .oel i E idx sz k) (y:nth st.ow i=some ⟨F,.live e sz by_ nn xs⟩)
  (p:xs[idx.toNat]?=some c) (q:P05 P t (vals c) k λav=>K av st h):o.wp P a w (Nx P h0 w0 st be oe K a o.dst) Q:=by
 have g:=s.rdO x
 rw[f]at g
 obtain⟨L,S,I,R,T,z⟩:=V0i f
 obtain⟨m,n,J,l,M⟩:=g.oel_cur z
 have d:=s.own i _ _ _ _ _ _ y
 obtain⟨av,v,C,D,O⟩:=load_row (H:=H) (b:=m) (o:=idx.toNat*sz) (be:=be) q (Y2.vals st oe c) (λj v u =>
  d.cells l _ _ (d05 xs _ c (λx B=>(d.1 x B).1) p j v u))
 refine B7 s (λG N=>?_) D C
 unfold execOp;rw[A]
 refine o8 _ _ _ ?_
 grind[Instr.loadAt,ptr,Instr.sureAddr,J2,O2]
theorem P07{t:TypeId}{p x:Operand}{b off n:Nat}{cur:List Value}{ty:TypeId}(e:o.op = .store t p x)(g:d6 P t=some n)(f:a.eval p=ptr b off)
  (d:(a.eval x).cells.toList.length=n) (i:∀ v∈(a.eval x).cells.toList,v.oneCell'=true) (j:H b=some (.cells cur.toArray ty (0,0))) (k:off+n<=cur.length) :
  ∀ c:Next->Hp->Prop,c .skip (H.set b (.cells (R3 cur off (a.eval x).cells.toList).toArray ty (0,0)))->wpS P (execOp a.eval o) H c:=by
 intro c l
 unfold execOp;rw[e]
 refine n0u _ _ _ ?_
 rw[f]
 have h:(a.eval x).cells.size=n:=by simpa using d
 simp only[Instr.storeAt,ptr,Instr.sureAddr,J2,O2,storeVar,P00 g,h,ne_eq,not_true_eq_false,if_false]
 grind[Y05]
theorem X0i(s:Sim P h0 w0 be oe H st h a w){t:TypeId}{p x:Operand}{i off n:Nat}{cs new:List c6}{ty:TypeId}(A:o.op = .store t p x)(B:rdO st p = .box i off)
  (j:nth st.bx i=some (.live cs ty)) (u:a01 (rdO st x)=some new) (D:d6 P t=some n) (v:K07 new n=true) (l:y06 st new=true)
  (b:z0p cs off new λcs=>K (.val undef) { st with bx:=E01 st.bx i (.live cs ty) } h):o.wp P a w (Nx P h0 w0 st be oe K a o.dst) Q:=by
 have g:=s.rdO p
 rw[B]at g
 have c:=C05 s u
 have m:=D05 s _ _ l c
 have y:=N03 _ _ v
 obtain⟨G,vs,e,q⟩:=s.box i cs ty j
 unfold z0p at b
 split at b
 ·rename_i f
  have f:=Nat.le_of_ble_eq_true f
  have F:(a.eval x).cells.toList.length=n:=by rw[←c.length,y]
  have E:=P07 (H:=H) (P:=P) (a:=a) A D g.2 F m q (by rw[←e.length];omega)
  obtain⟨I,d,J,C,⟨rfl,rfl⟩,z⟩:=I00 _ _ _ s.mv.vis (E (λn d=>n = .skip/\d=_) ⟨rfl,rfl⟩)
  obtain⟨s',k⟩:=s.updBox j (e.splice c) z
  exact C09 C ⟨_,_,h,_,_,_,_,b,rfl,s',rfl,k⟩
 ·exact b.elim
end
section
variable {P:Program} {h0:Hp} {w0:World} {be:Nat->Nat} {oe:Nat->Value} {H:Hp} {st:St} {h:Hp} {a:Act} {w:World} {o:Oper} {K:AV->St->Hp->Prop} {Q:Exit->Act->World->Prop}
theorem j04{sz:Nat}:∀(xs:List (List Value)),(∀ x∈xs,x.length=sz)->xs.flatten.length=xs.length*sz
 | [],_=>by simp
 |x::xs,a=>by
  have:=j04 xs (λy b=>a y (mC _ b))
  grind
def Z0n(w:World)(y:Value)(sz:Nat)(a:List (List Value)):Prop :=
 (∀ x∈a,x.length=sz/\∀ v∈x,v.oneCell'=true) /\
 ((∃ b c,y = .slice (some b) a.length c/\∀ j u,a.flatten[j]?=some u->w.cell? (b.add j)=some u)∨(∃ c,y = .slice none 0 c/\a = []))
theorem I3.newD{H:Hp}{w:World}(a:Vis H w)(x:Obj)(b:P0s x=true):I3 H w (H.set w.heap.size x) (w.drew.alloc x) :=
 (I3.drawn a (w.drawn+1) (Nat.le_succ _)).trans (I3.new (w:=w.drew) a x b)
theorem D03{H:Hp}{w:World}(a:Vis H w):H w.heap.size=none:=by
 cases hc:H w.heap.size with
 |none=>rfl
 |some x=>exact absurd (a.lt (b:=w.heap.size) (by simp[hc])) (Nat.lt_irrefl _)
theorem d0f{h H:Hp}(k:∀ b o,h b=some o->H b=some o){g:Nat}(j:H g=none){e sz cap:Nat}{nn:Bool}{xs:List (List Value)}{cur:Array Value}
  (a:∀ x∈xs,x.length=sz/\∀ v∈x,v.oneCell'=true) (c:xs.length<=cap) (d:cap<=maxLen) (f:cur.size=cap*sz) (i:cur.toList.take (xs.length*sz)=xs.flatten) :
  j07 h (H.set g (.cells cur e (0,0))) (.slice (some ⟨g,0,none⟩) xs.length cap) e sz nn xs:=by
 refine⟨a,.inr ⟨g,cap,cur,rfl,?_,by simp[Hp.set],c,d,f,i⟩⟩
 cases hc:h g with
 |none=>rfl
 |some o=>grind
theorem L0d{t e ty sz by_:Nat}{i:TypeInfo}{z:Value}(n:P.underlying t=some (.slice e))(m:P.info? e=some i)(T:i.zero=some z)(am:i.size=sz)(ap:0<sz)
  (Y:i.bytes=by_) (X:0<by_) (an:z.cells.size=sz) {v:Value} {nn:Bool} {xs:List (List Value)} (s:j07 h H v e sz nn xs) (l:Vis H w) (al:∀ b o,h b=some o->H b=some o)
  {y:Value} {a:List (List Value)} (I:Z0n w y sz a) (Q:d07 (xs.length+a.length) by_) :
  ∃ C V D,(Builtin.append_ #[t,t] ty #[v,y]).run P w = .ok C V/\I3 H w D V/\j07 h D C e sz (nn || a05 a) (xs++a) /\
   (∀ b,v.ownBlock≠some b->H b≠none->D b=H b)/\(∀ g,C.ownBlock=some g->v.ownBlock=some g∨H g=none)/\(a = []->C=v):=by
 subst am
 subst Y
 have ai:xs.length+a.length<=140737488355328:=Nat.le_trans (Nat.le_mul_of_pos_right _ X) Q
 have ah:((xs.length+a.length:Nat):Int)<=9223372036854775807:=by omega
 have K:∀ x∈xs++a,x.length=i.size/\∀ v∈x,v.oneCell'=true:=λx d=>by
  rcases List.mem_append.1 d with d|d
  ·exact s.1 x d
  ·exact I.1 x d
 have L:=j04 xs (λx d=>(s.1 x d).1)
 have q:=j04 a (λx d=>(I.1 x d).1)
 have ak:∀ u∈a.flatten,u.oneCell'=true:=λu ar=>by
  grind[List.mem_flatten]
 have Z:∀ f,grownCap w (xs.length+a.length) f e<=maxLen:=λf=>grownCap_le_maxLen w _ f e (by unfold maxLen;omega)
 have grown:∀ f,j07 h (H.set w.heap.size (.cells (xs.flatten.toArray++a.flatten.toArray++Builtin.zeroCells z.cells (grownCap w (xs.length+a.length) f e-(xs.length+a.length))) e (0,0)))
   (.slice (some ⟨w.heap.size,0,none⟩) (xs++a).length (grownCap w (xs.length+a.length) f e)) e i.size (nn || a05 a) (xs++a):=λf=>by
  have ae:=grownCap_ge w (xs.length+a.length) f e
  refine d0f al (D03 l) K (by simpa using ae) (Z f) ?_ ?_
  ·simp only[Array.size_append,List.size_toArray,L,q,size_zeroCells,an,←Nat.add_mul]
   congr 1;omega
  ·simp only[Array.toList_append,List.flatten_append,List.append_assoc,List.length_append]
   rw[←List.append_assoc,List.take_append_of_le_length (by grind),List.take_of_length_le (by grind)]
 have R:a = []->j07 h H v e i.size (nn || a05 a) (xs++a):=λG=>by grind[a05]
 have U:∀(x:Obj) b,v.ownBlock≠some b->H b≠none->(H.set w.heap.size x) b=H b:=λx b _ ao=>Hp.set_other _ _ (λe=>by grind[D03])
 rcases I.2 with⟨E,c,rfl,F⟩|⟨c,rfl,J⟩
 ·rcases s.2 with⟨rfl,rfl,rfl⟩|⟨g,cap,cur,rfl,ad,N,O,aa,ab,aq⟩
  ·by_cases hm:a.length=0
   ·have J:a = []:=List.eq_nil_of_length_eq_zero hm
    refine⟨_,w,H,?_,I3.refl l,R J,λ_ _ _=>rfl,λg B => .inl B,λ_=>rfl⟩
    simp[Builtin.append_,run_underlying n,sizeOf,typeInfo,m,Builtin.lenOf,Builtin.firstCells,loadCells,loadCellsFrom,hm]
   ·have A:=run_append_nil (P:=P) w t ty e i z n m T E a.length c a.flatten q F (by omega) (by simp at ai;omega) (by grind[d07])
    have p:=grown 0
    simp only[List.length_nil,Nat.zero_add,List.nil_append,List.flatten_nil]at p
    simp only[Array.empty_append]at p
    refine⟨_,_,_,A,I3.newD l _ rfl,by simpa using p,U _,λg B => .inr ?_,λe=>by grind⟩
    grind[Value.ownBlock,D03]
  ·have aj:∀ j u,xs.flatten[j]?=some u->w.cell? ((⟨g,0,none⟩:Addr).add j)=some u:=λj u af=>by
    rw[E02,Nat.zero_add]
    refine a07 l rfl ?_
    exact s.cells rfl j u af
   by_cases hroom:xs.length+a.length<=cap
   ·have S:=l _ _ N
    have ac:xs.length*i.size+a.flatten.length<=cur.size:=by rw[q,ab,←Nat.add_mul];exact Nat.mul_le_mul_right _ hroom
    have A:=run_append_room (P:=P) w t ty e i n m g xs.length cap cur S E a.length c a.flatten q F ak hroom ac
    refine⟨_,_,H.set g (.cells (cur.toList.take (xs.length*i.size)++a.flatten++cur.toList.drop (xs.length*i.size+a.flatten.length)).toArray e (0,0)),A,
     I3.upd l N (λ_=>rfl) rfl rfl rfl (by simp) (setRow_heap w g cur _ e _ S) (λk ag=>setRow_other w g k _ ag),?_,?_,λW M => .inl M,λG=>by simp[G]⟩
    ·refine⟨K,.inr ⟨g,cap,_,by simp,ad,Hp.set_same _ _ _,by simpa using hroom,aa,?_,?_⟩⟩
     ·grind
     grind[List.flatten_append,List.length_append,Nat.add_mul,List.take_of_length_le]
    grind[Hp.set_other,Value.ownBlock]
   ·have A:=run_append_grow (P:=P) w t ty e i z n m T ⟨g,0,none⟩ xs.length cap xs.flatten L aj E a.length c a.flatten q F (by omega) ah (growslice_fits (by omega) Q)
    have p:=grown cap
    refine⟨_,_,_,A,I3.newD l _ rfl,by simpa using p,U _,λW M => .inr ?_,λG=>by grind⟩
    grind[Value.ownBlock,D03]
 ·refine⟨v,w,H,?_,I3.refl l,R J,λ_ _ _=>rfl,λg B => .inl B,λ_=>rfl⟩
  rcases s.2 with⟨rfl,_⟩|⟨g,cap,cur,rfl,_,_,O,_⟩
  ·simp[Builtin.append_,run_underlying n,sizeOf,typeInfo,m,Builtin.lenOf,Builtin.firstCells]
  ·simp[Builtin.append_,run_underlying n,sizeOf,typeInfo,m,Builtin.lenOf,Builtin.firstCells,O,storeCells]
theorem j0a(b:Nat):∀(vs:List Value) (o:Nat) (w:World) (cur:Array Value) (ty:TypeId) (a:Nat×Nat),w.heap[b]?=some (.cells cur ty a)->(w.setCells b o vs).heap[b]?=some (.cells (R3 cur.toList o vs).toArray ty a)
 | [],o,w,cur,ty,a,h=>by simp_all[World.setCells,R3]
 |v::r,o,w,cur,ty,a,h=>by
  have c:(w.setCell ⟨b,o,none⟩ v).heap[b]?=some (.cells (cur.setIfInBounds o v) ty a):=by simp[World.setCell,Array.getElem?_modify,h]
  have:=j0a b r (o+1) _ _ _ _ c
  simp_all[World.setCells,R3]
theorem U08(b:Nat):∀(vs:List Value) (o:Nat) (w:World) (k:Nat),k≠b->(w.setCells b o vs).heap[k]?=w.heap[k]?
 | [],o,w,k,h=>rfl
 |v::r,o,w,k,h=>by
  rw[World.setCells,U08 b r (o+1) _ k h]
  simp only[World.setCell,Array.getElem?_modify]
  rw[if_neg (λe=>h e.symm)]
theorem M0d(b:Nat):∀(vs:List Value) (o:Nat) (w:World),(w.setCells b o vs).drawn=w.drawn
 | [],o,w=>rfl
 |v::r,o,w=>by
  rw[World.setCells,M0d b r (o+1)]
  unfold World.setCell
  split<;>rfl
theorem k0a(b:Nat):∀(vs:List Value) (o:Nat) (w:World),(w.setCells b o vs).os=w.os/\(w.setCells b o vs).tape=w.tape/\(w.setCells b o vs).output=w.output/\(w.setCells b o vs).heap.size=w.heap.size
 | [],o,w=>⟨rfl,rfl,rfl,rfl⟩
 |v::r,o,w=>by
  obtain⟨a,c,d,e⟩:=k0a b r (o+1) (w.setCell ⟨b,o,none⟩ v)
  grind[World.setCells,World.setCell]
theorem e05:∀(a vs:List Value) (off j:Nat),off+a.length<=vs.length->(R3 vs off a)[j]?=if off<=j/\j<off+a.length then a[j-off]? else vs[j]?
 | [],vs,off,j,h=>by
  simp only[R3,List.length_nil,Nat.add_zero]
  rw[if_neg (by omega)]
 |n::a,vs,off,j,h=>by
  simp only[List.length_cons]at h
  rw[R3,e05 a _ (off+1) j (by simp;omega)]
  grind
theorem Y0i{t e ty sz by_:Nat}{i:TypeInfo}{z:Value}(G:P.underlying t=some (.slice e))(E:P.info? e=some i)(am:i.zero=some z)(ai:i.size=sz)(ay:0<sz)
  (W:i.bytes=by_) (V:0<by_) (an:z.cells.size=sz) {g o n c:Nat} {xs:List (List Value)} (U:g0e h sz (.slice (some ⟨g,o,none⟩) n c) xs) (l:Vis h w)
  {y:Value} {a:List (List Value)} (s:Z0n w y sz a) (Q:d07 (xs.length+a.length) by_) :
  ∃ R S h',(Builtin.append_ #[t,t] ty #[.slice (some ⟨g,o,none⟩) n c,y]).run P w = .ok R S/\I3 h w h' S/\Y0g h h' sz g R (xs++a):=by
 subst ai
 subst W
 have ax:xs.length+a.length<=140737488355328:=Nat.le_trans (Nat.le_mul_of_pos_right _ V) Q
 have ac:((xs.length+a.length:Nat):Int)<=9223372036854775807:=by omega
 obtain⟨B,av,az,au,cur,m,T,O,L,M,q,D⟩:=U
 cases T
 have J:∀ x∈xs++a,x.length=i.size/\∀ v∈x,v.oneCell'=true:=λx f=>by
  rcases List.mem_append.1 f with f|f
  ·exact B x f
  ·exact s.1 x f
 have N:=j04 xs (λx f=>(B x f).1)
 have p:=j04 a (λx f=>(s.1 x f).1)
 have af:∀ u∈a.flatten,u.oneCell'=true:=λu aj=>by
  obtain⟨x,f,ak⟩:=List.mem_flatten.1 aj
  exact(s.1 x f).2 u ak
 have ag:a = []->Y0g h h i.size g (.slice (some ⟨g,o,none⟩) xs.length c) (xs++a):=λad=>by
  subst ad
  rw[List.append_nil]
  exact⟨⟨B,g,o,c,cur,m,rfl,O,L,M,q,D⟩,g,o,_,c,rfl,.inl rfl,λ_ _=>rfl⟩
 have H:=l _ _ q
 rcases s.2 with⟨I,A,rfl,K⟩|⟨A,rfl,al⟩
 ·by_cases hroom:xs.length+a.length<=c
  ·have X:o+xs.length*i.size+a.flatten.length<=cur.size:=by
    have:(xs.length+a.length)*i.size<=c*i.size:=Nat.mul_le_mul_right _ hroom
    rw[Nat.add_mul]at this
    rw[p]
    omega
   have aa:∀ j,j<a.flatten.length->(w.cell? ⟨g,o+xs.length*i.size+j,none⟩).isSome=true:=λj d=>by
    simp only[World.cell?,H]
    simp[show o+xs.length*i.size+j<cur.size by omega]
   have Y:∀ j,j<a.flatten.length->w.frozen? ⟨g,o+xs.length*i.size+j,none⟩=false:=λj d=>by
    rw[i03 (o := .cells cur m (0,0)) H]
    simp[q02]
   have F:=run_append_room_cells (P:=P) w t ty e i G E g o xs.length c I a.length A a.flatten p K af hroom aa Y
   have ah:=j0a g a.flatten (o+xs.length*i.size) w cur m (0,0) H
   obtain⟨ao,ap,aq,ar⟩:=k0a g a.flatten (o+xs.length*i.size) w
   refine⟨_,_,h.set g (.cells (R3 cur.toList (o+xs.length*i.size) a.flatten).toArray m (0,0)),F,
    I3.upd l q (λ_=>rfl) ao ap aq ar ah (λk ab=>U08 _ _ _ _ k ab) (Nat.le_of_eq (M0d _ _ _ _).symm),⟨J,g,o,c,_,m,by rw[List.length_append],by rw[List.length_append];exact hroom,L,?_,Hp.set_same _ _ _,λj u d=>?_⟩,g,o,_,c,rfl,.inl rfl,λb C=>Hp.set_other _ _ C⟩
   ·simpa [d8] using M
   ·rw[List.flatten_append]at d
    rw[List.getElem?_toArray,e05 _ _ _ _ (by simpa using X)]
    by_cases hlt:j<xs.flatten.length
    ·rw[List.getElem?_append_left hlt]at d
     rw[if_neg (by omega),Array.getElem?_toList]
     exact D j u d
    ·rw[List.getElem?_append_right (by omega)]at d
     have aw:=(List.getElem?_eq_some_iff.1 d).1
     rw[if_pos (by omega),show o+j-(o+xs.length*i.size)=j-xs.flatten.length by omega]
     exact d
  ·have ae:∀ j u,xs.flatten[j]?=some u->w.cell? ((⟨g,o,none⟩:Addr).add j)=some u:=λj u d=>by
    rw[E02]
    refine a07 l rfl ?_
    simp only[Hp.cell,q]
    exact D j u d
   have F:=run_append_grow (P:=P) w t ty e i z G E am ⟨g,o,none⟩ xs.length c xs.flatten N ae I a.length A a.flatten p K (by omega) ac (growslice_fits (by omega) Q)
   have Z:=grownCap_ge w (xs.length+a.length) c e
   refine⟨_,_,_,F,I3.newD l _ rfl,⟨J,w.heap.size,0,grownCap w (xs.length+a.length) c e,_,e,by rw[List.length_append],by rw[List.length_append];exact Z,grownCap_le_maxLen w _ c e (by unfold maxLen;omega),?_,Hp.set_same _ _ _,λj u d=>?_⟩,w.heap.size,0,_,_,rfl,.inr (D03 l),λb C=>Hp.set_other _ _ C⟩
   ·simp only[Array.size_append,List.size_toArray,N,p,size_zeroCells,an,←Nat.add_mul,Nat.zero_add]
    refine Nat.le_of_eq ?_
    congr 1;omega
   ·rw[List.flatten_append]at d
    rw[Nat.zero_add,←Array.getElem?_toList]
    simp only[Array.toList_append]
    rw[List.getElem?_append_left (by simpa using (List.getElem?_eq_some_iff.1 d).1)]
    exact d
 ·refine⟨_,w,h,?_,I3.refl l,ag al⟩
  simp[Builtin.append_,run_underlying G,sizeOf,typeInfo,E,Builtin.lenOf,Builtin.firstCells,O,storeCells]
theorem Z0i{t e ty sz by_:Nat}{i:TypeInfo}{z:Value}(G:P.underlying t=some (.slice e))(D:P.info? e=some i)(I:i.zero=some z)(F:i.size=sz)(_:0<sz)
  (A:i.bytes=by_) (v:0<by_) (J:z.cells.size=sz) (n:Vis h w)
  {y:Value} {a:List (List Value)} (d:Z0n w y sz a) (l:a05 a=true) (m:d07 a.length by_) :
  ∃ o p h',(Builtin.append_ #[t,t] ty #[.slice none 0 0,y]).run P w = .ok o p/\I3 h w h' p/\t0m h h' sz o a:=by
 subst F
 subst A
 have K:a.length<=140737488355328:=Nat.le_trans (Nat.le_mul_of_pos_right _ v) m
 have g:=j04 a (λx H=>(d.1 x H).1)
 rcases d.2 with⟨q,c,rfl,B⟩|⟨c,rfl,f⟩
 ·by_cases hm:a.length=0
  ·have f:a = []:=List.eq_nil_of_length_eq_zero hm
   subst f;cases l
  ·have E:=run_append_nil (P:=P) w t ty e i z G D I q a.length c a.flatten g B (by omega) (by omega) (Nat.le_trans m (by decide))
   have C:=grownCap_ge w a.length 0 e
   refine⟨_,_,_,E,I3.newD n _ rfl,⟨d.1,w.heap.size,0,grownCap w a.length 0 e,_,e,rfl,C,grownCap_le_maxLen w _ 0 e (by unfold maxLen;omega),?_,Hp.set_same _ _ _,λj u k=>?_⟩,w.heap.size,0,_,_,rfl,D03 n,λb s=>Hp.set_other _ _ s⟩
   ·simp only[Array.size_append,List.size_toArray,g,size_zeroCells,J,←Nat.add_mul,Nat.zero_add]
    refine Nat.le_of_eq ?_
    congr 1;omega
   ·rw[Nat.zero_add,←Array.getElem?_toList]
    simp only[Array.toList_append]
    rw[List.getElem?_append_left (by simpa using (List.getElem?_eq_some_iff.1 k).1)]
    exact k
 ·subst f;cases l
theorem B0a{e sz by_:Nat}{z:Value}(a:d6 P e=some sz)(b:z0a P e=some by_)(c:Q01 P e=some z):∃ i,P.info? e=some i/\i.size=sz/\i.bytes=by_/\i.zero=some z:=by
 grind[d6,z0a,Q01]
theorem Z05(s:Sim P h0 w0 be oe H st h a w){sz:Nat}(N:0<sz){b:Operand}{K:List (List Value)->Prop}(d:P0e st h sz (rdO st b) K):∃ e,K e/\Z0n w (a.eval b) sz e:=by
 have g:=s.rdO b
 unfold P0e at d
 split at d
 ·rename_i j k l
  obtain⟨L,R,J,Q,G,o⟩:=N07 l
  rw[l]at g
  simp only[o]at d
  split at d
  ·rename_i A
   have D:=Nat.eq_of_beq_eq_true A
   subst D
   refine⟨G,d,?_⟩
   have p:=s.own j _ _ _ _ _ _ o
   rw[g.own_cur o]
   refine⟨p.1,?_⟩
   rcases p.2 with⟨f,i,_⟩|⟨z,cap,cur,f,i,q,_⟩
   ·grind
   ·refine .inl ⟨⟨z,0,none⟩,cap,f,λj u m=>?_⟩
    rw[E02,Nat.zero_add]
    exact a07 s.mv.vis rfl (p.cells f j u m)
  ·exact d.elim
 ·rename_i v l
  rw[l]at g
  obtain⟨e,C,B⟩:=d
  refine⟨e,B,?_⟩
  have E:a.eval b=v:=g
  rw[E]
  obtain⟨f,x,n,c,rfl,rfl,M,i⟩:=C
  refine⟨f,?_⟩
  rcases i with i|⟨t,F,rfl,q⟩
  ·cases x with
   |none =>
    have O:e = []:=by
     cases e with
     |nil=>rfl
     |cons y r =>
      simp_all
    grind
   |some I=>grind
  ·refine .inl ⟨⟨t,F,none⟩,c,rfl,λj u m=>?_⟩
   rw[E02]
   exact a07 (R08 s) rfl (q j u m)
 ·exact d.elim
theorem Y03{t:TypeId}{p q:Operand}{as:Array Operand}{b:Array TypeId}(f:o.op = .call { callee := .builtin .append,args:=as,argTypes:=b })(e:as = #[p,q])(h:b = #[t,t])
  {c:Value} {d:World} (g:(Builtin.append_ #[t,t] o.type #[a.eval p,a.eval q]).run P w = .ok c d):(execOp a.eval o).run P w = .ok (.value c) d:=by
 subst e;subst h
 unfold execOp;rw[f]
 simp only[resolve,invoke,builtin,Sem.run_bind,Sem.run_pure,Result.andThen_ok,List.map_toArray,List.map_cons,List.map_nil,g]
theorem E0p(s:Sim P h0 w0 be oe H st h a w){t:TypeId}{p q:Operand}{as:Array Operand}{W:Array TypeId}(E:o.op = .call { callee := .builtin .append,args:=as,argTypes:=W })
  (B:as = #[p,q]) (G:W = #[t,t]) (c:Q0e P t p q st h K):o.wp P a w (Nx P h0 w0 st be oe K a o.dst) Q:=by
 unfold Q0e at c
 split at c
 rotate_left
 ·exact c.elim
 rename_i e aj
 split at c
 rotate_left
 ·exact c.elim
 rename_i sz by_ z ah C ak
 split at c
 rotate_left
 ·exact c.elim
 rename_i al
 obtain⟨i,D,J,L,M⟩:=B0a ah C ak
 have F:=u00 aj
 have I:z.cells.size=sz+1:=by simpa using N03 _ _ al
 have g:=s.rdO p
 split at c
 ·rename_i j k x
  obtain⟨ap,au,ao,ar,av,y⟩:=N07 x
  rw[x]at g
  simp only[y]at c
  split at c
  ·rename_i aa ab aq
   have ac:=Nat.eq_of_beq_eq_true aa
   have ai:=Nat.eq_of_beq_eq_true ab
   subst ac
   subst ai
   obtain⟨V,⟨u,f⟩,v⟩:=Z05 s (Nat.succ_pos sz) c
   have ag:=s.own j _ _ _ _ _ _ y
   obtain⟨l,U,N,d,n,A,S,T,_⟩:=L0d (ty:=o.type) F D M J (Nat.succ_pos _) L (Nat.succ_pos _) I ag s.mv.vis s.sub v u
   obtain⟨s',O⟩:=s.updOwn (s1:=k+1) (by_:=by_+1) y (Nat.le_succ _) (λe=>absurd e (Nat.succ_ne_self k)) n S A T
   rw[←g.own_cur y]at d
   refine w8 (Y03 E B G d) ⟨_,_,h,l,_,_,_,f,rfl,s',?_,O⟩
   refine⟨k+1,?_,Nat.le_refl _,λ_=>by simp⟩
   simp[stamp,c8 _ _ _ (T02 y)]
  ·exact c.elim
 ·rename_i x
  rw[x]at g
  rcases c with c|c
  rotate_left
  ·obtain⟨V,⟨⟨ad,u⟩,f⟩,v⟩:=Z05 s (Nat.succ_pos sz) c
   obtain⟨l,U,h',d,n,R⟩:=Z0i (ty:=o.type) F D M J (Nat.succ_pos _) L (Nat.succ_pos _) I (R08 s) v ad u
   have m:a.eval p = .slice none 0 0:=g
   rw[←m]at d
   obtain⟨N,s'⟩:=s.moved n
   exact w8 (Y03 E B G d) ⟨_,_,_,l,_,_,_,f _ _ R,rfl,s',rfl,F7.refl _ _ _⟩
  obtain⟨V,⟨u,f⟩,v⟩:=Z05 s (Nat.succ_pos sz) c
  have af:j07 h H (.slice none 0 0) e (sz+1) false []:=⟨by simp,.inl ⟨rfl,rfl,rfl⟩⟩
  obtain⟨l,U,N,d,n,A,S,T,_⟩:=L0d (ty:=o.type) F D M J (Nat.succ_pos _) L (Nat.succ_pos _) I af s.mv.vis s.sub v (by simpa using u)
  simp only[Bool.false_or,List.nil_append]at A
  have ae:∀ g,l.ownBlock=some g->H g=none:=λg m=>(T g m).resolve_left (by simp[Value.ownBlock])
  rw[F0c]at f
  obtain⟨s',O⟩:=s.newOwn (by_:=by_+1) (λb o C=>by rw[S b (by simp[Value.ownBlock]) (by rw[C];simp)];exact C) n A ae
  have m:a.eval p = .slice none 0 0:=g
  rw[←m]at d
  refine w8 (Y03 E B G d) ⟨_,_,h,l,_,_,_,f,rfl,s',?_,O⟩
  refine⟨0,?_,Nat.le_refl _,λ_=>by simp⟩
  simp[stamp,C03]
 ·rename_i Y an am X x
  rw[x]at g
  obtain⟨V,⟨xs,Z,u,f⟩,v⟩:=Z05 s (Nat.succ_pos sz) c
  obtain⟨l,U,h',d,n,R⟩:=Y0i (ty:=o.type) F D M J (Nat.succ_pos _) L (Nat.succ_pos _) I Z (R08 s) v u
  have m:a.eval p = .slice (some ⟨Y,an,none⟩) am X:=g
  rw[←m]at d
  obtain⟨N,s'⟩:=s.moved n
  exact w8 (Y03 E B G d) ⟨_,_,_,l,_,_,_,f _ _ R,rfl,s',rfl,F7.refl _ _ _⟩
 ·exact c.elim
end
set_option linter.unusedSimpArgs false
section
variable {P:Program} {h0:Hp} {w0:World} {be:Nat->Nat} {oe:Nat->Value} {H:Hp} {st:St} {h:Hp} {a:Act} {w:World} {o:Oper} {K:AV->St->Hp->Prop} {Q:Exit->Act->World->Prop}
theorem Q07:∀(a cs:List Value) (off:Nat),off+a.length<=cs.length->R3 cs off a=cs.take off++a++cs.drop (off+a.length)
 | [],cs,off,_=>by simp[R3]
 |n::a,cs,off,c=>by
  simp only[List.length_cons]at c
  rw[R3,Q07 a (cs.set off n) (off+1) (by simp;omega)]
  rw[List.take_set,List.drop_set_of_lt (by omega)]
  have b:(cs.take (off+1)).set off n=cs.take off ++ [n]:=by
   rw[List.take_succ_eq_append_getElem (by omega),List.set_append_right _ _ (by simp;omega)]
   have:off-(cs.take off).length=0:=by simp;omega
   rw[this]
   simp
  rw[b]
  simp only[List.length_cons,List.append_assoc,List.cons_append,List.nil_append]
  rw[show off+1+a.length=off+(a.length+1) from by omega]
theorem s0b(off:Nat):∀(l:List Value) (k:Nat) (a:Array Value),((l.zipIdx k).foldl (λcs p=>cs.setIfInBounds (off+p.2) p.1) a).toList=R3 a.toList (off+k) l
 | [],k,a=>rfl
 |x::l,k,a=>by
  simp only[List.zipIdx_cons,List.foldl_cons,R3]
  rw[s0b off l (k+1)]
  simp[Nat.add_assoc]
theorem e0f(v:Value)(off:Nat)(a:Array Value):(v.cells.zipIdx.foldl (λcs (p:Value×Nat)=>cs.setIfInBounds (off+p.2) p.1) a).toList=R3 a.toList off v.cells.toList:=by
 rw[←Array.foldl_toList,Array.toList_zipIdx]
 simp_all[s0b]
def D09(a:Act)(sz:Nat):Nat->List (Nat×Operand)->List (List Value)->Prop
 |_,[],[]=>True
 |i,(j,x)::r,c::cs=>j=i/\c=(a.eval x).cells.toList/\c.length=sz/\(∀ v∈c,v.oneCell'=true)/\D09 a sz (i+1) r cs
 |_,_,_=>False
theorem D09.all{sz:Nat}:∀ {i:Nat} {l:List (Nat×Operand)} {xs:List (List Value)},D09 a sz i l xs->(∀ x∈xs,x.length=sz/\∀ v∈x,v.oneCell'=true)/\l.length=xs.length
 |_,[],[],_=>by simp
 |i,(j,x)::r,c::cs,h=>by
  have d:=D09.all h.2.2.2.2
  refine⟨λy b=>?_,by simp[d.2]⟩
  rcases List.mem_cons.1 b with rfl|b
  ·exact⟨h.2.2.1,h.2.2.2.1⟩
  ·exact d.1 y b
 |_,[],_::_,h=>h.elim
 |_,_::_,[],h=>h.elim
theorem f0f{sz:Nat}:∀(l:List (Nat×Operand)) (xs:List (List Value)) (i:Nat) (b:Array Value),D09 a sz i l xs->(i+l.length)*sz<=b.size ->
  ∃ d,Instr.fill (λi=>some (i*sz,sz)) b (l.map λp=>(p.1,a.eval p.2))=some d/\d.toList=b.toList.take (i*sz)++xs.flatten++b.toList.drop ((i+l.length)*sz)
 | [],[],i,b,_,e=>⟨b,rfl,by simp⟩
 |(j,x)::r,c::cs,i,b,h,e=>by
  obtain⟨rfl,g,k,_,o⟩:=h
  have s:(a.eval x).cells.size=sz:=by rw[←k,g];simp
  have y:j*sz+sz<=b.size:=by
   refine Nat.le_trans ?_ e
   simp only[List.length_cons]
   grind
  have f:=e0f (a.eval x) (j*sz) b
  rw[←g]at f
  have q:=Q07 c b.toList (j*sz) (by grind)
  have t:((a.eval x).cells.zipIdx.foldl (λcs (p:Value×Nat)=>cs.setIfInBounds (j*sz+p.2) p.1) b).size=b.size:=by
   grind[Array.length_toList,d8]
  obtain⟨d,w,m⟩:=f0f r cs (j+1) ((a.eval x).cells.zipIdx.foldl (λcs (p:Value×Nat)=>cs.setIfInBounds (j*sz+p.2) p.1) b) o (by
   rw[t];simp only[List.length_cons]at e;grind)
  refine⟨d,?_,?_⟩
  ·simp only[List.map_cons,Instr.fill,s,ne_eq,not_true_eq_false,decide_false,Bool.false_or,decide_eq_true_eq]
   grind
  ·rw[m,f,q,k]
   have u:(b.toList.take (j*sz)++c++b.toList.drop (j*sz+sz)).take ((j+1)*sz)=b.toList.take (j*sz)++c:=by
    rw[List.take_append_of_le_length,List.take_of_length_le]
    all_goals grind
   have v:(b.toList.take (j*sz)++c++b.toList.drop (j*sz+sz)).drop ((j+1+r.length)*sz)=b.toList.drop ((j+(r.length+1))*sz):=by
    have n:(b.toList.take (j*sz)++c).length=j*sz+sz:=by grind
    rw[List.drop_append,List.drop_eq_nil_of_le (by grind),n,List.nil_append,List.drop_drop]
    congr 1
    simp only[Nat.add_mul]
    omega
   grind
 | [],_::_,_,_,h,_=>h.elim
 |_::_,[],_,_,h,_=>h.elim
theorem N0d{sz:Nat}:∀(l:List (Nat×Operand)) (i:Nat) {st:St} {h:Hp} {K:List (List Value)->St->Hp->Prop},Sim P h0 w0 be oe H st h a w->c0k sz i l st h K ->
  ∃ xs st' h',K xs st' h'/\Sim P h0 w0 be oe H st' h' a w/\F7 st be oe st' be oe/\D09 a sz i l xs
 | [],i,st,h,K,s,b=>⟨[],st,h,b,s,F7.refl _ _ _,trivial⟩
 |(j,x)::r,i,st,h,K,s,b=>by
  simp only[c0k]at b
  split at b
  ·rename_i k
   have m:=Nat.eq_of_beq_eq_true k
   obtain⟨u,t,c,s1,e⟩:=X03 s (s.rdO x) b
   split at c
   ·rename_i n o
    obtain⟨xs,q,g,d,s2,f,p⟩:=N0d r (i+1) s1 c
    exact⟨_,q,g,d,s2,e.trans f,m.symm,rfl,N03 _ _ n,c05 _ o,p⟩
   ·exact c.elim
  ·exact b.elim
theorem c0h(s:Sim P h0 w0 be oe H st h a w){t n:Nat}{ps:Array (Nat×Operand)}{e sz by_:Nat}{z:Value}(L:o.op = .buildSlice t n ps)(O:j02 P t=some e)(N:d6 P e=some (sz+1))
  (S:Q01 P e=some z) (X:Nat.beq n ps.size=true) (F:Nat.ble (n*(sz+1)) 16777216=true)
  (D:c0k (sz+1) 0 ps.toList st h λxs st h=>newOwn st e (sz+1) by_ true xs λav st=>K av st h):o.wp P a w (Nx P h0 w0 st be oe K a o.dst) Q:=by
 obtain⟨xs,Z,B,m,s1,v,T⟩:=N0d _ _ s D
 obtain⟨C,V⟩:=T.all
 have j:n=xs.length:=by simp_all
 have G:=Nat.le_of_ble_eq_true F
 have R:wpS P (execOp a.eval o) H (λu l=>∃ b c,H b=none/\u = .value (.slice (some ⟨b,0,none⟩) xs.length xs.length)/\l=H.set b (.cells c e (0,0))/\c.toList=xs.flatten/\c.size=xs.length*(sz+1)):=by
  unfold execOp;rw[L]
  refine o8 _ _ _ ?_
  have q:∀ c:Array Value,c.size=xs.length*(sz+1)->∃ d,Instr.fill (λi=>some (i*(sz+1),sz+1)) c (ps.toList.map λp=>(p.1,a.eval p.2))=some d/\d.toList=xs.flatten/\d.size=xs.length*(sz+1):=by
   grind[f0f,Array.length_toList,j04]
  have E : ¬ (n*(sz+1)>2 ^ 24):=Nat.not_lt.2 G
  simp only[Instr.buildSlice,J2,M3 (u00 O),P00 N,if_neg E,O2]
  have W:(ps.map λx=>(x.1,a.eval x.2)).toList=ps.toList.map λp=>(p.1,a.eval p.2):=by simp
  by_cases h00:n*(sz+1)=0
  ·simp only[if_pos h00,O2]
   obtain⟨d,k,f2,f3⟩:=q ((Array.range (n*(sz+1))).map λi=>(#[]:Array Value)[i % (#[]:Array Value).size]!) (by simp[j])
   rw[show(Array.map (λx=>(x.1,a.eval x.2)) ps).toList=ps.toList.map λp=>(p.1,a.eval p.2) from by simp]
   simp only[k,J2,newRow,newObj,wpS,O2]
   exact λb f=>⟨b,d,f,by rw[j],rfl,f2,f3⟩
  ·simp only[if_neg h00,J2,T08 S,O2]
   obtain⟨d,k,f2,f3⟩:=q ((Array.range (n*(sz+1))).map λi=>z.cells[i % z.cells.size]!) (by simp[j])
   rw[show(Array.map (λx=>(x.1,a.eval x.2)) ps).toList=ps.toList.map λp=>(p.1,a.eval p.2) from by simp]
   simp only[k,J2,newRow,newObj,wpS,O2]
   exact λb f=>⟨b,d,f,by rw[j],rfl,f2,f3⟩
 obtain⟨u,l,aa,M,⟨b,c,f,rfl,rfl,f2,f3⟩,J⟩:=I00 _ _ _ s1.mv.vis R
 have I:xs.length<=maxLen:=by
  have:xs.length<=xs.length*(sz+1):=Nat.le_mul_of_pos_right _ (Nat.succ_pos _)
  grind[maxLen]
 rw[F0c]at m
 obtain⟨s',A⟩:=s1.newOwn (nn:=true) (by_:=by_) (λx y Y=>by grind[Hp.set_other]) J
  (d0f s1.sub f C (Nat.le_refl _) I f3 (by rw[f2,List.take_of_length_le (by grind)])) (λg U=>by grind[Value.ownBlock])
 refine w8 M ⟨_,_,B,_,_,_,_,m,rfl,s',?_,v.trans A⟩
 refine⟨0,?_,Nat.le_refl _,λ_=>by simp⟩
 simp[stamp,C03]
theorem a06{sz:Nat}(b:List Value)(c:b.length=sz)(d:0<sz):∀(l j:Nat),j<l*sz->(List.replicate l b).flatten[j]?=b[j % sz]?
 |0,j,h=>by simp at h
 |l+1,j,h=>by
  simp only[List.replicate_succ,List.flatten_cons]
  have h':j<l*sz+sz:=by grind
  by_cases hj:j<sz
  ·rw[List.getElem?_append_left (by omega),Nat.mod_eq_of_lt hj]
  ·rw[List.getElem?_append_right (by omega),c,a06 b c d l (j-sz) (by omega),←Nat.mod_eq_sub_mod (a:=j) (by omega)]
theorem F0p{sz:Nat}(z:Value)(b:z.cells.toList.length=sz)(c:0<sz)(l n:Nat)(e:l*sz<=n):(madeCells z.cells n).toList.take (l*sz)=(List.replicate l z.cells.toList).flatten:=by
 have d:z.cells.size=sz:=by simpa using b
 apply List.ext_getElem?
 intro j
 rw[List.getElem?_take]
 by_cases hj:j<l*sz
 ·rw[if_pos hj,a06 _ b c l j hj]
  have a:j % sz<z.cells.size:=by simp_all[Nat.mod_lt]
  simp only[madeCells,d,Array.toList_map,Array.toList_range,List.getElem?_map,List.getElem?_range (show j<n from by omega),Option.map_some,Array.getElem?_toList,Array.getElem?_eq_getElem a]
  congr 1
  simp[a]
 ·rw[if_neg hj]
  simp_all
theorem a0j(s:Sim P h0 w0 be oe H st h a w){t e sz by_:Nat}{l c:Operand}{z:Value}{k j:IntKind}{d b:Int}(X:o.op = .makeSlice t l c)(O:j02 P t=some e)
  (N:d6 P e=some (sz+1)) (D:z0a P e=some by_) (R:Q01 P e=some z) (I:rdO st l = .val (.int k d)) (F:rdO st c = .val (.int j b))
  (S:K07 z.cells.toList (sz+1)=true) (Y:Q05 z.cells.toList=true) (E:0<=d/\d<=b/\b*by_<=140737488355328/\b<=9223372036854775807)
  (n:newOwn st e (sz+1) by_ true (List.replicate d.toNat z.cells.toList) λav st=>K av st h):o.wp P a w (Nx P h0 w0 st be oe K a o.dst) Q:=by
 obtain⟨i,G,u,aa,T⟩:=B0a N D R
 have W:a.eval l = .int k d:=by have:=s.rdO l;rw[I]at this;exact this
 have V:a.eval c = .int j b:=by have:=s.rdO c;rw[F]at this;exact this
 obtain⟨v,A,U,B⟩:=E
 have J:=N03 _ _ S
 have Z:=run_make (P:=P) w t e i z (u00 O) G T k j d b v A (by grind) B
 have M:(execOp a.eval o).run P w = .ok (.value (.slice (some ⟨w.heap.size,0,none⟩) d.toNat b.toNat)) (w.alloc (.cells (madeCells z.cells (b.toNat*i.size)) e)):=by
  simp_all[execOp,Sem.run_bind,Result.andThen_ok,Sem.run_pure]
 have L:I3 H w (H.set w.heap.size (.cells (madeCells z.cells (b.toNat*i.size)) e (0,0))) (w.alloc (.cells (madeCells z.cells (b.toNat*i.size)) e)):=I3.new s.mv.vis _ rfl
 have p:(List.replicate d.toNat z.cells.toList).length=d.toNat:=by simp
 have m:=d0f (h:=h) (H:=H) (e:=e) (sz:=sz+1) (nn:=true) (cap:=b.toNat) (xs:=List.replicate d.toNat z.cells.toList) (cur:=madeCells z.cells (b.toNat*i.size)) s.sub (D03 s.mv.vis)
  (λx f=>by grind[c05]) (by simp;omega) (by unfold maxLen;omega) (by rw[size_madeCells,u])
  (by rw[p,u];exact F0p z J (Nat.succ_pos _) _ _ (Nat.mul_le_mul_right _ (by omega)))
 rw[p]at m
 rw[F0c]at n
 obtain⟨s',C⟩:=s.newOwn (by_:=by_) (λx y f=>by rw[Hp.set_other _ _ (λe=>by subst e;rw[D03 s.mv.vis]at f;cases f)];exact f) L m
  (λg q=>by simp[Value.ownBlock]at q;rw[←q];exact D03 s.mv.vis)
 refine w8 M ⟨_,_,h,_,_,_,_,n,rfl,s',?_,C⟩
 refine⟨0,?_,Nat.le_refl _,λ_=>by simp⟩
 simp[stamp,C03]
end
section
variable {P:Program} {h0:Hp} {w0:World} {be:Nat->Nat} {oe:Nat->Value} {H:Hp} {st:St} {h:Hp} {a:Act} {w:World} {o:Oper} {K:AV->St->Hp->Prop} {Q:Exit->Act->World->Prop}
theorem b0j(s:Sim P h0 w0 be oe H st h a w){t:TypeId}{x i:Operand}(z:o.op = .indexAddr t x i)
  (d:match rdO st i with
  | .val (.int _ j)=>match j02 P t with
   |some e=>match d6 P e with
    |some sz=>match rdO st x with
     | .val (.slice a n c)=>InB (.slice a n c) j/\K (.hel (.slice a n c) j sz 0) st h
     | .own i k=>match nth st.ow i with
      |some ⟨_,.live _ M _ _ xs⟩=>match Nat.beq M sz with
       |true=>(0<=j/\j<(xs.length:Int))/\K (.oel i k j sz 0) st h
       |false=>False
      |_=>False
     |_=>False
    |none=>False
   |none=>match rdO st x,A0q P t j with
    | .box i off,some l=>K (.box i (off+l)) st h
    | .hel s i sz k,some l=>K (.hel s i sz (k+l)) st h
    | .oel i s j sz k,some l=>K (.oel i s j sz (k+l)) st h
    |_,_=>False
  |_=>False):o.wp P a w (Nx P h0 w0 st be oe K a o.dst) Q:=by
 have gi:=s.rdO i
 have f:=s.rdO x
 split at d
 rotate_left
 ·exact d.elim
 rename_i k j T
 rw[T]at gi
 split at d
 rotate_left
 ·split at d
  ·rename_i m off l p y
   rw[p]at f
   exact B7 s (av := .box m (off+l)) (O07 z y f.2 gi) ⟨f.1,rfl⟩ d
  ·rename_i sl m sz F l p y
   rw[p]at f
   obtain⟨b,X,n,c,v,D⟩:=f
   refine B7 s (av := .hel sl m sz (F+l)) (O07 z y D gi) ⟨b,X,n,c,v,?_⟩ d
   simp[Nat.add_assoc]
  ·rename_i m Y W sz F l p y
   rw[p]at f
   obtain⟨e,M,by_,nn,xs,q⟩:=V0i p
   obtain⟨R,n,c,v,D⟩:=f.oel_cur q
   obtain⟨aa,N,O,af⟩:=f
   refine B7 s (av := .oel m Y W sz (F+l)) (O07 z y D gi) ⟨aa,N,O,λ_=>⟨R,n,c,v,by simp[Nat.add_assoc]⟩⟩ d
  ·exact d.elim
 rename_i e I
 split at d
 rotate_left
 ·exact d.elim
 rename_i sz G
 split at d
 ·rename_i ab n c A
  rw[A]at f
  obtain⟨⟨b,off,ag,ad,v,C,u⟩,E⟩:=d
  cases v
  exact B7 s (av := .hel _ j sz 0) (exec_indexAddr z I G f gi C u) ⟨b,off,n,c,rfl,by simp⟩ E
 ·rename_i m L A
  obtain⟨ae,Z,ac,ah,xs,q⟩:=N07 A
  rw[A]at f
  simp only[q]at d
  split at d
  ·rename_i S
   have V:=Nat.eq_of_beq_eq_true S
   subst V
   obtain⟨⟨C,u⟩,E⟩:=d
   have U:=s.own m _ _ _ _ _ _ q
   rcases U.2 with⟨_,B,_⟩|⟨g,cap,cur,J,_⟩
   ·rw[B]at u;simp at u;omega
   ·have B:=f.own_cur q
    rw[J]at B
    refine B7 s (av := .oel m L j Z 0) (exec_indexAddr z I G B gi C u) ⟨L,by simp[stamp,q],Nat.le_refl _,λ_=>⟨g,xs.length,cap,J,by simp⟩⟩ E
  ·exact d.elim
 ·exact d.elim
theorem E09{sz:Nat}:∀(xs:List (List Value)) (k:Nat),(∀ x∈xs,x.length=sz)->(xs.take k).flatten=xs.flatten.take (k*sz)
 | [],k,_=>by simp
 |x::xs,0,_=>by simp
 |x::xs,k+1,a=>by
  have b:=a x mS
  simp only[List.take_succ_cons,List.flatten_cons]
  rw[E09 xs k (λy c=>a y (mC _ c)),List.take_append (l₁:=x),List.take_of_length_le (l:=x) (by grind),b,Nat.add_mul,Nat.one_mul,Nat.add_sub_cancel]
theorem y0h{sz:Nat}:∀(xs:List (List Value)) (k:Nat),(∀ x∈xs,x.length=sz)->(xs.drop k).flatten=xs.flatten.drop (k*sz)
 | [],k,_=>by simp
 |x::xs,0,_=>by simp
 |x::xs,k+1,a=>by
  have b:=a x mS
  simp only[List.drop_succ_cons,List.flatten_cons]
  rw[y0h xs k (λy c=>a y (mC _ c)),List.drop_append (l₁:=x),List.drop_of_length_le (l:=x) (by grind),b,Nat.add_mul,Nat.one_mul,Nat.add_sub_cancel,List.nil_append]
def b06(a:Act)(d:Int)(x:Option Operand)(l:Int):Prop:=match x with
 |none=>l=d
 |some y=>∃ k,a.eval y = .int k l
theorem R07(s:Sim P h0 w0 be oe H st h a w){d l:Int}{x:Option Operand}(b:z06 d (x.map (rdO st))=some l):b06 a d x l:=by
 cases x with
 |none=>simp only[Option.map_none,z06,Option.some.injEq]at b;exact b.symm
 |some y =>
  have g:=s.rdO y
  simp only[Option.map_some]at b
  cases hr:rdO st y with
  |val v =>
   rw[hr]at b g
   cases v<;>simp only[z06,Option.some.injEq]at b<;>first|(subst b;exact⟨_,g⟩)|cases b
  |_=>rw[hr]at b;cases b
theorem F09{x:Value}{k:IntKind}{i:Int}{y:Nat}{b:BoundsCode}(e:x = .int k i)(c:0<=i)(d:i<=(y:Int))(a:Nat->Hp->Prop):wpS P (Instr.sliceBound x y b) H a=a i.toNat H:=by
 subst e
 simp only[Instr.sliceBound,asIntOf,J2,O2,c,d,and_self,if_true]
theorem g0f{isS:Bool}{n c:Nat}{f b:Option Operand}{l m:Int}(i:b06 a 0 f l)(d:b06 a n b m)(h:0<=l)(s:l<=m)(t:m<=(n:Int))(u:n<=c)
  (g:Nat×Nat×Nat->Hp->Prop):wpS P (Instr.sliceBounds isS n c (f.map a.eval) (b.map a.eval) none) H g=g (l.toNat,m.toNat,c) H:=by
 have q:l<=(m.toNat:Int):=by omega
 cases f with
 |none =>
  have p:l=0:=i
  subst p
  cases b with
  |none =>
   have j:m=(n:Int):=d
   simp_all[Instr.sliceBounds,Option.map_none,J2,O2]
  |some y =>
   obtain⟨k,e⟩:=d
   simp only[Instr.sliceBounds,Option.map_none,Option.map_some,J2,O2,F09 e (by omega) (show m<=(c:Int) by omega)];rfl
 |some x =>
  obtain⟨k,o⟩:=i
  cases b with
  |none =>
   have j:m=(n:Int):=d
   subst j
   simp only[Instr.sliceBounds,Option.map_none,Option.map_some,J2,O2,F09 o h (show l<=((n:Nat):Int) by omega)];rfl
  |some y =>
   obtain⟨v,e⟩:=d
   simp only[Instr.sliceBounds,Option.map_some,J2,O2,F09 e (by omega) (show m<=(c:Int) by omega),F09 o h q]
theorem exec_slice{t e sz:Nat}{x:Operand}{g f:Option Operand}{d:Option Addr}{n c:Nat}{l m:Int}(s:o.op = .slice t x g f none)(u:j02 P t=some e)(y:d6 P e=some sz)
  (v:a.eval x = .slice d n c) (k:b06 a 0 g l) (p:b06 a n f m) (h:0<=l) (i:l<=m) (j:m<=(n:Int)) (q:n<=c) :
  ∀ b:Next->Hp->Prop,b (.value (.slice (if c=l.toNat then d else d.map (·.add (l.toNat*sz))) (m.toNat-l.toNat) (c-l.toNat))) H->wpS P (execOp a.eval o) H b:=by
 intro b w
 unfold execOp;rw[s]
 refine o8 _ _ _ ?_
 simp only[Instr.sliceAt,J2,M3 (u00 u),Instr.slice,v,Option.map_none]
 rw[g0f k p h i j q]
 grind[P00,O2]
theorem G0p(s:Sim P h0 w0 be oe H st h a w){t e sz:Nat}{x:Operand}{A z:Option Operand}{d:Option Addr}{n c:Nat}(O:o.op = .slice t x A z none)(T:j02 P t=some e)(S:d6 P e=some sz)
  (R:rdO st x = .val (.slice d n c)) (g:w0m sz (.slice d n c) n (A.map (rdO st)) (z.map (rdO st)) st h K):o.wp P a w (Nx P h0 w0 st be oe K a o.dst) Q:=by
 have q:=s.rdO x
 rw[R]at q
 unfold w0m at g
 split at g
 rotate_left
 ·exact g.elim
 rename_i l m I L
 obtain⟨⟨B,C,D⟩,xs,E,G⟩:=g
 obtain⟨f,U,Z,V,p,Y,M,u⟩:=E
 cases p
 have J:((xs.take m.toNat).drop l.toNat).length=m.toNat-l.toNat:=by simp;omega
 have N:SlE h sz (.slice (if c=l.toNat then d else d.map (·.add (l.toNat*sz))) (m.toNat-l.toNat) (c-l.toNat)) ((xs.take m.toNat).drop l.toNat):=by
  refine⟨λy k=>f y (List.mem_of_mem_take (List.mem_of_mem_drop k)),_,_,_,rfl,J.symm,by omega,?_⟩
  rcases u with u|⟨b,off,rfl,F⟩
  ·grind[List.flatten_eq_nil_iff,List.mem_of_mem_take,List.mem_of_mem_drop]
  ·by_cases hcl:c=l.toNat
   ·grind
   ·right
    rw[if_neg hcl]
    refine⟨b,off+l.toNat*sz,by simp[E02],λj v X=>?_⟩
    have i:=j04 xs (λx i=>(f x i).1)
    rw[Nat.add_assoc]
    refine F _ _ ?_
    have p:(xs.take m.toNat).flatten=xs.flatten.take (m.toNat*sz):=E09 xs _ (λx i=>(f x i).1)
    have W:((xs.take m.toNat).drop l.toNat).flatten=((xs.take m.toNat).flatten).drop (l.toNat*sz):=y0h _ _ (λy k=>(f y (List.mem_of_mem_take k)).1)
    grind
 exact B7 s (av := .val _) (exec_slice O T S q (R07 s I) (R07 s L) B C D M) rfl (G _ N λ_ _ _ e=>by cases e;rfl)
theorem H0p(s:Sim P h0 w0 be oe H st h a w){t e sz:Nat}{x:Operand}{B j:Option Operand}{i k:Nat}(L:o.op = .slice t x B j none)(O:j02 P t=some e)(N:d6 P e=some sz)
  (M:rdO st x = .own i k) (c:u0m i (B.map (rdO st)) (j.map (rdO st)) st h K):o.wp P a w (Nx P h0 w0 st be oe K a o.dst) Q:=by
 have F:=s.rdO x
 rw[M]at F
 obtain⟨T,C,S,an,xs,p⟩:=N07 M
 unfold u0m at c
 split at c
 rotate_left
 ·exact c.elim
 rename_i al m ao z
 simp only[p]at c
 obtain⟨⟨R,E⟩,I⟩:=c
 have ae:B=none:=by simp_all
 subst ae
 have J:b06 a (xs.length:Int) j m:=by
  cases j with
  |none=>simp at z
  |some y =>
   have g:=s.rdO y
   simp only[Option.map_some,Option.some.injEq]at z
   rw[z]at g
   exact⟨al,g⟩
 have A:=s.own i _ _ _ _ _ _ p
 have b:=F.own_cur p
 have ap:∀ v,v=oe i->v.ownBlock=(oe i).ownBlock:=λv ai=>by rw[ai]
 have am:∃ v,(∀ d:Next->Hp->Prop,d (.value v) H->wpS P (execOp a.eval o) H d)/\v.ownBlock=(oe i).ownBlock/\j07 h H v T C an (xs.take m.toNat):=by
  have G:∀ y∈xs.take m.toNat,y.length=C/\∀ v∈y,v.oneCell'=true:=λy ak=>A.1 y (List.mem_of_mem_take ak)
  rcases A.2 with⟨f,q,u⟩|⟨g,cap,cur,f,q,u,W,X,Y,Z⟩
  ·rw[f]at b
   subst q
   have af:m=0:=by simp at E;omega
   subst af
   refine⟨_,exec_slice L O N b (l:=0) rfl J (by omega) (by omega) (by simp) (Nat.le_refl _),?_,G,.inl ⟨by simp,by simp,u⟩⟩
   grind
  ·rw[f]at b
   refine⟨.slice (some ⟨g,0,none⟩) m.toNat cap,λd I=>exec_slice L O N b (l:=0) rfl J (by omega) R E W d ?_,by rw[f];rfl,G,.inr ⟨g,cap,cur,?_,q,u,?_,X,Y,?_⟩⟩
   ·grind[Int.toNat,Addr.add]
   ·have:(xs.take m.toNat).length=m.toNat:=by simp;omega
    rw[this]
   ·simp;omega
   ·have ad:(xs.take m.toNat).length=m.toNat:=by simp;omega
    rw[ad]
    have U:(xs.take m.toNat).flatten=xs.flatten.take (m.toNat*C):=E09 xs _ (λx b=>(A.1 x b).1)
    rw[U,←Z,List.take_take]
    congr 1
    rw[Nat.min_eq_left (Nat.mul_le_mul_right _ (by omega))]
 obtain⟨v,aj,ab,aa⟩:=am
 obtain⟨aq,D,ar,ah,⟨rfl,rfl⟩,ag⟩:=I00 _ _ _ s.mv.vis (aj (λn D=>n = .value v/\D=H) ⟨rfl,rfl⟩)
 obtain⟨s',V⟩:=s.updOwn (s1:=k+1) (by_:=S) p (Nat.le_succ _) (λe=>absurd e (Nat.succ_ne_self k)) ag (λ_ _ _=>rfl) aa (λg ac => .inl (by rw[←ab];exact ac))
 refine w8 ah ⟨_,_,h,v,_,_,_,I,rfl,s',?_,V⟩
 refine⟨k+1,?_,Nat.le_refl _,λ_=>by simp⟩
 simp_all[stamp,c8,T02]
theorem exec_cutStr{t:TypeId}{x:Operand}{e d:Option Operand}{b:ByteArray}{l m:Int}(n:o.op = .slice t x e d none)(p:P.underlying t=some .string)
  (q:a.eval x = .string b) (j:b06 a 0 e l) (k:b06 a b.size d m) (f:0<=l) (g:l<=m) (h:m<=(b.size:Int)) :
  ∀ c:Next->Hp->Prop,c (.value (.string (b.extract l.toNat m.toNat))) H->wpS P (execOp a.eval o) H c:=by
 intro c i
 unfold execOp;rw[n]
 refine o8 _ _ _ ?_
 simp only[Instr.sliceAt,J2,M3 p,Instr.slice,q,Option.map_none,Option.isSome_none,Bool.false_eq_true,if_false,O2]
 rw[g0f j k f g h (Nat.le_refl _)]
 exact i
theorem exec_index{t:TypeId}{x i:Operand}{b:ByteArray}{k:IntKind}{j:Int}{c:UInt8}(l:o.op = .index t x i)(m:P.underlying t=some .string)(n:a.eval x = .string b)(g:a.eval i = .int k j)
  (e:0<=j) (f:b[j.toNat]?=some c):∀ d:Next->Hp->Prop,d (.value (.int .u8 c.toNat)) H->wpS P (execOp a.eval o) H d:=by
 intro d h
 unfold execOp;rw[l]
 refine o8 _ _ _ ?_
 simp only[Instr.index,n,g,asIntOf,J2,O2,M3 m,e,if_true,f]
 exact h
theorem exec_quo{t j:TypeId}{x y:Operand}{b c:Int}(g:o.op = .binOp .quo t x y j)(h:a.eval x = .int .i64 b)(i:a.eval y = .int .i64 c)(f:c≠0):
  ∀ d:Next->Hp->Prop,d (.value (.int .i64 (IntKind.i64.wrap (b.tdiv c)))) H->wpS P (execOp a.eval o) H d:=by
 intro d e
 unfold execOp;rw[g]
 refine o8 _ _ _ ?_
 simp only[h,i,eqGuard,J2,Bool.not_false,if_true,O2,binOp,Go.Op.intDiv,if_neg f,ne_eq,not_true_eq_false,if_false]
 exact e
theorem exec_rem{t j:TypeId}{x y:Operand}{b c:Int}(g:o.op = .binOp .rem t x y j)(h:a.eval x = .int .i64 b)(i:a.eval y = .int .i64 c)(f:c≠0):
  ∀ d:Next->Hp->Prop,d (.value (.int .i64 (b.tmod c))) H->wpS P (execOp a.eval o) H d:=by
 intro d e
 unfold execOp;rw[g]
 refine o8 _ _ _ ?_
 simp only[h,i,eqGuard,J2,Bool.not_false,if_true,O2,binOp,Go.Op.intDiv,if_neg f,ne_eq,not_true_eq_false,if_false]
 exact e
theorem U0q{t j:TypeId}{x y:Operand}{b c:Int}(g:o.op = .binOp .shl t x y j)(h:a.eval x = .int .i64 b)(i:a.eval y = .int .i64 c)(k:0<=c):
  ∀ d:Next->Hp->Prop,d (.value (.int .i64 (IntKind.i64.wrap (b*2 ^ min c.toNat 64)))) H->wpS P (execOp a.eval o) H d:=by
 intro d e
 unfold execOp;rw[g]
 refine o8 _ _ _ ?_
 have f : ¬ c<0:=by omega
 simp only[h,i,eqGuard,J2,Bool.not_false,if_true,O2,binOp,Go.Op.shift,if_neg f,IntKind.bits]
 exact e
theorem V0q{t j:TypeId}{x y:Operand}{b c:Int}(g:o.op = .binOp .shr t x y j)(h:a.eval x = .int .i64 b)(i:a.eval y = .int .i64 c)(k:0<=c):
  ∀ d:Next->Hp->Prop,d (.value (.int .i64 (b.fdiv (2 ^ min c.toNat 64)))) H->wpS P (execOp a.eval o) H d:=by
 intro d e
 unfold execOp;rw[g]
 refine o8 _ _ _ ?_
 have f : ¬ c<0:=by omega
 simp only[h,i,eqGuard,J2,Bool.not_false,if_true,O2,binOp,Go.Op.shift,if_neg f,IntKind.bits]
 exact e
theorem exec_cat{t j:TypeId}{x y:Operand}{b c:ByteArray}(g:o.op = .binOp .add t x y j)(h:a.eval x = .string b)(i:a.eval y = .string c)(k:b.size+c.size<=9223372036854775807):
  ∀ d:Next->Hp->Prop,d (.value (.string (b++c))) H->wpS P (execOp a.eval o) H d:=by
 intro d e
 unfold execOp;rw[g]
 refine o8 _ _ _ ?_
 have f : ¬ (((b.size+c.size:Nat):Int)>IntKind.i64.max):=by
  have:IntKind.i64.max=9223372036854775807:=by decide
  rw[this];omega
 simp only[h,i,eqGuard,J2,Bool.not_false,if_true,O2,binOp,Go.Op.stringOp,if_neg f]
 exact e
end
section
variable {P:Program} {h0:Hp} {w0:World} {be:Nat->Nat} {oe:Nat->Value} {H:Hp} {st:St} {h:Hp} {a:Act} {w:World} {o:Oper} {K:AV->St->Hp->Prop} {Q:Exit->Act->World->Prop}
theorem O0d:∀(a c r:List Value) (k:Nat),k+a.length<=c.length->R3 (c++r) k a=R3 c k a++r
 | [],c,r,k,_=>rfl
 |n::a,c,r,k,b=>by
  simp only[List.length_cons]at b
  simp only[R3]
  rw[List.set_append_left _ _ (by omega),O0d a _ r (k+1) (by simp;omega)]
theorem t0b:∀(a x l:List Value) (k:Nat),R3 (x++l) (x.length+k) a=x++R3 l k a
 | [],x,l,k=>rfl
 |n::a,x,l,k=>by
  simp only[R3]
  rw[List.set_append_right _ _ (by omega),Nat.add_sub_cancel_left,Nat.add_assoc,t0b a x _ (k+1)]
theorem V08{sz:Nat}(a:List Value)(k:Nat):∀(xs:List (List Value)) (i:Nat) (c:List Value),(∀ x∈xs,x.length=sz)->xs[i]?=some c->k+a.length<=c.length ->
  (xs.set i (R3 c k a)).flatten=R3 xs.flatten (i*sz+k) a
 | [],i,c,_,h,_=>by simp at h
 |x::xs,0,c,d,h,b=>by
  simp at h;subst h
  simp only[List.set_cons_zero,List.flatten_cons,Nat.zero_mul,Nat.zero_add]
  rw[O0d a x _ k b]
 |x::xs,i+1,c,d,h,b=>by
  simp at h
  have f:=d x mS
  simp only[List.set_cons_succ,List.flatten_cons]
  rw[V08 a k xs i c (λy e=>d y (mC _ e)) h b]
  rw[show(i+1)*sz+k=x.length+(i*sz+k) from by grind,t0b]
theorem C06:∀(a cs:List Value) (off N:Nat),(R3 cs off a).take N=R3 (cs.take N) off a
 | [],cs,off,N=>rfl
 |n::a,cs,off,N=>by
  simp only[R3]
  rw[C06 a _ (off+1) N,List.take_set]
theorem h0f:∀(a cs:List Value) (off:Nat) (v:Value),v∈R3 cs off a->v∈cs∨v∈a
 | [],cs,off,v,h => .inl h
 |n::a,cs,off,v,h=>by
  rcases h0f a _ (off+1) v h with h|h
  all_goals grind
theorem c0j(s:Sim P h0 w0 be oe H st h a w){t:TypeId}{p x:Operand}{i M:Nat}{idx:Int}{sz k:Nat}(ai:o.op = .store t p x)(ak:rdO st p = .oel i M idx sz k)
  (ab:rfy (rdO st x) st h λv st h=>match nth st.ow i,d6 P t with
   |some ⟨s',.live e d by_ nn xs⟩,some n=>match K07 v.cells.toList n,Q05 v.cells.toList,Nat.beq s' M,Nat.beq d sz with
    |true,true,true,true=>∃ c,xs[idx.toNat]?=some c/\z0p c k v.cells.toList λq =>
      K (.val undef) { st with ow:=E01 st.ow i ⟨s',.live e d by_ nn (xs.set idx.toNat q)⟩ } h
    |_,_,_,_=>False
   |_,_=>False):o.wp P a w (Nx P h0 w0 st be oe K a o.dst) Q:=by
 have G:=s.rdO p
 rw[ak]at G
 obtain⟨ax,I,f,s1,F⟩:=X03 s (s.rdO x) ab
 have O:=G.grow F
 split at f
 rotate_left
 ·exact f.elim
 rename_i s' e d by_ nn xs n B am
 split at f
 rotate_left
 ·exact f.elim
 rename_i af aj V W
 have an:=Nat.eq_of_beq_eq_true V
 have ao:=Nat.eq_of_beq_eq_true W
 subst an;subst ao
 obtain⟨c,u,j⟩:=f
 unfold z0p at j
 split at j
 rotate_left
 ·exact j.elim
 rename_i A
 have A:=Nat.le_of_ble_eq_true A
 have ag:=N03 _ _ af
 have L:=c05 _ aj
 obtain⟨g,av,q,z,C⟩:=O.oel_cur B
 have l:=s1.own i _ _ _ _ _ _ B
 rcases l.2 with⟨m,_⟩|⟨N,cap,cur,m,ad,ae,J,Z,aa,ap⟩
 ·rw[m]at z;cases z
 rw[m]at z;cases z
 have X:=(List.getElem?_eq_some_iff.1 u)
 have Y:c.length=d:=(l.1 c (List.mem_of_getElem? u)).1
 have T:idx.toNat*d+k+n<=cur.toList.length:=by
  have:(idx.toNat+1)*d<=q*d:=Nat.mul_le_mul_right _ (Nat.le_trans X.1 J)
  grind
 have ar:=P07 (H:=H) (P:=P) (a:=a) (cur:=cur.toList) ai am C ag L (by simpa using ae) T
 obtain⟨aw,E,ay,al,⟨rfl,rfl⟩,ah⟩:=I00 _ _ _ s1.mv.vis (ar (λn E=>n = .skip/\E=_) ⟨rfl,rfl⟩)
 rw[m03]at j
 have S:j07 I (H.set g (.cells (R3 cur.toList (idx.toNat*d+k) (a.eval x).cells.toList).toArray e (0,0))) (oe i) e d nn (xs.set idx.toNat (R3 c k (a.eval x).cells.toList)):=by
  refine⟨λy D=>?_,.inr ⟨g,q,_,by simpa using m,ad,Hp.set_same _ _ _,by simpa using J,Z,by simp[d8,aa],?_⟩⟩
  ·rcases List.mem_or_eq_of_mem_set D with D|rfl
   ·exact l.1 y D
   ·refine⟨by rw[d8,Y],λv aq=>?_⟩
    rcases h0f _ _ _ _ aq with h'|h'
    ·exact(l.1 c (List.mem_of_getElem? u)).2 v h'
    ·exact L v h'
  ·rw[V08 (sz:=d) _ _ xs idx.toNat c (λx C=>(l.1 x C).1) u A,←ap]
   simp only[List.length_set]
   rw[C06]
 obtain⟨au,R⟩:=s1.updOwn (s1:=s') (by_:=by_) B (Nat.le_refl _) (λ_=>rfl) ah (λb U _=>Hp.set_other _ _ (λe=>U (by rw[m,e];rfl))) S (λN ac => .inl ac)
 exact C09 al ⟨_,_,I,_,_,_,_,j,rfl,au,rfl,F.trans R⟩
theorem d0j(s:Sim P h0 w0 be oe H st h a w){t:TypeId}{p x:Operand}{sl:Value}{idx:Int}{sz k:Nat}{v:Value}(z:o.op = .store t p x)(A:rdO st p = .hel sl idx sz k)
    (E:rdO st x = .val v) (C:d6 P t=some 1)
    (q : ∃ b of n c cur ty, (sl = .slice (some ⟨b, of, none⟩) n c ∧ 0 ≤ idx ∧ h b = some (.cells cur ty (0, 0)) ∧ of + (idx.toNat * sz + k) < cur.size ∧ L03 v) ∧
            K (.val undef) st (h.set b (.cells (cur.setIfInBounds (of+(idx.toNat*sz+k)) v) ty (0,0)))):o.wp P a w (Nx P h0 w0 st be oe K a o.dst) Q:=by
  have e:=s.rdO p
  rw[A]at e
  have f:a.eval x=v:=by have:=s.rdO x;rw[E]at this;exact this
  obtain⟨b,off,n,c,cur,ty,⟨i,_,m,J,L⟩,u⟩:=q
  obtain⟨G,R,N,I,d,j⟩:=e
  rw[i]at d;cases d
  have g:v.cells = #[v]:=by cases v<;>simp_all [L03,Value.cells]
  have M:v.oneCell'=true:=by cases v<;>simp_all [L03,Value.oneCell']
  have D:=P07 (H:=h) (P:=P) (a:=a) (cur:=cur.toList) z C j (by rw[f,g];rfl) (by grind) (by simpa using m) (by simp;omega)
  obtain⟨O,h',S,B,⟨rfl,rfl⟩,y⟩:=I00 _ _ _ (R08 s) (D (λn h'=>n = .skip/\h'=_) ⟨rfl,rfl⟩)
  obtain⟨F,s'⟩:=s.moved y
  have l:(R3 cur.toList (off+(idx.toNat*sz+k)) (a.eval x).cells.toList).toArray=cur.setIfInBounds (off+(idx.toNat*sz+k)) v:=by
    rw[f,g]
    apply Array.ext'
    simp[R3]
  rw[l]at s'
  exact C09 B ⟨_,_,_,_,_,_,_,u,rfl,s',rfl,F7.refl _ _ _⟩
theorem l0a(s:Sim P h0 w0 be oe H st h a w){t:TypeId}{p x:Operand}{sl:Value}{idx:Int}{sz k n:Nat}{new:List Value}(v:o.op = .store t p x)(y:rdO st p = .hel sl idx sz k)
  (f:(a.eval x).cells.toList=new) (A:d6 P t=some n) (m:K07 new n=true) (G:Q05 new=true)
  (l:F04 h sl idx (idx.toNat*sz+k) new λh'=>K (.val undef) st h'):o.wp P a w (Nx P h0 w0 st be oe K a o.dst) Q:=by
 have d:=s.rdO p
 rw[y]at d
 obtain⟨b,off,J,E,cur,ty,⟨g,_,j,I⟩,e⟩:=l
 obtain⟨D,N,L,F,c,i⟩:=d
 rw[g]at c;cases c
 have q:=N03 _ _ m
 have B:=P07 (H:=h) (P:=P) (a:=a) (cur:=cur.toList) v A i (by rw[f];exact q) (by grind[c05]) (by simpa using j) (by simp;omega)
 obtain⟨M,h',O,z,⟨rfl,rfl⟩,u⟩:=I00 _ _ _ (R08 s) (B (λn h'=>n = .skip/\h'=_) ⟨rfl,rfl⟩)
 obtain⟨C,s'⟩:=s.moved u
 rw[m03]at e
 rw[f]at s'
 exact C09 z ⟨_,_,_,_,_,_,_,e,rfl,s',rfl,F7.refl _ _ _⟩
theorem m0a:∀(c:List Field),c07 P c=true->∃ b,c.mapM (λf:Field=>(P.info? f.type).map λi=>(f.offset,i.size))=some b /\
  ∀(k:Nat) (f:Field) (n:Nat),c[k]?=some f->d6 P f.type=some n->b[k]?=some (f.offset,n)
 | [],_=>⟨[],rfl,by simp⟩
 |f::r,h=>by
  simp only[c07]at h
  split at h
  ·rename_i m a
   obtain⟨b,d,e⟩:=m0a r h
   unfold d6 at a
   split at a
   ·rename_i i j
    cases a
    refine⟨(f.offset,i.size)::b,by simp_all,λk g n l o=>?_⟩
    grind[d6]
   ·cases a
  ·cases h
theorem u0b{d:Array Field}{m:List (Nat×Nat)}(h:∀(k:Nat) (f:Field) (n:Nat),d.toList[k]?=some f->d6 P f.type=some n->m[k]?=some (f.offset,n)){rd:Operand->AV}
  (j:∀ x cs,a01 (rd x)=some cs->Y2 st oe cs (a.eval x).cells.toList):∀(l:List (Nat×Operand)) {cs:List c6} {vs:List Value} {K:List c6->Prop},Y2 st oe cs vs->I08 P d rd l cs K ->
  ∃ cs' c,K cs'/\Y2 st oe cs' c/\Instr.fill (m.toArray[·]?) vs.toArray (l.map λp=>(p.1,a.eval p.2))=some c.toArray
 | [],cs,vs,K,g,b=>⟨cs,vs,b,g,rfl⟩
 |(i,x)::r,cs,vs,K,g,b=>by
  simp only[I08]at b
  split at b
  rotate_left
  ·exact b.elim
  rename_i f new hf t
  split at b
  rotate_left
  ·exact b.elim
  rename_i n v
  split at b
  rotate_left
  ·exact b.elim
  rename_i s q
  have D:=N03 _ _ s
  have C:=Nat.le_of_ble_eq_true q
  have e:=j x new t
  have u:=h i f n (by simpa using hf) v
  have B:=g.length
  have E:=e.length
  obtain⟨cs',c,y,z,F⟩:=u0b h j r (g.splice e) b
  refine⟨cs',c,y,z,?_⟩
  have w:(a.eval x).cells.size=n:=by grind
  simp only[List.map_cons,Instr.fill,List.getElem?_toArray,u,w,ne_eq,not_true_eq_false,decide_false,Bool.false_or,decide_eq_true_eq]
  rw[if_neg (by simp;omega)]
  have o:=e0f (a.eval x) f.offset vs.toArray
  have A:((a.eval x).cells.zipIdx.foldl (λcs (p:Value×Nat)=>cs.setIfInBounds (f.offset+p.2) p.1) vs.toArray)=(R3 vs f.offset (a.eval x).cells.toList).toArray:=by
   rw[←o]
  grind
theorem v0k(s:Sim P h0 w0 be oe H st h a w){t:TypeId}{ps:Array (Nat×Operand)}{b:Array Field}{z:Value}{rd:Operand->AV}{K':AV->Prop}(u:o.op = .build t ps)(y:P.underlying t=some (.struct b))
  (k:Q01 P t=some z) (f:c07 P b.toList=true) (j:∀ x cs,a01 (rd x)=some cs->Y2 st oe cs (a.eval x).cells.toList)
  (g:I08 P b rd ps.toList (vals z.cells.toList) λcs=>K' (.agg cs)) :
  ∃ av v,K' av/\C3 st be oe av v/\∀ w:World,(execOp a.eval o).run P w = .ok (.value v) w:=by
 obtain⟨B,n,e⟩:=m0a b.toList f
 obtain⟨cs',d,l,m,A⟩:=u0b (st:=st) (oe:=oe) (a:=a) e j ps.toList (Y2.vals st oe z.cells.toList) g
 have c:=k
 unfold Q01 at c
 split at c
 rotate_left
 ·cases c
 rename_i i q
 have p:P.built t (ps.map λx=>(x.1,a.eval x.2)).toList=some d.toArray:=by
  unfold Program.built
  simp_all
 refine⟨_,.agg d.toArray,l,⟨d,rfl,m⟩,λw=>?_⟩
 simp_all[execOp,Sem.run_bind,run_build,Result.andThen_ok,Sem.run_pure]
theorem n0a{sz:Nat}{rd:Operand->AV}
  (f:∀ x cs,a01 (rd x)=some cs->Y2 st oe cs (a.eval x).cells.toList):∀(l:List (Nat×Operand)) {cs:List c6} {vs:List Value} {K:List c6->Prop},Y2 st oe cs vs->c0b sz rd l cs K ->
  ∃ cs' d,K cs'/\Y2 st oe cs' d/\Instr.fill (λi=>some (i*sz,sz)) vs.toArray (l.map λp=>(p.1,a.eval p.2))=some d.toArray
 | [],cs,vs,K,g,b=>⟨cs,vs,b,g,rfl⟩
 |(i,x)::r,cs,vs,K,g,b=>by
  simp only[c0b]at b
  split at b
  rotate_left
  ·exact b.elim
  rename_i new q
  split at b
  rotate_left
  ·exact b.elim
  rename_i n m
  have o:=N03 _ _ n
  have z:=Nat.le_of_ble_eq_true m
  have e:=f x new q
  have y:=g.length
  have t:=e.length
  obtain⟨cs',d,u,v,w⟩:=n0a f r (g.splice e) b
  refine⟨cs',d,u,v,?_⟩
  have s:(a.eval x).cells.size=sz:=by rw[←o,t];simp
  simp only[List.map_cons,Instr.fill,s,ne_eq,not_true_eq_false,decide_false,Bool.false_or,decide_eq_true_eq]
  rw[if_neg (by simp;omega)]
  have h:=e0f (a.eval x) (i*sz) vs.toArray
  have k:((a.eval x).cells.zipIdx.foldl (λcs (p:Value×Nat)=>cs.setIfInBounds (i*sz+p.2) p.1) vs.toArray)=(R3 vs (i*sz) (a.eval x).cells.toList).toArray:=by
   rw[←h]
  rw[show((a.eval x).cells.zipIdx.foldl (λcs (x:Value×Nat)=>match x with|(c,j)=>cs.setIfInBounds (i*sz+j) c) vs.toArray)=(R3 vs (i*sz) (a.eval x).cells.toList).toArray from k]
  simpa using w
theorem w0k(s:Sim P h0 w0 be oe H st h a w){t e:TypeId}{n sz:Nat}{ps:Array (Nat×Operand)}{z:Value}{rd:Operand->AV}{K':AV->Prop}(l:o.op = .build t ps)(q:P.underlying t=some (.array n e))
  (u:Q01 P t=some z) (b:d6 P e=some sz) (m:∀ x cs,a01 (rd x)=some cs->Y2 st oe cs (a.eval x).cells.toList)
  (g:c0b sz rd ps.toList (vals z.cells.toList) λcs=>K' (.agg cs)) :
  ∃ av v,K' av/\C3 st be oe av v/\∀ w:World,(execOp a.eval o).run P w = .ok (.value v) w:=by
 obtain⟨cs',d,y,A,B⟩:=n0a (st:=st) (oe:=oe) (a:=a) m ps.toList (Y2.vals st oe z.cells.toList) g
 have c:=u
 unfold Q01 at c
 split at c
 rotate_left
 ·cases c
 rename_i i j
 unfold d6 at b
 split at b
 rotate_left
 ·cases b
 rename_i C k
 cases b
 have f:P.built t (ps.map λx=>(x.1,a.eval x.2)).toList=some d.toArray:=by
  unfold Program.built
  simp only[j,q,c,k]
  rw[show(Array.map (λx=>(x.1,a.eval x.2)) ps).toList=ps.toList.map λp=>(p.1,a.eval p.2) from by simp]
  simpa using B
 refine⟨_,.agg d.toArray,y,⟨d,rfl,A⟩,λw=>?_⟩
 unfold execOp;rw[l]
 simp only[Sem.run_bind,run_build w t _ _ f,Result.andThen_ok,Sem.run_pure]
theorem d0h(s:Sim P h0 w0 be oe H st h a w){x:Operand}{cs:List c6}(b:H08 (rdO st x)=some cs):∃ vs:List Value,a.eval x = .agg vs.toArray/\Y2 st oe cs vs:=by
 have g:=s.rdO x
 cases hr:rdO st x with
 |val v =>
  rw[hr]at b g
  cases v<;>simp only[H08,Option.some.injEq]at b<;>first|(subst b;exact⟨_,by rw[show a.eval x=_ from g],Y2.vals _ _ _⟩)|cases b
 |agg cs' =>
  rw[hr]at b g
  simp only[H08,Option.some.injEq]at b
  subst b
  exact g
 |_=>rw[hr]at b;cases b
theorem W0q(s:Sim P h0 w0 be oe H st h a w){t:TypeId}{x:Operand}{k:Nat}{cs:List c6}{l:Array Field}{f:Field}(u:o.op = .field t x k)(p:H08 (rdO st x)=some cs)
  (z:P.underlying t=some (.struct l)) (hf:l[k]?=some f) (b:P05 P f.type cs f.offset λav=>K av st h):o.wp P a w (Nx P h0 w0 st be oe K a o.dst) Q:=by
 obtain⟨vs,C,g⟩:=d0h s p
 unfold P05 at b
 have fin:∀(av:AV) (v:Value),K av st h->C3 st be oe av v->(∀ d:Value->Hp->Prop,d v H->wpS P (part f.type vs.toArray f.offset) H d)->o.wp P a w (Nx P h0 w0 st be oe K a o.dst) Q:=by
  intro av v i q B
  refine B7 s (λd y=>?_) q i
  unfold execOp;rw[u]
  refine o8 _ _ _ ?_
  grind[Instr.field,J2,M3,asAgg,O2]
 split at b
 ·rename_i e
  split at b
  ·rename_i n j
   split at b
   ·refine fin _ (.agg ((vs.drop f.offset).take n).toArray) b ⟨_,rfl,(g.drop _).take _⟩ λd i=>?_
    simp only[part,J2,l07 e,if_true,P00 j,O2]
    grind
   ·exact b.elim
  ·exact b.elim
 ·rename_i e
  split at b
  ·rename_i c j
   obtain⟨v,A,m⟩:=g.nth j
   refine fin _ v b (C3.ofCell m) λd i=>?_
   simp only[part,J2,l07 e,Bool.false_eq_true,if_false]
   grind[O2]
  ·exact b.elim
 ·exact b.elim
theorem v0b{t:TypeId}{e:TypeId}{x:Operand}{as:Array Operand}{b:Array TypeId}{d:Option Addr}{n c:Nat}(g:o.op = .call { callee := .builtin .len,args:=as,argTypes:=b })(f:as = #[x])(i:b = #[t])
  (h:j02 P t=some e) (j:a.eval x = .slice d n c) (w:World):(execOp a.eval o).run P w = .ok (.value (.int .i64 n)) w:=by
 subst f;subst i
 unfold execOp;rw[g]
 simp only[resolve,invoke,builtin,Builtin.len_,Sem.run_bind,Sem.run_pure,Result.andThen_ok,List.map_toArray,List.map_cons,List.map_nil,j,List.getElem?_toArray,List.getElem?_cons_zero,run_underlying (u00 h),goInt]
end
section
variable {P:Program} {h0:Hp} {w0:World} {be:Nat->Nat} {oe:Nat->Value} {H:Hp} {st:St} {h:Hp} {a:Act} {w:World} {o:Oper} {K:AV->St->Hp->Prop} {Q:Exit->Act->World->Prop}
theorem C0a(s:Sim P h0 w0 be oe H st h a w){av:AV}{v:Value}(c:∀ w:World,(execOp a.eval o).run P w = .ok (.value v) w)(g:C3 st be oe av v)(b:K av st h):o.wp P a w (Nx P h0 w0 st be oe K a o.dst) Q :=
 w8 (c w) ⟨av,st,h,v,be,oe,H,b,rfl,s,g,F7.refl _ _ _⟩
set_option maxHeartbeats 1000000 in
theorem Q00(s:Sim P h0 w0 be oe H st h a w)(d:Z8 P o st h K):o.wp P a w (Nx P h0 w0 st be oe K a o.dst) Q:=by
 cases ho:o.op with
 |move x=>simp only[Z8,ho]at d;exact Y0n s (.inl ho) d
 |assign x=>simp only[Z8,ho]at d;exact Y0n s (.inr ho) d
 |box t x =>
  simp only[Z8,ho]at d
  split at d
  ·rename_i cs D;exact o0u s ho D d
  ·exact d.elim
 |alloc t =>
  simp only[Z8,ho]at d
  split at d
  ·rename_i z O;exact T0q s ho O d
  ·exact d.elim
 |fieldAddr t x k=>simp only[Z8,ho]at d;exact W0i s ho d
 |indexAddr t x i=>simp only[Z8,ho]at d;exact b0j s ho d
 |load t x =>
  simp only[Z8,ho]at d
  split at d
  ·rename_i i off u
   split at d
   ·rename_i cs ty I;exact s0k s ho u I d
   ·exact d.elim
  ·rename_i sl idx sz k u
   obtain⟨c,D,B⟩:=d
   exact t0k s ho u D B
  ·rename_i i ag idx sz k u
   split at d
   ·rename_i bb e bc by_ nn xs I
    split at d
    ·rename_i U
     have ab:=Nat.eq_of_beq_eq_true U
     subst ab
     obtain⟨c,D,B⟩:=d
     exact u0k s ho u I D B
    ·exact d.elim
   ·exact d.elim
  ·exact f00 s d
 |store t p x =>
  simp only[Z8,ho]at d
  split at d
  ·rename_i i off u
   split at d
   ·rename_i cs ty new n I D A
    split at d
    ·rename_i G C;exact X0i s ho u I D A G C d
    ·exact d.elim
   ·exact d.elim
  ·rename_i i ag idx sz k u
   exact c0j s ho u d
  ·rename_i sl idx sz k u
   split at d
   ·rename_i v q
    split at d
    ·rename_i A;exact d0j s ho u q A d
    ·rename_i n _ A
     split at d
     ·rename_i G C
      exact l0a s ho u (by have:=s.rdO x;rw[q]at this;rw[show a.eval x=v from this]) A G C d
     ·exact d.elim
    ·exact d.elim
   ·rename_i cs q
    split at d
    ·rename_i n new A N
     split at d
     ·rename_i G C
      refine l0a s ho u ?_ A G C d
      have g:=s.rdO x
      rw[q]at g
      obtain⟨vs,ax,ay⟩:=g
      rw[ax,S08 N ay]
      rfl
     ·exact d.elim
    ·exact d.elim
   ·exact d.elim
  ·exact f00 s d
 |build t ps =>
  simp only[Z8,ho]at d
  split at d
  ·rename_i aw z M O
   split at d
   ·rename_i V
    obtain⟨av,v,ad,ae,af⟩:=v0k (K':=λav=>K av st h) s ho M O V (λx cs D=>C05 s D) d
    exact C0a s af ae ad
   ·exact d.elim
  ·rename_i n e z M O
   split at d
   ·rename_i sz A
    obtain⟨av,v,ad,ae,af⟩:=w0k (K':=λav=>K av st h) s ho M O A (λx cs D=>C05 s D) d
    exact C0a s af ae ad
   ·exact d.elim
  ·exact d.elim
 |buildSlice t n ps =>
  simp only[Z8,ho]at d
  split at d
  ·rename_i e J
   split at d
   ·rename_i sz by_ z A U O
    split at d
    ·rename_i I Z G;exact c0h s ho J A O I Z d
    ·exact d.elim
   ·exact d.elim
  ·exact d.elim
 |makeSlice t l c =>
  simp only[Z8,ho]at d
  split at d
  ·rename_i e J
   split at d
   ·rename_i sz by_ z a1 ba a0 a5 A U O G D
    split at d
    ·rename_i aG aD;exact a0j s ho J A U O G D aG aD d.1 d.2
    ·exact d.elim
   ·exact d.elim
  ·exact d.elim
 |field t x k =>
  simp only[Z8,ho]at d
  split at d
  ·rename_i cs aw D M
   split at d
   ·rename_i f hf;exact W0q s ho D M hf d
   ·exact d.elim
  ·exact d.elim
 |slice t x a2 aj aJ =>
  cases aJ with
  |some m=>simp only[Z8,ho]at d;exact F01 s d
  |none =>
   simp only[Z8,ho]at d
   split at d
   ·rename_i i k u
    split at d
    ·rename_i e J
     split at d
     ·rename_i sz A;exact H0p s ho J A u d
     ·exact d.elim
    ·exact d.elim
   ·rename_i aU n c u
    split at d
    ·rename_i e J
     split at d
     ·rename_i sz A;exact G0p s ho J A u d
     ·exact d.elim
    ·exact d.elim
   ·rename_i b u
    split at d
    ·rename_i M
     unfold G0q at d
     split at d
     ·rename_i l m G Z
      have F:a.eval x = .string b:=by have:=s.rdO x;rw[u]at this;exact this
      obtain⟨⟨C,T,az⟩,B⟩:=d
      exact B7 s (av := .val _) (exec_cutStr ho M F (R07 s G) (R07 s Z) C T az) rfl B
     ·exact d.elim
    ·exact d.elim
   ·exact d.elim
 |index t x i =>
  simp only[Z8,ho]at d
  split at d
  ·rename_i b k j q aj M
   have F:a.eval x = .string b:=by have:=s.rdO x;rw[q]at this;exact this
   have gi:a.eval i = .int k j:=by have:=s.rdO i;rw[aj]at this;exact this
   obtain⟨c,⟨C,T⟩,B⟩:=d
   exact B7 s (av := .val _) (exec_index ho M F gi C T) rfl B
  ·exact f00 s d
 |binOp aL t x y aO =>
  cases aL with
  |add =>
   simp only[Z8,ho]at d
   split at d
   ·rename_i b c q E
    have F:a.eval x = .string b:=by have:=s.rdO x;rw[q]at this;exact this
    have L:a.eval y = .string c:=by have:=s.rdO y;rw[E]at this;exact this
    exact B7 s (av := .val _) (exec_cat ho F L d.1) rfl d.2
   ·exact f00 s d
  |quo =>
   simp only[Z8,ho]at d
   split at d
   ·rename_i b c q E
    have F:a.eval x = .int .i64 b:=by have:=s.rdO x;rw[q]at this;exact this
    have L:a.eval y = .int .i64 c:=by have:=s.rdO y;rw[E]at this;exact this
    exact B7 s (av := .val _) (exec_quo ho F L d.1) rfl d.2
   ·exact f00 s d
  |rem =>
   simp only[Z8,ho]at d
   split at d
   ·rename_i b c q E
    have F:a.eval x = .int .i64 b:=by have:=s.rdO x;rw[q]at this;exact this
    have L:a.eval y = .int .i64 c:=by have:=s.rdO y;rw[E]at this;exact this
    exact B7 s (av := .val _) (exec_rem ho F L d.1) rfl d.2
   ·exact f00 s d
  |shl =>
   simp only[Z8,ho]at d
   split at d
   ·rename_i b c q E
    have F:a.eval x = .int .i64 b:=by have:=s.rdO x;rw[q]at this;exact this
    have L:a.eval y = .int .i64 c:=by have:=s.rdO y;rw[E]at this;exact this
    exact B7 s (av := .val _) (U0q ho F L d.1) rfl d.2
   ·exact f00 s d
  |shr =>
   simp only[Z8,ho]at d
   split at d
   ·rename_i b c q E
    have F:a.eval x = .int .i64 b:=by have:=s.rdO x;rw[q]at this;exact this
    have L:a.eval y = .int .i64 c:=by have:=s.rdO y;rw[E]at this;exact this
    exact B7 s (av := .val _) (V0q ho F L d.1) rfl d.2
   ·exact f00 s d
  |eql =>
   simp only[Z8,ho]at d
   split at d
   ·rename_i xs aR q E
    obtain⟨b,C,B⟩:=d
    exact C0a s (av := .val _) (C _ (t8 q (s.rdO x)) (t8 E (s.rdO y))) rfl B
   ·rename_i aS a4 a3 q E
    obtain⟨b,C,B⟩:=d
    exact C0a s (av := .val _) (C _ (t8 q (s.rdO x)) (t8 E (s.rdO y))) rfl B
   ·exact F01 s d
  |neq =>
   simp only[Z8,ho]at d
   split at d
   ·rename_i xs aR q E
    obtain⟨b,C,B⟩:=d
    exact C0a s (av := .val _) (C _ (t8 q (s.rdO x)) (t8 E (s.rdO y))) rfl B
   ·exact F01 s d
  |_=>simp only[Z8,ho]at d;exact F01 s d
 |convert ao ap x =>
  simp only[Z8,ho]at d
  split at d
  ·rename_i i k u
   split at d
   ·rename_i ag aW sz by_ nn xs e I al am
    split at d
    ·rename_i an
     obtain⟨R,S,B⟩:=d
     obtain⟨au,aN,aq,aK,aQ,aa⟩:=N07 u
     have g:=s.rdO x
     rw[u]at g
     have q:=g.own_cur aa
     have W:=s.own i _ _ _ _ _ _ I
     have aM:(execOp a.eval o).run P w = .ok (.value (.string (strOfNums R))) w:=by
      unfold execOp
      rw[ho]
      rcases W.2 with⟨N,aF,_⟩|⟨X,cap,cur,N,_,aA,aX,aY,aZ,ai⟩
      ·rw[aF]at S
       have aC:R = []:=by cases R with
        |nil=>rfl
        |cons n r=>cases S
       subst aC
       rw[N]at q
       simp only[q,Sem.run_bind,run_convert_bytes_nil w ao e al an 0 0 ap am,Result.andThen_ok,Sem.run_pure]
       rfl
      ·rw[N]at q
       have G:R.length=xs.length:=by rw[S];simp
       have aB:∀ j,j<xs.length->w.cell? ⟨X,0+j,none⟩=some (.int .u8 (R.getD j 0)):=λj Y=>by
        have ab:sz=1:=by
         have:=(W.1 _ (List.getElem_mem Y)).1
         rw[←this]
         simp only[S,List.getElem_map]
         rfl
        subst ab
        have hf:xs.flatten=R.map (Value.int .u8):=by
         rw[S]
         clear S G Y I W ai B
         induction R with
         |nil=>rfl
         |cons n r aH=>simp[aH]
        have aE:=S0q s _ _ aA
        have T:=congrArg (λl:List Value=>l[j]?) (ai.trans hf)
        simp only[List.getElem?_take,Nat.mul_one,if_pos Y,List.getElem?_map,Array.getElem?_toList]at T
        simp only[World.cell?,aE,Nat.zero_add]
        rw[if_neg (by simp),T]
        simp[List.getD_eq_getElem?_getD,List.getElem?_eq_getElem (show j<R.length by omega)]
       simp only[q,Sem.run_bind,run_convert_bytes_arg w ao e al an X 0 xs.length cap R G aB ap am,Result.andThen_ok,Sem.run_pure]
     exact w8 aM ⟨_,_,_,_,_,_,_,B,rfl,s,rfl,F7.refl _ _ _⟩
    ·exact d.elim
   ·exact F01 s d
  ·exact F01 s d
 |call c =>
  obtain⟨ar,as,aP⟩:=c
  cases ar with
  |builtin b =>
   cases b with
   |len =>
    simp only[Z8,ho]at d
    split at d
    ·rename_i x t V ac
     have ah:as = #[x]:=by apply Array.ext';simpa using V
     have ak:aP = #[t]:=by apply Array.ext';simpa using ac
     split at d
     ·rename_i i k u
      split at d
      ·rename_i ag e sz by_ nn xs aV I J
       obtain⟨au,aN,aq,aK,aQ,aa⟩:=N07 u
       have g:=s.rdO x
       rw[u]at g
       have q:=g.own_cur aa
       have W:=s.own i _ _ _ _ _ _ I
       rcases W.2 with⟨N,S,_⟩|⟨X,cap,cur,N,_⟩
       ·rw[N]at q
        refine C0a s (av := .val _) (v0b ho ah ak J q) ?_ d
        rw[S];rfl
       ·rw[N]at q
        exact C0a s (av := .val _) (v0b ho ah ak J q) rfl d
      ·exact d.elim
     ·exact f00 s d
    ·exact d.elim
   |append =>
    simp only[Z8,ho]at d
    split at d
    ·rename_i x y t aO V ac
     split at d
     ·rename_i U
      have:=Nat.eq_of_beq_eq_true U
      subst this
      exact E0p s ho (by apply Array.ext';simpa using V) (by apply Array.ext';simpa using ac) d
     ·exact d.elim
    ·exact d.elim
   |_=>simp only[Z8,ho]at d;exact F01 s d
  |value f=>simp only[Z8,ho]at d;exact F01 s d
  |invoke r m=>simp only[Z8,ho]at d;exact F01 s d
 |lookup _ _ _ _=>simp only[Z8,ho]at d;exact A0a s d
 |mapUpdate _ _ _ _=>simp only[Z8,ho]at d;exact A0a s d
 |insert _ _ _ _=>simp only[Z8,ho]at d;exact A0a s d
 |_=>simp only[Z8,ho]at d;exact F01 s d
end
end Go.H
