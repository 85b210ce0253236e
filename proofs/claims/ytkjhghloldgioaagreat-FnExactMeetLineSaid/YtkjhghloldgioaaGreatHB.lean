/- The library of the walks, part HB: plain laws over the model. -/
import Derived.Test.YtkjhghloldgioaaGreatH3
import Derived.Laws.Tables
namespace Go.H
set_option linter.unusedVariables false
theorem y04{a:Type}:∀(l:List a) (k:Nat),nth l k=l[k]?
 | [],k=>by simp[nth]
 |x::r,0=>by simp[nth]
 |x::r,k+1=>by simp[nth,y04 r k]
theorem Z09{a:Type}:∀(l:List a) (k:Nat) (x:a),G00 l k x=l.set k x
 | [],k,x=>by simp[G00]
 |y::r,0,x=>by simp[G00]
 |y::r,k+1,x=>by simp[G00,Z09 r k x]
theorem t7{a:Type}(l:List a)(k:Nat)(x:a)(b:k<l.length)(j:Nat):nth (G00 l k x) j=if j=k then some x else nth l j:=by
 rw[y04,y04,Z09,List.getElem?_set]
 grind
theorem J01{a:Type}{l:List a}{k:Nat}{x:a}(h:nth l k=some x):k<l.length:=by
 grind[y04,List.getElem?_eq_some_iff]
theorem l02{a:Type}(l:List a)(x:a)(j:Nat):nth (l ++ [x]) j=if j=l.length then some x else nth l j:=by
 rw[y04,y04,List.getElem?_append]
 grind
theorem e05{a:Type}(l:List a)(k:Nat)(x:a):(G00 l k x).length=l.length:=by rw[Z09];simp
def stamp(st:St)(i:Nat):Option Nat:=match nth st.ow i with
 |some o=>some o.stamp
 |none=>none
def A0d(st:St)(oe:Nat->Value):E5->Value->Prop
 | .val v,x=>x=v
 | .own i k,x=>∃ s,stamp st i=some s/\k<=s/\(k=s->x=oe i)
def D2(st:St)(oe:Nat->Value):List E5->List Value->Prop
 | [],[]=>True
 |c::cs,v::vs=>A0d st oe c v/\D2 st oe cs vs
 |_,_=>False
def I2(st:St)(be:Nat->Nat)(oe:Nat->Value):AV->Value->Prop
 | .val v,x=>x=v
 | .own i k,x=>∃ s,stamp st i=some s/\k<=s/\(k=s->x=oe i)
 | .box i off,x=>i<st.bx.length/\x=ptr (be i) off
 | .hel s idx sz k,x=>∃ b o n c,s = .slice (some ⟨b,o,none⟩) n c/\x=ptr b (o+(idx.toNat*sz+k))
 | .oel i a idx sz k,x=>∃ s,stamp st i=some s/\a<=s/\(a=s->∃ g n c,oe i = .slice (some ⟨g,0,none⟩) n c/\x=ptr g (idx.toNat*sz+k))
 | .agg cs,x=>∃ vs,x = .agg vs.toArray/\D2 st oe cs vs
 | .dead,_=>True
structure Q6 (st:St) (be:Nat->Nat) (oe:Nat->Value) (st':St) (be':Nat->Nat) (oe':Nat->Value):Prop where
 bl:st.bx.length<=st'.bx.length
 be:∀ i,i<st.bx.length->be' i=be i
 sm:∀ i s,stamp st i=some s->∃ s',stamp st' i=some s'/\s<=s'/\(s'=s->oe' i=oe i)
theorem Q6.refl(st:St)(be:Nat->Nat)(oe:Nat->Value):Q6 st be oe st be oe :=
 ⟨Nat.le_refl _,λ_ _=>rfl,λi s h=>⟨s,h,Nat.le_refl _,λ_=>rfl⟩⟩
theorem A0d.grow{st st':St}{be be':Nat->Nat}{oe oe':Nat->Value}(g:Q6 st be oe st' be' oe'){c:E5}{x:Value}(h:A0d st oe c x):A0d st' oe' c x:=by
 cases c with
 |val v=>exact h
 |own i k =>
  obtain⟨s,d,f,l⟩:=h
  obtain⟨s',a,b,j⟩:=g.sm i s d
  exact⟨s',a,Nat.le_trans f b,λe=>by grind⟩
theorem D2.grow{st st':St}{be be':Nat->Nat}{oe oe':Nat->Value}(g:Q6 st be oe st' be' oe'):∀ {cs:List E5} {vs:List Value},D2 st oe cs vs->D2 st' oe' cs vs
 | [],[],_=>trivial
 |_::_,_::_,h=>⟨h.1.grow g,D2.grow g h.2⟩
 | [],_::_,h=>h.elim
 |_::_,[],h=>h.elim
theorem I2.grow{st st':St}{be be':Nat->Nat}{oe oe':Nat->Value}(g:Q6 st be oe st' be' oe'){av:AV}{x:Value}(h:I2 st be oe av x):I2 st' be' oe' av x:=by
 cases av with
 |val v=>exact h
 |own i k =>
  obtain⟨s,a,b,j⟩:=h
  obtain⟨s',c,d,f⟩:=g.sm i s a
  exact⟨s',c,Nat.le_trans b d,λe=>by grind⟩
 |box i off=>exact⟨Nat.lt_of_lt_of_le h.1 g.bl,by rw[g.be i h.1];exact h.2⟩
 |hel s idx sz k=>exact h
 |oel i l idx sz k =>
  obtain⟨s,a,b,j⟩:=h
  obtain⟨s',c,d,f⟩:=g.sm i s a
  exact⟨s',c,Nat.le_trans b d,λe=>by grind⟩
 |agg cs=>obtain⟨vs,a,b⟩:=h;exact⟨vs,a,b.grow g⟩
 |dead=>trivial
theorem D2.length{st:St}{oe:Nat->Value}:∀ {cs:List E5} {vs:List Value},D2 st oe cs vs->cs.length=vs.length
 | [],[],_=>rfl
 |_::_,_::_,h=>by simp[D2.length h.2]
 | [],_::_,h=>h.elim
 |_::_,[],h=>h.elim
theorem D2.vals(st:St)(oe:Nat->Value):∀(vs:List Value),D2 st oe (vals vs) vs
 | []=>trivial
 |_::r=>⟨rfl,D2.vals st oe r⟩
theorem D2.nth{st:St}{oe:Nat->Value}:∀ {cs:List E5} {vs:List Value} {k:Nat} {c:E5},D2 st oe cs vs->nth cs k=some c->∃ v,vs[k]?=some v/\A0d st oe c v
 | [],_,k,c,_,h=>by simp[H.nth]at h
 |d::cs,b::vs,0,c,h,a=>by simp[H.nth]at a;subst a;exact⟨b,by simp,h.1⟩
 |d::cs,b::vs,k+1,c,h,a=>by
  simp[H.nth]at a
  obtain⟨v,e,f⟩:=D2.nth h.2 a
  exact⟨v,by simpa using e,f⟩
 |_::_,[],_,_,h,_=>h.elim
theorem D2.drop{st:St}{oe:Nat->Value}:∀ {cs:List E5} {vs:List Value} (k:Nat),D2 st oe cs vs->D2 st oe (cs.drop k) (vs.drop k)
 |cs,vs,0,h=>by simpa using h
 | [],[],k+1,h=>by simpa using h
 |_::cs,_::vs,k+1,h=>by simpa using D2.drop k h.2
 | [],_::_,_+1,h=>h.elim
 |_::_,[],_+1,h=>h.elim
theorem D2.take{st:St}{oe:Nat->Value}:∀ {cs:List E5} {vs:List Value} (k:Nat),D2 st oe cs vs->D2 st oe (cs.take k) (vs.take k)
 |cs,vs,0,h=>by simp[D2]
 | [],[],k+1,h=>by simp[D2]
 |_::cs,_::vs,k+1,h=>by simpa [D2] using ⟨h.1,D2.take k h.2⟩
 | [],_::_,_+1,h=>h.elim
 |_::_,[],_+1,h=>h.elim
theorem D2.upd{st:St}{oe:Nat->Value}:∀ {cs:List E5} {vs:List Value} {k:Nat} {c:E5} {v:Value},D2 st oe cs vs->A0d st oe c v->D2 st oe (G00 cs k c) (vs.set k v)
 | [],[],k,c,v,h,a=>by simp[G00,D2]
 |_::cs,_::vs,0,c,v,h,a=>⟨a,h.2⟩
 |_::cs,_::vs,k+1,c,v,h,a=>⟨h.1,D2.upd h.2 a⟩
 | [],_::_,_,_,_,h,_=>h.elim
 |_::_,[],_,_,_,h,_=>h.elim
def E3:List Value->Nat->List Value->List Value
 |cs,_,[]=>cs
 |cs,off,x::r=>E3 (cs.set off x) (off+1) r
theorem D2.splice{st:St}{oe:Nat->Value}:∀ {new:List E5} {a:List Value} {cs:List E5} {vs:List Value} {off:Nat},D2 st oe cs vs->D2 st oe new a->D2 st oe (splice cs off new) (E3 vs off a)
 | [],[],cs,vs,off,h,_=>h
 |c::new,v::a,cs,vs,off,h,b=>by
  simp only[H.splice,E3]
  exact D2.splice (h.upd b.1) b.2
 | [],_::_,_,_,_,_,h=>h.elim
 |_::_,[],_,_,_,_,h=>h.elim
theorem Y8:∀(a vs:List Value) (off:Nat),(E3 vs off a).length=vs.length
 | [],vs,off=>rfl
 |n::a,vs,off=>by simp[E3,Y8 a]
def P05(h H:Hp)(v:Value)(e:TypeId)(sz:Nat)(nn:Bool)(xs:List (List Value)):Prop :=
  (∀ x∈xs,x.length=sz/\∀ v∈x,v.oneCell'=true) /\
  ((v = .slice none 0 0/\xs = []/\nn=false) ∨
   ∃ g cap cur,v = .slice (some ⟨g,0,none⟩) xs.length cap/\h g=none/\H g=some (.cells cur e (0,0)) /\
     xs.length<=cap/\cap<=maxLen/\cur.size=cap*sz/\cur.toList.take (xs.length*sz)=xs.flatten)
structure Sim (P:Program) (h0:Hp) (w0:World) (be:Nat->Nat) (oe:Nat->Value) (H:Hp) (st:St) (h:Hp) (a:Act) (w:World):Prop where
 mv:V2 h0 w0 H w
 sub:∀ b o,h b=some o->H b=some o
 box:∀ i cs ty,nth st.bx i=some (.live cs ty)->h (be i)=none/\∃ vs,D2 st oe cs vs/\H (be i)=some (.cells vs.toArray ty (0,0))
 pub:∀ i b,nth st.bx i=some (.publ b)->be i=b
 own:∀ i s e sz by_ nn xs,nth st.ow i=some ⟨s,.live e sz by_ nn xs⟩->P05 h H (oe i) e sz nn xs
 frz:∀ i s v,nth st.ow i=some ⟨s,.frozen v⟩->oe i=v
 bb:∀ i j cs ty cs' ty',nth st.bx i=some (.live cs ty)->nth st.bx j=some (.live cs' ty')->be i=be j->i=j
 oo:∀ i j s e sz by_ nn xs s' e' sz' by' nn' xs' g,nth st.ow i=some ⟨s,.live e sz by_ nn xs⟩->nth st.ow j=some ⟨s',.live e' sz' by' nn' xs'⟩ ->
  (oe i).ownBlock=some g->(oe j).ownBlock=some g->i=j
 bo:∀ i cs ty j s e sz by_ nn xs,nth st.bx i=some (.live cs ty)->nth st.ow j=some ⟨s,.live e sz by_ nn xs⟩->(oe j).ownBlock≠some (be i)
 dfr:a.defers = []
 siz:a.tmps.size=st.n
 fr:∀ s,I2 st be oe (D3 st.fr s) (a.tmps.getD s undef)
section
variable {P:Program} {h0:Hp} {w0:World} {be:Nat->Nat} {oe:Nat->Value} {H:Hp} {st:St} {h:Hp} {a:Act} {w:World}
theorem P05.block{h H:Hp}{v:Value}{e sz:Nat}{nn:Bool}{xs:List (List Value)}(o:P05 h H v e sz nn xs){g:Nat}(d:v.ownBlock=some g):
  h g=none/\∃ cap cur,v = .slice (some ⟨g,0,none⟩) xs.length cap/\H g=some (.cells cur e (0,0)):=by
 rcases o.2 with⟨rfl,_⟩|⟨a,cap,cur,rfl,b,c,_⟩
 all_goals grind[Value.ownBlock]
theorem P05.keep{h b H a:Hp}{v:Value}{e sz:Nat}{nn:Bool}{xs:List (List Value)}(o:P05 h H v e sz nn xs)
  (d:∀ g,v.ownBlock=some g->a g=H g/\b g=none):P05 b a v e sz nn xs:=by
 refine⟨o.1,?_⟩
 rcases o.2 with f|⟨g,cap,cur,rfl,k,c,r⟩
 ·exact .inl f
 ·obtain⟨i,j⟩:=d g rfl
  exact .inr ⟨g,cap,cur,rfl,j,by rw[i];exact c,r⟩
theorem o0p(s:Sim P h0 w0 be oe H st h a w):Vis H w:=s.mv.vis
theorem v07(s:Sim P h0 w0 be oe H st h a w):Vis h w:=λb o c=>s.mv.vis b o (s.sub b o c)
theorem Sim.moved(s:Sim P h0 w0 be oe H st h a w){j:Hp}{t:World}(m:V2 h w j t):∃ d,Sim P h0 w0 be oe d st j a t:=by
 let d:Hp:=λb=>match j b with
  |some o=>some o
  |none=>match h b with
   |some _=>none
   |none=>H b
 have C:∀ b,h b=none->H b≠none->d b=H b/\j b=none:=by
  intro b c l
  have q:b<w.heap.size:=s.mv.vis.lt l
  have A:j b=none:=m.none_of q c
  grind
 have y:V2 H w d t:=by
  refine⟨m.os,m.tape,m.output,m.size,?_,?_,?_,m.fz,m.dn⟩
  ·intro b c l
   have:h b=none:=by
    cases hc:h b with
    |none=>rfl
    |some o=>rw[s.sub b o hc]at l;cases l
   exact m.keep b c this
  ·intro b o f
   simp only[d]at f
   split at f
   ·rename_i x p;cases f;exact m.vis b _ p
   ·split at f
    ·cases f
    ·rename_i p c
     have q:b<w.heap.size:=s.mv.vis.lt (by rw[f];simp)
     rw[m.keep b q c]
     exact s.mv.vis b o f
  ·intro b c
   simp only[d]at c
   split at c
   ·rename_i x p
    rcases m.fresh b (by simp[p])with k|k
    ·left
     cases hc:h b with
     |none=>exact absurd hc k
     |some o=>rw[s.sub b o hc];simp
    ·exact .inr k
   grind
 refine⟨d,⟨s.mv.trans y,?_,?_,s.pub,?_,s.frz,s.bb,s.oo,s.bo,s.dfr,s.siz,s.fr⟩⟩
 ·grind
 ·intro i cs ty n
  obtain⟨k,vs,z,u⟩:=s.box i cs ty n
  grind
 ·intro i s' e sz by_ nn xs n
  refine(s.own i s' e sz by_ nn xs n).keep λg v=>?_
  obtain⟨k,cap,cur,_,u⟩:=(s.own i s' e sz by_ nn xs n).block v
  grind
theorem i4(d:Nat)(av:AV)(r:List (Nat×AV))(s:Nat):D3 ((d,av)::r) s=if d=s then av else D3 r s:=by
 grind[D3,Nat.beq,Nat.eq_of_beq_eq_true,Nat.ne_of_beq_eq_false]
theorem Sim.put(s:Sim P h0 w0 be oe H st h a w){d:Nat}{av:AV}{v:Value}(j:d<st.n)(k:I2 st be oe av v):
  Sim P h0 w0 be oe H { st with fr:=(d,av)::st.fr } h (a.put (some d) v) w:=by
 have b:Q6 st be oe { st with fr:=(d,av)::st.fr } be oe:=⟨Nat.le_refl _,λ_ _=>rfl,λi s h=>⟨s,h,Nat.le_refl _,λ_=>rfl⟩⟩
 refine⟨s.mv,s.sub,λi cs ty l=>?_,s.pub,s.own,s.frz,s.bb,s.oo,s.bo,s.dfr,by simp[Act.put,s.siz],?_⟩
 ·obtain⟨c,vs,f,g⟩:=s.box i cs ty l
  exact⟨c,vs,f.grow b,g⟩
 intro t
 refine I2.grow b ?_
 rw[i4]
 by_cases e:d=t
 ·subst e
  rw[if_pos rfl]
  have:(a.put (some d) v).tmps.getD d undef=v:=by simp[Act.put,s.siz,j]
  rw[this]
  exact k
 ·rw[if_neg e]
  have:(a.put (some d) v).tmps.getD t undef=a.tmps.getD t undef:=by simp[Act.put,Array.getElem?_setIfInBounds_ne e]
  rw[this]
  exact s.fr t
theorem Sim.newBox(s:Sim P h0 w0 be oe H st h a w){cs:List E5}{vs:List Value}{t:TypeId}{b:Nat}{D:World}(y:D2 st oe cs vs)(v:H b=none)
  (m:V2 H w (H.set b (.cells vs.toArray t (0,0))) D) :
  let be':=λj=>if j=st.bx.length then b else be j
  let st':St := { st with bx:=st.bx ++ [.live cs t] }
  Sim P h0 w0 be' oe (H.set b (.cells vs.toArray t (0,0))) st' h a D/\Q6 st be oe st' be' oe:=by
 intro be' st'
 have K:h b=none:=by
  cases l:h b with
  |none=>rfl
  |some o=>rw[s.sub b o l]at v;cases v
 have k:Q6 st be oe st' be' oe:=by
  refine⟨by simp[st'],λi c=>?_,λi s M=>⟨s,M,Nat.le_refl _,λ_=>rfl⟩⟩
  grind
 have L:∀ x,H x≠none->x≠b:=λx n e=>by subst e;exact n v
 have p:∀ i cs ty,nth st.bx i=some (.live cs ty)->be' i=be i:=λi cs ty c=>by simp[be',Nat.ne_of_lt (J01 c)]
 have f:∀ i x,nth st'.bx i=some x->(i=st.bx.length/\x = .live cs t)∨(i≠st.bx.length/\nth st.bx i=some x):=by
  grind[l02]
 have Q:∀ i cs ty,nth st.bx i=some (.live cs ty)->be i≠b:=λi cs ty c=>by
  obtain⟨_,vs,_,u⟩:=s.box i cs ty c
  grind
 have R:∀ i s' e sz by_ nn xs g,nth st.ow i=some ⟨s',.live e sz by_ nn xs⟩->(oe i).ownBlock=some g->g≠b:=λi s' e sz by_ nn xs g c y=>by
  obtain⟨_,_,_,_,u⟩:=(s.own i s' e sz by_ nn xs c).block y
  grind
 refine⟨⟨s.mv.trans m,?_,?_,?_,?_,s.frz,?_,s.oo,?_,s.dfr,s.siz,λt=>(s.fr t).grow k⟩,k⟩
 ·intro x o n
  rw[Hp.set_other _ _ (L x (by rw[s.sub x o n];simp))]
  exact s.sub x o n
 ·intro i cs' ty c
  rcases f i _ c with⟨rfl,e⟩|⟨e,d⟩
  ·cases e
   exact⟨by simp[be',K],vs,y.grow k,by simp[be',Hp.set]⟩
  ·obtain⟨A,O,I,u⟩:=s.box i cs' ty d
   rw[p i cs' ty d]
   exact⟨A,O,I.grow k,by grind[Hp.set_other]⟩
 ·intro i E c
  rcases f i _ c with⟨_,e⟩|⟨e,d⟩
  ·cases e
  ·simp[be',e,s.pub i E d]
 ·intro i s' e sz by_ nn xs c
  refine(s.own i s' e sz by_ nn xs c).keep λg J=>?_
  obtain⟨A,cap,cur,_,u⟩:=(s.own i s' e sz by_ nn xs c).block J
  grind[Hp.set_other]
 ·intro i j F N S T c z e
  rcases f i _ c with⟨rfl,q⟩|⟨q,d⟩<;>rcases f j _ z with⟨rfl,G⟩|⟨G,C⟩
  ·rfl
  ·grind
  ·grind
  ·rw[p i _ _ d,p j _ _ C]at e;exact s.bb i j _ _ _ _ d C e
 ·intro i F N j s' e sz by_ nn xs c z l
  rcases f i _ c with⟨rfl,q⟩|⟨q,d⟩
  ·grind
  ·rw[p i _ _ d]at l;exact s.bo i _ _ j _ _ _ _ _ _ d z l
theorem Sim.updBox(s:Sim P h0 w0 be oe H st h a w){i:Nat}{z cs:List E5}{vs:List Value}{t:TypeId}{D:World}(d:nth st.bx i=some (.live z t))
  (J:D2 st oe cs vs) (m:V2 H w (H.set (be i) (.cells vs.toArray t (0,0))) D) :
  Sim P h0 w0 be oe (H.set (be i) (.cells vs.toArray t (0,0))) { st with bx:=G00 st.bx i (.live cs t) } h a D/\Q6 st be oe { st with bx:=G00 st.bx i (.live cs t) } be oe:=by
 have l:Q6 st be oe { st with bx:=G00 st.bx i (.live cs t) } be oe :=
  ⟨by simp[e05],λ_ _=>rfl,λi s L=>⟨s,L,Nat.le_refl _,λ_=>rfl⟩⟩
 have K:=(s.box i z t d).1
 have f:∀ j x,nth (G00 st.bx i (.live cs t)) j=some x->(j=i/\x = .live cs t)∨(j≠i/\nth st.bx j=some x):=by
  grind[t7,J01]
 refine⟨⟨s.mv.trans m,?_,?_,?_,?_,s.frz,?_,s.oo,?_,s.dfr,s.siz,λt=>(s.fr t).grow l⟩,l⟩
 ·intro x o k
  have:x≠be i:=λe=>by grind
  rw[Hp.set_other _ _ this];exact s.sub x o k
 ·intro j cs' ty c
  rcases f j _ c with⟨rfl,e⟩|⟨e,n⟩
  ·cases e;exact⟨K,vs,J.grow l,by simp[Hp.set]⟩
  ·obtain⟨v,O,G,I⟩:=s.box j cs' ty n
   have:be j≠be i:=λq=>e (s.bb j i _ _ _ _ n d q)
   exact⟨v,O,G.grow l,by grind[Hp.set_other]⟩
 ·intro j b c
  rcases f j _ c with⟨_,e⟩|⟨e,n⟩
  ·cases e
  ·exact s.pub j b n
 ·intro j s' e sz by_ nn xs c
  refine(s.own j s' e sz by_ nn xs c).keep λg A=>?_
  obtain⟨v,cap,cur,_,I⟩:=(s.own j s' e sz by_ nn xs c).block A
  exact⟨Hp.set_other _ _ (λq=>by subst q;exact s.bo i _ _ j _ _ _ _ _ _ d c A),v⟩
 ·intro x y E N Q R k M e
  rcases f x _ k with⟨rfl,u⟩|⟨u,p⟩<;>rcases f y _ M with⟨rfl,F⟩|⟨F,C⟩
  ·rfl
  ·exact s.bb _ _ _ _ _ _ d C e
  ·exact s.bb _ _ _ _ _ _ p d e
  ·exact s.bb _ _ _ _ _ _ p C e
 ·intro x E N j s' e sz by_ nn xs k c
  rcases f x _ k with⟨rfl,u⟩|⟨u,p⟩
  ·exact s.bo _ _ _ j _ _ _ _ _ _ d c
  ·exact s.bo _ _ _ j _ _ _ _ _ _ p c
end
end Go.H
namespace Go.H
set_option linter.unusedVariables false
section
variable {P:Program} {h0:Hp} {w0:World} {be:Nat->Nat} {oe:Nat->Value} {H:Hp} {st:St} {h:Hp} {a:Act} {w:World}
theorem r0l(st:St)(o:Own)(i s:Nat)(a:stamp st i=some s):stamp { st with ow:=st.ow ++ [o] } i=some s:=by
 unfold stamp at *
 have b:i<st.ow.length:=by
  cases hn:nth st.ow i with
  |none=>rw[hn]at a;cases a
  |some x=>exact J01 hn
 simp_all[l02,Nat.ne_of_lt]
theorem Sim.newOwn(s:Sim P h0 w0 be oe H st h a w){v:Value}{e sz by_:Nat}{nn:Bool}{xs:List (List Value)}{n:Hp}{Q:World}
  (I:∀ b o,H b=some o->n b=some o) (m:V2 H w n Q) (X:P05 h n v e sz nn xs) (W:∀ g,v.ownBlock=some g->H g=none) :
  let oe':=λj=>if j=st.ow.length then v else oe j
  let st':St := { st with ow:=st.ow ++ [⟨0,.live e sz by_ nn xs⟩] }
  Sim P h0 w0 be oe' n st' h a Q/\Q6 st be oe st' be oe':=by
 intro oe' st'
 have F:Q6 st be oe st' be oe':=by
  refine⟨Nat.le_refl _,λ_ _=>rfl,λi s A=>⟨s,r0l st _ i s A,Nat.le_refl _,λ_=>?_⟩⟩
  have V:i<st.ow.length:=by
   unfold stamp at A
   cases hn:nth st.ow i with
   |none=>rw[hn]at A;cases A
   |some x=>exact J01 hn
  grind
 have p:∀ i x,nth st'.ow i=some x->(i=st.ow.length/\x=⟨0,.live e sz by_ nn xs⟩)∨(i≠st.ow.length/\nth st.ow i=some x):=by
  grind[l02]
 have Z:∀ b,H b≠none->n b=H b:=by
  intro b J
  cases f:H b with
  |none=>exact absurd f J
  |some o=>exact I b o f
 refine⟨⟨s.mv.trans m,λb o J=>I b o (s.sub b o J),?_,s.pub,?_,?_,s.bb,?_,?_,s.dfr,s.siz,λt=>(s.fr t).grow F⟩,F⟩
 ·intro i cs ty c
  obtain⟨G,vs,R,z⟩:=s.box i cs ty c
  exact⟨G,vs,R.grow F,I _ _ z⟩
 ·intro i s' y D u C E c
  rcases p i _ c with⟨rfl,d⟩|⟨d,l⟩
  ·grind
  ·simp only[oe',if_neg d]
   refine(s.own i _ _ _ _ _ _ l).keep λg K=>?_
   obtain⟨G,cap,cur,_,z⟩:=(s.own i _ _ _ _ _ _ l).block K
   grind
 ·intro i s' T c
  rcases p i _ c with⟨rfl,d⟩|⟨d,l⟩
  ·cases d
  ·simp only[oe',if_neg d];exact s.frz i s' T l
 ·intro i j s1 y D u C E s2 d ab U aa ac g c L gi O
  have Y:∀ k s1 y D u C E,nth st.ow k=some ⟨s1,.live y D u C E⟩->(oe k).ownBlock=some g->v.ownBlock≠some g:=λk _ _ _ _ _ _ S K f=>by
   obtain⟨G,cap,cur,_,z⟩:=(s.own k _ _ _ _ _ _ S).block K
   grind
  rcases p i _ c with⟨rfl,N⟩|⟨N,l⟩<;>rcases p j _ L with⟨rfl,q⟩|⟨q,M⟩
  ·rfl
  ·grind
  ·grind
  ·simp only[oe',if_neg N]at gi;simp only[oe',if_neg q]at O;exact s.oo i j _ _ _ _ _ _ _ _ _ _ _ _ g l M gi O
 ·intro i cs ty j s1 y D u C E c L f
  rcases p j _ L with⟨rfl,q⟩|⟨q,M⟩
  ·simp only[oe',if_pos rfl]at f
   obtain⟨_,vs,_,z⟩:=s.box i cs ty c
   grind
  ·simp only[oe',if_neg q]at f;exact s.bo i cs ty j _ _ _ _ _ _ c M f
theorem Sim.updOwn(s:Sim P h0 w0 be oe H st h a w){i M U ae T:Nat}{ad:Bool}{ag:List (List Value)}(K:nth st.ow i=some ⟨M,.live U ae T ad ag⟩)
  {v:Value} {s1 e sz by_:Nat} {nn:Bool} {xs:List (List Value)} {J:Hp} {S:World} (an:M<=s1) (ao:s1=M->v=oe i)
  (m:V2 H w J S) (al:∀ b,(oe i).ownBlock≠some b->H b≠none->J b=H b) (am:P05 h J v e sz nn xs)
  (R:∀ g,v.ownBlock=some g->(oe i).ownBlock=some g∨H g=none) :
  let oe':=λj=>if j=i then v else oe j
  let st':St := { st with ow:=G00 st.ow i ⟨s1,.live e sz by_ nn xs⟩ }
  Sim P h0 w0 be oe' J st' h a S/\Q6 st be oe st' be oe':=by
 intro oe' st'
 have W:=J01 K
 have L:Q6 st be oe st' be oe':=by
  refine⟨Nat.le_refl _,λ_ _=>rfl,λj t Y=>?_⟩
  unfold stamp at Y ⊢
  simp only[st',t7 _ _ _ W]
  grind
 have C:∀ j x,nth st'.ow j=some x->(j=i/\x=⟨s1,.live e sz by_ nn xs⟩)∨(j≠i/\nth st.ow j=some x):=by
  grind[t7]
 have ak:∀ g,(oe i).ownBlock=some g->h g=none:=λg q=>((s.own i _ _ _ _ _ _ K).block q).1
 have aq:∀ j s1 D G A F I g,j≠i->nth st.ow j=some ⟨s1,.live D G A F I⟩->(oe j).ownBlock=some g->(oe i).ownBlock≠some g/\v.ownBlock≠some g:=by
  intro j s1 D G A F I g X l q
  have d:(oe i).ownBlock≠some g:=λf=>X (s.oo j i _ _ _ _ _ _ _ _ _ _ _ _ g l K q f)
  refine⟨d,λf=>?_⟩
  rcases R g f with c|c
  ·exact d c
  ·obtain⟨_,cap,cur,_,p⟩:=(s.own j _ _ _ _ _ _ l).block q
   rw[c]at p;cases p
 have ah:∀ k cs ty,nth st.bx k=some (.live cs ty)->(oe i).ownBlock≠some (be k)/\v.ownBlock≠some (be k):=by
  intro k cs ty z
  have d:=s.bo k cs ty i _ _ _ _ _ _ z K
  refine⟨d,λf=>?_⟩
  rcases R _ f with c|c
  ·exact d c
  ·obtain⟨_,vs,_,p⟩:=s.box k cs ty z
   rw[c]at p;cases p
 refine⟨⟨s.mv.trans m,?_,?_,s.pub,?_,?_,s.bb,?_,?_,s.dfr,s.siz,λt=>(s.fr t).grow L⟩,L⟩
 ·intro b o V
  have aj:=s.sub b o V
  grind
 ·intro k cs ty z
  obtain⟨d,vs,c,p⟩:=s.box k cs ty z
  exact⟨d,vs,c.grow L,by grind⟩
 ·intro j s' D G A F I l
  rcases C j _ l with⟨rfl,n⟩|⟨n,u⟩
  ·grind
  ·simp only[oe',if_neg n]
   refine(s.own j _ _ _ _ _ _ u).keep λg q=>?_
   obtain⟨d,cap,cur,_,p⟩:=(s.own j _ _ _ _ _ _ u).block q
   grind
 ·intro j s' af l
  rcases C j _ l with⟨rfl,n⟩|⟨n,u⟩
  ·cases n
  ·simp only[oe',if_neg n];exact s.frz j s' af u
 ·intro x y s1 D G A F I s2 n ar ai ap au g Z ab O Q
  rcases C x _ Z with⟨rfl,N⟩|⟨N,aa⟩<;>rcases C y _ ab with⟨rfl,E⟩|⟨E,ac⟩
  ·rfl
  ·grind
  ·grind
  ·simp only[oe',if_neg N]at O;simp only[oe',if_neg E]at Q;exact s.oo x y _ _ _ _ _ _ _ _ _ _ _ _ g aa ac O Q
 ·intro k cs ty j s1 D G A F I z l f
  rcases C j _ l with⟨rfl,E⟩|⟨E,u⟩
  ·grind
  ·simp only[oe',if_neg E]at f;exact s.bo k cs ty j _ _ _ _ _ _ z u f
theorem Sim.freeze(s:Sim P h0 w0 be oe H st h a w){i l e sz by_:Nat}{nn:Bool}{xs:List (List Value)}(u:nth st.ow i=some ⟨l,.live e sz by_ nn xs⟩):
  ∃ d,G1 h d (oe i) e sz nn xs/\Sim P h0 w0 be oe H { st with ow:=G00 st.ow i ⟨l,.frozen (oe i)⟩ } d a w /\
   Q6 st be oe { st with ow:=G00 st.ow i ⟨l,.frozen (oe i)⟩ } be oe:=by
 have V:=J01 u
 have C:=s.own i _ _ _ _ _ _ u
 have q:Q6 st be oe { st with ow:=G00 st.ow i ⟨l,.frozen (oe i)⟩ } be oe:=by
  refine⟨Nat.le_refl _,λ_ _=>rfl,λj t Y=>⟨t,?_,Nat.le_refl _,λ_=>rfl⟩⟩
  unfold stamp at Y ⊢
  simp only[t7 _ _ _ V]
  grind
 have m:∀ j x,nth (G00 st.ow i ⟨l,.frozen (oe i)⟩) j=some x->(j=i/\x=⟨l,.frozen (oe i)⟩)∨(j≠i/\nth st.ow j=some x):=by
  grind[t7]
 have N:∀ d,(∀ b,(oe i).ownBlock≠some b->d b=h b)->(∀ b o,d b=some o->H b=some o) ->
   Sim P h0 w0 be oe H { st with ow:=G00 st.ow i ⟨l,.frozen (oe i)⟩ } d a w:=by
  intro d M X
  refine⟨s.mv,X,?_,s.pub,?_,?_,s.bb,?_,?_,s.dfr,s.siz,λt=>(s.fr t).grow q⟩
  ·intro k cs ty v
   obtain⟨z,vs,J,U⟩:=s.box k cs ty v
   exact⟨by rw[M _ (s.bo k cs ty i _ _ _ _ _ _ v u)];exact z,vs,J.grow q,U⟩
  ·intro j s' G Q F O R p
   rcases m j _ p with⟨rfl,c⟩|⟨c,f⟩
   ·cases c
   ·refine(s.own j _ _ _ _ _ _ f).keep λg L=>⟨rfl,?_⟩
    rw[M g (λA=>c (s.oo j i _ _ _ _ _ _ _ _ _ _ _ _ g f u L A))]
    exact((s.own j _ _ _ _ _ _ f).block L).1
  ·intro j s' ac p
   rcases m j _ p with⟨rfl,c⟩|⟨c,f⟩
   ·cases c;rfl
   ·exact s.frz j s' ac f
  ·intro x y s1 G Q F O R s2 c af ad ae ag g E aa S T
   rcases m x _ E with⟨rfl,I⟩|⟨I,Z⟩<;>rcases m y _ aa with⟨rfl,n⟩|⟨n,ab⟩
   ·rfl
   ·cases I
   ·cases n
   ·exact s.oo x y _ _ _ _ _ _ _ _ _ _ _ _ g Z ab S T
  ·intro k cs ty j s1 G Q F O R v p A
   rcases m j _ p with⟨rfl,n⟩|⟨n,f⟩
   ·cases n
   ·exact s.bo k cs ty j _ _ _ _ _ _ v f A
 rcases C.2 with⟨D,E,W⟩|⟨g,cap,cur,D,z,J,r⟩
 ·exact⟨h,⟨C.1,.inl ⟨D,E,W,rfl⟩⟩,N h (λ_ _=>rfl) s.sub,q⟩
 ·refine⟨h.set g (.cells cur e (0,0)),⟨C.1,.inr ⟨g,cap,cur,D,z,rfl,r⟩⟩,N _ ?_ ?_,q⟩
  ·grind[Hp.set_other,Value.ownBlock]
  ·intro b o K
   by_cases e':b=g
   ·grind[Hp.set]
   ·rw[Hp.set_other _ _ e']at K;exact s.sub b o K
theorem Sim.publ(s:Sim P h0 w0 be oe H st h a w){i:Nat}{cs:List E5}{ty:TypeId}(m:nth st.bx i=some (.live cs ty)){vs:List Value}
  (S:H (be i)=some (.cells vs.toArray ty (0,0))) :
  h (be i)=none/\Sim P h0 w0 be oe H { st with bx:=G00 st.bx i (.publ (be i)) } (h.set (be i) (.cells vs.toArray ty (0,0))) a w /\
   Q6 st be oe { st with bx:=G00 st.bx i (.publ (be i)) } be oe:=by
 have T:=J01 m
 have I:=(s.box i cs ty m).1
 have p:Q6 st be oe { st with bx:=G00 st.bx i (.publ (be i)) } be oe :=
  ⟨by simp[e05],λ_ _=>rfl,λj t J=>⟨t,J,Nat.le_refl _,λ_=>rfl⟩⟩
 have d:∀ j x,nth (G00 st.bx i (.publ (be i))) j=some x->(j=i/\x = .publ (be i))∨(j≠i/\nth st.bx j=some x):=by
  grind[t7]
 refine⟨I,⟨s.mv,?_,?_,?_,?_,s.frz,?_,s.oo,?_,s.dfr,s.siz,λt=>(s.fr t).grow p⟩,p⟩
 ·intro b o A
  by_cases f:b=be i
  ·grind[Hp.set]
  ·rw[Hp.set_other _ _ f]at A;exact s.sub b o A
 ·intro k cs' M q
  rcases d k _ q with⟨rfl,e⟩|⟨e,n⟩
  ·cases e
  ·obtain⟨E,O,F,G⟩:=s.box k cs' M n
   exact⟨by rw[Hp.set_other _ _ (λf=>e (s.bb k i _ _ _ _ n m f))];exact E,O,F.grow p,G⟩
 ·intro k b q
  rcases d k _ q with⟨rfl,e⟩|⟨e,n⟩
  ·cases e;rfl
  ·exact s.pub k b n
 ·intro j s' c V Q U X l
  refine(s.own j _ _ _ _ _ _ l).keep λg C=>⟨rfl,?_⟩
  rw[Hp.set_other _ _ (λf=>by subst f;exact s.bo i cs ty j _ _ _ _ _ _ m l C)]
  exact((s.own j _ _ _ _ _ _ l).block C).1
 ·intro x y D N R W u K e
  rcases d x _ u with⟨_,c⟩|⟨c,v⟩
  ·cases c
  rcases d y _ K with⟨_,z⟩|⟨z,L⟩
  ·cases z
  exact s.bb _ _ _ _ _ _ v L e
 ·intro x D N j s' e sz by_ nn xs u l
  rcases d x _ u with⟨_,c⟩|⟨c,v⟩
  ·cases c
  ·exact s.bo _ _ _ j _ _ _ _ _ _ v l
theorem Sim.rdA(s:Sim P h0 w0 be oe H st h a w){av:AV}{x:Value}(g:I2 st be oe av x):I2 st be oe (rdA st av) x:=by
 cases av with
 |own i k =>
  simp only[Go.H.rdA]
  split
  ·rename_i s' o c
   split
   ·rename_i e
    have j:=Nat.eq_of_beq_eq_true e
    split
    ·exact g
    ·rename_i v
     obtain⟨t,l,_,d⟩:=g
     have:t=s':=by grind[stamp]
     subst this
     have:=d j.symm
     rw[s.frz i _ v c]at this
     exact this
   ·trivial
  ·trivial
 |box i off =>
  simp only[Go.H.rdA]
  split
  ·exact g
  ·rename_i b c
   have:=g.2
   rw[s.pub i b c]at this
   exact this
  ·trivial
 |oel i k idx sz f =>
  simp only[Go.H.rdA]
  split
  ·split
   ·exact g
   ·trivial
  ·trivial
 |_=>exact g
theorem Sim.rdO(s:Sim P h0 w0 be oe H st h a w)(x:Operand):I2 st be oe (rdO st x) (a.eval x):=by
 cases x with
 |tmp t=>exact s.rdA (s.fr t)
 |const v=>rfl
 |global g=>trivial
 |func f=>rfl
theorem p06{st:St}{av:AV}{i k:Nat}(h:Go.H.rdA st av = .own i k):∃ e sz by_ nn xs,nth st.ow i=some ⟨k,.live e sz by_ nn xs⟩:=by
 cases av with
 |own j l =>
  grind[Go.H.rdA,Nat.eq_of_beq_eq_true]
 |box j off=>simp only[Go.H.rdA]at h;split at h<;>cases h
 |oel j l idx sz f=>simp only[Go.H.rdA]at h;split at h<;>(try split at h)<;>cases h
 |_=>cases h
theorem q06{st:St}{x:Operand}{i k:Nat}(h:Go.H.rdO st x = .own i k):∃ e sz by_ nn xs,nth st.ow i=some ⟨k,.live e sz by_ nn xs⟩:=by
 cases x with
 |tmp t=>exact p06 h
 |_=>cases h
theorem D0h{st:St}{av:AV}{i k:Nat}{idx:Int}{sz f:Nat}(h:Go.H.rdA st av = .oel i k idx sz f):∃ e a by_ nn xs,nth st.ow i=some ⟨k,.live e a by_ nn xs⟩:=by
 cases av with
 |own j l=>simp only[Go.H.rdA]at h;split at h<;>(try split at h)<;>(try split at h)<;>cases h
 |box j off=>simp only[Go.H.rdA]at h;split at h<;>cases h
 |oel j l idx sz f =>
  grind[Go.H.rdA,Nat.eq_of_beq_eq_true]
 |_=>cases h
theorem E0h{st:St}{x:Operand}{i k:Nat}{idx:Int}{sz f:Nat}(h:Go.H.rdO st x = .oel i k idx sz f):∃ e a by_ nn xs,nth st.ow i=some ⟨k,.live e a by_ nn xs⟩:=by
 cases x with
 |tmp t=>exact D0h h
 |_=>cases h
theorem I2.own_cur{st:St}{be:Nat->Nat}{oe:Nat->Value}{i k:Nat}{x:Value}{o:OSt}(g:I2 st be oe (.own i k) x)(c:nth st.ow i=some ⟨k,o⟩):x=oe i:=by
 obtain⟨s,a,_,b⟩:=g
 grind[stamp]
theorem I2.oel_cur{st:St}{be:Nat->Nat}{oe:Nat->Value}{i k:Nat}{idx:Int}{sz f:Nat}{x:Value}{o:OSt}(g:I2 st be oe (.oel i k idx sz f) x)(d:nth st.ow i=some ⟨k,o⟩):
  ∃ g n c,oe i = .slice (some ⟨g,0,none⟩) n c/\x=ptr g (idx.toNat*sz+f):=by
 obtain⟨s,a,_,b⟩:=g
 grind[stamp]
theorem w07{st:St}:∀ {cs:List E5} {vs a:List Value},n0d cs=some vs->D2 st oe cs a->a=vs
 | [],vs,[],h,_=>by cases h;rfl
 | [],vs,_::_,h,g=>g.elim
 | .val v::r,vs,[],h,g=>g.elim
 | .val v::r,vs,w::a,h,g=>by
  simp only[n0d]at h
  split at h
  ·rename_i e d
   cases h
   obtain⟨b,c⟩:=g
   rw[w07 d c,show w=v from b]
  ·cases h
 | .own i k::r,vs,a,h,g=>by cases h
theorem G7{st:St}{av:AV}{v x:Value}(h:r04 av=some v)(g:I2 st be oe av x):x=v:=by
 cases av with
 |val u=>cases h;exact g
 |agg cs =>
  simp only[r04]at h
  split at h
  ·rename_i vs b
   cases h
   obtain⟨c,rfl,a⟩:=g
   rw[w07 b a]
  ·cases h
 |_=>cases h
end
end Go.H
namespace Go.H
set_option linter.unusedVariables false
theorem O1{P:Program}{g e:Type}(s:Sem g)(f:g->Sem e):∀(h:Hp) (K:e->Hp->Prop),wpS P (s >>= f) h K=wpS P s h (λx d=>wpS P (f x) d K):=by
 change ∀(h:Hp) (K:e->Hp->Prop),wpS P (s.bind f) h K=wpS P s h (λx d=>wpS P (f x) d K)
 induction s with
 |pure a=>intro h K;rfl
 |load m a k b=>grind[Sem.bind,wpS]
 |store m a v k b=>intro h K;simp only[Sem.bind,wpS,b]
 |new o k b=>grind[Sem.bind,wpS]
 |shape r k b=>grind[Sem.bind,wpS]
 |freeze a n k b=>intro h K;rfl
 |frozen a k b=>grind[Sem.bind,wpS]
 |getObj r k b=>grind[Sem.bind,wpS]
 |setObj r o k b=>grind[Sem.bind,wpS]
 |choose q k b=>grind[Sem.bind,wpS]
 |sys c k b=>intro h K;rfl
 |program k b=>grind[Sem.bind,wpS]
 |mark m k b=>grind[Sem.bind,wpS]
 |halt x=>intro h K;rfl
theorem U1{P:Program}{a:Type}(x:a)(h:Hp)(K:a->Hp->Prop):wpS P (pure x) h K=K x h:=rfl
theorem r0m{P:Program}{d:Type}(s:Sem d){x:d}(b:evP P s=some x):∀ w:World,s.run P w = .ok x w:=by
 induction s with
 |pure a=>simp_all[evP,Option.some.injEq]
 |program k c=>intro w;exact c _ b w
 |mark m k c=>intro w;exact c b w
 |_=>simp[evP]at b
theorem a0a(a:Operand->Value):∀ l:List Operand,x0h a l=l.map a
 | []=>rfl
 |x::r=>by simp only[x0h,List.map_cons,a0a a r]
theorem s0m:∀ a b:List Value,X0o a b=a++b
 | [],b=>rfl
 |x::r,b=>by simp only[X0o,List.cons_append,s0m r b]
theorem Q05:∀ l:List Operand,m07 l=l.map fun | .const _=>true|_=>false
 | []=>rfl
 | .const _::r=>by simp only[m07,List.map_cons,Q05 r]
 | .tmp _::r=>by simp only[m07,List.map_cons,Q05 r]
 | .global _::r=>by simp only[m07,List.map_cons,Q05 r]
 | .func _::r=>by simp only[m07,List.map_cons,Q05 r]
theorem b0a(a:Operand->Value)(o:Oper):J08 a o=execOp a o:=by
 unfold J08
 split
 ·rename_i c d
  obtain⟨i,as,j⟩:=c
  split
  ·rename_i b g
   simp only at g
   subst g
   unfold execOp
   rw[d]
   simp only[resolve,a0a,Q05]
   rw[show(List.map a as.toList).toArray=as.map a from by apply Array.ext';simp]
   have h:∀ f:Operand->Bool,(List.map f as.toList).toArray=as.map f:=λf=>by apply Array.ext';simp
   rw[h]
   rfl
  ·rfl
 ·rename_i fn first e d
  unfold execOp
  rw[d]
  simp only[a0a]
  rw[show(List.map a first.toList).toArray=first.map a from by apply Array.ext';simp,show(List.map a e.toList).toArray=e.map a from by apply Array.ext';simp]
 ·rfl
theorem i08{P:Program}{e:Operand->Value}{o:Oper}{f:FuncId}{l:List Value}(a:l07 e o=some (f,l))(b:okF P f=true)(w:World):(execOp e o).run P w = .ok (.enter f l.toArray) w:=by
 unfold l07 at a
 split at a
 ·rename_i c i
  obtain⟨m,as,q⟩:=c
  split at a
  ·rename_i x d
   simp only at d
   subst d
   split at a
   ·rename_i p first n j
    cases a
    unfold okF at b
    split at b
    ·rename_i fn hf
     split at b
     ·rename_i k g
      split at b
      ·cases b
      ·rename_i h
       unfold execOp
       rw[i]
       simp only[resolve,j,Deferred.ofValue,Sem.run_bind,Sem.run_pure,Result.andThen_ok,invoke,callFunc,program,Sem.run,hf,h,g,Bool.false_eq_true,if_false,Option.isNone_some]
       simp_all[s0m,a0a]
     ·cases b
    ·cases b
   ·cases a
  ·cases a
 ·cases a
section
variable {P:Program} {h0:Hp} {w0:World} {be:Nat->Nat} {oe:Nat->Value} {H:Hp} {st:St} {h:Hp} {a:Act} {w:World}
theorem Q6.trans{st f h:St}{be a b:Nat->Nat}{oe d e:Nat->Value}(g:Q6 st be oe f a d)(k:Q6 f a d h b e):Q6 st be oe h b e:=by
 refine⟨Nat.le_trans g.bl k.bl,λi c=>?_,λi s l=>?_⟩
 ·rw[k.be i (Nat.lt_of_lt_of_le c g.bl),g.be i c]
 ·obtain⟨s1,j,m,n⟩:=g.sm i s l
  obtain⟨s2,o,p,q⟩:=k.sm i s1 j
  grind
theorem c0a(s:Sim P h0 w0 be oe H st h a w){i k:Nat}{x:Value}(g:∃ t,stamp st i=some t/\k<=t/\(k=t->x=oe i)){K:Value->St->Hp->Prop}
  (b:w0h i k st h K):∃ st' c,K x st' c/\Sim P h0 w0 be oe H st' c a w/\Q6 st be oe st' be oe/\st'.bx=st.bx:=by
 unfold w0h at b
 obtain⟨t,p,_,m⟩:=g
 split at b
 ·rename_i s' e sz by_ nn xs j
  split at b
  ·rename_i d
   have f:=Nat.eq_of_beq_eq_true d
   have l:t=s':=by grind[stamp]
   have n:x=oe i:=m (by rw[l,f])
   obtain⟨c,o,f2,f3⟩:=s.freeze j
   rw[n]
   exact⟨_,c,b _ _ o,f2,f3,rfl⟩
  ·exact b.elim
 ·rename_i s' v j
  split at b
  ·rename_i d
   have f:=Nat.eq_of_beq_eq_true d
   have l:t=s':=by grind[stamp]
   have n:x=v:=by rw[m (by rw[l,f]),s.frz i _ v j]
   grind[Q6.refl]
  ·exact b.elim
 ·exact b.elim
theorem O02:∀(cs:List E5) {st:St} {h:Hp} {vs:List Value} {K:List Value->St->Hp->Prop},Sim P h0 w0 be oe H st h a w->D2 st oe cs vs->k07 cs st h K ->
  ∃ st' c,K vs st' c/\Sim P h0 w0 be oe H st' c a w/\Q6 st be oe st' be oe/\st'.bx=st.bx
 | [],st,h,[],K,s,_,b=>⟨st,h,b,s,Q6.refl _ _ _,rfl⟩
 | .val v::r,st,h,x::vs,K,s,g,b=>by
  have o:x=v:=g.1
  subst o
  obtain⟨st',c,t,u⟩:=O02 r s g.2 b
  grind
 | .own i k::r,st,h,x::vs,K,s,g,b=>by
  obtain⟨y,q,e,s1,d,m⟩:=c0a s g.1 b
  obtain⟨p,l,f,s2,j,n⟩:=O02 r s1 (g.2.grow d) e
  exact⟨p,l,f,s2,d.trans j,n.trans m⟩
 | [],_,_,_::_,_,_,g,_=>g.elim
 |_::_,_,_,[],_,_,g,_=>g.elim
theorem D02(s:Sim P h0 w0 be oe H st h a w){av:AV}{x:Value}(g:I2 st be oe av x){K:Value->St->Hp->Prop}(c:rfy av st h K):
  ∃ st' d,K x st' d/\Sim P h0 w0 be oe H st' d a w/\Q6 st be oe st' be oe:=by
 cases av with
 |val v=>have f:x=v:=g;subst f;exact⟨st,h,c,s,Q6.refl _ _ _⟩
 |own i k=>obtain⟨st',d,q,t,u,_⟩:=c0a s g c;grind
 |box i off =>
  have f:=g.2
  simp only[rfy,W0o]at c
  split at c
  ·rename_i cells ty e
   obtain⟨E,vs,j,o⟩:=s.box i cells ty e
   obtain⟨C,D,l,s1,n,m⟩:=O02 cells s j c
   have p:nth C.bx i=some (.live cells ty):=by rw[m];exact e
   obtain⟨y,z,A⟩:=s1.publ p o
   rw[f]
   exact⟨_,_,l (be i) y,z,n.trans A⟩
  ·rename_i b e
   rw[f,s.pub i b e]
   grind[Q6.refl]
  ·exact c.elim
 |agg cs =>
  obtain⟨vs,rfl,j⟩:=g
  obtain⟨st',d,q,t,u,_⟩:=O02 cs s j c
  grind
 |_=>exact c.elim
theorem a02:∀(l:List Operand) {st:St} {h:Hp} {K:List (Nat×Value)->St->Hp->Prop},Sim P h0 w0 be oe H st h a w->g0b l st h K ->
  ∃ vs st' m,K vs st' m/\Sim P h0 w0 be oe H st' m a w/\Q6 st be oe st' be oe/\(∀ p∈vs,p.2=a.eval (.tmp p.1))/\(∀ x∈l,(∃ t v,x = .tmp t/\(t,v)∈vs)∨(∀ q,rho q x=a.eval x))
 | [],st,h,K,s,b=>⟨[],st,h,b,s,Q6.refl _ _ _,by simp,by simp⟩
 | .tmp t::r,st,h,K,s,b=>by
  obtain⟨y,u,n,s1,o⟩:=D02 s (s.rdO (.tmp t)) b
  obtain⟨vs,i,g,d,s2,e,j,k⟩:=a02 r s1 n
  refine⟨_,i,g,d,s2,o.trans e,?_,?_⟩
  all_goals grind
 | .const v::r,st,h,K,s,b=>by
  obtain⟨vs,i,g,d,s2,e,j,k⟩:=a02 r s b
  refine⟨vs,i,g,d,s2,e,j,λx c=>?_⟩
  rcases List.mem_cons.1 c with rfl|c
  ·exact .inr λ_=>rfl
  ·exact k x c
 | .func f::r,st,h,K,s,b=>by
  obtain⟨vs,i,g,d,s2,e,j,k⟩:=a02 r s b
  refine⟨vs,i,g,d,s2,e,j,λx c=>?_⟩
  rcases List.mem_cons.1 c with rfl|c
  ·exact .inr λ_=>rfl
  ·exact k x c
 | .global _::_,_,_,_,_,b=>b.elim
theorem r0b:∀(vs:List (Nat×Value)) (t:Nat) (y:Value),(∀ p∈vs,p.1=t->p.2=y)->(∃ v,(t,v)∈vs)->i0m vs t=y
 | [],t,y,_,h=>by grind
 |(k,v)::r,t,y,a,h=>by
  simp only[i0m]
  split
  ·simp_all
  ·rename_i c
   refine r0b r t y (λp b=>a p (mC _ b)) ?_
   grind[absurd,Nat.ne_of_beq_eq_false]
theorem j08{o:Oper}{vs:List (Nat×Value)}(c:O09 o.op=false)(d:∀ p∈vs,p.2=a.eval (.tmp p.1))
  (f:∀ x∈o.op.operands.toList,(∃ t v,x = .tmp t/\(t,v)∈vs)∨(∀ k,rho k x=a.eval x)):execOp (rho vs) o=execOp a.eval o:=by
 refine execOp_congr o (λcs b g=>by rw[g]at c;cases c) λx j=>?_
 rcases f x (by simpa using j)with⟨t,v,rfl,h⟩|hf
 ·exact r0b vs t _ (λp i e=>by rw[d p i,e]) ⟨v,h⟩
 ·exact hf vs
def Nx(P:Program)(h0:Hp)(w0:World)(g:St)(e:Nat->Nat)(f:Nat->Value)(K:AV->St->Hp->Prop)(a:Act)(d:Option Tmp):Act->World->Prop:=λc h =>
 ∃ av st' b v be oe H,K av st' b/\c=a.put d v/\Sim P h0 w0 be oe H st' b a h/\I2 st' be oe av v/\Q6 g e f st' be oe
theorem H7{o:Oper}{next:Act->World->Prop}{Q:Exit->Act->World->Prop}{v:Value}{b:World}(d:(execOp a.eval o).run P w = .ok (.value v) b)
  (c:next (a.put o.dst v) b):o.wp P a w next Q:=by
 unfold Oper.wp;rw[d];exact c
theorem k08{o:Oper}{next:Act->World->Prop}{Q:Exit->Act->World->Prop}{w':World}(hr:(execOp a.eval o).run P w = .ok .skip w')
  (hn:next (a.put o.dst undef) w'):o.wp P a w next Q:=by
 unfold Oper.wp;rw[hr];exact hn
theorem z04{o:Oper}{vs:List (Nat×Value)}(d:∀ p∈vs,p.2=a.eval (.tmp p.1))
  (f:∀ x∈o.op.operands.toList,(∃ t v,x = .tmp t/\(t,v)∈vs)∨(∀ j,rho j x=a.eval x)):l07 (rho vs) o=l07 a.eval o:=by
 have key:∀ x∈o.op.operands.toList,rho vs x=a.eval x:=λx b=>by
  rcases f x b with⟨t,v,rfl,h⟩|hf
  ·exact r0b vs t _ (λp i e=>by rw[d p i,e]) ⟨v,h⟩
  ·exact hf vs
 unfold l07
 split
 ·rename_i c k
  split
  ·rename_i x b
   have g:∀ y,y=x∨y∈c.args.toList->y∈o.op.operands.toList:=λy l=>by
    grind[Op.operands,Call.operands]
   rw[key x (g x (.inl rfl))]
   have:x0h (rho vs) c.args.toList=x0h a.eval c.args.toList:=by
    grind[a0a,List.map_congr_left]
   rw[this]
  ·rfl
 ·rfl
theorem Z8(s:Sim P h0 w0 be oe H st h a w){o:Oper}{K:AV->St->Hp->Prop}{Q:Exit->Act->World->Prop}(c:G05 P o st h K):o.wp P a w (Nx P h0 w0 st be oe K a o.dst) Q:=by
 unfold G05 at c
 split at c
 ·exact c.elim
 rename_i D
 obtain⟨vs,i,F,b,s1,d,p,q⟩:=a02 _ s c
 rw[b0a,j08 D p q,z04 p q]at b
 split at b
 ·rename_i f l x
  split at b
  ·rename_i C
   unfold Oper.wp
   rw[i08 x C,Oper.upon_enter]
   refine(b.run w (v07 s1)).mono ?_
   rintro e I ⟨v,u,rfl,y,A⟩
   obtain⟨t,E⟩:=s1.moved A
   exact⟨.val v,i,u,v,be,oe,t,y,rfl,E,rfl,d⟩
  ·exact b.elim
 ·obtain⟨n,k,G,m,g,z⟩:=R9 _ _ _ (v07 s1) b
  obtain⟨j,s2⟩:=s1.moved z
  cases n with
  |value v=>exact H7 m ⟨.val v,i,k,v,be,oe,j,g,rfl,s2,rfl,d⟩
  |skip=>exact k08 m ⟨.val undef,i,k,undef,be,oe,j,g,rfl,s2,rfl,d⟩
  |_=>exact g.elim
theorem Sim.still(s:Sim P h0 w0 be oe H st h a w){hf:Hp}{d:World}(e:∀ b o,hf b=some o->H b=some o)(m:V2 hf w hf d):Sim P h0 w0 be oe H st h a d:=by
 refine⟨s.mv.trans ⟨m.os,m.tape,m.output,m.size,?_,?_,λb c => .inl c,m.fz,m.dn⟩,s.sub,s.box,s.pub,s.own,s.frz,s.bb,s.oo,s.bo,s.dfr,s.siz,s.fr⟩
 ·intro b c g
  refine m.keep b c ?_
  cases hc:hf b with
  |none=>rfl
  |some o=>grind
 ·intro b o c
  cases hc:hf b with
  |some f =>
   have:=e b f hc
   rw[this]at c;cases c
   exact m.vis b _ hc
  |none=>rw[m.keep b (s.mv.vis.lt (by rw[c];simp)) hc];exact s.mv.vis b o c
theorem b0j(s:Sim P h0 w0 be oe H st h a w){o:Oper}{K:AV->St->Hp->Prop}{Q:Exit->Act->World->Prop}(c:Y0o P o st h K):o.wp P a w (Nx P h0 w0 st be oe K a o.dst) Q:=by
 unfold Y0o at c
 split at c
 ·exact c.elim
 rename_i q
 obtain⟨vs,t,n,b,s1,_,k,m⟩:=a02 _ s c
 rw[z04 k m]at b
 split at b
 ·rename_i f l d
  split at b
  ·rename_i j
   unfold Oper.wp
   rw[i08 d j,Oper.upon_enter]
   refine(b.run w (v07 s1)).mono ?_
   rintro e u ⟨v,p,rfl,⟨rfl,g⟩,i⟩
   exact⟨.val v,st,h,v,be,oe,H,g,rfl,s.still s1.sub i,rfl,Q6.refl _ _ _⟩
  ·exact b.elim
 ·exact b.elim
theorem H00(s:Sim P h0 w0 be oe H st h a w){o:Oper}{K:AV->St->Hp->Prop}{Q:Exit->Act->World->Prop}(b:d0l P o st h K):o.wp P a w (Nx P h0 w0 st be oe K a o.dst) Q:=by
 unfold d0l at b
 split at b
 ·rcases b with b|b
  ·exact Z8 s b
  ·exact b0j s b
 ·exact Z8 s b
theorem j09(s:Sim P h0 w0 be oe H st h a w){o:Oper}{K:AV->St->Hp->Prop}{Q:Exit->Act->World->Prop}(c:a0p P o st h K):o.wp P a w (Nx P h0 w0 st be oe K a o.dst) Q:=by
 unfold a0p at c
 split at c
 ·exact c.elim
 rename_i z
 obtain⟨vs,p,A,b,s1,g,l,m⟩:=a02 _ s c
 rw[z04 l m]at b
 split at b
 ·exact b.elim
 obtain⟨v,u,q,j⟩:=b
 have f:=q (λn t=>(n = .value v∨n = .skip/\v=undef)/\t=u) ⟨⟨.inl rfl,rfl⟩,λe=>⟨.inr ⟨rfl,e⟩,rfl⟩⟩
 rw[b0a,j08 z l m]at f
 obtain⟨n,i,C,k,⟨y,rfl⟩,x⟩:=R9 _ _ _ (v07 s1) f
 obtain⟨d,s2⟩:=s1.moved x
 rcases y with rfl|⟨rfl,rfl⟩
 ·exact H7 k ⟨.val v,p,i,v,be,oe,d,j,rfl,s2,rfl,g⟩
 ·exact k08 k ⟨.val undef,p,i,undef,be,oe,d,j,rfl,s2,rfl,g⟩
end
end Go.H
namespace Go.H
set_option linter.unusedVariables false
section
variable {P:Program}
theorem Y2{t:TypeId}{d:TypeDesc}(a:P.underlying t=some d)(h:Hp)(K:TypeDesc->Hp->Prop):wpS P (underlying t) h K=K d h:=by
 grind[underlying,program,O1,wpS,U1]
theorem d0a{t:TypeId}{i:TypeInfo}(a:P.info? t=some i)(h:Hp)(K:TypeInfo->Hp->Prop):wpS P (typeInfo t) h K=K i h:=by
 grind[typeInfo,program,O1,wpS,U1]
theorem a00{t:TypeId}{n:Nat}(a:F5 P t=some n)(h:Hp)(K:Nat->Hp->Prop):wpS P (sizeOf t) h K=K n h:=by
 grind[F5,sizeOf,O1,d0a,U1]
theorem x07{t:TypeId}{z:Value}(a:N00 P t=some z)(h:Hp)(K:Value->Hp->Prop):wpS P (zeroValue t) h K=K z h:=by
 grind[N00,zeroValue,O1,d0a,U1]
theorem R05{t:TypeId}{b:Bool}(a:m0d P t=some b)(h:Hp)(K:Bool->Hp->Prop):wpS P (isAgg t) h K=K b h:=by
 unfold m0d at a
 grind[isAgg,O1,Y2,U1,absurd]
theorem f05{H:Hp}{b o:Nat}:∀(vs:List Value) (i:Nat) (acc:Array Value) (K:Array Value->Hp->Prop),(∀ j v,vs[j]?=some v->Hp.cell H b (o+i+j)=some v) ->
  K (acc++vs.toArray) H->wpS P (loadCellsFrom ⟨b,o,none⟩ i vs.length acc) H K
 | [],i,acc,K,_,c=>by grind[loadCellsFrom,U1]
 |v::vs,i,acc,K,a,c=>by
  have h0:=a 0 v (by simp)
  simp only[loadCellsFrom,List.length_cons,O1,load,wpS]
  have d:(⟨b,o,none⟩:Addr).add i=⟨b,o+i,none⟩:=by unfold Addr.add;split<;>simp_all
  rw[d]
  refine⟨v,⟨rfl,by simpa using h0⟩,f05 vs (i+1) (acc.push v) K ?_ ?_⟩
  ·intro j u e
   have:=a (j+1) u (by simpa using e)
   grind
  ·simpa using c
theorem s02{a:Type}:∀(l:List a) (n:Nat),n06 l n=true->l.length=n
 | [],0,_=>rfl
 |_::r,k+1,h=>by simp[s02 r k h]
 | [],_+1,h=>by cases h
 |_::_,0,h=>by cases h
variable {h0:Hp} {w0:World} {be:Nat->Nat} {oe:Nat->Value} {H:Hp} {st:St} {h:Hp} {a:Act} {w:World}
theorem I2.ofCell{st:St}{be:Nat->Nat}{oe:Nat->Value}{c:E5}{v:Value}(g:A0d st oe c v):I2 st be oe (ofCell c) v:=by
 cases c with
 |val u=>exact g
 |own i k=>exact g
theorem load_row{t:TypeId}{cs:List E5}{vs:List Value}{off:Nat}{K:AV->Prop}{b o:Nat}(a:p04 P t cs off K)(g:D2 st oe cs vs)
  (q:∀ j v,vs[j]?=some v->Hp.cell H b (o+j)=some v):∃ av v,K av/\I2 st be oe av v/\∀ d:Value->Hp->Prop,d v H->wpS P (loadVar t ⟨b,o+off,none⟩) H d:=by
 unfold p04 at a
 split at a
 ·rename_i e
  split at a
  ·rename_i n f
   split at a
   ·rename_i m
    have p:=s02 _ _ m
    have h:=(g.drop off).take n
    refine⟨_,.agg ((vs.drop off).take n).toArray,a,⟨_,rfl,h⟩,λd l=>?_⟩
    have u:((vs.drop off).take n).length=n:=by rw[←h.length,p]
    simp only[loadVar,O1,R05 e,if_true,a00 f,loadCells]
    have:=f05 (P:=P) (H:=H) (b:=b) (o:=o+off) ((vs.drop off).take n) 0 #[] (λx k=>wpS P (pure (Value.agg x)) k d) (λj v s=>by
     grind) (by grind[U1])
    grind
   ·exact a.elim
  ·exact a.elim
 ·rename_i e
  split at a
  ·rename_i c f
   obtain⟨v,w,i⟩:=g.nth f
   refine⟨_,v,a,I2.ofCell i,λd l=>?_⟩
   simp only[loadVar,O1,R05 e,Bool.false_eq_true,if_false,load,wpS]
   grind
  ·exact a.elim
 ·exact a.elim
theorem Hp.set_set(h:Hp)(b:Nat)(x y:Obj):(h.set b x).set b y=h.set b y:=by
 funext k;simp only[Hp.set];split<;>rfl
theorem c0t{v:Value}(h:v.oneCell'=true):N02 v:=by cases v<;>simp_all [Value.oneCell',N02]
theorem A04{b:Nat}{t:TypeId}:∀(a:List Value) (cur:List Value) (off i:Nat) (K:Unit->Hp->Prop) (H:Hp),H b=some (.cells cur.toArray t (0,0)) ->
  off+i+a.length<=cur.length->(∀ v∈a,v.oneCell'=true)->K () (H.set b (.cells (E3 cur (off+i) a).toArray t (0,0)))->wpS P (storeCells ⟨b,off,none⟩ a i) H K
 | [],cur,off,i,K,H,e,_,_,c=>by
  have:H.set b (.cells cur.toArray t (0,0))=H:=by
   grind[Hp.set]
  simp only[E3,this]at c
  exact c
 |n::a,cur,off,i,K,H,e,g,d,c=>by
  simp only[storeCells,O1,store,wpS]
  have f:(⟨b,off,none⟩:Addr).add i=⟨b,off+i,none⟩:=by unfold Addr.add;split<;>simp_all
  rw[f]
  simp only[List.length_cons]at g
  refine⟨cur.toArray,t,(0,0),⟨e,rfl,by simp;omega,by simp,c0t (d n mS)⟩,?_⟩
  refine A04 (t:=t) a (cur.set (off+i) n) off (i+1) K _ (by simp[Hp.set]) (by simp;omega) (λv h=>d v (mC _ h)) ?_
  grind[Hp.set_set,E3,Nat.add_assoc]
theorem S05:∀(a cs:List Value) (off:Nat),splice cs off a=E3 cs off a
 | [],cs,off=>rfl
 |n::a,cs,off=>by simp only[splice,E3,Z09,S05 a]
theorem B0d(s:Sim P h0 w0 be oe H st h a w){i k:Nat}{e sz by_:Nat}{nn:Bool}{xs:List (List Value)}(d:nth st.ow i=some ⟨k,.live e sz by_ nn xs⟩):∃ x n c,oe i = .slice x n c:=by
 rcases(s.own i _ _ _ _ _ _ d).2 with⟨b,_⟩|⟨g,cap,cur,b,_⟩
 all_goals grind
theorem Y03(s:Sim P h0 w0 be oe H st h a w){x:Operand}{cs:List E5}(b:o00 (rdO st x)=some cs):D2 st oe cs (a.eval x).cells.toList:=by
 have g:=s.rdO x
 cases hr:rdO st x with
 |val v =>
  rw[hr]at b g
  have d:a.eval x=v:=g
  rw[d]
  cases v<;>simp only[o00,Option.some.injEq]at b<;>first|(subst b;first|exact D2.vals _ _ _|exact⟨rfl,trivial⟩)|cases b
 |own i k =>
  rw[hr]at b g
  obtain⟨e,sz,by_,nn,xs,f⟩:=q06 hr
  simp only[o00,Option.some.injEq]at b
  subst b
  have j:a.eval x=oe i:=g.own_cur f
  obtain⟨y,n,c,l⟩:=B0d s f
  rw[j,l]
  rw[j,l]at g
  exact⟨g,trivial⟩
 |agg cs' =>
  rw[hr]at b g
  simp only[o00,Option.some.injEq]at b
  subst b
  obtain⟨vs,d,m⟩:=g
  rw[d]
  exact m
 |_=>rw[hr]at b;cases b
theorem Z03(s:Sim P h0 w0 be oe H st h a w):∀(cs:List E5) (vs:List Value),c05 st cs=true->D2 st oe cs vs->∀ v∈vs,v.oneCell'=true
 | [],[],_,_,v,d=>by cases d
 | .val u::r,x::vs,b,g,v,d=>by
  simp only[c05]at b
  split at b
  ·rename_i m
   rcases List.mem_cons.1 d with rfl|d
   ·have:v=u:=g.1
    rw[this];exact m
   ·exact Z03 s r vs b g.2 v d
  ·cases b
 | .own i k::r,x::vs,b,g,v,d=>by
  have f:I2 st be oe (rdA st (.own i k)) x:=s.rdA (av := .own i k) g.1
  simp only[c05]at b
  split at b
  ·rename_i j l o
   rcases List.mem_cons.1 d with rfl|d
   ·rw[o]at f
    obtain⟨e,sz,by_,nn,xs,p⟩:=p06 o
    obtain⟨y,n,c,t⟩:=B0d s p
    rw[f.own_cur p,t];rfl
   ·exact Z03 s r vs b g.2 v d
  ·rename_i u q
   split at b
   ·rename_i m
    rcases List.mem_cons.1 d with rfl|d
    ·rw[q]at f
     have:v=u:=f
     rw[this];exact m
    ·exact Z03 s r vs b g.2 v d
   ·cases b
  ·cases b
 | [],_::_,_,g,_,_=>g.elim
 |_::_,[],_,g,_,_=>g.elim
theorem B03:∀(vs:List Value),q04 vs=true->∀ v∈vs,v.oneCell'=true
 | [],_,v,a=>by cases a
 |x::r,b,v,a=>by
  simp only[q04]at b
  split at b
  ·rename_i c
   rcases List.mem_cons.1 a with rfl|a
   ·exact c
   ·exact B03 r b v a
  ·cases b
end
end Go.H
namespace Go.H
set_option linter.unusedVariables false
section
variable {P:Program} {h0:Hp} {w0:World} {be:Nat->Nat} {oe:Nat->Value} {H:Hp} {st:St} {h:Hp} {a:Act} {w:World} {o:Oper} {K:AV->St->Hp->Prop} {Q:Exit->Act->World->Prop}
theorem x01(b o n:Nat):(⟨b,o,none⟩:Addr).add n=⟨b,o+n,none⟩:=by unfold Addr.add;split<;>simp_all
theorem O6(s:Sim P h0 w0 be oe H st h a w){av:AV}{v:Value}(j:∀ c:Next->Hp->Prop,c (.value v) H->wpS P (execOp a.eval o) H c)(g:I2 st be oe av v)(e:K av st h):
  o.wp P a w (Nx P h0 w0 st be oe K a o.dst) Q:=by
 obtain⟨n,b,k,i,⟨rfl,rfl⟩,f⟩:=R9 _ _ _ s.mv.vis (j (λn b=>n = .value v/\b=H) ⟨rfl,rfl⟩)
 have s':Sim P h0 w0 be oe b st h a k:=s.still (hf:=b) (λ_ _ d=>d) f
 exact H7 i ⟨av,st,h,v,be,oe,b,e,rfl,s',g,Q6.refl _ _ _⟩
theorem E7{P:Program}(s:Sem Value)(H:Hp)(a:Next->Hp->Prop)(h:wpS P s H (λv H=>a (.value v) H)):wpS P (do pure (Next.value (←s))) H a:=by
 rw[O1];exact h
theorem d0t{P:Program}(s:Sem Unit)(H:Hp)(a:Next->Hp->Prop)(h:wpS P s H (λ_ H=>a .skip H)):wpS P (do s;pure Next.skip) H a:=by
 rw[O1];exact h
theorem t0m(s:Sim P h0 w0 be oe H st h a w){x:Operand}(c:o.op = .move x∨o.op = .assign x)(b:match rdO st x with | .dead=>False|a=>K a st h):o.wp P a w (Nx P h0 w0 st be oe K a o.dst) Q:=by
 have d:K (rdO st x) st h:=by
  revert b;cases rdO st x<;>intro b<;>first|exact b|exact b.elim
 refine O6 s (v:=a.eval x) (λf e=>?_) (s.rdO x) d
 unfold execOp
 rcases c with c|c<;>rw[c]<;>exact e
theorem e0t(s:Sim P h0 w0 be oe H st h a w){t:TypeId}{x:Operand}(l:o.op = .box t x){cs:List E5}(k:o00 (rdO st x)=some cs)
  (e:newBox st cs t λav st=>K av st h):o.wp P a w (Nx P h0 w0 st be oe K a o.dst) Q:=by
 have g:=Y03 s k
 have p:wpS P (execOp a.eval o) H (λn d=>∃ b,H b=none/\n = .value (ptr b 0)/\d=H.set b (.cells (a.eval x).cells t (0,0))):=by
  unfold execOp;rw[l]
  refine E7 _ _ _ ?_
  simp only[Instr.box,newVar,newRow,newObj,O1,U1,wpS]
  exact λb c=>⟨b,c,rfl,rfl⟩
 obtain⟨n,d,q,m,⟨b,c,rfl,rfl⟩,f⟩:=R9 _ _ _ s.mv.vis p
 have j:(a.eval x).cells=(a.eval x).cells.toList.toArray:=by simp
 rw[j]at f
 rw[i0b]at e
 obtain⟨s',i⟩:=s.newBox g c f
 exact H7 m ⟨_,_,h,_,_,_,_,e,rfl,s',⟨by simp,by simp⟩,i⟩
theorem p0p(s:Sim P h0 w0 be oe H st h a w){t:TypeId}(j:o.op = .alloc t){z:Value}(m:N00 P t=some z)
  (e:newBox st (vals z.cells.toList) t λav st=>K av st h):o.wp P a w (Nx P h0 w0 st be oe K a o.dst) Q:=by
 have l:wpS P (execOp a.eval o) H (λn d=>∃ b,H b=none/\n = .value (ptr b 0)/\d=H.set b (.cells z.cells t (0,0))):=by
  unfold execOp;rw[j]
  refine E7 _ _ _ ?_
  simp only[Instr.alloc,newVar,newRow,newObj,O1,x07 m,U1,wpS]
  exact λb c=>⟨b,c,rfl,rfl⟩
 obtain⟨n,d,p,k,⟨b,c,rfl,rfl⟩,f⟩:=R9 _ _ _ s.mv.vis l
 have i:z.cells=z.cells.toList.toArray:=by simp
 rw[i]at f
 rw[i0b]at e
 obtain⟨s',g⟩:=s.newBox (D2.vals st oe _) c f
 exact H7 k ⟨_,_,h,_,_,_,_,e,rfl,s',⟨by simp,by simp⟩,g⟩
theorem j0g{t:TypeId}{k a:Nat}(c:v0h P t k=some a):∃ b f n,P.underlying t=some (.struct b)/\b[k]?=some f/\F5 P f.type=some (n+1)/\f.offset=a:=by
 grind[v0h]
theorem Q0n{t:TypeId}{j:Int}{b:Nat}(a:V0o P t j=some b):∃ n e sz,P.underlying t=some (.array n e)/\F5 P e=some (sz+1)/\0<=j/\j<(n:Int)/\b=j.toNat*(sz+1):=by
 unfold V0o at a
 split at a
 ·rename_i n e m f
  split at a
  ·rename_i sz d c
   cases a
   refine⟨n,e,sz,f,d,Int.natCast_nonneg m,?_,rfl⟩
   have:m<n:=by simpa [Nat.blt_eq] using c
   exact Int.ofNat_lt.2 this
  ·cases a
 ·cases a
theorem r06{t:TypeId}{x i:Operand}{k:IntKind}{j:Int}{d b off:Nat}(m:o.op = .indexAddr t x i)(q:V0o P t j=some d)(u:a.eval x=ptr b off)(h:a.eval i = .int k j):
  ∀ c:Next->Hp->Prop,c (.value (ptr b (off+d))) H->wpS P (execOp a.eval o) H c:=by
 intro c l
 obtain⟨n,e,sz,s,p,f,g,rfl⟩:=Q0n q
 unfold execOp;rw[m]
 refine E7 _ _ _ ?_
 simp only[Instr.indexAt,u,h,asIntOf,O1,U1,Y2 s,f,g,and_self,if_true,a00 p,x01,ptr,Instr.sureAddr]
 exact l
theorem exec_fieldAddr{t:TypeId}{x:Operand}{k d b off:Nat}(h:o.op = .fieldAddr t x k)(i:v0h P t k=some d)(l:a.eval x=ptr b off):
  ∀ c:Next->Hp->Prop,c (.value (ptr b (off+d))) H->wpS P (execOp a.eval o) H c:=by
 intro c e
 obtain⟨m,f,n,j,hf,g,rfl⟩:=j0g i
 unfold execOp;rw[h]
 refine E7 _ _ _ ?_
 simp only[Instr.fieldAt,O1,Y2 j,hf,l,ptr,Instr.sureAddr,U1,fieldPlace,a00 g,Nat.add_one_ne_zero,if_false,x01]
 exact e
theorem F0h(s:Sim P h0 w0 be oe H st h a w){t:TypeId}{x:Operand}{k:Nat}(p:o.op = .fieldAddr t x k)
  (m:match rdO st x,v0h P t k with
  | .box i off,some d=>K (.box i (off+d)) st h
  | .hel s i sz k,some d=>K (.hel s i sz (k+d)) st h
  | .oel i s j sz k,some d=>K (.oel i s j sz (k+d)) st h
  | .val (.pointer (some ⟨b,off,none⟩)),some d=>K (.val (ptr b (off+d))) st h
  |_,_=>False):o.wp P a w (Nx P h0 w0 st be oe K a o.dst) Q:=by
 have g:=s.rdO x
 split at m
 ·rename_i i off d f l
  rw[f]at g
  exact O6 s (av := .box i (off+d)) (exec_fieldAddr p l g.2) ⟨g.1,rfl⟩ m
 ·rename_i sl i sz v d f l
  rw[f]at g
  obtain⟨b,D,n,c,q,u⟩:=g
  refine O6 s (av := .hel sl i sz (v+d)) (exec_fieldAddr p l u) ⟨b,D,n,c,q,?_⟩ m
  simp[Nat.add_assoc]
 ·rename_i i E j sz v d f l
  rw[f]at g
  obtain⟨e,I,by_,nn,xs,C⟩:=E0h f
  obtain⟨A,n,c,q,u⟩:=g.oel_cur C
  obtain⟨F,y,z,G⟩:=g
  refine O6 s (av := .oel i E j sz (v+d)) (exec_fieldAddr p l u) ⟨F,y,z,λ_=>⟨A,n,c,q,by simp[Nat.add_assoc]⟩⟩ m
 ·rename_i b off d f l
  rw[f]at g
  exact O6 s (av := .val (ptr b (off+d))) (exec_fieldAddr (b:=b) (off:=off) p l g) rfl m
 ·exact m.elim
theorem y9{t e:TypeId}(a:b01 P t=some e):P.underlying t=some (.slice e):=by
 grind[b01]
theorem exec_indexAddr{t e:TypeId}{x i:Operand}{k:IntKind}{j:Int}{sz b off n c:Nat}(m:o.op = .indexAddr t x i)(q:b01 P t=some e)(p:F5 P e=some sz)
  (u:a.eval x = .slice (some ⟨b,off,none⟩) n c) (h:a.eval i = .int k j) (f:0<=j) (g:j<(n:Int)) :
  ∀ d:Next->Hp->Prop,d (.value (ptr b (off+j.toNat*sz))) H->wpS P (execOp a.eval o) H d:=by
 intro d l
 have s:=y9 q
 unfold execOp;rw[m]
 refine E7 _ _ _ ?_
 simp only[Instr.indexAt,u,h,asIntOf,O1,U1,Y2 s,f,g,and_self,if_true,a00 p,x01]
 exact l
theorem c0j(s:Sim P h0 w0 be oe H st h a w){t:TypeId}{x:Operand}{i off:Nat}{cs:List E5}{ty:TypeId}(l:o.op = .load t x)(m:rdO st x = .box i off)
  (k:nth st.bx i=some (.live cs ty)) (e:p04 P t cs off λav=>K av st h):o.wp P a w (Nx P h0 w0 st be oe K a o.dst) Q:=by
 have g:=s.rdO x
 rw[m]at g
 obtain⟨u,vs,c,d⟩:=s.box i cs ty k
 obtain⟨av,v,n,p,z⟩:=load_row (H:=H) (b:=be i) (o:=0) (be:=be) e c (λj v f=>by simp[Hp.cell,d,f])
 refine O6 s (λq y=>?_) p n
 unfold execOp;rw[l]
 refine E7 _ _ _ ?_
 rw[g.2]
 grind[Instr.loadAt,ptr,Instr.sureAddr,O1,U1]
theorem d0j(s:Sim P h0 w0 be oe H st h a w){t:TypeId}{x:Operand}{sl:Value}{idx:Int}{sz k:Nat}{c:List Value}(q:o.op = .load t x)(y:rdO st x = .hel sl idx sz k)
  (i:D01 h sl sz idx c) (m:p04 P t (vals c) k λav=>K av st h):o.wp P a w (Nx P h0 w0 st be oe K a o.dst) Q:=by
 have g:=s.rdO x
 rw[y]at g
 obtain⟨b,C,n,F,e,f⟩:=g
 obtain⟨_,_,E,M,L,G,d,l⟩:=i
 rw[e]at d;cases d
 obtain⟨av,v,z,A,J⟩:=load_row (H:=H) (b:=b) (o:=C+idx.toNat*sz) (be:=be) m (D2.vals st oe c) (λj v p=>by
  have:=l j v p
  unfold Hp.cell at this ⊢
  split at this
  ·rename_i u;rw[s.sub _ _ u];exact this
  ·cases this)
 refine O6 s (λD I=>?_) A z
 unfold execOp;rw[q]
 refine E7 _ _ _ ?_
 rw[f]
 simp only[Instr.loadAt,ptr,Instr.sureAddr,O1,U1]
 grind
theorem C03{sz:Nat}:∀(xs:List (List Value)) (i:Nat) (c:List Value),(∀ x∈xs,x.length=sz)->xs[i]?=some c->∀ j v,c[j]?=some v->xs.flatten[i*sz+j]?=some v
 | [],i,c,_,h,j,v,b=>by simp at h
 |x::xs,0,c,a,h,j,v,b=>by
  grind
 |x::xs,i+1,c,a,h,j,v,b=>by
  simp at h
  have e:=a x mS
  have:=C03 xs i c (λy d=>a y (mC _ d)) h j v b
  grind
theorem P05.cells{h H:Hp}{v:Value}{e sz:Nat}{nn:Bool}{xs:List (List Value)}(b:P05 h H v e sz nn xs){g n c:Nat}(l:v = .slice (some ⟨g,0,none⟩) n c):
  ∀ j u,xs.flatten[j]?=some u->Hp.cell H g j=some u:=by
 intro j u i
 rcases b.2 with⟨a,_⟩|⟨d,cap,cur,a,_,f,_,_,_,k⟩
 all_goals grind[Hp.cell]
theorem e0j(s:Sim P h0 w0 be oe H st h a w){t:TypeId}{x:Operand}{i F:Nat}{idx:Int}{sz k:Nat}{G e by_:Nat}{nn:Bool}{xs:List (List Value)}{c:List Value}
  (A:o.op = .load t x) (f:rdO st x = .oel i F idx sz k) (y:nth st.ow i=some ⟨G,.live e sz by_ nn xs⟩)
  (p:xs[idx.toNat]?=some c) (q:p04 P t (vals c) k λav=>K av st h):o.wp P a w (Nx P h0 w0 st be oe K a o.dst) Q:=by
 have g:=s.rdO x
 rw[f]at g
 obtain⟨M,T,J,S,U,z⟩:=E0h f
 obtain⟨m,n,L,l,N⟩:=g.oel_cur z
 have d:=s.own i _ _ _ _ _ _ y
 obtain⟨av,v,D,E,R⟩:=load_row (H:=H) (b:=m) (o:=idx.toNat*sz) (be:=be) q (D2.vals st oe c) (λj v u =>
  d.cells l _ _ (C03 xs _ c (λx C=>(d.1 x C).1) p j v u))
 refine O6 s (λI O=>?_) E D
 unfold execOp;rw[A]
 refine E7 _ _ _ ?_
 grind[Instr.loadAt,ptr,Instr.sureAddr,O1,U1]
theorem s06{t:TypeId}{p x:Operand}{b off n:Nat}{cur:List Value}{ty:TypeId}(e:o.op = .store t p x)(g:F5 P t=some n)(f:a.eval p=ptr b off)
  (d:(a.eval x).cells.toList.length=n) (i:∀ v∈(a.eval x).cells.toList,v.oneCell'=true) (j:H b=some (.cells cur.toArray ty (0,0))) (k:off+n<=cur.length) :
  ∀ c:Next->Hp->Prop,c .skip (H.set b (.cells (E3 cur off (a.eval x).cells.toList).toArray ty (0,0)))->wpS P (execOp a.eval o) H c:=by
 intro c l
 unfold execOp;rw[e]
 refine d0t _ _ _ ?_
 rw[f]
 have h:(a.eval x).cells.size=n:=by simpa using d
 simp only[Instr.storeAt,ptr,Instr.sureAddr,O1,U1,storeVar,a00 g,h,ne_eq,not_true_eq_false,if_false]
 grind[A04]
theorem G0h(s:Sim P h0 w0 be oe H st h a w){t:TypeId}{p x:Operand}{i off n:Nat}{cs new:List E5}{ty:TypeId}(A:o.op = .store t p x)(C:rdO st p = .box i off)
  (j:nth st.bx i=some (.live cs ty)) (u:o00 (rdO st x)=some new) (E:F5 P t=some n) (v:n06 new n=true) (l:c05 st new=true)
  (b:L0n cs off new λcs=>K (.val undef) { st with bx:=G00 st.bx i (.live cs ty) } h):o.wp P a w (Nx P h0 w0 st be oe K a o.dst) Q:=by
 have g:=s.rdO p
 rw[C]at g
 have c:=Y03 s u
 have m:=Z03 s _ _ l c
 have y:=s02 _ _ v
 obtain⟨I,vs,e,q⟩:=s.box i cs ty j
 unfold L0n at b
 split at b
 ·rename_i f
  have f:=Nat.le_of_ble_eq_true f
  have G:(a.eval x).cells.toList.length=n:=by rw[←c.length,y]
  have F:=s06 (H:=H) (P:=P) (a:=a) A E g.2 G m q (by rw[←e.length];omega)
  obtain⟨J,d,L,D,⟨rfl,rfl⟩,z⟩:=R9 _ _ _ s.mv.vis (F (λn d=>n = .skip/\d=_) ⟨rfl,rfl⟩)
  obtain⟨s',k⟩:=s.updBox j (e.splice c) z
  exact k08 D ⟨_,_,h,_,_,_,_,b,rfl,s',rfl,k⟩
 ·exact b.elim
end
end Go.H
namespace Go.H
set_option linter.unusedVariables false
section
variable {P:Program} {h0:Hp} {w0:World} {be:Nat->Nat} {oe:Nat->Value} {H:Hp} {st:St} {h:Hp} {a:Act} {w:World} {o:Oper} {K:AV->St->Hp->Prop} {Q:Exit->Act->World->Prop}
theorem P02{sz:Nat}:∀(xs:List (List Value)),(∀ x∈xs,x.length=sz)->xs.flatten.length=xs.length*sz
 | [],_=>by simp
 |x::xs,a=>by
  have:=P02 xs (λy b=>a y (mC _ b))
  grind
def u0m(w:World)(y:Value)(sz:Nat)(a:List (List Value)):Prop :=
 (∀ x∈a,x.length=sz/\∀ v∈x,v.oneCell'=true) /\
 ((∃ b c,y = .slice (some b) a.length c/\∀ j u,a.flatten[j]?=some u->w.cell? (b.add j)=some u)∨(∃ c,y = .slice none 0 c/\a = []))
theorem V2.newD{H:Hp}{w:World}(a:Vis H w)(x:Obj)(b:B0r x=true):V2 H w (H.set w.heap.size x) (w.drew.alloc x) :=
 (V2.drawn a (w.drawn+1) (Nat.le_succ _)).trans (V2.new (w:=w.drew) a x b)
theorem m02{H:Hp}{w:World}(a:Vis H w):H w.heap.size=none:=by
 cases hc:H w.heap.size with
 |none=>rfl
 |some x=>exact absurd (a.lt (b:=w.heap.size) (by simp[hc])) (Nat.lt_irrefl _)
theorem C0d{h H:Hp}(k:∀ b o,h b=some o->H b=some o){g:Nat}(j:H g=none){e sz cap:Nat}{nn:Bool}{xs:List (List Value)}{cur:Array Value}
  (a:∀ x∈xs,x.length=sz/\∀ v∈x,v.oneCell'=true) (c:xs.length<=cap) (d:cap<=maxLen) (f:cur.size=cap*sz) (i:cur.toList.take (xs.length*sz)=xs.flatten) :
  P05 h (H.set g (.cells cur e (0,0))) (.slice (some ⟨g,0,none⟩) xs.length cap) e sz nn xs:=by
 refine⟨a,.inr ⟨g,cap,cur,rfl,?_,by simp[Hp.set],c,d,f,i⟩⟩
 cases hc:h g with
 |none=>rfl
 |some o=>grind
theorem v0c{t e ty sz by_:Nat}{i:TypeInfo}{z:Value}(n:P.underlying t=some (.slice e))(m:P.info? e=some i)(U:i.zero=some z)(an:i.size=sz)(aq:0<sz)
  (Z:i.bytes=by_) (Y:0<by_) (ao:z.cells.size=sz) {v:Value} {nn:Bool} {xs:List (List Value)} (s:P05 h H v e sz nn xs) (l:Vis H w) (am:∀ b o,h b=some o->H b=some o)
  {y:Value} {a:List (List Value)} (J:u0m w y sz a) (R:p07 (xs.length+a.length) by_) :
  ∃ D W E,(Builtin.append_ #[t,t] ty #[v,y]).run P w = .ok D W/\V2 H w E W/\P05 h E D e sz (nn || z03 a) (xs++a) /\
   (∀ b,v.ownBlock≠some b->H b≠none->E b=H b)/\(∀ g,D.ownBlock=some g->v.ownBlock=some g∨H g=none)/\(a = []->D=v):=by
 subst an
 subst Z
 have aj:xs.length+a.length<=140737488355328:=Nat.le_trans (Nat.le_mul_of_pos_right _ Y) R
 have ai:((xs.length+a.length:Nat):Int)<=9223372036854775807:=by omega
 have L:∀ x∈xs++a,x.length=i.size/\∀ v∈x,v.oneCell'=true:=λx d=>by
  rcases List.mem_append.1 d with d|d
  ·exact s.1 x d
  ·exact J.1 x d
 have M:=P02 xs (λx d=>(s.1 x d).1)
 have q:=P02 a (λx d=>(J.1 x d).1)
 have al:∀ u∈a.flatten,u.oneCell'=true:=λu au=>by
  grind[List.mem_flatten]
 have aa:∀ f,grownCap w (xs.length+a.length) f e<=maxLen:=λf=>grownCap_le_maxLen w _ f e (by unfold maxLen;omega)
 have grown:∀ f,P05 h (H.set w.heap.size (.cells (xs.flatten.toArray++a.flatten.toArray++Builtin.zeroCells z.cells (grownCap w (xs.length+a.length) f e-(xs.length+a.length))) e (0,0)))
   (.slice (some ⟨w.heap.size,0,none⟩) (xs++a).length (grownCap w (xs.length+a.length) f e)) e i.size (nn || z03 a) (xs++a):=λf=>by
  have af:=grownCap_ge w (xs.length+a.length) f e
  refine C0d am (m02 l) L (by simpa using af) (aa f) ?_ ?_
  ·simp only[Array.size_append,List.size_toArray,M,q,size_zeroCells,ao,←Nat.add_mul]
   congr 1;omega
  ·simp only[Array.toList_append,List.flatten_append,List.append_assoc,List.length_append]
   rw[←List.append_assoc,List.take_append_of_le_length (by grind),List.take_of_length_le (by grind)]
 have S:a = []->P05 h H v e i.size (nn || z03 a) (xs++a):=λI=>by grind[z03]
 have V:∀(x:Obj) b,v.ownBlock≠some b->H b≠none->(H.set w.heap.size x) b=H b:=λx b _ ap=>Hp.set_other _ _ (λe=>by grind[m02])
 rcases J.2 with⟨F,c,rfl,G⟩|⟨c,rfl,K⟩
 ·rcases s.2 with⟨rfl,rfl,rfl⟩|⟨g,cap,cur,rfl,ae,O,Q,ab,ac,ar⟩
  ·by_cases hm:a.length=0
   ·have K:a = []:=List.eq_nil_of_length_eq_zero hm
    refine⟨_,w,H,?_,V2.refl l,S K,λ_ _ _=>rfl,λg C => .inl C,λ_=>rfl⟩
    simp[Builtin.append_,run_underlying n,sizeOf,typeInfo,m,Builtin.lenOf,Builtin.firstCells,loadCells,loadCellsFrom,hm]
   ·have A:=run_append_nil (P:=P) w t ty e i z n m U F a.length c a.flatten q G (by omega) (by simp at aj;omega) (by grind[p07])
    have p:=grown 0
    simp only[List.length_nil,Nat.zero_add,List.nil_append,List.flatten_nil]at p
    simp only[Array.empty_append]at p
    refine⟨_,_,_,A,V2.newD l _ rfl,by simpa using p,V _,λg C => .inr ?_,λe=>by grind⟩
    grind[Value.ownBlock,m02]
  ·have ak:∀ j u,xs.flatten[j]?=some u->w.cell? ((⟨g,0,none⟩:Addr).add j)=some u:=λj u ag=>by
    rw[x01,Nat.zero_add]
    refine F05 l rfl ?_
    exact s.cells rfl j u ag
   by_cases hroom:xs.length+a.length<=cap
   ·have T:=l _ _ O
    have ad:xs.length*i.size+a.flatten.length<=cur.size:=by rw[q,ac,←Nat.add_mul];exact Nat.mul_le_mul_right _ hroom
    have A:=run_append_room (P:=P) w t ty e i n m g xs.length cap cur T F a.length c a.flatten q G al hroom ad
    refine⟨_,_,H.set g (.cells (cur.toList.take (xs.length*i.size)++a.flatten++cur.toList.drop (xs.length*i.size+a.flatten.length)).toArray e (0,0)),A,
     V2.upd l O (λ_=>rfl) rfl rfl rfl (by simp) (setRow_heap w g cur _ e _ T) (λk ah=>setRow_other w g k _ ah),?_,?_,λX N => .inl N,λI=>by simp[I]⟩
    ·refine⟨L,.inr ⟨g,cap,_,by simp,ae,Hp.set_same _ _ _,by simpa using hroom,ab,?_,?_⟩⟩
     ·grind
     grind[List.flatten_append,List.length_append,Nat.add_mul,List.take_of_length_le]
    grind[Hp.set_other,Value.ownBlock]
   ·have A:=run_append_grow (P:=P) w t ty e i z n m U ⟨g,0,none⟩ xs.length cap xs.flatten M ak F a.length c a.flatten q G (by omega) ai (growslice_fits (by omega) R)
    have p:=grown cap
    refine⟨_,_,_,A,V2.newD l _ rfl,by simpa using p,V _,λX N => .inr ?_,λI=>by grind⟩
    grind[Value.ownBlock,m02]
 ·refine⟨v,w,H,?_,V2.refl l,S K,λ_ _ _=>rfl,λg C => .inl C,λ_=>rfl⟩
  rcases s.2 with⟨rfl,_⟩|⟨g,cap,cur,rfl,_,_,Q,_⟩
  ·simp[Builtin.append_,run_underlying n,sizeOf,typeInfo,m,Builtin.lenOf,Builtin.firstCells]
  ·simp[Builtin.append_,run_underlying n,sizeOf,typeInfo,m,Builtin.lenOf,Builtin.firstCells,Q,storeCells]
theorem Q08(b:Nat):∀(vs:List Value) (o:Nat) (w:World) (cur:Array Value) (ty:TypeId) (a:Nat×Nat),w.heap[b]?=some (.cells cur ty a)->(w.setCells b o vs).heap[b]?=some (.cells (E3 cur.toList o vs).toArray ty a)
 | [],o,w,cur,ty,a,h=>by simp_all[World.setCells,E3]
 |v::r,o,w,cur,ty,a,h=>by
  have c:(w.setCell ⟨b,o,none⟩ v).heap[b]?=some (.cells (cur.setIfInBounds o v) ty a):=by simp[World.setCell,Array.getElem?_modify,h]
  have:=Q08 b r (o+1) _ _ _ _ c
  simp_all[World.setCells,E3]
theorem y07(b:Nat):∀(vs:List Value) (o:Nat) (w:World) (k:Nat),k≠b->(w.setCells b o vs).heap[k]?=w.heap[k]?
 | [],o,w,k,h=>rfl
 |v::r,o,w,k,h=>by
  rw[World.setCells,y07 b r (o+1) _ k h]
  simp only[World.setCell,Array.getElem?_modify]
  rw[if_neg (λe=>h e.symm)]
theorem w0c(b:Nat):∀(vs:List Value) (o:Nat) (w:World),(w.setCells b o vs).drawn=w.drawn
 | [],o,w=>rfl
 |v::r,o,w=>by
  rw[World.setCells,w0c b r (o+1)]
  unfold World.setCell
  split<;>rfl
theorem R08(b:Nat):∀(vs:List Value) (o:Nat) (w:World),(w.setCells b o vs).os=w.os/\(w.setCells b o vs).tape=w.tape/\(w.setCells b o vs).output=w.output/\(w.setCells b o vs).heap.size=w.heap.size
 | [],o,w=>⟨rfl,rfl,rfl,rfl⟩
 |v::r,o,w=>by
  obtain⟨a,c,d,e⟩:=R08 b r (o+1) (w.setCell ⟨b,o,none⟩ v)
  grind[World.setCells,World.setCell]
theorem z07:∀(a vs:List Value) (off j:Nat),off+a.length<=vs.length->(E3 vs off a)[j]?=if off<=j/\j<off+a.length then a[j-off]? else vs[j]?
 | [],vs,off,j,h=>by
  simp only[E3,List.length_nil,Nat.add_zero]
  rw[if_neg (by omega)]
 |n::a,vs,off,j,h=>by
  simp only[List.length_cons]at h
  rw[E3,z07 a _ (off+1) j (by simp;omega)]
  grind
theorem H0h{t e ty sz by_:Nat}{i:TypeInfo}{z:Value}(H:P.underlying t=some (.slice e))(F:P.info? e=some i)(ao:i.zero=some z)(ak:i.size=sz)(aA:0<sz)
  (Y:i.bytes=by_) (X:0<by_) (ap:z.cells.size=sz) {g o n c:Nat} {xs:List (List Value)} (W:M0n h sz (.slice (some ⟨g,o,none⟩) n c) xs) (l:Vis h w)
  {y:Value} {a:List (List Value)} (s:u0m w y sz a) (S:p07 (xs.length+a.length) by_) :
  ∃ T U K,(Builtin.append_ #[t,t] ty #[.slice (some ⟨g,o,none⟩) n c,y]).run P w = .ok T U/\V2 h w K U/\b0p h K sz g T (xs++a):=by
 subst ak
 subst Y
 have az:xs.length+a.length<=140737488355328:=Nat.le_trans (Nat.le_mul_of_pos_right _ X) S
 have ae:((xs.length+a.length:Nat):Int)<=9223372036854775807:=by omega
 obtain⟨C,ax,aB,aw,cur,m,V,R,N,O,q,E⟩:=W
 cases V
 have L:∀ x∈xs++a,x.length=i.size/\∀ v∈x,v.oneCell'=true:=λx f=>by
  rcases List.mem_append.1 f with f|f
  ·exact C x f
  ·exact s.1 x f
 have Q:=P02 xs (λx f=>(C x f).1)
 have p:=P02 a (λx f=>(s.1 x f).1)
 have ah:∀ u∈a.flatten,u.oneCell'=true:=λu al=>by
  obtain⟨x,f,am⟩:=List.mem_flatten.1 al
  exact(s.1 x f).2 u am
 have ai:a = []->b0p h h i.size g (.slice (some ⟨g,o,none⟩) xs.length c) (xs++a):=λaf=>by
  subst af
  rw[List.append_nil]
  exact⟨⟨C,g,o,c,cur,m,rfl,R,N,O,q,E⟩,g,o,_,c,rfl,.inl rfl,λ_ _=>rfl⟩
 have I:=l _ _ q
 rcases s.2 with⟨J,A,rfl,M⟩|⟨A,rfl,an⟩
 ·by_cases hroom:xs.length+a.length<=c
  ·have Z:o+xs.length*i.size+a.flatten.length<=cur.size:=by
    have:(xs.length+a.length)*i.size<=c*i.size:=Nat.mul_le_mul_right _ hroom
    rw[Nat.add_mul]at this
    rw[p]
    omega
   have ac:∀ j,j<a.flatten.length->(w.cell? ⟨g,o+xs.length*i.size+j,none⟩).isSome=true:=λj d=>by
    simp only[World.cell?,I]
    simp[show o+xs.length*i.size+j<cur.size by omega]
   have aa:∀ j,j<a.flatten.length->w.frozen? ⟨g,o+xs.length*i.size+j,none⟩=false:=λj d=>by
    rw[X01 (o := .cells cur m (0,0)) I]
    simp[j01]
   have G:=run_append_room_cells (P:=P) w t ty e i H F g o xs.length c J a.length A a.flatten p M ah hroom ac aa
   have aj:=Q08 g a.flatten (o+xs.length*i.size) w cur m (0,0) I
   obtain⟨aq,ar,au,av⟩:=R08 g a.flatten (o+xs.length*i.size) w
   refine⟨_,_,h.set g (.cells (E3 cur.toList (o+xs.length*i.size) a.flatten).toArray m (0,0)),G,
    V2.upd l q (λ_=>rfl) aq ar au av aj (λk ad=>y07 _ _ _ _ k ad) (Nat.le_of_eq (w0c _ _ _ _).symm),⟨L,g,o,c,_,m,by rw[List.length_append],by rw[List.length_append];exact hroom,N,?_,Hp.set_same _ _ _,λj u d=>?_⟩,g,o,_,c,rfl,.inl rfl,λb D=>Hp.set_other _ _ D⟩
   ·simpa [Y8] using O
   ·rw[List.flatten_append]at d
    rw[List.getElem?_toArray,z07 _ _ _ _ (by simpa using Z)]
    by_cases hlt:j<xs.flatten.length
    ·rw[List.getElem?_append_left hlt]at d
     rw[if_neg (by omega),Array.getElem?_toList]
     exact E j u d
    ·rw[List.getElem?_append_right (by omega)]at d
     have ay:=(List.getElem?_eq_some_iff.1 d).1
     rw[if_pos (by omega),show o+j-(o+xs.length*i.size)=j-xs.flatten.length by omega]
     exact d
  ·have ag:∀ j u,xs.flatten[j]?=some u->w.cell? ((⟨g,o,none⟩:Addr).add j)=some u:=λj u d=>by
    rw[x01]
    refine F05 l rfl ?_
    simp only[Hp.cell,q]
    exact E j u d
   have G:=run_append_grow (P:=P) w t ty e i z H F ao ⟨g,o,none⟩ xs.length c xs.flatten Q ag J a.length A a.flatten p M (by omega) ae (growslice_fits (by omega) S)
   have ab:=grownCap_ge w (xs.length+a.length) c e
   refine⟨_,_,_,G,V2.newD l _ rfl,⟨L,w.heap.size,0,grownCap w (xs.length+a.length) c e,_,e,by rw[List.length_append],by rw[List.length_append];exact ab,grownCap_le_maxLen w _ c e (by unfold maxLen;omega),?_,Hp.set_same _ _ _,λj u d=>?_⟩,w.heap.size,0,_,_,rfl,.inr (m02 l),λb D=>Hp.set_other _ _ D⟩
   ·simp only[Array.size_append,List.size_toArray,Q,p,size_zeroCells,ap,←Nat.add_mul,Nat.zero_add]
    refine Nat.le_of_eq ?_
    congr 1;omega
   ·rw[List.flatten_append]at d
    rw[Nat.zero_add,←Array.getElem?_toList]
    simp only[Array.toList_append]
    rw[List.getElem?_append_left (by simpa using (List.getElem?_eq_some_iff.1 d).1)]
    exact d
 ·refine⟨_,w,h,?_,V2.refl l,ai an⟩
  simp[Builtin.append_,run_underlying H,sizeOf,typeInfo,F,Builtin.lenOf,Builtin.firstCells,R,storeCells]
theorem I0h{t e ty sz by_:Nat}{i:TypeInfo}{z:Value}(I:P.underlying t=some (.slice e))(F:P.info? e=some i)(K:i.zero=some z)(H:i.size=sz)(_:0<sz)
  (C:i.bytes=by_) (A:0<by_) (L:z.cells.size=sz) (o:Vis h w)
  {y:Value} {a:List (List Value)} (d:u0m w y sz a) (m:z03 a=true) (n:p07 a.length by_) :
  ∃ p q g,(Builtin.append_ #[t,t] ty #[.slice none 0 0,y]).run P w = .ok p q/\V2 h w g q/\L0t h g sz p a:=by
 subst H
 subst C
 have M:a.length<=140737488355328:=Nat.le_trans (Nat.le_mul_of_pos_right _ A) n
 have k:=P02 a (λx J=>(d.1 x J).1)
 rcases d.2 with⟨s,c,rfl,D⟩|⟨c,rfl,f⟩
 ·by_cases hm:a.length=0
  ·have f:a = []:=List.eq_nil_of_length_eq_zero hm
   subst f;cases m
  ·have G:=run_append_nil (P:=P) w t ty e i z I F K s a.length c a.flatten k D (by omega) (by omega) (Nat.le_trans n (by decide))
   have E:=grownCap_ge w a.length 0 e
   refine⟨_,_,_,G,V2.newD o _ rfl,⟨d.1,w.heap.size,0,grownCap w a.length 0 e,_,e,rfl,E,grownCap_le_maxLen w _ 0 e (by unfold maxLen;omega),?_,Hp.set_same _ _ _,λj u l=>?_⟩,w.heap.size,0,_,_,rfl,m02 o,λb v=>Hp.set_other _ _ v⟩
   ·simp only[Array.size_append,List.size_toArray,k,size_zeroCells,L,←Nat.add_mul,Nat.zero_add]
    refine Nat.le_of_eq ?_
    congr 1;omega
   ·rw[Nat.zero_add,←Array.getElem?_toList]
    simp only[Array.toList_append]
    rw[List.getElem?_append_left (by simpa using (List.getElem?_eq_some_iff.1 l).1)]
    exact l
 ·subst f;cases m
theorem k09{e sz by_:Nat}{z:Value}(a:F5 P e=some sz)(b:i09 P e=some by_)(c:N00 P e=some z):∃ i,P.info? e=some i/\i.size=sz/\i.bytes=by_/\i.zero=some z:=by
 grind[F5,i09,N00]
theorem B04(s:Sim P h0 w0 be oe H st h a w){sz:Nat}(O:0<sz){b:Operand}{K:List (List Value)->Prop}(d:o0d st h sz (rdO st b) K):∃ e,K e/\u0m w (a.eval b) sz e:=by
 have g:=s.rdO b
 unfold o0d at d
 split at d
 ·rename_i j k l
  obtain⟨M,S,L,R,I,o⟩:=q06 l
  rw[l]at g
  simp only[o]at d
  split at d
  ·rename_i A
   have E:=Nat.eq_of_beq_eq_true A
   subst E
   refine⟨I,d,?_⟩
   have p:=s.own j _ _ _ _ _ _ o
   rw[g.own_cur o]
   refine⟨p.1,?_⟩
   rcases p.2 with⟨f,i,_⟩|⟨z,cap,cur,f,i,q,_⟩
   ·grind
   ·refine .inl ⟨⟨z,0,none⟩,cap,f,λj u m=>?_⟩
    rw[x01,Nat.zero_add]
    exact F05 s.mv.vis rfl (p.cells f j u m)
  ·exact d.elim
 ·rename_i v l
  rw[l]at g
  obtain⟨e,D,C⟩:=d
  refine⟨e,C,?_⟩
  have F:a.eval b=v:=g
  rw[F]
  obtain⟨f,x,n,c,rfl,rfl,N,i⟩:=D
  refine⟨f,?_⟩
  rcases i with i|⟨t,G,rfl,q⟩
  ·cases x with
   |none =>
    have Q:e = []:=by
     cases e with
     |nil=>rfl
     |cons y r =>
      simp_all
    grind
   |some J=>grind
  ·refine .inl ⟨⟨t,G,none⟩,c,rfl,λj u m=>?_⟩
   rw[x01]
   exact F05 (v07 s) rfl (q j u m)
 ·exact d.elim
theorem E02{t:TypeId}{p q:Operand}{as:Array Operand}{b:Array TypeId}(f:o.op = .call { callee := .builtin .append,args:=as,argTypes:=b })(e:as = #[p,q])(h:b = #[t,t])
  {c:Value} {d:World} (g:(Builtin.append_ #[t,t] o.type #[a.eval p,a.eval q]).run P w = .ok c d):(execOp a.eval o).run P w = .ok (.value c) d:=by
 subst e;subst h
 unfold execOp;rw[f]
 simp only[resolve,invoke,builtin,Sem.run_bind,Sem.run_pure,Result.andThen_ok,List.map_toArray,List.map_cons,List.map_nil,g]
theorem R0n(s:Sim P h0 w0 be oe H st h a w){t:TypeId}{p q:Operand}{as:Array Operand}{X:Array TypeId}(F:o.op = .call { callee := .builtin .append,args:=as,argTypes:=X })
  (C:as = #[p,q]) (I:X = #[t,t]) (c:p0d P t p q st h K):o.wp P a w (Nx P h0 w0 st be oe K a o.dst) Q:=by
 unfold p0d at c
 split at c
 rotate_left
 ·exact c.elim
 rename_i e al
 split at c
 rotate_left
 ·exact c.elim
 rename_i sz by_ z aj D am
 split at c
 rotate_left
 ·exact c.elim
 rename_i an
 obtain⟨i,E,L,M,N⟩:=k09 aj D am
 have G:=y9 al
 have J:z.cells.size=sz+1:=by simpa using s02 _ _ an
 have g:=s.rdO p
 split at c
 ·rename_i j k x
  obtain⟨ar,aw,aq,av,ax,y⟩:=q06 x
  rw[x]at g
  simp only[y]at c
  split at c
  ·rename_i ac ad au
   have ae:=Nat.eq_of_beq_eq_true ac
   have ak:=Nat.eq_of_beq_eq_true ad
   subst ae
   subst ak
   obtain⟨W,⟨u,f⟩,v⟩:=B04 s (Nat.succ_pos sz) c
   have ai:=s.own j _ _ _ _ _ _ y
   obtain⟨l,V,O,d,n,A,T,U,_⟩:=v0c (ty:=o.type) G E N L (Nat.succ_pos _) M (Nat.succ_pos _) J ai s.mv.vis s.sub v u
   obtain⟨s',R⟩:=s.updOwn (s1:=k+1) (by_:=by_+1) y (Nat.le_succ _) (λe=>absurd e (Nat.succ_ne_self k)) n T A U
   rw[←g.own_cur y]at d
   refine H7 (E02 F C I d) ⟨_,_,h,l,_,_,_,f,rfl,s',?_,R⟩
   refine⟨k+1,?_,Nat.le_refl _,λ_=>by simp⟩
   simp[stamp,t7 _ _ _ (J01 y)]
  ·exact c.elim
 ·rename_i x
  rw[x]at g
  rcases c with c|c
  rotate_left
  ·obtain⟨W,⟨⟨af,u⟩,f⟩,v⟩:=B04 s (Nat.succ_pos sz) c
   obtain⟨l,V,aa,d,n,S⟩:=I0h (ty:=o.type) G E N L (Nat.succ_pos _) M (Nat.succ_pos _) J (v07 s) v af u
   have m:a.eval p = .slice none 0 0:=g
   rw[←m]at d
   obtain⟨O,s'⟩:=s.moved n
   exact H7 (E02 F C I d) ⟨_,_,_,l,_,_,_,f _ _ S,rfl,s',rfl,Q6.refl _ _ _⟩
  obtain⟨W,⟨u,f⟩,v⟩:=B04 s (Nat.succ_pos sz) c
  have ah:P05 h H (.slice none 0 0) e (sz+1) false []:=⟨by simp,.inl ⟨rfl,rfl,rfl⟩⟩
  obtain⟨l,V,O,d,n,A,T,U,_⟩:=v0c (ty:=o.type) G E N L (Nat.succ_pos _) M (Nat.succ_pos _) J ah s.mv.vis s.sub v (by simpa using u)
  simp only[Bool.false_or,List.nil_append]at A
  have ag:∀ g,l.ownBlock=some g->H g=none:=λg m=>(U g m).resolve_left (by simp[Value.ownBlock])
  rw[h0b]at f
  obtain⟨s',R⟩:=s.newOwn (by_:=by_+1) (λb o D=>by rw[T b (by simp[Value.ownBlock]) (by rw[D];simp)];exact D) n A ag
  have m:a.eval p = .slice none 0 0:=g
  rw[←m]at d
  refine H7 (E02 F C I d) ⟨_,_,h,l,_,_,_,f,rfl,s',?_,R⟩
  refine⟨0,?_,Nat.le_refl _,λ_=>by simp⟩
  simp[stamp,l02]
 ·rename_i Z ap ao Y x
  rw[x]at g
  obtain⟨W,⟨xs,ab,u,f⟩,v⟩:=B04 s (Nat.succ_pos sz) c
  obtain⟨l,V,aa,d,n,S⟩:=H0h (ty:=o.type) G E N L (Nat.succ_pos _) M (Nat.succ_pos _) J ab (v07 s) v u
  have m:a.eval p = .slice (some ⟨Z,ap,none⟩) ao Y:=g
  rw[←m]at d
  obtain⟨O,s'⟩:=s.moved n
  exact H7 (E02 F C I d) ⟨_,_,_,l,_,_,_,f _ _ S,rfl,s',rfl,Q6.refl _ _ _⟩
 ·exact c.elim
end
end Go.H
namespace Go.H
set_option linter.unusedVariables false
set_option linter.unusedSimpArgs false
section
variable {P:Program} {h0:Hp} {w0:World} {be:Nat->Nat} {oe:Nat->Value} {H:Hp} {st:St} {h:Hp} {a:Act} {w:World} {o:Oper} {K:AV->St->Hp->Prop} {Q:Exit->Act->World->Prop}
theorem t06:∀(a cs:List Value) (off:Nat),off+a.length<=cs.length->E3 cs off a=cs.take off++a++cs.drop (off+a.length)
 | [],cs,off,_=>by simp[E3]
 |n::a,cs,off,c=>by
  simp only[List.length_cons]at c
  rw[E3,t06 a (cs.set off n) (off+1) (by simp;omega)]
  rw[List.take_set,List.drop_set_of_lt (by omega)]
  have b:(cs.take (off+1)).set off n=cs.take off ++ [n]:=by
   rw[List.take_succ_eq_append_getElem (by omega),List.set_append_right _ _ (by simp;omega)]
   have:off-(cs.take off).length=0:=by simp;omega
   rw[this]
   simp
  rw[b]
  simp only[List.length_cons,List.append_assoc,List.cons_append,List.nil_append]
  rw[show off+1+a.length=off+(a.length+1) from by omega]
theorem e0a(off:Nat):∀(l:List Value) (k:Nat) (a:Array Value),((l.zipIdx k).foldl (λcs p=>cs.setIfInBounds (off+p.2) p.1) a).toList=E3 a.toList (off+k) l
 | [],k,a=>rfl
 |x::l,k,a=>by
  simp only[List.zipIdx_cons,List.foldl_cons,E3]
  rw[e0a off l (k+1)]
  simp[Nat.add_assoc]
theorem D0d(v:Value)(off:Nat)(a:Array Value):(v.cells.zipIdx.foldl (λcs (p:Value×Nat)=>cs.setIfInBounds (off+p.2) p.1) a).toList=E3 a.toList off v.cells.toList:=by
 rw[←Array.foldl_toList,Array.toList_zipIdx]
 simp_all[e0a]
def l08(a:Act)(sz:Nat):Nat->List (Nat×Operand)->List (List Value)->Prop
 |_,[],[]=>True
 |i,(j,x)::r,c::cs=>j=i/\c=(a.eval x).cells.toList/\c.length=sz/\(∀ v∈c,v.oneCell'=true)/\l08 a sz (i+1) r cs
 |_,_,_=>False
theorem l08.all{sz:Nat}:∀ {i:Nat} {l:List (Nat×Operand)} {xs:List (List Value)},l08 a sz i l xs->(∀ x∈xs,x.length=sz/\∀ v∈x,v.oneCell'=true)/\l.length=xs.length
 |_,[],[],_=>by simp
 |i,(j,x)::r,c::cs,h=>by
  have d:=l08.all h.2.2.2.2
  refine⟨λy b=>?_,by simp[d.2]⟩
  rcases List.mem_cons.1 b with rfl|b
  ·exact⟨h.2.2.1,h.2.2.2.1⟩
  ·exact d.1 y b
 |_,[],_::_,h=>h.elim
 |_,_::_,[],h=>h.elim
theorem E0d{sz:Nat}:∀(l:List (Nat×Operand)) (xs:List (List Value)) (i:Nat) (b:Array Value),l08 a sz i l xs->(i+l.length)*sz<=b.size ->
  ∃ d,Instr.fill (λi=>some (i*sz,sz)) b (l.map λp=>(p.1,a.eval p.2))=some d/\d.toList=b.toList.take (i*sz)++xs.flatten++b.toList.drop ((i+l.length)*sz)
 | [],[],i,b,_,e=>⟨b,rfl,by simp⟩
 |(j,x)::r,c::cs,i,b,h,e=>by
  obtain⟨rfl,g,k,_,o⟩:=h
  have s:(a.eval x).cells.size=sz:=by rw[←k,g];simp
  have y:j*sz+sz<=b.size:=by
   refine Nat.le_trans ?_ e
   simp only[List.length_cons]
   grind
  have f:=D0d (a.eval x) (j*sz) b
  rw[←g]at f
  have q:=t06 c b.toList (j*sz) (by grind)
  have t:((a.eval x).cells.zipIdx.foldl (λcs (p:Value×Nat)=>cs.setIfInBounds (j*sz+p.2) p.1) b).size=b.size:=by
   grind[Array.length_toList,Y8]
  obtain⟨d,w,m⟩:=E0d r cs (j+1) ((a.eval x).cells.zipIdx.foldl (λcs (p:Value×Nat)=>cs.setIfInBounds (j*sz+p.2) p.1) b) o (by
   rw[t];simp only[List.length_cons]at e;grind)
  refine⟨d,?_,?_⟩
  ·simp only[List.map_cons,Instr.fill,s,ne_eq,not_true_eq_false,decide_false,Bool.false_or,decide_eq_true_eq]
   grind
  ·rw[m,f,q,k]
   have u:(b.toList.take (j*sz)++c++b.toList.drop (j*sz+sz)).take ((j+1)*sz)=b.toList.take (j*sz)++c:=by
    rw[List.take_append_of_le_length,List.take_of_length_le]
    all_goals grind
   have v:(b.toList.take (j*sz)++c++b.toList.drop (j*sz+sz)).drop ((j+1+r.length)*sz)=b.toList.drop ((j+(r.length+1))*sz):=by
    have n:(b.toList.take (j*sz)++c).length=j*sz+sz:=by grind
    rw[List.drop_append,List.drop_eq_nil_of_le (by grind),n,List.nil_append,List.drop_drop]
    congr 1
    simp only[Nat.add_mul]
    omega
   grind
 | [],_::_,_,_,h,_=>h.elim
 |_::_,[],_,_,h,_=>h.elim
theorem x0c{sz:Nat}:∀(l:List (Nat×Operand)) (i:Nat) {st:St} {h:Hp} {K:List (List Value)->St->Hp->Prop},Sim P h0 w0 be oe H st h a w->L0i sz i l st h K ->
  ∃ xs st' d,K xs st' d/\Sim P h0 w0 be oe H st' d a w/\Q6 st be oe st' be oe/\l08 a sz i l xs
 | [],i,st,h,K,s,b=>⟨[],st,h,b,s,Q6.refl _ _ _,trivial⟩
 |(j,x)::r,i,st,h,K,s,b=>by
  simp only[L0i]at b
  split at b
  ·rename_i m
   have n:=Nat.eq_of_beq_eq_true m
   obtain⟨v,u,c,s1,f⟩:=D02 s (s.rdO x) b
   split at c
   ·rename_i o p
    obtain⟨xs,t,k,e,s2,g,q⟩:=x0c r (i+1) s1 c
    exact⟨_,t,k,e,s2,f.trans g,n.symm,rfl,s02 _ _ o,B03 _ p,q⟩
   ·exact c.elim
  ·exact b.elim
theorem S0f(s:Sim P h0 w0 be oe H st h a w){t n:Nat}{ps:Array (Nat×Operand)}{e sz by_:Nat}{z:Value}(M:o.op = .buildSlice t n ps)(R:b01 P t=some e)(O:F5 P e=some (sz+1))
  (T:N00 P e=some z) (Y:Nat.beq n ps.size=true) (G:Nat.ble (n*(sz+1)) 16777216=true)
  (E:L0i (sz+1) 0 ps.toList st h λxs st h=>newOwn st e (sz+1) by_ true xs λav st=>K av st h):o.wp P a w (Nx P h0 w0 st be oe K a o.dst) Q:=by
 obtain⟨xs,aa,C,m,s1,v,U⟩:=x0c _ _ s E
 obtain⟨D,W⟩:=U.all
 have j:n=xs.length:=by simp_all
 have I:=Nat.le_of_ble_eq_true G
 have S:wpS P (execOp a.eval o) H (λu l=>∃ b c,H b=none/\u = .value (.slice (some ⟨b,0,none⟩) xs.length xs.length)/\l=H.set b (.cells c e (0,0))/\c.toList=xs.flatten/\c.size=xs.length*(sz+1)):=by
  unfold execOp;rw[M]
  refine E7 _ _ _ ?_
  have q:∀ c:Array Value,c.size=xs.length*(sz+1)->∃ d,Instr.fill (λi=>some (i*(sz+1),sz+1)) c (ps.toList.map λp=>(p.1,a.eval p.2))=some d/\d.toList=xs.flatten/\d.size=xs.length*(sz+1):=by
   grind[E0d,Array.length_toList,P02]
  have F : ¬ (n*(sz+1)>2 ^ 24):=Nat.not_lt.2 I
  simp only[Instr.buildSlice,O1,Y2 (y9 R),a00 O,if_neg F,U1]
  have X:(ps.map λx=>(x.1,a.eval x.2)).toList=ps.toList.map λp=>(p.1,a.eval p.2):=by simp
  by_cases h00:n*(sz+1)=0
  ·simp only[if_pos h00,U1]
   obtain⟨d,k,f2,f3⟩:=q ((Array.range (n*(sz+1))).map λi=>(#[]:Array Value)[i % (#[]:Array Value).size]!) (by simp[j])
   rw[show(Array.map (λx=>(x.1,a.eval x.2)) ps).toList=ps.toList.map λp=>(p.1,a.eval p.2) from by simp]
   simp only[k,O1,newRow,newObj,wpS,U1]
   exact λb f=>⟨b,d,f,by rw[j],rfl,f2,f3⟩
  ·simp only[if_neg h00,O1,x07 T,U1]
   obtain⟨d,k,f2,f3⟩:=q ((Array.range (n*(sz+1))).map λi=>z.cells[i % z.cells.size]!) (by simp[j])
   rw[show(Array.map (λx=>(x.1,a.eval x.2)) ps).toList=ps.toList.map λp=>(p.1,a.eval p.2) from by simp]
   simp only[k,O1,newRow,newObj,wpS,U1]
   exact λb f=>⟨b,d,f,by rw[j],rfl,f2,f3⟩
 obtain⟨u,l,ab,N,⟨b,c,f,rfl,rfl,f2,f3⟩,L⟩:=R9 _ _ _ s1.mv.vis S
 have J:xs.length<=maxLen:=by
  have:xs.length<=xs.length*(sz+1):=Nat.le_mul_of_pos_right _ (Nat.succ_pos _)
  grind[maxLen]
 rw[h0b]at m
 obtain⟨s',A⟩:=s1.newOwn (nn:=true) (by_:=by_) (λx y Z=>by grind[Hp.set_other]) L
  (C0d s1.sub f D (Nat.le_refl _) J f3 (by rw[f2,List.take_of_length_le (by grind)])) (λg V=>by grind[Value.ownBlock])
 refine H7 N ⟨_,_,C,_,_,_,_,m,rfl,s',?_,v.trans A⟩
 refine⟨0,?_,Nat.le_refl _,λ_=>by simp⟩
 simp[stamp,l02]
theorem C04{sz:Nat}(b:List Value)(c:b.length=sz)(d:0<sz):∀(l j:Nat),j<l*sz->(List.replicate l b).flatten[j]?=b[j % sz]?
 |0,j,h=>by simp at h
 |l+1,j,h=>by
  simp only[List.replicate_succ,List.flatten_cons]
  have e:j<l*sz+sz:=by grind
  by_cases hj:j<sz
  ·rw[List.getElem?_append_left (by omega),Nat.mod_eq_of_lt hj]
  ·rw[List.getElem?_append_right (by omega),c,C04 b c d l (j-sz) (by omega),←Nat.mod_eq_sub_mod (a:=j) (by omega)]
theorem S0n{sz:Nat}(z:Value)(b:z.cells.toList.length=sz)(c:0<sz)(l n:Nat)(e:l*sz<=n):(madeCells z.cells n).toList.take (l*sz)=(List.replicate l z.cells.toList).flatten:=by
 have d:z.cells.size=sz:=by simpa using b
 apply List.ext_getElem?
 intro j
 rw[List.getElem?_take]
 by_cases hj:j<l*sz
 ·rw[if_pos hj,C04 _ b c l j hj]
  have a:j % sz<z.cells.size:=by simp_all[Nat.mod_lt]
  simp only[madeCells,d,Array.toList_map,Array.toList_range,List.getElem?_map,List.getElem?_range (show j<n from by omega),Option.map_some,Array.getElem?_toList,Array.getElem?_eq_getElem a]
  congr 1
  simp[a]
 ·rw[if_neg hj]
  simp_all
theorem J0h(s:Sim P h0 w0 be oe H st h a w){t e sz by_:Nat}{l c:Operand}{z:Value}{k j:IntKind}{d b:Int}(Y:o.op = .makeSlice t l c)(R:b01 P t=some e)
  (O:F5 P e=some (sz+1)) (E:i09 P e=some by_) (S:N00 P e=some z) (J:rdO st l = .val (.int k d)) (G:rdO st c = .val (.int j b))
  (T:n06 z.cells.toList (sz+1)=true) (Z:q04 z.cells.toList=true) (F:0<=d/\d<=b/\b*by_<=140737488355328/\b<=9223372036854775807)
  (n:newOwn st e (sz+1) by_ true (List.replicate d.toNat z.cells.toList) λav st=>K av st h):o.wp P a w (Nx P h0 w0 st be oe K a o.dst) Q:=by
 obtain⟨i,I,u,ab,U⟩:=k09 O E S
 have X:a.eval l = .int k d:=by have:=s.rdO l;rw[J]at this;exact this
 have W:a.eval c = .int j b:=by have:=s.rdO c;rw[G]at this;exact this
 obtain⟨v,A,V,C⟩:=F
 have L:=s02 _ _ T
 have aa:=run_make (P:=P) w t e i z (y9 R) I U k j d b v A (by grind) C
 have N:(execOp a.eval o).run P w = .ok (.value (.slice (some ⟨w.heap.size,0,none⟩) d.toNat b.toNat)) (w.alloc (.cells (madeCells z.cells (b.toNat*i.size)) e)):=by
  simp_all[execOp,Sem.run_bind,Result.andThen_ok,Sem.run_pure]
 have M:V2 H w (H.set w.heap.size (.cells (madeCells z.cells (b.toNat*i.size)) e (0,0))) (w.alloc (.cells (madeCells z.cells (b.toNat*i.size)) e)):=V2.new s.mv.vis _ rfl
 have p:(List.replicate d.toNat z.cells.toList).length=d.toNat:=by simp
 have m:=C0d (h:=h) (H:=H) (e:=e) (sz:=sz+1) (nn:=true) (cap:=b.toNat) (xs:=List.replicate d.toNat z.cells.toList) (cur:=madeCells z.cells (b.toNat*i.size)) s.sub (m02 s.mv.vis)
  (λx f=>by grind[B03]) (by simp;omega) (by unfold maxLen;omega) (by rw[size_madeCells,u])
  (by rw[p,u];exact S0n z L (Nat.succ_pos _) _ _ (Nat.mul_le_mul_right _ (by omega)))
 rw[p]at m
 rw[h0b]at n
 obtain⟨s',D⟩:=s.newOwn (by_:=by_) (λx y f=>by rw[Hp.set_other _ _ (λe=>by subst e;rw[m02 s.mv.vis]at f;cases f)];exact f) M m
  (λg q=>by simp[Value.ownBlock]at q;rw[←q];exact m02 s.mv.vis)
 refine H7 N ⟨_,_,h,_,_,_,_,n,rfl,s',?_,D⟩
 refine⟨0,?_,Nat.le_refl _,λ_=>by simp⟩
 simp[stamp,l02]
end
end Go.H
namespace Go.H
set_option linter.unusedVariables false
set_option linter.unusedSimpArgs false
section
variable {P:Program} {h0:Hp} {w0:World} {be:Nat->Nat} {oe:Nat->Value} {H:Hp} {st:St} {h:Hp} {a:Act} {w:World} {o:Oper} {K:AV->St->Hp->Prop} {Q:Exit->Act->World->Prop}
theorem K0h(s:Sim P h0 w0 be oe H st h a w){t:TypeId}{x i:Operand}(z:o.op = .indexAddr t x i)
  (d:match rdO st i with
  | .val (.int _ j)=>match b01 P t with
   |some e=>match F5 P e with
    |some sz=>match rdO st x with
     | .val (.slice a n c)=>InB (.slice a n c) j/\K (.hel (.slice a n c) j sz 0) st h
     | .own i k=>match nth st.ow i with
      |some ⟨_,.live _ N _ _ xs⟩=>match Nat.beq N sz with
       |true=>(0<=j/\j<(xs.length:Int))/\K (.oel i k j sz 0) st h
       |false=>False
      |_=>False
     |_=>False
    |none=>False
   |none=>match rdO st x,V0o P t j with
    | .box i off,some l=>K (.box i (off+l)) st h
    | .hel s i sz k,some l=>K (.hel s i sz (k+l)) st h
    | .oel i s j sz k,some l=>K (.oel i s j sz (k+l)) st h
    |_,_=>False
  |_=>False):o.wp P a w (Nx P h0 w0 st be oe K a o.dst) Q:=by
 have gi:=s.rdO i
 have f:=s.rdO x
 split at d
 rotate_left
 ·exact d.elim
 rename_i k j U
 rw[U]at gi
 split at d
 rotate_left
 ·split at d
  ·rename_i m off l p y
   rw[p]at f
   exact O6 s (av := .box m (off+l)) (r06 z y f.2 gi) ⟨f.1,rfl⟩ d
  ·rename_i sl m sz G l p y
   rw[p]at f
   obtain⟨b,Y,n,c,v,E⟩:=f
   refine O6 s (av := .hel sl m sz (G+l)) (r06 z y E gi) ⟨b,Y,n,c,v,?_⟩ d
   simp[Nat.add_assoc]
  ·rename_i m Z X sz G l p y
   rw[p]at f
   obtain⟨e,N,by_,nn,xs,q⟩:=E0h p
   obtain⟨S,n,c,v,E⟩:=f.oel_cur q
   obtain⟨ab,O,R,ag⟩:=f
   refine O6 s (av := .oel m Z X sz (G+l)) (r06 z y E gi) ⟨ab,O,R,λ_=>⟨S,n,c,v,by simp[Nat.add_assoc]⟩⟩ d
  ·exact d.elim
 rename_i e J
 split at d
 rotate_left
 ·exact d.elim
 rename_i sz I
 split at d
 ·rename_i ac n c A
  rw[A]at f
  obtain⟨⟨b,off,ah,ae,v,D,u⟩,F⟩:=d
  cases v
  exact O6 s (av := .hel _ j sz 0) (exec_indexAddr z J I f gi D u) ⟨b,off,n,c,rfl,by simp⟩ F
 ·rename_i m M A
  obtain⟨af,aa,ad,ai,xs,q⟩:=q06 A
  rw[A]at f
  simp only[q]at d
  split at d
  ·rename_i T
   have W:=Nat.eq_of_beq_eq_true T
   subst W
   obtain⟨⟨D,u⟩,F⟩:=d
   have V:=s.own m _ _ _ _ _ _ q
   rcases V.2 with⟨_,C,_⟩|⟨g,cap,cur,L,_⟩
   ·rw[C]at u;simp at u;omega
   ·have C:=f.own_cur q
    rw[L]at C
    refine O6 s (av := .oel m M j aa 0) (exec_indexAddr z J I C gi D u) ⟨M,by simp[stamp,q],Nat.le_refl _,λ_=>⟨g,xs.length,cap,L,by simp⟩⟩ F
  ·exact d.elim
 ·exact d.elim
theorem m08{sz:Nat}:∀(xs:List (List Value)) (k:Nat),(∀ x∈xs,x.length=sz)->(xs.take k).flatten=xs.flatten.take (k*sz)
 | [],k,_=>by simp
 |x::xs,0,_=>by simp
 |x::xs,k+1,a=>by
  have b:=a x mS
  simp only[List.take_succ_cons,List.flatten_cons]
  rw[m08 xs k (λy c=>a y (mC _ c)),List.take_append (l₁:=x),List.take_of_length_le (l:=x) (by grind),b,Nat.add_mul,Nat.one_mul,Nat.add_sub_cancel]
theorem k0g{sz:Nat}:∀(xs:List (List Value)) (k:Nat),(∀ x∈xs,x.length=sz)->(xs.drop k).flatten=xs.flatten.drop (k*sz)
 | [],k,_=>by simp
 |x::xs,0,_=>by simp
 |x::xs,k+1,a=>by
  have b:=a x mS
  simp only[List.drop_succ_cons,List.flatten_cons]
  rw[k0g xs k (λy c=>a y (mC _ c)),List.drop_append (l₁:=x),List.drop_of_length_le (l:=x) (by grind),b,Nat.add_mul,Nat.one_mul,Nat.add_sub_cancel,List.nil_append]
def D04(a:Act)(d:Int)(x:Option Operand)(l:Int):Prop:=match x with
 |none=>l=d
 |some y=>∃ k,a.eval y = .int k l
theorem u06(s:Sim P h0 w0 be oe H st h a w){d l:Int}{x:Option Operand}(b:d05 d (x.map (rdO st))=some l):D04 a d x l:=by
 cases x with
 |none=>simp only[Option.map_none,d05,Option.some.injEq]at b;exact b.symm
 |some y =>
  have g:=s.rdO y
  simp only[Option.map_some]at b
  cases hr:rdO st y with
  |val v =>
   rw[hr]at b g
   cases v<;>simp only[d05,Option.some.injEq]at b<;>first|(subst b;exact⟨_,g⟩)|cases b
  |_=>rw[hr]at b;cases b
theorem n08{x:Value}{k:IntKind}{i:Int}{y:Nat}{b:BoundsCode}(e:x = .int k i)(c:0<=i)(d:i<=(y:Int))(a:Nat->Hp->Prop):wpS P (Instr.sliceBound x y b) H a=a i.toNat H:=by
 subst e
 simp only[Instr.sliceBound,asIntOf,O1,U1,c,d,and_self,if_true]
theorem F0d{isS:Bool}{n c:Nat}{f b:Option Operand}{l m:Int}(i:D04 a 0 f l)(d:D04 a n b m)(h:0<=l)(s:l<=m)(t:m<=(n:Int))(u:n<=c)
  (g:Nat×Nat×Nat->Hp->Prop):wpS P (Instr.sliceBounds isS n c (f.map a.eval) (b.map a.eval) none) H g=g (l.toNat,m.toNat,c) H:=by
 have q:l<=(m.toNat:Int):=by omega
 cases f with
 |none =>
  have p:l=0:=i
  subst p
  cases b with
  |none =>
   have j:m=(n:Int):=d
   simp_all[Instr.sliceBounds,Option.map_none,O1,U1]
  |some y =>
   obtain⟨k,e⟩:=d
   simp only[Instr.sliceBounds,Option.map_none,Option.map_some,O1,U1,n08 e (by omega) (show m<=(c:Int) by omega)];rfl
 |some x =>
  obtain⟨k,o⟩:=i
  cases b with
  |none =>
   have j:m=(n:Int):=d
   subst j
   simp only[Instr.sliceBounds,Option.map_none,Option.map_some,O1,U1,n08 o h (show l<=((n:Nat):Int) by omega)];rfl
  |some y =>
   obtain⟨v,e⟩:=d
   simp only[Instr.sliceBounds,Option.map_some,O1,U1,n08 e (by omega) (show m<=(c:Int) by omega),n08 o h q]
theorem exec_slice{t e sz:Nat}{x:Operand}{g f:Option Operand}{d:Option Addr}{n c:Nat}{l m:Int}(s:o.op = .slice t x g f none)(u:b01 P t=some e)(y:F5 P e=some sz)
  (v:a.eval x = .slice d n c) (k:D04 a 0 g l) (p:D04 a n f m) (h:0<=l) (i:l<=m) (j:m<=(n:Int)) (q:n<=c) :
  ∀ b:Next->Hp->Prop,b (.value (.slice (if c=l.toNat then d else d.map (·.add (l.toNat*sz))) (m.toNat-l.toNat) (c-l.toNat))) H->wpS P (execOp a.eval o) H b:=by
 intro b w
 unfold execOp;rw[s]
 refine E7 _ _ _ ?_
 simp only[Instr.sliceAt,O1,Y2 (y9 u),Instr.slice,v,Option.map_none]
 rw[F0d k p h i j q]
 grind[a00,U1]
theorem T0n(s:Sim P h0 w0 be oe H st h a w){t e sz:Nat}{x:Operand}{A z:Option Operand}{d:Option Addr}{n c:Nat}(R:o.op = .slice t x A z none)(U:b01 P t=some e)(T:F5 P e=some sz)
  (S:rdO st x = .val (.slice d n c)) (g:h0l sz (.slice d n c) n (A.map (rdO st)) (z.map (rdO st)) st h K):o.wp P a w (Nx P h0 w0 st be oe K a o.dst) Q:=by
 have q:=s.rdO x
 rw[S]at q
 unfold h0l at g
 split at g
 rotate_left
 ·exact g.elim
 rename_i l m J M
 obtain⟨⟨C,D,E⟩,xs,F,I⟩:=g
 obtain⟨f,V,aa,W,p,Z,N,u⟩:=F
 cases p
 have L:((xs.take m.toNat).drop l.toNat).length=m.toNat-l.toNat:=by simp;omega
 have O:SlE h sz (.slice (if c=l.toNat then d else d.map (·.add (l.toNat*sz))) (m.toNat-l.toNat) (c-l.toNat)) ((xs.take m.toNat).drop l.toNat):=by
  refine⟨λy k=>f y (List.mem_of_mem_take (List.mem_of_mem_drop k)),_,_,_,rfl,L.symm,by omega,?_⟩
  rcases u with u|⟨b,off,rfl,G⟩
  ·grind[List.flatten_eq_nil_iff,List.mem_of_mem_take,List.mem_of_mem_drop]
  ·by_cases hcl:c=l.toNat
   ·grind
   ·right
    rw[if_neg hcl]
    refine⟨b,off+l.toNat*sz,by simp[x01],λj v Y=>?_⟩
    have i:=P02 xs (λx i=>(f x i).1)
    rw[Nat.add_assoc]
    refine G _ _ ?_
    have p:(xs.take m.toNat).flatten=xs.flatten.take (m.toNat*sz):=m08 xs _ (λx i=>(f x i).1)
    have X:((xs.take m.toNat).drop l.toNat).flatten=((xs.take m.toNat).flatten).drop (l.toNat*sz):=k0g _ _ (λy k=>(f y (List.mem_of_mem_take k)).1)
    grind
 exact O6 s (av := .val _) (exec_slice R U T q (u06 s J) (u06 s M) C D E N) rfl (I _ O λ_ _ _ e=>by cases e;rfl)
theorem U0n(s:Sim P h0 w0 be oe H st h a w){t e sz:Nat}{x:Operand}{C j:Option Operand}{i k:Nat}(M:o.op = .slice t x C j none)(R:b01 P t=some e)(O:F5 P e=some sz)
  (N:rdO st x = .own i k) (c:f0l i (C.map (rdO st)) (j.map (rdO st)) st h K):o.wp P a w (Nx P h0 w0 st be oe K a o.dst) Q:=by
 have G:=s.rdO x
 rw[N]at G
 obtain⟨U,D,T,ao,xs,p⟩:=q06 N
 unfold f0l at c
 split at c
 rotate_left
 ·exact c.elim
 rename_i am m ap z
 simp only[p]at c
 obtain⟨⟨S,F⟩,J⟩:=c
 have af:C=none:=by simp_all
 subst af
 have L:D04 a (xs.length:Int) j m:=by
  cases j with
  |none=>simp at z
  |some y =>
   have g:=s.rdO y
   simp only[Option.map_some,Option.some.injEq]at z
   rw[z]at g
   exact⟨am,g⟩
 have A:=s.own i _ _ _ _ _ _ p
 have b:=G.own_cur p
 have aq:∀ v,v=oe i->v.ownBlock=(oe i).ownBlock:=λv aj=>by rw[aj]
 have an:∃ v,(∀ d:Next->Hp->Prop,d (.value v) H->wpS P (execOp a.eval o) H d)/\v.ownBlock=(oe i).ownBlock/\P05 h H v U D ao (xs.take m.toNat):=by
  have I:∀ y∈xs.take m.toNat,y.length=D/\∀ v∈y,v.oneCell'=true:=λy al=>A.1 y (List.mem_of_mem_take al)
  rcases A.2 with⟨f,q,u⟩|⟨g,cap,cur,f,q,u,X,Y,Z,aa⟩
  ·rw[f]at b
   subst q
   have ag:m=0:=by simp at F;omega
   subst ag
   refine⟨_,exec_slice M R O b (l:=0) rfl L (by omega) (by omega) (by simp) (Nat.le_refl _),?_,I,.inl ⟨by simp,by simp,u⟩⟩
   grind
  ·rw[f]at b
   refine⟨.slice (some ⟨g,0,none⟩) m.toNat cap,λd J=>exec_slice M R O b (l:=0) rfl L (by omega) S F X d ?_,by rw[f];rfl,I,.inr ⟨g,cap,cur,?_,q,u,?_,Y,Z,?_⟩⟩
   ·grind[Int.toNat,Addr.add]
   ·have:(xs.take m.toNat).length=m.toNat:=by simp;omega
    rw[this]
   ·simp;omega
   ·have ae:(xs.take m.toNat).length=m.toNat:=by simp;omega
    rw[ae]
    have V:(xs.take m.toNat).flatten=xs.flatten.take (m.toNat*D):=m08 xs _ (λx b=>(A.1 x b).1)
    rw[V,←aa,List.take_take]
    congr 1
    rw[Nat.min_eq_left (Nat.mul_le_mul_right _ (by omega))]
 obtain⟨v,ak,ac,ab⟩:=an
 obtain⟨ar,E,au,ai,⟨rfl,rfl⟩,ah⟩:=R9 _ _ _ s.mv.vis (ak (λn E=>n = .value v/\E=H) ⟨rfl,rfl⟩)
 obtain⟨s',W⟩:=s.updOwn (s1:=k+1) (by_:=T) p (Nat.le_succ _) (λe=>absurd e (Nat.succ_ne_self k)) ah (λ_ _ _=>rfl) ab (λg ad => .inl (by rw[←ac];exact ad))
 refine H7 ai ⟨_,_,h,v,_,_,_,J,rfl,s',?_,W⟩
 refine⟨k+1,?_,Nat.le_refl _,λ_=>by simp⟩
 simp_all[stamp,t7,J01]
theorem exec_cutStr{t:TypeId}{x:Operand}{e d:Option Operand}{b:ByteArray}{l m:Int}(n:o.op = .slice t x e d none)(p:P.underlying t=some .string)
  (q:a.eval x = .string b) (j:D04 a 0 e l) (k:D04 a b.size d m) (f:0<=l) (g:l<=m) (h:m<=(b.size:Int)) :
  ∀ c:Next->Hp->Prop,c (.value (.string (b.extract l.toNat m.toNat))) H->wpS P (execOp a.eval o) H c:=by
 intro c i
 unfold execOp;rw[n]
 refine E7 _ _ _ ?_
 simp only[Instr.sliceAt,O1,Y2 p,Instr.slice,q,Option.map_none,Option.isSome_none,Bool.false_eq_true,if_false,U1]
 rw[F0d j k f g h (Nat.le_refl _)]
 exact i
theorem exec_index{t:TypeId}{x i:Operand}{b:ByteArray}{k:IntKind}{j:Int}{c:UInt8}(l:o.op = .index t x i)(m:P.underlying t=some .string)(n:a.eval x = .string b)(g:a.eval i = .int k j)
  (e:0<=j) (f:b[j.toNat]?=some c):∀ d:Next->Hp->Prop,d (.value (.int .u8 c.toNat)) H->wpS P (execOp a.eval o) H d:=by
 intro d h
 unfold execOp;rw[l]
 refine E7 _ _ _ ?_
 simp only[Instr.index,n,g,asIntOf,O1,U1,Y2 m,e,if_true,f]
 exact h
theorem exec_quo{t j:TypeId}{x y:Operand}{b c:Int}(g:o.op = .binOp .quo t x y j)(h:a.eval x = .int .i64 b)(i:a.eval y = .int .i64 c)(f:c≠0):
  ∀ d:Next->Hp->Prop,d (.value (.int .i64 (IntKind.i64.wrap (b.tdiv c)))) H->wpS P (execOp a.eval o) H d:=by
 intro d e
 unfold execOp;rw[g]
 refine E7 _ _ _ ?_
 simp only[h,i,eqGuard,O1,Bool.not_false,if_true,U1,binOp,Go.Op.intDiv,if_neg f,ne_eq,not_true_eq_false,if_false]
 exact e
theorem exec_rem{t j:TypeId}{x y:Operand}{b c:Int}(g:o.op = .binOp .rem t x y j)(h:a.eval x = .int .i64 b)(i:a.eval y = .int .i64 c)(f:c≠0):
  ∀ d:Next->Hp->Prop,d (.value (.int .i64 (b.tmod c))) H->wpS P (execOp a.eval o) H d:=by
 intro d e
 unfold execOp;rw[g]
 refine E7 _ _ _ ?_
 simp only[h,i,eqGuard,O1,Bool.not_false,if_true,U1,binOp,Go.Op.intDiv,if_neg f,ne_eq,not_true_eq_false,if_false]
 exact e
theorem q0p{t j:TypeId}{x y:Operand}{b c:Int}(g:o.op = .binOp .shl t x y j)(h:a.eval x = .int .i64 b)(i:a.eval y = .int .i64 c)(k:0<=c):
  ∀ d:Next->Hp->Prop,d (.value (.int .i64 (IntKind.i64.wrap (b*2 ^ min c.toNat 64)))) H->wpS P (execOp a.eval o) H d:=by
 intro d e
 unfold execOp;rw[g]
 refine E7 _ _ _ ?_
 have f : ¬ c<0:=by omega
 simp only[h,i,eqGuard,O1,Bool.not_false,if_true,U1,binOp,Go.Op.shift,if_neg f,IntKind.bits]
 exact e
theorem r0p{t j:TypeId}{x y:Operand}{b c:Int}(g:o.op = .binOp .shr t x y j)(h:a.eval x = .int .i64 b)(i:a.eval y = .int .i64 c)(k:0<=c):
  ∀ d:Next->Hp->Prop,d (.value (.int .i64 (b.fdiv (2 ^ min c.toNat 64)))) H->wpS P (execOp a.eval o) H d:=by
 intro d e
 unfold execOp;rw[g]
 refine E7 _ _ _ ?_
 have f : ¬ c<0:=by omega
 simp only[h,i,eqGuard,O1,Bool.not_false,if_true,U1,binOp,Go.Op.shift,if_neg f,IntKind.bits]
 exact e
theorem exec_cat{t j:TypeId}{x y:Operand}{b c:ByteArray}(g:o.op = .binOp .add t x y j)(h:a.eval x = .string b)(i:a.eval y = .string c)(k:b.size+c.size<=9223372036854775807):
  ∀ d:Next->Hp->Prop,d (.value (.string (b++c))) H->wpS P (execOp a.eval o) H d:=by
 intro d e
 unfold execOp;rw[g]
 refine E7 _ _ _ ?_
 have f : ¬ (((b.size+c.size:Nat):Int)>IntKind.i64.max):=by
  have:IntKind.i64.max=9223372036854775807:=by decide
  rw[this];omega
 simp only[h,i,eqGuard,O1,Bool.not_false,if_true,U1,binOp,Go.Op.stringOp,if_neg f]
 exact e
end
end Go.H
namespace Go.H
set_option linter.unusedVariables false
set_option linter.unusedSimpArgs false
section
variable {P:Program} {h0:Hp} {w0:World} {be:Nat->Nat} {oe:Nat->Value} {H:Hp} {st:St} {h:Hp} {a:Act} {w:World} {o:Oper} {K:AV->St->Hp->Prop} {Q:Exit->Act->World->Prop}
theorem y0c:∀(a c r:List Value) (k:Nat),k+a.length<=c.length->E3 (c++r) k a=E3 c k a++r
 | [],c,r,k,_=>rfl
 |n::a,c,r,k,b=>by
  simp only[List.length_cons]at b
  simp only[E3]
  rw[List.set_append_left _ _ (by omega),y0c a _ r (k+1) (by simp;omega)]
theorem f0a:∀(a x l:List Value) (k:Nat),E3 (x++l) (x.length+k) a=x++E3 l k a
 | [],x,l,k=>rfl
 |n::a,x,l,k=>by
  simp only[E3]
  rw[List.set_append_right _ _ (by omega),Nat.add_sub_cancel_left,Nat.add_assoc,f0a a x _ (k+1)]
theorem A07{sz:Nat}(a:List Value)(k:Nat):∀(xs:List (List Value)) (i:Nat) (c:List Value),(∀ x∈xs,x.length=sz)->xs[i]?=some c->k+a.length<=c.length ->
  (xs.set i (E3 c k a)).flatten=E3 xs.flatten (i*sz+k) a
 | [],i,c,_,h,_=>by simp at h
 |x::xs,0,c,d,h,b=>by
  simp at h;subst h
  simp only[List.set_cons_zero,List.flatten_cons,Nat.zero_mul,Nat.zero_add]
  rw[y0c a x _ k b]
 |x::xs,i+1,c,d,h,b=>by
  simp at h
  have f:=d x mS
  simp only[List.set_cons_succ,List.flatten_cons]
  rw[A07 a k xs i c (λy e=>d y (mC _ e)) h b]
  rw[show(i+1)*sz+k=x.length+(i*sz+k) from by grind,f0a]
theorem g05:∀(a cs:List Value) (off N:Nat),(E3 cs off a).take N=E3 (cs.take N) off a
 | [],cs,off,N=>rfl
 |n::a,cs,off,N=>by
  simp only[E3]
  rw[g05 a _ (off+1) N,List.take_set]
theorem G0d:∀(a cs:List Value) (off:Nat) (v:Value),v∈E3 cs off a->v∈cs∨v∈a
 | [],cs,off,v,h => .inl h
 |n::a,cs,off,v,h=>by
  rcases G0d a _ (off+1) v h with h|h
  all_goals grind
theorem L0h(s:Sim P h0 w0 be oe H st h a w){t:TypeId}{p x:Operand}{i O:Nat}{idx:Int}{sz k:Nat}(ak:o.op = .store t p x)(am:rdO st p = .oel i O idx sz k)
  (ad:rfy (rdO st x) st h λv st h=>match nth st.ow i,F5 P t with
   |some ⟨s',.live e d by_ nn xs⟩,some n=>match n06 v.cells.toList n,q04 v.cells.toList,Nat.beq s' O,Nat.beq d sz with
    |true,true,true,true=>∃ c,xs[idx.toNat]?=some c/\L0n c k v.cells.toList λq =>
      K (.val undef) { st with ow:=G00 st.ow i ⟨s',.live e d by_ nn (xs.set idx.toNat q)⟩ } h
    |_,_,_,_=>False
   |_,_=>False):o.wp P a w (Nx P h0 w0 st be oe K a o.dst) Q:=by
 have J:=s.rdO p
 rw[am]at J
 obtain⟨az,L,f,s1,I⟩:=D02 s (s.rdO x) ad
 have S:=J.grow I
 split at f
 rotate_left
 ·exact f.elim
 rename_i s' e d by_ nn xs n D ao
 split at f
 rotate_left
 ·exact f.elim
 rename_i ah al X Y
 have ap:=Nat.eq_of_beq_eq_true X
 have aq:=Nat.eq_of_beq_eq_true Y
 subst ap;subst aq
 obtain⟨c,u,j⟩:=f
 unfold L0n at j
 split at j
 rotate_left
 ·exact j.elim
 rename_i C
 have C:=Nat.le_of_ble_eq_true C
 have ai:=s02 _ _ ah
 have N:=B03 _ al
 obtain⟨g,ax,q,z,E⟩:=S.oel_cur D
 have l:=s1.own i _ _ _ _ _ _ D
 rcases l.2 with⟨m,_⟩|⟨R,cap,cur,m,af,ag,M,ab,ac,ar⟩
 ·rw[m]at z;cases z
 rw[m]at z;cases z
 have Z:=(List.getElem?_eq_some_iff.1 u)
 have aa:c.length=d:=(l.1 c (List.mem_of_getElem? u)).1
 have V:idx.toNat*d+k+n<=cur.toList.length:=by
  have:(idx.toNat+1)*d<=q*d:=Nat.mul_le_mul_right _ (Nat.le_trans Z.1 M)
  grind
 have av:=s06 (H:=H) (P:=P) (a:=a) (cur:=cur.toList) ak ao E ai N (by simpa using ag) V
 obtain⟨ay,G,aA,an,⟨rfl,rfl⟩,aj⟩:=R9 _ _ _ s1.mv.vis (av (λn G=>n = .skip/\G=_) ⟨rfl,rfl⟩)
 rw[S05]at j
 have U:P05 L (H.set g (.cells (E3 cur.toList (idx.toNat*d+k) (a.eval x).cells.toList).toArray e (0,0))) (oe i) e d nn (xs.set idx.toNat (E3 c k (a.eval x).cells.toList)):=by
  refine⟨λy F=>?_,.inr ⟨g,q,_,by simpa using m,af,Hp.set_same _ _ _,by simpa using M,ab,by simp[Y8,ac],?_⟩⟩
  ·rcases List.mem_or_eq_of_mem_set F with F|rfl
   ·exact l.1 y F
   ·refine⟨by rw[Y8,aa],λv au=>?_⟩
    rcases G0d _ _ _ _ au with A|A
    ·exact(l.1 c (List.mem_of_getElem? u)).2 v A
    ·exact N v A
  ·rw[A07 (sz:=d) _ _ xs idx.toNat c (λx E=>(l.1 x E).1) u C,←ar]
   simp only[List.length_set]
   rw[g05]
 obtain⟨aw,T⟩:=s1.updOwn (s1:=s') (by_:=by_) D (Nat.le_refl _) (λ_=>rfl) aj (λb W _=>Hp.set_other _ _ (λe=>W (by rw[m,e];rfl))) U (λR ae => .inl ae)
 exact k08 an ⟨_,_,L,_,_,_,_,j,rfl,aw,rfl,I.trans T⟩
theorem M0h(s:Sim P h0 w0 be oe H st h a w){t:TypeId}{p x:Operand}{sl:Value}{idx:Int}{sz k:Nat}{v:Value}(A:o.op = .store t p x)(C:rdO st p = .hel sl idx sz k)
    (G:rdO st x = .val v) (E:F5 P t=some 1)
    (u : ∃ b of n c cur ty, (sl = .slice (some ⟨b, of, none⟩) n c ∧ 0 ≤ idx ∧ h b = some (.cells cur ty (0, 0)) ∧ of + (idx.toNat * sz + k) < cur.size ∧ N02 v) ∧
            K (.val undef) st (h.set b (.cells (cur.setIfInBounds (of+(idx.toNat*sz+k)) v) ty (0,0)))):o.wp P a w (Nx P h0 w0 st be oe K a o.dst) Q:=by
  have e:=s.rdO p
  rw[C]at e
  have f:a.eval x=v:=by have:=s.rdO x;rw[G]at this;exact this
  obtain⟨b,off,n,c,cur,ty,⟨j,_,q,M,N⟩,y⟩:=u
  obtain⟨J,T,R,L,d,l⟩:=e
  rw[j]at d;cases d
  have i:v.cells = #[v]:=by cases v<;>simp_all [N02,Value.cells]
  have O:v.oneCell'=true:=by cases v<;>simp_all [N02,Value.oneCell']
  have F:=s06 (H:=h) (P:=P) (a:=a) (cur:=cur.toList) A E l (by rw[f,i];rfl) (by grind) (by simpa using q) (by simp;omega)
  obtain⟨S,g,U,D,⟨rfl,rfl⟩,z⟩:=R9 _ _ _ (v07 s) (F (λn g=>n = .skip/\g=_) ⟨rfl,rfl⟩)
  obtain⟨I,s'⟩:=s.moved z
  have m:(E3 cur.toList (off+(idx.toNat*sz+k)) (a.eval x).cells.toList).toArray=cur.setIfInBounds (off+(idx.toNat*sz+k)) v:=by
    rw[f,i]
    apply Array.ext'
    simp[E3]
  rw[m]at s'
  exact k08 D ⟨_,_,_,_,_,_,_,y,rfl,s',rfl,Q6.refl _ _ _⟩
theorem S08(s:Sim P h0 w0 be oe H st h a w){t:TypeId}{p x:Operand}{sl:Value}{idx:Int}{sz k n:Nat}{new:List Value}(y:o.op = .store t p x)(z:rdO st p = .hel sl idx sz k)
  (g:(a.eval x).cells.toList=new) (C:F5 P t=some n) (q:n06 new n=true) (J:q04 new=true)
  (m:I05 h sl idx (idx.toNat*sz+k) new λc=>K (.val undef) st c):o.wp P a w (Nx P h0 w0 st be oe K a o.dst) Q:=by
 have e:=s.rdO p
 rw[z]at e
 obtain⟨b,off,M,G,cur,ty,⟨i,_,l,L⟩,f⟩:=m
 obtain⟨F,R,N,I,d,j⟩:=e
 rw[i]at d;cases d
 have u:=s02 _ _ q
 have D:=s06 (H:=h) (P:=P) (a:=a) (cur:=cur.toList) y C j (by rw[g];exact u) (by grind[B03]) (by simpa using l) (by simp;omega)
 obtain⟨O,c,S,A,⟨rfl,rfl⟩,v⟩:=R9 _ _ _ (v07 s) (D (λn c=>n = .skip/\c=_) ⟨rfl,rfl⟩)
 obtain⟨E,s'⟩:=s.moved v
 rw[S05]at f
 rw[g]at s'
 exact k08 A ⟨_,_,_,_,_,_,_,f,rfl,s',rfl,Q6.refl _ _ _⟩
theorem T08:∀(c:List Field),H05 P c=true->∃ b,c.mapM (λf:Field=>(P.info? f.type).map λi=>(f.offset,i.size))=some b /\
  ∀(k:Nat) (f:Field) (n:Nat),c[k]?=some f->F5 P f.type=some n->b[k]?=some (f.offset,n)
 | [],_=>⟨[],rfl,by simp⟩
 |f::r,h=>by
  simp only[H05]at h
  split at h
  ·rename_i m a
   obtain⟨b,d,e⟩:=T08 r h
   unfold F5 at a
   split at a
   ·rename_i i j
    cases a
    refine⟨(f.offset,i.size)::b,by simp_all,λk g n l o=>?_⟩
    grind[F5]
   ·cases a
  ·cases h
theorem g0a{d:Array Field}{m:List (Nat×Nat)}(h:∀(k:Nat) (f:Field) (n:Nat),d.toList[k]?=some f->F5 P f.type=some n->m[k]?=some (f.offset,n)){rd:Operand->AV}
  (j:∀ x cs,o00 (rd x)=some cs->D2 st oe cs (a.eval x).cells.toList):∀(l:List (Nat×Operand)) {cs:List E5} {vs:List Value} {K:List E5->Prop},D2 st oe cs vs->o07 P d rd l cs K ->
  ∃ cs' c,K cs'/\D2 st oe cs' c/\Instr.fill (m.toArray[·]?) vs.toArray (l.map λp=>(p.1,a.eval p.2))=some c.toArray
 | [],cs,vs,K,g,b=>⟨cs,vs,b,g,rfl⟩
 |(i,x)::r,cs,vs,K,g,b=>by
  simp only[o07]at b
  split at b
  rotate_left
  ·exact b.elim
  rename_i f new hf t
  split at b
  rotate_left
  ·exact b.elim
  rename_i n v
  split at b
  rotate_left
  ·exact b.elim
  rename_i s q
  have E:=s02 _ _ s
  have D:=Nat.le_of_ble_eq_true q
  have e:=j x new t
  have u:=h i f n (by simpa using hf) v
  have C:=g.length
  have F:=e.length
  obtain⟨cs',c,y,z,G⟩:=g0a h j r (g.splice e) b
  refine⟨cs',c,y,z,?_⟩
  have w:(a.eval x).cells.size=n:=by grind
  simp only[List.map_cons,Instr.fill,List.getElem?_toArray,u,w,ne_eq,not_true_eq_false,decide_false,Bool.false_or,decide_eq_true_eq]
  rw[if_neg (by simp;omega)]
  have o:=D0d (a.eval x) f.offset vs.toArray
  have A:((a.eval x).cells.zipIdx.foldl (λcs (p:Value×Nat)=>cs.setIfInBounds (f.offset+p.2) p.1) vs.toArray)=(E3 vs f.offset (a.eval x).cells.toList).toArray:=by
   rw[←o]
  grind
theorem f0j(s:Sim P h0 w0 be oe H st h a w){t:TypeId}{ps:Array (Nat×Operand)}{b:Array Field}{z:Value}{rd:Operand->AV}{K':AV->Prop}(u:o.op = .build t ps)(y:P.underlying t=some (.struct b))
  (k:N00 P t=some z) (f:H05 P b.toList=true) (j:∀ x cs,o00 (rd x)=some cs->D2 st oe cs (a.eval x).cells.toList)
  (g:o07 P b rd ps.toList (vals z.cells.toList) λcs=>K' (.agg cs)) :
  ∃ av v,K' av/\I2 st be oe av v/\∀ w:World,(execOp a.eval o).run P w = .ok (.value v) w:=by
 obtain⟨C,n,e⟩:=T08 b.toList f
 obtain⟨cs',d,l,m,A⟩:=g0a (st:=st) (oe:=oe) (a:=a) e j ps.toList (D2.vals st oe z.cells.toList) g
 have c:=k
 unfold N00 at c
 split at c
 rotate_left
 ·cases c
 rename_i i q
 have p:P.built t (ps.map λx=>(x.1,a.eval x.2)).toList=some d.toArray:=by
  unfold Program.built
  simp_all
 refine⟨_,.agg d.toArray,l,⟨d,rfl,m⟩,λw=>?_⟩
 simp_all[execOp,Sem.run_bind,run_build,Result.andThen_ok,Sem.run_pure]
theorem U08{sz:Nat}{rd:Operand->AV}
  (f:∀ x cs,o00 (rd x)=some cs->D2 st oe cs (a.eval x).cells.toList):∀(l:List (Nat×Operand)) {cs:List E5} {vs:List Value} {K:List E5->Prop},D2 st oe cs vs->P09 sz rd l cs K ->
  ∃ cs' d,K cs'/\D2 st oe cs' d/\Instr.fill (λi=>some (i*sz,sz)) vs.toArray (l.map λp=>(p.1,a.eval p.2))=some d.toArray
 | [],cs,vs,K,g,b=>⟨cs,vs,b,g,rfl⟩
 |(i,x)::r,cs,vs,K,g,b=>by
  simp only[P09]at b
  split at b
  rotate_left
  ·exact b.elim
  rename_i new q
  split at b
  rotate_left
  ·exact b.elim
  rename_i n m
  have o:=s02 _ _ n
  have z:=Nat.le_of_ble_eq_true m
  have e:=f x new q
  have y:=g.length
  have t:=e.length
  obtain⟨cs',d,u,v,w⟩:=U08 f r (g.splice e) b
  refine⟨cs',d,u,v,?_⟩
  have s:(a.eval x).cells.size=sz:=by rw[←o,t];simp
  simp only[List.map_cons,Instr.fill,s,ne_eq,not_true_eq_false,decide_false,Bool.false_or,decide_eq_true_eq]
  rw[if_neg (by simp;omega)]
  have h:=D0d (a.eval x) (i*sz) vs.toArray
  have k:((a.eval x).cells.zipIdx.foldl (λcs (p:Value×Nat)=>cs.setIfInBounds (i*sz+p.2) p.1) vs.toArray)=(E3 vs (i*sz) (a.eval x).cells.toList).toArray:=by
   rw[←h]
  rw[show((a.eval x).cells.zipIdx.foldl (λcs (x:Value×Nat)=>match x with|(c,j)=>cs.setIfInBounds (i*sz+j) c) vs.toArray)=(E3 vs (i*sz) (a.eval x).cells.toList).toArray from k]
  simpa using w
theorem g0j(s:Sim P h0 w0 be oe H st h a w){t e:TypeId}{n sz:Nat}{ps:Array (Nat×Operand)}{z:Value}{rd:Operand->AV}{K':AV->Prop}(l:o.op = .build t ps)(q:P.underlying t=some (.array n e))
  (u:N00 P t=some z) (b:F5 P e=some sz) (m:∀ x cs,o00 (rd x)=some cs->D2 st oe cs (a.eval x).cells.toList)
  (g:P09 sz rd ps.toList (vals z.cells.toList) λcs=>K' (.agg cs)) :
  ∃ av v,K' av/\I2 st be oe av v/\∀ w:World,(execOp a.eval o).run P w = .ok (.value v) w:=by
 obtain⟨cs',d,y,A,C⟩:=U08 (st:=st) (oe:=oe) (a:=a) m ps.toList (D2.vals st oe z.cells.toList) g
 have c:=u
 unfold N00 at c
 split at c
 rotate_left
 ·cases c
 rename_i i j
 unfold F5 at b
 split at b
 rotate_left
 ·cases b
 rename_i D k
 cases b
 have f:P.built t (ps.map λx=>(x.1,a.eval x.2)).toList=some d.toArray:=by
  unfold Program.built
  simp only[j,q,c,k]
  rw[show(Array.map (λx=>(x.1,a.eval x.2)) ps).toList=ps.toList.map λp=>(p.1,a.eval p.2) from by simp]
  simpa using C
 refine⟨_,.agg d.toArray,y,⟨d,rfl,A⟩,λw=>?_⟩
 unfold execOp;rw[l]
 simp only[Sem.run_bind,run_build w t _ _ f,Result.andThen_ok,Sem.run_pure]
theorem T0f(s:Sim P h0 w0 be oe H st h a w){x:Operand}{cs:List E5}(b:n07 (rdO st x)=some cs):∃ vs:List Value,a.eval x = .agg vs.toArray/\D2 st oe cs vs:=by
 have g:=s.rdO x
 cases hr:rdO st x with
 |val v =>
  rw[hr]at b g
  cases v<;>simp only[n07,Option.some.injEq]at b<;>first|(subst b;exact⟨_,by rw[show a.eval x=_ from g],D2.vals _ _ _⟩)|cases b
 |agg cs' =>
  rw[hr]at b g
  simp only[n07,Option.some.injEq]at b
  subst b
  exact g
 |_=>rw[hr]at b;cases b
theorem s0p(s:Sim P h0 w0 be oe H st h a w){t:TypeId}{x:Operand}{k:Nat}{cs:List E5}{l:Array Field}{f:Field}(u:o.op = .field t x k)(p:n07 (rdO st x)=some cs)
  (z:P.underlying t=some (.struct l)) (hf:l[k]?=some f) (b:p04 P f.type cs f.offset λav=>K av st h):o.wp P a w (Nx P h0 w0 st be oe K a o.dst) Q:=by
 obtain⟨vs,D,g⟩:=T0f s p
 unfold p04 at b
 have fin:∀(av:AV) (v:Value),K av st h->I2 st be oe av v->(∀ d:Value->Hp->Prop,d v H->wpS P (part f.type vs.toArray f.offset) H d)->o.wp P a w (Nx P h0 w0 st be oe K a o.dst) Q:=by
  intro av v i q C
  refine O6 s (λd y=>?_) q i
  unfold execOp;rw[u]
  refine E7 _ _ _ ?_
  grind[Instr.field,O1,Y2,asAgg,U1]
 split at b
 ·rename_i e
  split at b
  ·rename_i n j
   split at b
   ·refine fin _ (.agg ((vs.drop f.offset).take n).toArray) b ⟨_,rfl,(g.drop _).take _⟩ λd i=>?_
    simp only[part,O1,R05 e,if_true,a00 j,U1]
    grind
   ·exact b.elim
  ·exact b.elim
 ·rename_i e
  split at b
  ·rename_i c j
   obtain⟨v,A,m⟩:=g.nth j
   refine fin _ v b (I2.ofCell m) λd i=>?_
   simp only[part,O1,R05 e,Bool.false_eq_true,if_false]
   grind[U1]
  ·exact b.elim
 ·exact b.elim
theorem h0a{t:TypeId}{e:TypeId}{x:Operand}{as:Array Operand}{b:Array TypeId}{d:Option Addr}{n c:Nat}(g:o.op = .call { callee := .builtin .len,args:=as,argTypes:=b })(f:as = #[x])(i:b = #[t])
  (h:b01 P t=some e) (j:a.eval x = .slice d n c) (w:World):(execOp a.eval o).run P w = .ok (.value (.int .i64 n)) w:=by
 subst f;subst i
 unfold execOp;rw[g]
 simp only[resolve,invoke,builtin,Builtin.len_,Sem.run_bind,Sem.run_pure,Result.andThen_ok,List.map_toArray,List.map_cons,List.map_nil,j,List.getElem?_toArray,List.getElem?_cons_zero,run_underlying (y9 h),goInt]
end
end Go.H
namespace Go.H
set_option linter.unusedVariables false
set_option linter.unusedSimpArgs false
section
variable {P:Program} {h0:Hp} {w0:World} {be:Nat->Nat} {oe:Nat->Value} {H:Hp} {st:St} {h:Hp} {a:Act} {w:World} {o:Oper} {K:AV->St->Hp->Prop} {Q:Exit->Act->World->Prop}
theorem l09(s:Sim P h0 w0 be oe H st h a w){av:AV}{v:Value}(c:∀ w:World,(execOp a.eval o).run P w = .ok (.value v) w)(g:I2 st be oe av v)(b:K av st h):o.wp P a w (Nx P h0 w0 st be oe K a o.dst) Q :=
 H7 (c w) ⟨av,st,h,v,be,oe,H,b,rfl,s,g,Q6.refl _ _ _⟩
set_option maxHeartbeats 1000000 in
theorem b00(s:Sim P h0 w0 be oe H st h a w)(d:c8 P o st h K):o.wp P a w (Nx P h0 w0 st be oe K a o.dst) Q:=by
 cases ho:o.op with
 |move x=>simp only[c8,ho]at d;exact t0m s (.inl ho) d
 |assign x=>simp only[c8,ho]at d;exact t0m s (.inr ho) d
 |box t x =>
  simp only[c8,ho]at d
  split at d
  ·rename_i cs E;exact e0t s ho E d
  ·exact d.elim
 |alloc t =>
  simp only[c8,ho]at d
  split at d
  ·rename_i z R;exact p0p s ho R d
  ·exact d.elim
 |fieldAddr t x k=>simp only[c8,ho]at d;exact F0h s ho d
 |indexAddr t x i=>simp only[c8,ho]at d;exact K0h s ho d
 |load t x =>
  simp only[c8,ho]at d
  split at d
  ·rename_i i off u
   split at d
   ·rename_i cs ty J;exact c0j s ho u J d
   ·exact d.elim
  ·rename_i sl idx sz k u
   obtain⟨c,E,C⟩:=d
   exact d0j s ho u E C
  ·rename_i i ah idx sz k u
   split at d
   ·rename_i bc e bd by_ nn xs J
    split at d
    ·rename_i V
     have ac:=Nat.eq_of_beq_eq_true V
     subst ac
     obtain⟨c,E,C⟩:=d
     exact e0j s ho u J E C
    ·exact d.elim
   ·exact d.elim
  ·exact Z8 s d
 |store t p x =>
  simp only[c8,ho]at d
  split at d
  ·rename_i i off u
   split at d
   ·rename_i cs ty new n J E A
    split at d
    ·rename_i I D;exact G0h s ho u J E A I D d
    ·exact d.elim
   ·exact d.elim
  ·rename_i i ah idx sz k u
   exact L0h s ho u d
  ·rename_i sl idx sz k u
   split at d
   ·rename_i v q
    split at d
    ·rename_i A;exact M0h s ho u q A d
    ·rename_i n _ A
     split at d
     ·rename_i I D
      exact S08 s ho u (by have:=s.rdO x;rw[q]at this;rw[show a.eval x=v from this]) A I D d
     ·exact d.elim
    ·exact d.elim
   ·rename_i cs q
    split at d
    ·rename_i n new A O
     split at d
     ·rename_i I D
      refine S08 s ho u ?_ A I D d
      have g:=s.rdO x
      rw[q]at g
      obtain⟨vs,ay,az⟩:=g
      rw[ay,w07 O az]
      rfl
     ·exact d.elim
    ·exact d.elim
   ·exact d.elim
  ·exact Z8 s d
 |build t ps =>
  simp only[c8,ho]at d
  split at d
  ·rename_i ax z N R
   split at d
   ·rename_i W
    obtain⟨av,v,ae,af,ag⟩:=f0j (K':=λav=>K av st h) s ho N R W (λx cs E=>Y03 s E) d
    exact l09 s ag af ae
   ·exact d.elim
  ·rename_i n e z N R
   split at d
   ·rename_i sz A
    obtain⟨av,v,ae,af,ag⟩:=g0j (K':=λav=>K av st h) s ho N R A (λx cs E=>Y03 s E) d
    exact l09 s ag af ae
   ·exact d.elim
  ·exact d.elim
 |buildSlice t n ps =>
  simp only[c8,ho]at d
  split at d
  ·rename_i e L
   split at d
   ·rename_i sz by_ z A V R
    split at d
    ·rename_i J aa I;exact S0f s ho L A R J aa d
    ·exact d.elim
   ·exact d.elim
  ·exact d.elim
 |makeSlice t l c =>
  simp only[c8,ho]at d
  split at d
  ·rename_i e L
   split at d
   ·rename_i sz by_ z a1 bb a0 ba A V R I E
    split at d
    ·rename_i aH aE;exact J0h s ho L A V R I E aH aE d.1 d.2
    ·exact d.elim
   ·exact d.elim
  ·exact d.elim
 |field t x k =>
  simp only[c8,ho]at d
  split at d
  ·rename_i cs ax E N
   split at d
   ·rename_i f hf;exact s0p s ho E N hf d
   ·exact d.elim
  ·exact d.elim
 |slice t x a2 ak aK =>
  cases aK with
  |some m=>simp only[c8,ho]at d;exact H00 s d
  |none =>
   simp only[c8,ho]at d
   split at d
   ·rename_i i k u
    split at d
    ·rename_i e L
     split at d
     ·rename_i sz A;exact U0n s ho L A u d
     ·exact d.elim
    ·exact d.elim
   ·rename_i aU n c u
    split at d
    ·rename_i e L
     split at d
     ·rename_i sz A;exact T0n s ho L A u d
     ·exact d.elim
    ·exact d.elim
   ·rename_i b u
    split at d
    ·rename_i N
     unfold c0p at d
     split at d
     ·rename_i l m I aa
      have G:a.eval x = .string b:=by have:=s.rdO x;rw[u]at this;exact this
      obtain⟨⟨D,U,aA⟩,C⟩:=d
      exact O6 s (av := .val _) (exec_cutStr ho N G (u06 s I) (u06 s aa) D U aA) rfl C
     ·exact d.elim
    ·exact d.elim
   ·exact d.elim
 |index t x i =>
  simp only[c8,ho]at d
  split at d
  ·rename_i b k j q ak N
   have G:a.eval x = .string b:=by have:=s.rdO x;rw[q]at this;exact this
   have gi:a.eval i = .int k j:=by have:=s.rdO i;rw[ak]at this;exact this
   obtain⟨c,⟨D,U⟩,C⟩:=d
   exact O6 s (av := .val _) (exec_index ho N G gi D U) rfl C
  ·exact Z8 s d
 |binOp aM t x y aP =>
  cases aM with
  |add =>
   simp only[c8,ho]at d
   split at d
   ·rename_i b c q F
    have G:a.eval x = .string b:=by have:=s.rdO x;rw[q]at this;exact this
    have M:a.eval y = .string c:=by have:=s.rdO y;rw[F]at this;exact this
    exact O6 s (av := .val _) (exec_cat ho G M d.1) rfl d.2
   ·exact Z8 s d
  |quo =>
   simp only[c8,ho]at d
   split at d
   ·rename_i b c q F
    have G:a.eval x = .int .i64 b:=by have:=s.rdO x;rw[q]at this;exact this
    have M:a.eval y = .int .i64 c:=by have:=s.rdO y;rw[F]at this;exact this
    exact O6 s (av := .val _) (exec_quo ho G M d.1) rfl d.2
   ·exact Z8 s d
  |rem =>
   simp only[c8,ho]at d
   split at d
   ·rename_i b c q F
    have G:a.eval x = .int .i64 b:=by have:=s.rdO x;rw[q]at this;exact this
    have M:a.eval y = .int .i64 c:=by have:=s.rdO y;rw[F]at this;exact this
    exact O6 s (av := .val _) (exec_rem ho G M d.1) rfl d.2
   ·exact Z8 s d
  |shl =>
   simp only[c8,ho]at d
   split at d
   ·rename_i b c q F
    have G:a.eval x = .int .i64 b:=by have:=s.rdO x;rw[q]at this;exact this
    have M:a.eval y = .int .i64 c:=by have:=s.rdO y;rw[F]at this;exact this
    exact O6 s (av := .val _) (q0p ho G M d.1) rfl d.2
   ·exact Z8 s d
  |shr =>
   simp only[c8,ho]at d
   split at d
   ·rename_i b c q F
    have G:a.eval x = .int .i64 b:=by have:=s.rdO x;rw[q]at this;exact this
    have M:a.eval y = .int .i64 c:=by have:=s.rdO y;rw[F]at this;exact this
    exact O6 s (av := .val _) (r0p ho G M d.1) rfl d.2
   ·exact Z8 s d
  |eql =>
   simp only[c8,ho]at d
   split at d
   ·rename_i xs aS q F
    obtain⟨b,D,C⟩:=d
    exact l09 s (av := .val _) (D _ (G7 q (s.rdO x)) (G7 F (s.rdO y))) rfl C
   ·rename_i aT a4 a3 q F
    obtain⟨b,D,C⟩:=d
    exact l09 s (av := .val _) (D _ (G7 q (s.rdO x)) (G7 F (s.rdO y))) rfl C
   ·exact H00 s d
  |neq =>
   simp only[c8,ho]at d
   split at d
   ·rename_i xs aS q F
    obtain⟨b,D,C⟩:=d
    exact l09 s (av := .val _) (D _ (G7 q (s.rdO x)) (G7 F (s.rdO y))) rfl C
   ·exact H00 s d
  |_=>simp only[c8,ho]at d;exact H00 s d
 |convert ap aq x =>
  simp only[c8,ho]at d
  split at d
  ·rename_i i k u
   split at d
   ·rename_i ah aW sz by_ nn xs e J am an
    split at d
    ·rename_i ao
     obtain⟨S,T,C⟩:=d
     obtain⟨aw,aO,ar,aL,aR,ab⟩:=q06 u
     have g:=s.rdO x
     rw[u]at g
     have q:=g.own_cur ab
     have X:=s.own i _ _ _ _ _ _ J
     have aN:(execOp a.eval o).run P w = .ok (.value (.string (strOfNums S))) w:=by
      unfold execOp
      rw[ho]
      rcases X.2 with⟨O,aG,_⟩|⟨Y,cap,cur,O,_,aB,aX,aY,aZ,aj⟩
      ·rw[aG]at T
       have aD:S = []:=by cases S with
        |nil=>rfl
        |cons n r=>cases T
       subst aD
       rw[O]at q
       simp only[q,Sem.run_bind,run_convert_bytes_nil w ap e am ao 0 0 aq an,Result.andThen_ok,Sem.run_pure]
       rfl
      ·rw[O]at q
       have I:S.length=xs.length:=by rw[T];simp
       have aC:∀ j,j<xs.length->w.cell? ⟨Y,0+j,none⟩=some (.int .u8 (S.getD j 0)):=λj Z=>by
        have ac:sz=1:=by
         have:=(X.1 _ (List.getElem_mem Z)).1
         rw[←this]
         simp only[T,List.getElem_map]
         rfl
        subst ac
        have hf:xs.flatten=S.map (Value.int .u8):=by
         rw[T]
         clear T I Z J X aj C
         induction S with
         |nil=>rfl
         |cons n r aJ=>simp[aJ]
        have aF:=o0p s _ _ aB
        have U:=congrArg (λl:List Value=>l[j]?) (aj.trans hf)
        simp only[List.getElem?_take,Nat.mul_one,if_pos Z,List.getElem?_map,Array.getElem?_toList]at U
        simp only[World.cell?,aF,Nat.zero_add]
        rw[if_neg (by simp),U]
        simp[List.getD_eq_getElem?_getD,List.getElem?_eq_getElem (show j<S.length by omega)]
       simp only[q,Sem.run_bind,run_convert_bytes_arg w ap e am ao Y 0 xs.length cap S I aC aq an,Result.andThen_ok,Sem.run_pure]
     exact H7 aN ⟨_,_,_,_,_,_,_,C,rfl,s,rfl,Q6.refl _ _ _⟩
    ·exact d.elim
   ·exact H00 s d
  ·exact H00 s d
 |call c =>
  obtain⟨au,as,aQ⟩:=c
  cases au with
  |builtin b =>
   cases b with
   |len =>
    simp only[c8,ho]at d
    split at d
    ·rename_i x t W ad
     have ai:as = #[x]:=by apply Array.ext';simpa using W
     have al:aQ = #[t]:=by apply Array.ext';simpa using ad
     split at d
     ·rename_i i k u
      split at d
      ·rename_i ah e sz by_ nn xs aV J L
       obtain⟨aw,aO,ar,aL,aR,ab⟩:=q06 u
       have g:=s.rdO x
       rw[u]at g
       have q:=g.own_cur ab
       have X:=s.own i _ _ _ _ _ _ J
       rcases X.2 with⟨O,T,_⟩|⟨Y,cap,cur,O,_⟩
       ·rw[O]at q
        refine l09 s (av := .val _) (h0a ho ai al L q) ?_ d
        rw[T];rfl
       ·rw[O]at q
        exact l09 s (av := .val _) (h0a ho ai al L q) rfl d
      ·exact d.elim
     ·exact Z8 s d
    ·exact d.elim
   |append =>
    simp only[c8,ho]at d
    split at d
    ·rename_i x y t aP W ad
     split at d
     ·rename_i V
      have:=Nat.eq_of_beq_eq_true V
      subst this
      exact R0n s ho (by apply Array.ext';simpa using W) (by apply Array.ext';simpa using ad) d
     ·exact d.elim
    ·exact d.elim
   |_=>simp only[c8,ho]at d;exact H00 s d
  |value f=>simp only[c8,ho]at d;exact H00 s d
  |invoke r m=>simp only[c8,ho]at d;exact H00 s d
 |lookup _ _ _ _=>simp only[c8,ho]at d;exact j09 s d
 |mapUpdate _ _ _ _=>simp only[c8,ho]at d;exact j09 s d
 |insert _ _ _ _=>simp only[c8,ho]at d;exact j09 s d
 |_=>simp only[c8,ho]at d;exact H00 s d
end
end Go.H
