/- The library of the walks, part HB: plain laws over the model. -/
import Derived.Test.YtfphndijjmdiiaaGreatH3
import Derived.Laws.Tables
namespace Go.H
set_option linter.unusedVariables false
theorem F04{a:Type}:∀(l:List a) (k:Nat),nth l k=l[k]?
 | [],k=>by simp[nth]
 |x::r,0=>by simp[nth]
 |x::r,k+1=>by simp[nth,F04 r k]
theorem y0a{a:Type}:∀(l:List a) (k:Nat) (x:a),B00 l k x=l.set k x
 | [],k,x=>by simp[B00]
 |y::r,0,x=>by simp[B00]
 |y::r,k+1,x=>by simp[B00,y0a r k x]
theorem o7{a:Type}(l:List a)(k:Nat)(x:a)(b:k<l.length)(j:Nat):nth (B00 l k x) j=if j=k then some x else nth l j:=by
 rw[F04,F04,y0a,List.getElem?_set]
 grind
theorem K01{a:Type}{l:List a}{k:Nat}{x:a}(h:nth l k=some x):k<l.length:=by
 grind[F04,List.getElem?_eq_some_iff]
theorem k02{a:Type}(l:List a)(x:a)(j:Nat):nth (l ++ [x]) j=if j=l.length then some x else nth l j:=by
 rw[F04,F04,List.getElem?_append]
 grind
theorem l05{a:Type}(l:List a)(k:Nat)(x:a):(B00 l k x).length=l.length:=by rw[y0a];simp
def stamp(st:St)(i:Nat):Option Nat:=match nth st.ow i with
 |some o=>some o.stamp
 |none=>none
def I0e(st:St)(oe:Nat->Value):N5->Value->Prop
 | .val v,x=>x=v
 | .own i k,x=>∃ s,stamp st i=some s/\k<=s/\(k=s->x=oe i)
def G2(st:St)(oe:Nat->Value):List N5->List Value->Prop
 | [],[]=>True
 |c::cs,v::vs=>I0e st oe c v/\G2 st oe cs vs
 |_,_=>False
def Good(st:St)(be:Nat->Nat)(oe:Nat->Value):AV->Value->Prop
 | .val v,x=>x=v
 | .own i k,x=>∃ a,stamp st i=some a/\k<=a/\(k=a->x=oe i)
 | .box i off,x=>i<st.bx.length/\x=ptr (be i) off
 | .hel a idx sz k,x=>∃ b o n c,a = .slice (some ⟨b,o,none⟩) n c/\x=ptr b (o+(idx.toNat*sz+k))
 | .oel i d idx sz k,x=>∃ a,stamp st i=some a/\d<=a/\(d=a->∃ g n c,oe i = .slice (some ⟨g,0,none⟩) n c/\x=ptr g (idx.toNat*sz+k))
 | .agg cs,x=>∃ vs,x = .agg vs.toArray/\G2 st oe cs vs
 | .dead,_=>True
structure Q6 (st:St) (be:Nat->Nat) (oe:Nat->Value) (st':St) (be':Nat->Nat) (oe':Nat->Value):Prop where
 bl:st.bx.length<=st'.bx.length
 be:∀ i,i<st.bx.length->be' i=be i
 sm:∀ i s,stamp st i=some s->∃ s',stamp st' i=some s'/\s<=s'/\(s'=s->oe' i=oe i)
theorem Q6.refl(st:St)(be:Nat->Nat)(oe:Nat->Value):Q6 st be oe st be oe :=
 ⟨Nat.le_refl _,λ_ _=>rfl,λi s h=>⟨s,h,Nat.le_refl _,λ_=>rfl⟩⟩
theorem I0e.grow{st st':St}{be be':Nat->Nat}{oe oe':Nat->Value}(g:Q6 st be oe st' be' oe'){c:N5}{x:Value}(h:I0e st oe c x):I0e st' oe' c x:=by
 cases c with
 |val v=>exact h
 |own i k =>
  obtain⟨j,d,f,n⟩:=h
  obtain⟨l,a,b,m⟩:=g.sm i j d
  exact⟨l,a,Nat.le_trans f b,λe=>by grind⟩
theorem G2.grow{st st':St}{be be':Nat->Nat}{oe oe':Nat->Value}(g:Q6 st be oe st' be' oe'):∀ {cs:List N5} {vs:List Value},G2 st oe cs vs->G2 st' oe' cs vs
 | [],[],_=>trivial
 |_::_,_::_,h=>⟨h.1.grow g,G2.grow g h.2⟩
 | [],_::_,h=>h.elim
 |_::_,[],h=>h.elim
theorem Good.grow{st st':St}{be be':Nat->Nat}{oe oe':Nat->Value}(g:Q6 st be oe st' be' oe'){av:AV}{x:Value}(h:Good st be oe av x):Good st' be' oe' av x:=by
 cases av with
 |val v=>exact h
 |own i k =>
  obtain⟨c,a,b,m⟩:=h
  obtain⟨j,d,f,l⟩:=g.sm i c a
  exact⟨j,d,Nat.le_trans b f,λe=>by grind⟩
 |box i off=>exact⟨Nat.lt_of_lt_of_le h.1 g.bl,by rw[g.be i h.1];exact h.2⟩
 |hel c idx sz k=>exact h
 |oel i n idx sz k =>
  obtain⟨c,a,b,m⟩:=h
  obtain⟨j,d,f,l⟩:=g.sm i c a
  exact⟨j,d,Nat.le_trans b f,λe=>by grind⟩
 |agg cs=>obtain⟨vs,a,b⟩:=h;exact⟨vs,a,b.grow g⟩
 |dead=>trivial
theorem G2.length{st:St}{oe:Nat->Value}:∀ {cs:List N5} {vs:List Value},G2 st oe cs vs->cs.length=vs.length
 | [],[],_=>rfl
 |_::_,_::_,h=>by simp[G2.length h.2]
 | [],_::_,h=>h.elim
 |_::_,[],h=>h.elim
theorem G2.vals(st:St)(oe:Nat->Value):∀(vs:List Value),G2 st oe (vals vs) vs
 | []=>trivial
 |_::r=>⟨rfl,G2.vals st oe r⟩
theorem G2.nth{st:St}{oe:Nat->Value}:∀ {cs:List N5} {vs:List Value} {k:Nat} {c:N5},G2 st oe cs vs->nth cs k=some c->∃ v,vs[k]?=some v/\I0e st oe c v
 | [],_,k,c,_,h=>by simp[H.nth]at h
 |d::cs,b::vs,0,c,h,a=>by simp[H.nth]at a;subst a;exact⟨b,by simp,h.1⟩
 |d::cs,b::vs,k+1,c,h,a=>by
  simp[H.nth]at a
  obtain⟨v,e,f⟩:=G2.nth h.2 a
  exact⟨v,by simpa using e,f⟩
 |_::_,[],_,_,h,_=>h.elim
theorem G2.drop{st:St}{oe:Nat->Value}:∀ {cs:List N5} {vs:List Value} (k:Nat),G2 st oe cs vs->G2 st oe (cs.drop k) (vs.drop k)
 |cs,vs,0,h=>by simpa using h
 | [],[],k+1,h=>by simpa using h
 |_::cs,_::vs,k+1,h=>by simpa using G2.drop k h.2
 | [],_::_,_+1,h=>h.elim
 |_::_,[],_+1,h=>h.elim
theorem G2.take{st:St}{oe:Nat->Value}:∀ {cs:List N5} {vs:List Value} (k:Nat),G2 st oe cs vs->G2 st oe (cs.take k) (vs.take k)
 |cs,vs,0,h=>by simp[G2]
 | [],[],k+1,h=>by simp[G2]
 |_::cs,_::vs,k+1,h=>by simpa [G2] using ⟨h.1,G2.take k h.2⟩
 | [],_::_,_+1,h=>h.elim
 |_::_,[],_+1,h=>h.elim
theorem G2.upd{st:St}{oe:Nat->Value}:∀ {cs:List N5} {vs:List Value} {k:Nat} {c:N5} {v:Value},G2 st oe cs vs->I0e st oe c v->G2 st oe (B00 cs k c) (vs.set k v)
 | [],[],k,c,v,h,a=>by simp[B00,G2]
 |_::cs,_::vs,0,c,v,h,a=>⟨a,h.2⟩
 |_::cs,_::vs,k+1,c,v,h,a=>⟨h.1,G2.upd h.2 a⟩
 | [],_::_,_,_,_,h,_=>h.elim
 |_::_,[],_,_,_,h,_=>h.elim
def K3:List Value->Nat->List Value->List Value
 |cs,_,[]=>cs
 |cs,off,x::r=>K3 (cs.set off x) (off+1) r
theorem G2.splice{st:St}{oe:Nat->Value}:∀ {new:List N5} {a:List Value} {cs:List N5} {vs:List Value} {off:Nat},G2 st oe cs vs->G2 st oe new a->G2 st oe (splice cs off new) (K3 vs off a)
 | [],[],cs,vs,off,h,_=>h
 |c::new,v::a,cs,vs,off,h,b=>by
  simp only[H.splice,K3]
  exact G2.splice (h.upd b.1) b.2
 | [],_::_,_,_,_,_,h=>h.elim
 |_::_,[],_,_,_,_,h=>h.elim
theorem W8:∀(a vs:List Value) (off:Nat),(K3 vs off a).length=vs.length
 | [],vs,off=>rfl
 |n::a,vs,off=>by simp[K3,W8 a]
def b06(h H:Hp)(v:Value)(e:TypeId)(sz:Nat)(nn:Bool)(xs:List (List Value)):Prop :=
  (∀ x∈xs,x.length=sz/\∀ v∈x,v.oneCell'=true) /\
  ((v = .slice none 0 0/\xs = []/\nn=false) ∨
   ∃ g cap cur,v = .slice (some ⟨g,0,none⟩) xs.length cap/\h g=none/\H g=some (.cells cur e (0,0)) /\
     xs.length<=cap/\cap<=maxLen/\cur.size=cap*sz/\cur.toList.take (xs.length*sz)=xs.flatten)
structure Sim (P:Program) (h0:Hp) (w0:World) (be:Nat->Nat) (oe:Nat->Value) (H:Hp) (st:St) (h:Hp) (a:Act) (w:World):Prop where
 mv:U2 h0 w0 H w
 sub:∀ b o,h b=some o->H b=some o
 box:∀ i cs ty,nth st.bx i=some (.live cs ty)->h (be i)=none/\∃ vs,G2 st oe cs vs/\H (be i)=some (.cells vs.toArray ty (0,0))
 pub:∀ i b,nth st.bx i=some (.publ b)->be i=b
 own:∀ i s e sz by_ nn xs,nth st.ow i=some ⟨s,.live e sz by_ nn xs⟩->b06 h H (oe i) e sz nn xs
 frz:∀ i s v,nth st.ow i=some ⟨s,.frozen v⟩->oe i=v
 bb:∀ i j cs ty cs' ty',nth st.bx i=some (.live cs ty)->nth st.bx j=some (.live cs' ty')->be i=be j->i=j
 oo:∀ i j s e sz by_ nn xs s' e' sz' by' nn' xs' g,nth st.ow i=some ⟨s,.live e sz by_ nn xs⟩->nth st.ow j=some ⟨s',.live e' sz' by' nn' xs'⟩ ->
  (oe i).ownBlock=some g->(oe j).ownBlock=some g->i=j
 bo:∀ i cs ty j s e sz by_ nn xs,nth st.bx i=some (.live cs ty)->nth st.ow j=some ⟨s,.live e sz by_ nn xs⟩->(oe j).ownBlock≠some (be i)
 dfr:a.defers = []
 siz:a.tmps.size=st.n
 fr:∀ s,Good st be oe (G3 st.fr s) (a.tmps.getD s undef)
section
variable {P:Program} {h0:Hp} {w0:World} {be:Nat->Nat} {oe:Nat->Value} {H:Hp} {st:St} {h:Hp} {a:Act} {w:World}
theorem b06.block{h H:Hp}{v:Value}{e sz:Nat}{nn:Bool}{xs:List (List Value)}(o:b06 h H v e sz nn xs){g:Nat}(d:v.ownBlock=some g):
  h g=none/\∃ cap cur,v = .slice (some ⟨g,0,none⟩) xs.length cap/\H g=some (.cells cur e (0,0)):=by
 rcases o.2 with⟨rfl,_⟩|⟨a,cap,cur,rfl,b,c,_⟩
 all_goals grind[Value.ownBlock]
theorem b06.keep{h h' H a:Hp}{v:Value}{e sz:Nat}{nn:Bool}{xs:List (List Value)}(o:b06 h H v e sz nn xs)
  (c:∀ g,v.ownBlock=some g->a g=H g/\h' g=none):b06 h' a v e sz nn xs:=by
 refine⟨o.1,?_⟩
 rcases o.2 with d|⟨g,cap,cur,rfl,j,b,r⟩
 ·exact .inl d
 ·obtain⟨f,i⟩:=c g rfl
  exact .inr ⟨g,cap,cur,rfl,i,by rw[f];exact b,r⟩
theorem a0q(s:Sim P h0 w0 be oe H st h a w):Vis H w:=s.mv.vis
theorem N07(c:Sim P h0 w0 be oe H st h a w):Vis h w:=λb o d=>c.mv.vis b o (c.sub b o d)
theorem Sim.moved(c:Sim P h0 w0 be oe H st h a w){h':Hp}{s:World}(m:U2 h w h' s):∃ f,Sim P h0 w0 be oe f st h' a s:=by
 let f:Hp:=λb=>match h' b with
  |some o=>some o
  |none=>match h b with
   |some _=>none
   |none=>H b
 have B:∀ b,h b=none->H b≠none->f b=H b/\h' b=none:=by
  intro b d l
  have q:b<w.heap.size:=c.mv.vis.lt l
  have A:h' b=none:=m.none_of q d
  grind
 have y:U2 H w f s:=by
  refine⟨m.os,m.tape,m.output,m.size,?_,?_,?_,m.fz,m.dn⟩
  ·intro b d l
   have:h b=none:=by
    cases hc:h b with
    |none=>rfl
    |some o=>rw[c.sub b o hc]at l;cases l
   exact m.keep b d this
  ·intro b o j
   simp only[f]at j
   split at j
   ·rename_i x p;cases j;exact m.vis b _ p
   ·split at j
    ·cases j
    ·rename_i p d
     have q:b<w.heap.size:=c.mv.vis.lt (by rw[j];simp)
     rw[m.keep b q d]
     exact c.mv.vis b o j
  ·intro b d
   simp only[f]at d
   split at d
   ·rename_i x p
    rcases m.fresh b (by simp[p])with k|k
    ·left
     cases hc:h b with
     |none=>exact absurd hc k
     |some o=>rw[c.sub b o hc];simp
    ·exact .inr k
   grind
 refine⟨f,⟨c.mv.trans y,?_,?_,c.pub,?_,c.frz,c.bb,c.oo,c.bo,c.dfr,c.siz,c.fr⟩⟩
 ·grind
 ·intro i cs ty n
  obtain⟨k,vs,z,u⟩:=c.box i cs ty n
  grind
 ·intro i t e sz by_ nn xs n
  refine(c.own i t e sz by_ nn xs n).keep λg v=>?_
  obtain⟨k,cap,cur,_,u⟩:=(c.own i t e sz by_ nn xs n).block v
  grind
theorem Y3(d:Nat)(av:AV)(r:List (Nat×AV))(s:Nat):G3 ((d,av)::r) s=if d=s then av else G3 r s:=by
 grind[G3,Nat.beq,Nat.eq_of_beq_eq_true,Nat.ne_of_beq_eq_false]
theorem Sim.put(b:Sim P h0 w0 be oe H st h a w){d:Nat}{av:AV}{v:Value}(k:d<st.n)(l:Good st be oe av v):
  Sim P h0 w0 be oe H { st with fr:=(d,av)::st.fr } h (a.put (some d) v) w:=by
 have c:Q6 st be oe { st with fr:=(d,av)::st.fr } be oe:=⟨Nat.le_refl _,λ_ _=>rfl,λi b h=>⟨b,h,Nat.le_refl _,λ_=>rfl⟩⟩
 refine⟨b.mv,b.sub,λi cs ty m=>?_,b.pub,b.own,b.frz,b.bb,b.oo,b.bo,b.dfr,by simp[Act.put,b.siz],?_⟩
 ·obtain⟨f,vs,g,j⟩:=b.box i cs ty m
  exact⟨f,vs,g.grow c,j⟩
 intro t
 refine Good.grow c ?_
 rw[Y3]
 by_cases e:d=t
 ·subst e
  rw[if_pos rfl]
  have:(a.put (some d) v).tmps.getD d undef=v:=by simp[Act.put,b.siz,k]
  rw[this]
  exact l
 ·rw[if_neg e]
  have:(a.put (some d) v).tmps.getD t undef=a.tmps.getD t undef:=by simp[Act.put,Array.getElem?_setIfInBounds_ne e]
  rw[this]
  exact b.fr t
theorem Sim.newBox(c:Sim P h0 w0 be oe H st h a w){cs:List N5}{vs:List Value}{t:TypeId}{b:Nat}{D:World}(z:G2 st oe cs vs)(y:H b=none)
  (m:U2 H w (H.set b (.cells vs.toArray t (0,0))) D) :
  let be':=λj=>if j=st.bx.length then b else be j
  let st':St := { st with bx:=st.bx ++ [.live cs t] }
  Sim P h0 w0 be' oe (H.set b (.cells vs.toArray t (0,0))) st' h a D/\Q6 st be oe st' be' oe:=by
 intro be' st'
 have K:h b=none:=by
  cases p:h b with
  |none=>rfl
  |some o=>rw[c.sub b o p]at y;cases y
 have n:Q6 st be oe st' be' oe:=by
  refine⟨by simp[st'],λi d=>?_,λi c M=>⟨c,M,Nat.le_refl _,λ_=>rfl⟩⟩
  grind
 have L:∀ x,H x≠none->x≠b:=λx q e=>by subst e;exact q y
 have s:∀ i cs ty,nth st.bx i=some (.live cs ty)->be' i=be i:=λi cs ty d=>by simp[be',Nat.ne_of_lt (K01 d)]
 have l:∀ i x,nth st'.bx i=some x->(i=st.bx.length/\x = .live cs t)∨(i≠st.bx.length/\nth st.bx i=some x):=by
  grind[k02]
 have Q:∀ i cs ty,nth st.bx i=some (.live cs ty)->be i≠b:=λi cs ty d=>by
  obtain⟨_,vs,_,v⟩:=c.box i cs ty d
  grind
 have R:∀ i k e sz by_ nn xs g,nth st.ow i=some ⟨k,.live e sz by_ nn xs⟩->(oe i).ownBlock=some g->g≠b:=λi k e sz by_ nn xs g d z=>by
  obtain⟨_,_,_,_,v⟩:=(c.own i k e sz by_ nn xs d).block z
  grind
 refine⟨⟨c.mv.trans m,?_,?_,?_,?_,c.frz,?_,c.oo,?_,c.dfr,c.siz,λt=>(c.fr t).grow n⟩,n⟩
 ·intro x o q
  rw[Hp.set_other _ _ (L x (by rw[c.sub x o q];simp))]
  exact c.sub x o q
 ·intro i cs' ty d
  rcases l i _ d with⟨rfl,e⟩|⟨e,f⟩
  ·cases e
   exact⟨by simp[be',K],vs,z.grow n,by simp[be',Hp.set]⟩
  ·obtain⟨B,O,I,v⟩:=c.box i cs' ty f
   rw[s i cs' ty f]
   exact⟨B,O,I.grow n,by grind[Hp.set_other]⟩
 ·intro i E d
  rcases l i _ d with⟨_,e⟩|⟨e,f⟩
  ·cases e
  ·simp[be',e,c.pub i E f]
 ·intro i k e sz by_ nn xs d
  refine(c.own i k e sz by_ nn xs d).keep λg J=>?_
  obtain⟨B,cap,cur,_,v⟩:=(c.own i k e sz by_ nn xs d).block J
  grind[Hp.set_other]
 ·intro i j F N S T d A e
  rcases l i _ d with⟨rfl,u⟩|⟨u,f⟩<;>rcases l j _ A with⟨rfl,G⟩|⟨G,C⟩
  ·rfl
  ·grind
  ·grind
  ·rw[s i _ _ f,s j _ _ C]at e;exact c.bb i j _ _ _ _ f C e
 ·intro i F N j k e sz by_ nn xs d A p
  rcases l i _ d with⟨rfl,u⟩|⟨u,f⟩
  ·grind
  ·rw[s i _ _ f]at p;exact c.bo i _ _ j _ _ _ _ _ _ f A p
theorem Sim.updBox(c:Sim P h0 w0 be oe H st h a w){i:Nat}{A cs:List N5}{vs:List Value}{t:TypeId}{D:World}(f:nth st.bx i=some (.live A t))
  (J:G2 st oe cs vs) (m:U2 H w (H.set (be i) (.cells vs.toArray t (0,0))) D) :
  Sim P h0 w0 be oe (H.set (be i) (.cells vs.toArray t (0,0))) { st with bx:=B00 st.bx i (.live cs t) } h a D/\Q6 st be oe { st with bx:=B00 st.bx i (.live cs t) } be oe:=by
 have n:Q6 st be oe { st with bx:=B00 st.bx i (.live cs t) } be oe :=
  ⟨by simp[l05],λ_ _=>rfl,λi c L=>⟨c,L,Nat.le_refl _,λ_=>rfl⟩⟩
 have K:=(c.box i A t f).1
 have k:∀ j x,nth (B00 st.bx i (.live cs t)) j=some x->(j=i/\x = .live cs t)∨(j≠i/\nth st.bx j=some x):=by
  grind[o7,K01]
 refine⟨⟨c.mv.trans m,?_,?_,?_,?_,c.frz,?_,c.oo,?_,c.dfr,c.siz,λt=>(c.fr t).grow n⟩,n⟩
 ·intro x o l
  have:x≠be i:=λe=>by grind
  rw[Hp.set_other _ _ this];exact c.sub x o l
 ·intro j cs' ty d
  rcases k j _ d with⟨rfl,e⟩|⟨e,p⟩
  ·cases e;exact⟨K,vs,J.grow n,by simp[Hp.set]⟩
  ·obtain⟨v,O,G,I⟩:=c.box j cs' ty p
   have:be j≠be i:=λs=>e (c.bb j i _ _ _ _ p f s)
   exact⟨v,O,G.grow n,by grind[Hp.set_other]⟩
 ·intro j b d
  rcases k j _ d with⟨_,e⟩|⟨e,p⟩
  ·cases e
  ·exact c.pub j b p
 ·intro j z e sz by_ nn xs d
  refine(c.own j z e sz by_ nn xs d).keep λg B=>?_
  obtain⟨v,cap,cur,_,I⟩:=(c.own j z e sz by_ nn xs d).block B
  exact⟨Hp.set_other _ _ (λs=>by subst s;exact c.bo i _ _ j _ _ _ _ _ _ f d B),v⟩
 ·intro x y E N Q R l M e
  rcases k x _ l with⟨rfl,u⟩|⟨u,q⟩<;>rcases k y _ M with⟨rfl,F⟩|⟨F,C⟩
  ·rfl
  ·exact c.bb _ _ _ _ _ _ f C e
  ·exact c.bb _ _ _ _ _ _ q f e
  ·exact c.bb _ _ _ _ _ _ q C e
 ·intro x E N j z e sz by_ nn xs l d
  rcases k x _ l with⟨rfl,u⟩|⟨u,q⟩
  ·exact c.bo _ _ _ j _ _ _ _ _ _ f d
  ·exact c.bo _ _ _ j _ _ _ _ _ _ q d
end
section
variable {P:Program} {h0:Hp} {w0:World} {be:Nat->Nat} {oe:Nat->Value} {H:Hp} {st:St} {h:Hp} {a:Act} {w:World}
theorem s0m(st:St)(o:Own)(i b:Nat)(a:stamp st i=some b):stamp { st with ow:=st.ow ++ [o] } i=some b:=by
 unfold stamp at *
 have c:i<st.ow.length:=by
  cases hn:nth st.ow i with
  |none=>rw[hn]at a;cases a
  |some x=>exact K01 hn
 simp_all[k02,Nat.ne_of_lt]
theorem Sim.newOwn(c:Sim P h0 w0 be oe H st h a w){v:Value}{e sz by_:Nat}{nn:Bool}{xs:List (List Value)}{p:Hp}{Q:World}
  (G:∀ b o,H b=some o->p b=some o) (m:U2 H w p Q) (X:b06 h p v e sz nn xs) (W:∀ g,v.ownBlock=some g->H g=none) :
  let oe':=λj=>if j=st.ow.length then v else oe j
  let st':St := { st with ow:=st.ow ++ [⟨0,.live e sz by_ nn xs⟩] }
  Sim P h0 w0 be oe' p st' h a Q/\Q6 st be oe st' be oe':=by
 intro oe' st'
 have E:Q6 st be oe st' be oe':=by
  refine⟨Nat.le_refl _,λ_ _=>rfl,λi c A=>⟨c,s0m st _ i c A,Nat.le_refl _,λ_=>?_⟩⟩
  have V:i<st.ow.length:=by
   unfold stamp at A
   cases hn:nth st.ow i with
   |none=>rw[hn]at A;cases A
   |some x=>exact K01 hn
  grind
 have q:∀ i x,nth st'.ow i=some x->(i=st.ow.length/\x=⟨0,.live e sz by_ nn xs⟩)∨(i≠st.ow.length/\nth st.ow i=some x):=by
  grind[k02]
 have Z:∀ b,H b≠none->p b=H b:=by
  intro b I
  cases l:H b with
  |none=>exact absurd l I
  |some o=>exact G b o l
 refine⟨⟨c.mv.trans m,λb o I=>G b o (c.sub b o I),?_,c.pub,?_,?_,c.bb,?_,?_,c.dfr,c.siz,λt=>(c.fr t).grow E⟩,E⟩
 ·intro i cs ty d
  obtain⟨F,vs,R,z⟩:=c.box i cs ty d
  exact⟨F,vs,R.grow E,G _ _ z⟩
 ·intro i O y C u B D d
  rcases q i _ d with⟨rfl,f⟩|⟨f,n⟩
  ·grind
  ·simp only[oe',if_neg f]
   refine(c.own i _ _ _ _ _ _ n).keep λg J=>?_
   obtain⟨F,cap,cur,_,z⟩:=(c.own i _ _ _ _ _ _ n).block J
   grind
 ·intro i O T d
  rcases q i _ d with⟨rfl,f⟩|⟨f,n⟩
  ·cases f
  ·simp only[oe',if_neg f];exact c.frz i O T n
 ·intro i j s1 y C u B D s2 f ab U aa ac g d K gi N
  have Y:∀ k s1 y C u B D,nth st.ow k=some ⟨s1,.live y C u B D⟩->(oe k).ownBlock=some g->v.ownBlock≠some g:=λk _ _ _ _ _ _ S J l=>by
   obtain⟨F,cap,cur,_,z⟩:=(c.own k _ _ _ _ _ _ S).block J
   grind
  rcases q i _ d with⟨rfl,M⟩|⟨M,n⟩<;>rcases q j _ K with⟨rfl,s⟩|⟨s,L⟩
  ·rfl
  ·grind
  ·grind
  ·simp only[oe',if_neg M]at gi;simp only[oe',if_neg s]at N;exact c.oo i j _ _ _ _ _ _ _ _ _ _ _ _ g n L gi N
 ·intro i cs ty j s1 y C u B D d K l
  rcases q j _ K with⟨rfl,s⟩|⟨s,L⟩
  ·simp only[oe',if_pos rfl]at l
   obtain⟨_,vs,_,z⟩:=c.box i cs ty d
   grind
  ·simp only[oe',if_neg s]at l;exact c.bo i cs ty j _ _ _ _ _ _ d L l
theorem Sim.updOwn(c:Sim P h0 w0 be oe H st h a w){i L U ae T:Nat}{ad:Bool}{ag:List (List Value)}(J:nth st.ow i=some ⟨L,.live U ae T ad ag⟩)
  {v:Value} {s1 e sz by_:Nat} {nn:Bool} {xs:List (List Value)} {I:Hp} {S:World} (an:L<=s1) (ao:s1=L->v=oe i)
  (m:U2 H w I S) (al:∀ b,(oe i).ownBlock≠some b->H b≠none->I b=H b) (am:b06 h I v e sz nn xs)
  (Q:∀ g,v.ownBlock=some g->(oe i).ownBlock=some g∨H g=none) :
  let oe':=λj=>if j=i then v else oe j
  let st':St := { st with ow:=B00 st.ow i ⟨s1,.live e sz by_ nn xs⟩ }
  Sim P h0 w0 be oe' I st' h a S/\Q6 st be oe st' be oe':=by
 intro oe' st'
 have W:=K01 J
 have K:Q6 st be oe st' be oe':=by
  refine⟨Nat.le_refl _,λ_ _=>rfl,λj t Y=>?_⟩
  unfold stamp at Y ⊢
  simp only[st',o7 _ _ _ W]
  grind
 have B:∀ j x,nth st'.ow j=some x->(j=i/\x=⟨s1,.live e sz by_ nn xs⟩)∨(j≠i/\nth st.ow j=some x):=by
  grind[o7]
 have ak:∀ g,(oe i).ownBlock=some g->h g=none:=λg s=>((c.own i _ _ _ _ _ _ J).block s).1
 have aq:∀ j s1 C F A E G g,j≠i->nth st.ow j=some ⟨s1,.live C F A E G⟩->(oe j).ownBlock=some g->(oe i).ownBlock≠some g/\v.ownBlock≠some g:=by
  intro j s1 C F A E G g X n s
  have f:(oe i).ownBlock≠some g:=λl=>X (c.oo j i _ _ _ _ _ _ _ _ _ _ _ _ g n J s l)
  refine⟨f,λl=>?_⟩
  rcases Q g l with d|d
  ·exact f d
  ·obtain⟨_,cap,cur,_,q⟩:=(c.own j _ _ _ _ _ _ n).block s
   rw[d]at q;cases q
 have ah:∀ k cs ty,nth st.bx k=some (.live cs ty)->(oe i).ownBlock≠some (be k)/\v.ownBlock≠some (be k):=by
  intro k cs ty z
  have f:=c.bo k cs ty i _ _ _ _ _ _ z J
  refine⟨f,λl=>?_⟩
  rcases Q _ l with d|d
  ·exact f d
  ·obtain⟨_,vs,_,q⟩:=c.box k cs ty z
   rw[d]at q;cases q
 refine⟨⟨c.mv.trans m,?_,?_,c.pub,?_,?_,c.bb,?_,?_,c.dfr,c.siz,λt=>(c.fr t).grow K⟩,K⟩
 ·intro b o V
  have aj:=c.sub b o V
  grind
 ·intro k cs ty z
  obtain⟨f,vs,d,q⟩:=c.box k cs ty z
  exact⟨f,vs,d.grow K,by grind⟩
 ·intro j R C F A E G n
  rcases B j _ n with⟨rfl,p⟩|⟨p,u⟩
  ·grind
  ·simp only[oe',if_neg p]
   refine(c.own j _ _ _ _ _ _ u).keep λg s=>?_
   obtain⟨f,cap,cur,_,q⟩:=(c.own j _ _ _ _ _ _ u).block s
   grind
 ·intro j R af n
  rcases B j _ n with⟨rfl,p⟩|⟨p,u⟩
  ·cases p
  ·simp only[oe',if_neg p];exact c.frz j R af u
 ·intro x y s1 C F A E G s2 p ar ai ap au g Z ab N O
  rcases B x _ Z with⟨rfl,M⟩|⟨M,aa⟩<;>rcases B y _ ab with⟨rfl,D⟩|⟨D,ac⟩
  ·rfl
  ·grind
  ·grind
  ·simp only[oe',if_neg M]at N;simp only[oe',if_neg D]at O;exact c.oo x y _ _ _ _ _ _ _ _ _ _ _ _ g aa ac N O
 ·intro k cs ty j s1 C F A E G z n l
  rcases B j _ n with⟨rfl,D⟩|⟨D,u⟩
  ·grind
  ·simp only[oe',if_neg D]at l;exact c.bo k cs ty j _ _ _ _ _ _ z u l
theorem Sim.freeze(c:Sim P h0 w0 be oe H st h a w){i l e sz by_:Nat}{nn:Bool}{xs:List (List Value)}(s:nth st.ow i=some ⟨l,.live e sz by_ nn xs⟩):
  ∃ h',U0 h h' (oe i) e sz nn xs/\Sim P h0 w0 be oe H { st with ow:=B00 st.ow i ⟨l,.frozen (oe i)⟩ } h' a w /\
   Q6 st be oe { st with ow:=B00 st.ow i ⟨l,.frozen (oe i)⟩ } be oe:=by
 have U:=K01 s
 have A:=c.own i _ _ _ _ _ _ s
 have q:Q6 st be oe { st with ow:=B00 st.ow i ⟨l,.frozen (oe i)⟩ } be oe:=by
  refine⟨Nat.le_refl _,λ_ _=>rfl,λj t X=>⟨t,?_,Nat.le_refl _,λ_=>rfl⟩⟩
  unfold stamp at X ⊢
  simp only[o7 _ _ _ U]
  grind
 have m:∀ j x,nth (B00 st.ow i ⟨l,.frozen (oe i)⟩) j=some x->(j=i/\x=⟨l,.frozen (oe i)⟩)∨(j≠i/\nth st.ow j=some x):=by
  grind[o7]
 have L:∀ h',(∀ b,(oe i).ownBlock≠some b->h' b=h b)->(∀ b o,h' b=some o->H b=some o) ->
   Sim P h0 w0 be oe H { st with ow:=B00 st.ow i ⟨l,.frozen (oe i)⟩ } h' a w:=by
  intro h' K W
  refine⟨c.mv,W,?_,c.pub,?_,?_,c.bb,?_,?_,c.dfr,c.siz,λt=>(c.fr t).grow q⟩
  ·intro k cs ty u
   obtain⟨v,vs,G,T⟩:=c.box k cs ty u
   exact⟨by rw[K _ (c.bo k cs ty i _ _ _ _ _ _ u s)];exact v,vs,G.grow q,T⟩
  ·intro j N E O D M Q p
   rcases m j _ p with⟨rfl,d⟩|⟨d,f⟩
   ·cases d
   ·refine(c.own j _ _ _ _ _ _ f).keep λg J=>⟨rfl,?_⟩
    rw[K g (λz=>d (c.oo j i _ _ _ _ _ _ _ _ _ _ _ _ g f s J z))]
    exact((c.own j _ _ _ _ _ _ f).block J).1
  ·intro j N ab p
   rcases m j _ p with⟨rfl,d⟩|⟨d,f⟩
   ·cases d;rfl
   ·exact c.frz j N ab f
  ·intro x y s1 E O D M Q s2 d ae ac ad af g C Z R S
   rcases m x _ C with⟨rfl,F⟩|⟨F,Y⟩<;>rcases m y _ Z with⟨rfl,n⟩|⟨n,aa⟩
   ·rfl
   ·cases F
   ·cases n
   ·exact c.oo x y _ _ _ _ _ _ _ _ _ _ _ _ g Y aa R S
  ·intro k cs ty j s1 E O D M Q u p z
   rcases m j _ p with⟨rfl,n⟩|⟨n,f⟩
   ·cases n
   ·exact c.bo k cs ty j _ _ _ _ _ _ u f z
 rcases A.2 with⟨B,C,V⟩|⟨g,cap,cur,B,v,G,r⟩
 ·exact⟨h,⟨A.1,.inl ⟨B,C,V,rfl⟩⟩,L h (λ_ _=>rfl) c.sub,q⟩
 ·refine⟨h.set g (.cells cur e (0,0)),⟨A.1,.inr ⟨g,cap,cur,B,v,rfl,r⟩⟩,L _ ?_ ?_,q⟩
  ·grind[Hp.set_other,Value.ownBlock]
  ·intro b o I
   by_cases e':b=g
   ·grind[Hp.set]
   ·rw[Hp.set_other _ _ e']at I;exact c.sub b o I
theorem Sim.publ(c:Sim P h0 w0 be oe H st h a w){i:Nat}{cs:List N5}{ty:TypeId}(n:nth st.bx i=some (.live cs ty)){vs:List Value}
  (S:H (be i)=some (.cells vs.toArray ty (0,0))) :
  h (be i)=none/\Sim P h0 w0 be oe H { st with bx:=B00 st.bx i (.publ (be i)) } (h.set (be i) (.cells vs.toArray ty (0,0))) a w /\
   Q6 st be oe { st with bx:=B00 st.bx i (.publ (be i)) } be oe:=by
 have T:=K01 n
 have G:=(c.box i cs ty n).1
 have q:Q6 st be oe { st with bx:=B00 st.bx i (.publ (be i)) } be oe :=
  ⟨by simp[l05],λ_ _=>rfl,λj t I=>⟨t,I,Nat.le_refl _,λ_=>rfl⟩⟩
 have f:∀ j x,nth (B00 st.bx i (.publ (be i))) j=some x->(j=i/\x = .publ (be i))∨(j≠i/\nth st.bx j=some x):=by
  grind[o7]
 refine⟨G,⟨c.mv,?_,?_,?_,?_,c.frz,?_,c.oo,?_,c.dfr,c.siz,λt=>(c.fr t).grow q⟩,q⟩
 ·intro b o A
  by_cases l:b=be i
  ·grind[Hp.set]
  ·rw[Hp.set_other _ _ l]at A;exact c.sub b o A
 ·intro k cs' M s
  rcases f k _ s with⟨rfl,e⟩|⟨e,p⟩
  ·cases e
  ·obtain⟨D,O,E,F⟩:=c.box k cs' M p
   exact⟨by rw[Hp.set_other _ _ (λl=>e (c.bb k i _ _ _ _ p n l))];exact D,O,E.grow q,F⟩
 ·intro k b s
  rcases f k _ s with⟨rfl,e⟩|⟨e,p⟩
  ·cases e;rfl
  ·exact c.pub k b p
 ·intro j L d V Q U X m
  refine(c.own j _ _ _ _ _ _ m).keep λg B=>⟨rfl,?_⟩
  rw[Hp.set_other _ _ (λl=>by subst l;exact c.bo i cs ty j _ _ _ _ _ _ n m B)]
  exact((c.own j _ _ _ _ _ _ m).block B).1
 ·intro x y C N R W u J e
  rcases f x _ u with⟨_,d⟩|⟨d,v⟩
  ·cases d
  rcases f y _ J with⟨_,z⟩|⟨z,K⟩
  ·cases z
  exact c.bb _ _ _ _ _ _ v K e
 ·intro x C N j L e sz by_ nn xs u m
  rcases f x _ u with⟨_,d⟩|⟨d,v⟩
  ·cases d
  ·exact c.bo _ _ _ j _ _ _ _ _ _ v m
theorem Sim.rdA(d:Sim P h0 w0 be oe H st h a w){av:AV}{x:Value}(g:Good st be oe av x):Good st be oe (rdA st av) x:=by
 cases av with
 |own i k =>
  simp only[Go.H.rdA]
  split
  ·rename_i m o c
   split
   ·rename_i j
    have l:=Nat.eq_of_beq_eq_true j
    split
    ·exact g
    ·rename_i v
     obtain⟨t,n,_,e⟩:=g
     have:t=m:=by grind[stamp]
     subst this
     have:=e l.symm
     rw[d.frz i _ v c]at this
     exact this
   ·trivial
  ·trivial
 |box i off =>
  simp only[Go.H.rdA]
  split
  ·exact g
  ·rename_i b c
   have:=g.2
   rw[d.pub i b c]at this
   exact this
  ·trivial
 |oel i k idx sz f =>
  simp only[Go.H.rdA]
  split
  ·split
   ·exact g
   ·trivial
  ·trivial
 |_=>exact g
theorem Sim.rdO(s:Sim P h0 w0 be oe H st h a w)(x:Operand):Good st be oe (rdO st x) (a.eval x):=by
 cases x with
 |tmp t=>exact s.rdA (s.fr t)
 |const v=>rfl
 |global g=>trivial
 |func f=>rfl
theorem F06{st:St}{av:AV}{i k:Nat}(h:Go.H.rdA st av = .own i k):∃ e sz by_ nn xs,nth st.ow i=some ⟨k,.live e sz by_ nn xs⟩:=by
 cases av with
 |own j l =>
  grind[Go.H.rdA,Nat.eq_of_beq_eq_true]
 |box j off=>simp only[Go.H.rdA]at h;split at h<;>cases h
 |oel j l idx sz f=>simp only[Go.H.rdA]at h;split at h<;>(try split at h)<;>cases h
 |_=>cases h
theorem G06{st:St}{x:Operand}{i k:Nat}(h:Go.H.rdO st x = .own i k):∃ e sz by_ nn xs,nth st.ow i=some ⟨k,.live e sz by_ nn xs⟩:=by
 cases x with
 |tmp t=>exact F06 h
 |_=>cases h
theorem I0i{st:St}{av:AV}{i k:Nat}{idx:Int}{sz f:Nat}(h:Go.H.rdA st av = .oel i k idx sz f):∃ e a by_ nn xs,nth st.ow i=some ⟨k,.live e a by_ nn xs⟩:=by
 cases av with
 |own j l=>simp only[Go.H.rdA]at h;split at h<;>(try split at h)<;>(try split at h)<;>cases h
 |box j off=>simp only[Go.H.rdA]at h;split at h<;>cases h
 |oel j l idx sz f =>
  grind[Go.H.rdA,Nat.eq_of_beq_eq_true]
 |_=>cases h
theorem J0i{st:St}{x:Operand}{i k:Nat}{idx:Int}{sz f:Nat}(h:Go.H.rdO st x = .oel i k idx sz f):∃ e a by_ nn xs,nth st.ow i=some ⟨k,.live e a by_ nn xs⟩:=by
 cases x with
 |tmp t=>exact I0i h
 |_=>cases h
theorem Good.own_cur{st:St}{be:Nat->Nat}{oe:Nat->Value}{i k:Nat}{x:Value}{o:OSt}(g:Good st be oe (.own i k) x)(c:nth st.ow i=some ⟨k,o⟩):x=oe i:=by
 obtain⟨d,a,_,b⟩:=g
 grind[stamp]
theorem Good.oel_cur{st:St}{be:Nat->Nat}{oe:Nat->Value}{i k:Nat}{idx:Int}{sz f:Nat}{x:Value}{o:OSt}(g:Good st be oe (.oel i k idx sz f) x)(d:nth st.ow i=some ⟨k,o⟩):
  ∃ g n c,oe i = .slice (some ⟨g,0,none⟩) n c/\x=ptr g (idx.toNat*sz+f):=by
 obtain⟨e,a,_,b⟩:=g
 grind[stamp]
theorem O07{st:St}:∀ {cs:List N5} {vs a:List Value},u0e cs=some vs->G2 st oe cs a->a=vs
 | [],vs,[],h,_=>by cases h;rfl
 | [],vs,_::_,h,g=>g.elim
 | .val v::r,vs,[],h,g=>g.elim
 | .val v::r,vs,w::a,h,g=>by
  simp only[u0e]at h
  split at h
  ·rename_i e d
   cases h
   obtain⟨b,c⟩:=g
   rw[O07 d c,show w=v from b]
  ·cases h
 | .own i k::r,vs,a,h,g=>by cases h
theorem D7{st:St}{av:AV}{v x:Value}(h:A04 av=some v)(g:Good st be oe av x):x=v:=by
 cases av with
 |val u=>cases h;exact g
 |agg cs =>
  simp only[A04]at h
  split at h
  ·rename_i vs b
   cases h
   obtain⟨c,rfl,a⟩:=g
   rw[O07 b a]
  ·cases h
 |_=>cases h
end
theorem O2{P:Program}{g e:Type}(d:Sem g)(f:g->Sem e):∀(h:Hp) (K:e->Hp->Prop),wpS P (d >>= f) h K=wpS P d h (λx h'=>wpS P (f x) h' K):=by
 change ∀(h:Hp) (K:e->Hp->Prop),wpS P (d.bind f) h K=wpS P d h (λx h'=>wpS P (f x) h' K)
 induction d with
 |pure a=>intro h K;rfl
 |load m a k b=>grind[Sem.bind,wpS]
 |store m a v k b=>intro h K;simp only[Sem.bind,wpS,b]
 |new o k b=>grind[Sem.bind,wpS]
 |shape r k b=>grind[Sem.bind,wpS]
 |freeze a n k b=>intro h K;rfl
 |frozen a k b=>grind[Sem.bind,wpS]
 |getObj r k b=>grind[Sem.bind,wpS]
 |setObj r o k b=>grind[Sem.bind,wpS]
 |choose q k b=>grind[Sem.bind,wpS]
 |sys c k b=>intro h K;rfl
 |program k b=>grind[Sem.bind,wpS]
 |mark m k b=>grind[Sem.bind,wpS]
 |halt x=>intro h K;rfl
theorem D3{P:Program}{a:Type}(x:a)(h:Hp)(K:a->Hp->Prop):wpS P (pure x) h K=K x h:=rfl
theorem s0n{P:Program}{e:Type}(d:Sem e){x:e}(b:evP P d=some x):∀ w:World,d.run P w = .ok x w:=by
 induction d with
 |pure a=>simp_all[evP,Option.some.injEq]
 |program k c=>intro w;exact c _ b w
 |mark m k c=>intro w;exact c b w
 |_=>simp[evP]at b
theorem z0a(a:Operand->Value):∀ l:List Operand,A0i a l=l.map a
 | []=>rfl
 |x::r=>by simp only[A0i,List.map_cons,z0a a r]
theorem t0n:∀ a b:List Value,K0p a b=a++b
 | [],b=>rfl
 |x::r,b=>by simp only[K0p,List.cons_append,t0n r b]
theorem c06:∀ l:List Operand,C07 l=l.map fun | .const _=>true|_=>false
 | []=>rfl
 | .const _::r=>by simp only[C07,List.map_cons,c06 r]
 | .tmp _::r=>by simp only[C07,List.map_cons,c06 r]
 | .global _::r=>by simp only[C07,List.map_cons,c06 r]
 | .func _::r=>by simp only[C07,List.map_cons,c06 r]
theorem A0a(a:Operand->Value)(o:Oper):W0g a o=execOp a o:=by
 unfold W0g
 split
 ·rename_i c d
  obtain⟨i,as,ts⟩:=c
  split
  ·rename_i b g
   simp only at g
   subst g
   unfold execOp
   rw[d]
   simp only[resolve,z0a,c06]
   rw[show(List.map a as.toList).toArray=as.map a from by apply Array.ext';simp]
   have h:∀ f:Operand->Bool,(List.map f as.toList).toArray=as.map f:=λf=>by apply Array.ext';simp
   rw[h]
   rfl
  ·rfl
 ·rename_i fn first e d
  unfold execOp
  rw[d]
  simp only[z0a]
  rw[show(List.map a first.toList).toArray=first.map a from by apply Array.ext';simp,show(List.map a e.toList).toArray=e.map a from by apply Array.ext';simp]
 ·rfl
theorem y08{P:Program}{e:Operand->Value}{o:Oper}{f:FuncId}{l:List Value}(a:B07 e o=some (f,l))(b:okF P f=true)(w:World):(execOp e o).run P w = .ok (.enter f l.toArray) w:=by
 unfold B07 at a
 split at a
 ·rename_i c i
  obtain⟨m,as,ts⟩:=c
  split at a
  ·rename_i x d
   simp only at d
   subst d
   split at a
   ·rename_i p first n j
    cases a
    unfold okF at b
    split at b
    ·rename_i fn hf
     split at b
     ·rename_i k g
      split at b
      ·cases b
      ·rename_i h
       unfold execOp
       rw[i]
       simp only[resolve,j,Deferred.ofValue,Sem.run_bind,Sem.run_pure,Result.andThen_ok,invoke,callFunc,program,Sem.run,hf,h,g,Bool.false_eq_true,if_false,Option.isNone_some]
       simp_all[t0n,z0a]
     ·cases b
    ·cases b
   ·cases a
  ·cases a
 ·cases a
section
variable {P:Program} {h0:Hp} {w0:World} {be:Nat->Nat} {oe:Nat->Value} {H:Hp} {st:St} {h:Hp} {a:Act} {w:World}
theorem Q6.trans{st f h:St}{be a b:Nat->Nat}{oe d e:Nat->Value}(g:Q6 st be oe f a d)(k:Q6 f a d h b e):Q6 st be oe h b e:=by
 refine⟨Nat.le_trans g.bl k.bl,λi c=>?_,λi m l=>?_⟩
 ·rw[k.be i (Nat.lt_of_lt_of_le c g.bl),g.be i c]
 ·obtain⟨s1,j,n,o⟩:=g.sm i m l
  obtain⟨s2,p,q,s⟩:=k.sm i s1 j
  grind
theorem B0a(o:Sim P h0 w0 be oe H st h a w){i k:Nat}{x:Value}(g:∃ t,stamp st i=some t/\k<=t/\(k=t->x=oe i)){K:Value->St->Hp->Prop}
  (b:z0i i k st h K):∃ st' h',K x st' h'/\Sim P h0 w0 be oe H st' h' a w/\Q6 st be oe st' be oe/\st'.bx=st.bx:=by
 unfold z0i at b
 obtain⟨t,q,_,m⟩:=g
 split at b
 ·rename_i l e sz by_ nn xs f
  split at b
  ·rename_i c
   have d:=Nat.eq_of_beq_eq_true c
   have j:t=l:=by grind[stamp]
   have n:x=oe i:=m (by rw[j,d])
   obtain⟨h',p,f2,f3⟩:=o.freeze f
   rw[n]
   exact⟨_,h',b _ _ p,f2,f3,rfl⟩
  ·exact b.elim
 ·rename_i l v f
  split at b
  ·rename_i c
   have d:=Nat.eq_of_beq_eq_true c
   have j:t=l:=by grind[stamp]
   have n:x=v:=by rw[m (by rw[j,d]),o.frz i _ v f]
   grind[Q6.refl]
  ·exact b.elim
 ·exact b.elim
theorem a03:∀(cs:List N5) {st:St} {h:Hp} {vs:List Value} {K:List Value->St->Hp->Prop},Sim P h0 w0 be oe H st h a w->G2 st oe cs vs->A07 cs st h K ->
  ∃ st' h',K vs st' h'/\Sim P h0 w0 be oe H st' h' a w/\Q6 st be oe st' be oe/\st'.bx=st.bx
 | [],st,h,[],K,c,_,b=>⟨st,h,b,c,Q6.refl _ _ _,rfl⟩
 | .val v::r,st,h,x::vs,K,c,g,b=>by
  have o:x=v:=g.1
  subst o
  obtain⟨st',h',s,t⟩:=a03 r c g.2 b
  grind
 | .own i k::r,st,h,x::vs,K,c,g,b=>by
  obtain⟨u,q,e,s1,d,m⟩:=B0a c g.1 b
  obtain⟨p,l,f,s2,j,n⟩:=a03 r s1 (g.2.grow d) e
  exact⟨p,l,f,s2,d.trans j,n.trans m⟩
 | [],_,_,_::_,_,_,g,_=>g.elim
 |_::_,_,_,[],_,_,g,_=>g.elim
theorem K02(d:Sim P h0 w0 be oe H st h a w){av:AV}{x:Value}(g:Good st be oe av x){K:Value->St->Hp->Prop}(c:rfy av st h K):
  ∃ st' h',K x st' h'/\Sim P h0 w0 be oe H st' h' a w/\Q6 st be oe st' be oe:=by
 cases av with
 |val v=>have f:x=v:=g;subst f;exact⟨st,h,c,d,Q6.refl _ _ _⟩
 |own i k=>obtain⟨st',h',q,s,t,_⟩:=B0a d g c;grind
 |box i off =>
  have f:=g.2
  simp only[rfy,J0p]at c
  split at c
  ·rename_i cells ty e
   obtain⟨C,vs,j,o⟩:=d.box i cells ty e
   obtain⟨A,B,l,s1,n,m⟩:=a03 cells d j c
   have p:nth A.bx i=some (.live cells ty):=by rw[m];exact e
   obtain⟨u,y,z⟩:=s1.publ p o
   rw[f]
   exact⟨_,_,l (be i) u,y,n.trans z⟩
  ·rename_i b e
   rw[f,d.pub i b e]
   grind[Q6.refl]
  ·exact c.elim
 |agg cs =>
  obtain⟨vs,rfl,j⟩:=g
  obtain⟨st',h',q,s,t,_⟩:=a03 cs d j c
  grind
 |_=>exact c.elim
theorem a02:∀(l:List Operand) {st:St} {h:Hp} {K:List (Nat×Value)->St->Hp->Prop},Sim P h0 w0 be oe H st h a w->Q0b l st h K ->
  ∃ vs st' h',K vs st' h'/\Sim P h0 w0 be oe H st' h' a w/\Q6 st be oe st' be oe/\(∀ p∈vs,p.2=a.eval (.tmp p.1))/\(∀ x∈l,(∃ t v,x = .tmp t/\(t,v)∈vs)∨(∀ q,rho q x=a.eval x))
 | [],st,h,K,c,b=>⟨[],st,h,b,c,Q6.refl _ _ _,by simp,by simp⟩
 | .tmp t::r,st,h,K,c,b=>by
  obtain⟨u,s,n,s1,o⟩:=K02 c (c.rdO (.tmp t)) b
  obtain⟨vs,j,i,e,s2,g,k,m⟩:=a02 r s1 n
  refine⟨_,j,i,e,s2,o.trans g,?_,?_⟩
  all_goals grind
 | .const v::r,st,h,K,c,b=>by
  obtain⟨vs,j,i,e,s2,g,k,m⟩:=a02 r c b
  refine⟨vs,j,i,e,s2,g,k,λx d=>?_⟩
  rcases List.mem_cons.1 d with rfl|d
  ·exact .inr λ_=>rfl
  ·exact m x d
 | .func f::r,st,h,K,c,b=>by
  obtain⟨vs,j,i,e,s2,g,k,m⟩:=a02 r c b
  refine⟨vs,j,i,e,s2,g,k,λx d=>?_⟩
  rcases List.mem_cons.1 d with rfl|d
  ·exact .inr λ_=>rfl
  ·exact m x d
 | .global _::_,_,_,_,_,b=>b.elim
theorem b0c:∀(vs:List (Nat×Value)) (t:Nat) (y:Value),(∀ p∈vs,p.1=t->p.2=y)->(∃ v,(t,v)∈vs)->k0n vs t=y
 | [],t,y,_,h=>by grind
 |(k,v)::r,t,y,a,h=>by
  simp only[k0n]
  split
  ·simp_all
  ·rename_i c
   refine b0c r t y (λp b=>a p (mC _ b)) ?_
   grind[absurd,Nat.ne_of_beq_eq_false]
theorem z08{o:Oper}{vs:List (Nat×Value)}(c:n0a o.op=false)(d:∀ p∈vs,p.2=a.eval (.tmp p.1))
  (f:∀ x∈o.op.operands.toList,(∃ t v,x = .tmp t/\(t,v)∈vs)∨(∀ k,rho k x=a.eval x)):execOp (rho vs) o=execOp a.eval o:=by
 refine execOp_congr o (λcs b g=>by rw[g]at c;cases c) λx j=>?_
 rcases f x (by simpa using j)with⟨t,v,rfl,h⟩|hf
 ·exact b0c vs t _ (λp i e=>by rw[d p i,e]) ⟨v,h⟩
 ·exact hf vs
def Nx(P:Program)(h0:Hp)(w0:World)(f:St)(c:Nat->Nat)(e:Nat->Value)(K:AV->St->Hp->Prop)(a:Act)(d:Option Tmp):Act->World->Prop:=λb g =>
 ∃ av st' h' v be oe H,K av st' h'/\b=a.put d v/\Sim P h0 w0 be oe H st' h' a g/\Good st' be oe av v/\Q6 f c e st' be oe
theorem E7{o:Oper}{next:Act->World->Prop}{Q:Exit->Act->World->Prop}{v:Value}{b:World}(d:(execOp a.eval o).run P w = .ok (.value v) b)
  (c:next (a.put o.dst v) b):o.wp P a w next Q:=by
 unfold Oper.wp;rw[d];exact c
theorem A08{o:Oper}{next:Act->World->Prop}{Q:Exit->Act->World->Prop}{w':World}(hr:(execOp a.eval o).run P w = .ok .skip w')
  (hn:next (a.put o.dst undef) w'):o.wp P a w next Q:=by
 unfold Oper.wp;rw[hr];exact hn
theorem G04{o:Oper}{vs:List (Nat×Value)}(d:∀ p∈vs,p.2=a.eval (.tmp p.1))
  (f:∀ x∈o.op.operands.toList,(∃ t v,x = .tmp t/\(t,v)∈vs)∨(∀ k,rho k x=a.eval x)):B07 (rho vs) o=B07 a.eval o:=by
 have j:∀ x∈o.op.operands.toList,rho vs x=a.eval x:=λx b=>by
  rcases f x b with⟨t,v,rfl,h⟩|hf
  ·exact b0c vs t _ (λp i e=>by rw[d p i,e]) ⟨v,h⟩
  ·exact hf vs
 unfold B07
 split
 ·rename_i c l
  split
  ·rename_i x b
   have g:∀ y,y=x∨y∈c.args.toList->y∈o.op.operands.toList:=λy m=>by
    grind[Op.operands,Call.operands]
   rw[j x (g x (.inl rfl))]
   have:A0i (rho vs) c.args.toList=A0i a.eval c.args.toList:=by
    grind[z0a,List.map_congr_left]
   rw[this]
  ·rfl
 ·rfl
theorem Y8(C:Sim P h0 w0 be oe H st h a w){o:Oper}{K:AV->St->Hp->Prop}{Q:Exit->Act->World->Prop}(c:T05 P o st h K):o.wp P a w (Nx P h0 w0 st be oe K a o.dst) Q:=by
 unfold T05 at c
 split at c
 ·exact c.elim
 rename_i B
 obtain⟨vs,i,E,b,s1,d,p,q⟩:=a02 _ C c
 rw[A0a,z08 B p q,G04 p q]at b
 split at b
 ·rename_i f l u
  split at b
  ·rename_i A
   unfold Oper.wp
   rw[y08 u A,Oper.upon_enter]
   refine(b.run w (N07 s1)).mono ?_
   rintro e G ⟨v,t,rfl,x,z⟩
   obtain⟨s,D⟩:=s1.moved z
   exact⟨.val v,i,t,v,be,oe,s,x,rfl,D,rfl,d⟩
  ·exact b.elim
 ·obtain⟨n,k,F,m,g,y⟩:=G9 _ _ _ (N07 s1) b
  obtain⟨j,s2⟩:=s1.moved y
  cases n with
  |value v=>exact E7 m ⟨.val v,i,k,v,be,oe,j,g,rfl,s2,rfl,d⟩
  |skip=>exact A08 m ⟨.val undef,i,k,undef,be,oe,j,g,rfl,s2,rfl,d⟩
  |_=>exact g.elim
theorem Sim.still(c:Sim P h0 w0 be oe H st h a w){hf:Hp}{e:World}(f:∀ b o,hf b=some o->H b=some o)(m:U2 hf w hf e):Sim P h0 w0 be oe H st h a e:=by
 refine⟨c.mv.trans ⟨m.os,m.tape,m.output,m.size,?_,?_,λb d => .inl d,m.fz,m.dn⟩,c.sub,c.box,c.pub,c.own,c.frz,c.bb,c.oo,c.bo,c.dfr,c.siz,c.fr⟩
 ·intro b d i
  refine m.keep b d ?_
  cases hc:hf b with
  |none=>rfl
  |some o=>grind
 ·intro b o d
  cases hc:hf b with
  |some g =>
   have:=f b g hc
   rw[this]at d;cases d
   exact m.vis b _ hc
  |none=>rw[m.keep b (c.mv.vis.lt (by rw[d];simp)) hc];exact c.mv.vis b o d
theorem h0k(d:Sim P h0 w0 be oe H st h a w){o:Oper}{K:AV->St->Hp->Prop}{Q:Exit->Act->World->Prop}(c:L0p P o st h K):o.wp P a w (Nx P h0 w0 st be oe K a o.dst) Q:=by
 unfold L0p at c
 split at c
 ·exact c.elim
 rename_i s
 obtain⟨vs,t,p,b,s1,_,m,n⟩:=a02 _ d c
 rw[G04 m n]at b
 split at b
 ·rename_i f l g
  split at b
  ·rename_i k
   unfold Oper.wp
   rw[y08 g k,Oper.upon_enter]
   refine(b.run w (N07 s1)).mono ?_
   rintro e u ⟨v,q,rfl,⟨rfl,i⟩,j⟩
   exact⟨.val v,st,h,v,be,oe,H,i,rfl,d.still s1.sub j,rfl,Q6.refl _ _ _⟩
  ·exact b.elim
 ·exact b.elim
theorem C00(c:Sim P h0 w0 be oe H st h a w){o:Oper}{K:AV->St->Hp->Prop}{Q:Exit->Act->World->Prop}(b:e0m P o st h K):o.wp P a w (Nx P h0 w0 st be oe K a o.dst) Q:=by
 unfold e0m at b
 split at b
 ·rcases b with b|b
  ·exact Y8 c b
  ·exact h0k c b
 ·exact Y8 c b
theorem H09(y:Sim P h0 w0 be oe H st h a w){o:Oper}{K:AV->St->Hp->Prop}{Q:Exit->Act->World->Prop}(c:N0p P o st h K):o.wp P a w (Nx P h0 w0 st be oe K a o.dst) Q:=by
 unfold N0p at c
 split at c
 ·exact c.elim
 rename_i x
 obtain⟨vs,p,z,b,s1,g,l,m⟩:=a02 _ y c
 rw[G04 l m]at b
 split at b
 ·exact b.elim
 obtain⟨v,s,q,j⟩:=b
 have f:=q (λn h'=>(n = .value v∨n = .skip/\v=undef)/\h'=s) ⟨⟨.inl rfl,rfl⟩,λe=>⟨.inr ⟨rfl,e⟩,rfl⟩⟩
 rw[A0a,z08 x l m]at f
 obtain⟨n,i,A,k,⟨u,rfl⟩,t⟩:=G9 _ _ _ (N07 s1) f
 obtain⟨d,s2⟩:=s1.moved t
 rcases u with rfl|⟨rfl,rfl⟩
 ·exact E7 k ⟨.val v,p,i,v,be,oe,d,j,rfl,s2,rfl,g⟩
 ·exact A08 k ⟨.val undef,p,i,undef,be,oe,d,j,rfl,s2,rfl,g⟩
end
section
variable {P:Program}
theorem Z5{t:TypeId}{d:TypeDesc}(a:P.underlying t=some d)(h:Hp)(K:TypeDesc->Hp->Prop):wpS P (underlying t) h K=K d h:=by
 grind[underlying,program,O2,wpS,D3]
theorem C0a{t:TypeId}{i:TypeInfo}(a:P.info? t=some i)(h:Hp)(K:TypeInfo->Hp->Prop):wpS P (typeInfo t) h K=K i h:=by
 grind[typeInfo,program,O2,wpS,D3]
theorem Z00{t:TypeId}{n:Nat}(a:W5 P t=some n)(h:Hp)(K:Nat->Hp->Prop):wpS P (sizeOf t) h K=K n h:=by
 grind[W5,sizeOf,O2,C0a,D3]
theorem D0a{t:TypeId}{z:Value}(a:K00 P t=some z)(h:Hp)(K:Value->Hp->Prop):wpS P (zeroValue t) h K=K z h:=by
 grind[K00,zeroValue,O2,C0a,D3]
theorem B08{t:TypeId}{b:Bool}(a:x0i P t=some b)(h:Hp)(K:Bool->Hp->Prop):wpS P (isAgg t) h K=K b h:=by
 unfold x0i at a
 grind[isAgg,O2,Z5,D3,absurd]
theorem m05{H:Hp}{b o:Nat}:∀(vs:List Value) (i:Nat) (acc:Array Value) (K:Array Value->Hp->Prop),(∀ j v,vs[j]?=some v->Hp.cell H b (o+i+j)=some v) ->
  K (acc++vs.toArray) H->wpS P (loadCellsFrom ⟨b,o,none⟩ i vs.length acc) H K
 | [],i,acc,K,_,c=>by grind[loadCellsFrom,D3]
 |v::vs,i,acc,K,a,c=>by
  have h0:=a 0 v (by simp)
  simp only[loadCellsFrom,List.length_cons,O2,load,wpS]
  have d:(⟨b,o,none⟩:Addr).add i=⟨b,o+i,none⟩:=by unfold Addr.add;split<;>simp_all
  rw[d]
  refine⟨v,⟨rfl,by simpa using h0⟩,m05 vs (i+1) (acc.push v) K ?_ ?_⟩
  ·intro j u e
   have:=a (j+1) u (by simpa using e)
   grind
  ·simpa using c
theorem x02{a:Type}:∀(l:List a) (n:Nat),D06 l n=true->l.length=n
 | [],0,_=>rfl
 |_::r,k+1,h=>by simp[x02 r k h]
 | [],_+1,h=>by cases h
 |_::_,0,h=>by cases h
variable {h0:Hp} {w0:World} {be:Nat->Nat} {oe:Nat->Value} {H:Hp} {st:St} {h:Hp} {a:Act} {w:World}
theorem Good.ofCell{st:St}{be:Nat->Nat}{oe:Nat->Value}{c:N5}{v:Value}(g:I0e st oe c v):Good st be oe (ofCell c) v:=by
 cases c with
 |val u=>exact g
 |own i k=>exact g
theorem load_row{t:TypeId}{cs:List N5}{vs:List Value}{off:Nat}{K:AV->Prop}{b o:Nat}(a:y04 P t cs off K)(g:G2 st oe cs vs)
  (p:∀ j v,vs[j]?=some v->Hp.cell H b (o+j)=some v):∃ av v,K av/\Good st be oe av v/\∀ d:Value->Hp->Prop,d v H->wpS P (loadVar t ⟨b,o+off,none⟩) H d:=by
 unfold y04 at a
 split at a
 ·rename_i e
  split at a
  ·rename_i n f
   split at a
   ·rename_i l
    have m:=x02 _ _ l
    have h:=(g.drop off).take n
    refine⟨_,.agg ((vs.drop off).take n).toArray,a,⟨_,rfl,h⟩,λd k=>?_⟩
    have s:((vs.drop off).take n).length=n:=by rw[←h.length,m]
    simp only[loadVar,O2,B08 e,if_true,Z00 f,loadCells]
    have:=m05 (P:=P) (H:=H) (b:=b) (o:=o+off) ((vs.drop off).take n) 0 #[] (λx h'=>wpS P (pure (Value.agg x)) h' d) (λj v q=>by
     grind) (by grind[D3])
    grind
   ·exact a.elim
  ·exact a.elim
 ·rename_i e
  split at a
  ·rename_i c f
   obtain⟨v,u,i⟩:=g.nth f
   refine⟨_,v,a,Good.ofCell i,λd k=>?_⟩
   simp only[loadVar,O2,B08 e,Bool.false_eq_true,if_false,load,wpS]
   grind
  ·exact a.elim
 ·exact a.elim
theorem Hp.set_set(h:Hp)(b:Nat)(x y:Obj):(h.set b x).set b y=h.set b y:=by
 funext k;simp only[Hp.set];split<;>rfl
theorem R0t{v:Value}(h:v.oneCell'=true):v02 v:=by cases v<;>simp_all [Value.oneCell',v02]
theorem H04{b:Nat}{t:TypeId}:∀(a:List Value) (cur:List Value) (off i:Nat) (K:Unit->Hp->Prop) (H:Hp),H b=some (.cells cur.toArray t (0,0)) ->
  off+i+a.length<=cur.length->(∀ v∈a,v.oneCell'=true)->K () (H.set b (.cells (K3 cur (off+i) a).toArray t (0,0)))->wpS P (storeCells ⟨b,off,none⟩ a i) H K
 | [],cur,off,i,K,H,e,_,_,c=>by
  have:H.set b (.cells cur.toArray t (0,0))=H:=by
   grind[Hp.set]
  simp only[K3,this]at c
  exact c
 |n::a,cur,off,i,K,H,e,g,d,c=>by
  simp only[storeCells,O2,store,wpS]
  have f:(⟨b,off,none⟩:Addr).add i=⟨b,off+i,none⟩:=by unfold Addr.add;split<;>simp_all
  rw[f]
  simp only[List.length_cons]at g
  refine⟨cur.toArray,t,(0,0),⟨e,rfl,by simp;omega,by simp,R0t (d n mS)⟩,?_⟩
  refine H04 (t:=t) a (cur.set (off+i) n) off (i+1) K _ (by simp[Hp.set]) (by simp;omega) (λv h=>d v (mC _ h)) ?_
  grind[Hp.set_set,K3,Nat.add_assoc]
theorem C08:∀(a cs:List Value) (off:Nat),splice cs off a=K3 cs off a
 | [],cs,off=>rfl
 |n::a,cs,off=>by simp only[splice,K3,y0a,C08 a]
theorem J0e(f:Sim P h0 w0 be oe H st h a w){i k:Nat}{e sz by_:Nat}{nn:Bool}{xs:List (List Value)}(d:nth st.ow i=some ⟨k,.live e sz by_ nn xs⟩):∃ x n c,oe i = .slice x n c:=by
 rcases(f.own i _ _ _ _ _ _ d).2 with⟨b,_⟩|⟨g,cap,cur,b,_⟩
 all_goals grind
theorem l04(m:Sim P h0 w0 be oe H st h a w){x:Operand}{cs:List N5}(b:c00 (rdO st x)=some cs):G2 st oe cs (a.eval x).cells.toList:=by
 have g:=m.rdO x
 cases hr:rdO st x with
 |val v =>
  rw[hr]at b g
  have d:a.eval x=v:=g
  rw[d]
  cases v<;>simp only[c00,Option.some.injEq]at b<;>first|(subst b;first|exact G2.vals _ _ _|exact⟨rfl,trivial⟩)|cases b
 |own i k =>
  rw[hr]at b g
  obtain⟨e,sz,by_,nn,xs,f⟩:=G06 hr
  simp only[c00,Option.some.injEq]at b
  subst b
  have j:a.eval x=oe i:=g.own_cur f
  obtain⟨y,n,c,l⟩:=J0e m f
  rw[j,l]
  rw[j,l]at g
  exact⟨g,trivial⟩
 |agg cs' =>
  rw[hr]at b g
  simp only[c00,Option.some.injEq]at b
  subst b
  obtain⟨vs,d,o⟩:=g
  rw[d]
  exact o
 |_=>rw[hr]at b;cases b
theorem m04(f:Sim P h0 w0 be oe H st h a w):∀(cs:List N5) (vs:List Value),j05 st cs=true->G2 st oe cs vs->∀ v∈vs,v.oneCell'=true
 | [],[],_,_,v,d=>by cases d
 | .val u::r,x::vs,b,g,v,d=>by
  simp only[j05]at b
  split at b
  ·rename_i o
   rcases List.mem_cons.1 d with rfl|d
   ·have:v=u:=g.1
    rw[this];exact o
   ·exact m04 f r vs b g.2 v d
  ·cases b
 | .own i k::r,x::vs,b,g,v,d=>by
  have m:Good st be oe (rdA st (.own i k)) x:=f.rdA (av := .own i k) g.1
  simp only[j05]at b
  split at b
  ·rename_i j l p
   rcases List.mem_cons.1 d with rfl|d
   ·rw[p]at m
    obtain⟨e,sz,by_,nn,xs,q⟩:=F06 p
    obtain⟨y,n,c,t⟩:=J0e f q
    rw[m.own_cur q,t];rfl
   ·exact m04 f r vs b g.2 v d
  ·rename_i u s
   split at b
   ·rename_i o
    rcases List.mem_cons.1 d with rfl|d
    ·rw[s]at m
     have:v=u:=m
     rw[this];exact o
    ·exact m04 f r vs b g.2 v d
   ·cases b
  ·cases b
 | [],_::_,_,g,_,_=>g.elim
 |_::_,[],_,g,_,_=>g.elim
theorem L03:∀(vs:List Value),z04 vs=true->∀ v∈vs,v.oneCell'=true
 | [],_,v,a=>by cases a
 |x::r,b,v,a=>by
  simp only[z04]at b
  split at b
  ·rename_i c
   rcases List.mem_cons.1 a with rfl|a
   ·exact c
   ·exact L03 r b v a
  ·cases b
end
section
variable {P:Program} {h0:Hp} {w0:World} {be:Nat->Nat} {oe:Nat->Value} {H:Hp} {st:St} {h:Hp} {a:Act} {w:World} {o:Oper} {K:AV->St->Hp->Prop} {Q:Exit->Act->World->Prop}
theorem u01(b o n:Nat):(⟨b,o,none⟩:Addr).add n=⟨b,o+n,none⟩:=by unfold Addr.add;split<;>simp_all
theorem O6(d:Sim P h0 w0 be oe H st h a w){av:AV}{v:Value}(k:∀ c:Next->Hp->Prop,c (.value v) H->wpS P (execOp a.eval o) H c)(g:Good st be oe av v)(f:K av st h):
  o.wp P a w (Nx P h0 w0 st be oe K a o.dst) Q:=by
 obtain⟨n,b,m,j,⟨rfl,rfl⟩,i⟩:=G9 _ _ _ d.mv.vis (k (λn b=>n = .value v/\b=H) ⟨rfl,rfl⟩)
 have l:Sim P h0 w0 be oe b st h a m:=d.still (hf:=b) (λ_ _ e=>e) i
 exact E7 j ⟨av,st,h,v,be,oe,b,f,rfl,l,g,Q6.refl _ _ _⟩
theorem W7{P:Program}(b:Sem Value)(H:Hp)(a:Next->Hp->Prop)(h:wpS P b H (λv H=>a (.value v) H)):wpS P (do pure (Next.value (←b))) H a:=by
 rw[O2];exact h
theorem S0t{P:Program}(b:Sem Unit)(H:Hp)(a:Next->Hp->Prop)(h:wpS P b H (λ_ H=>a .skip H)):wpS P (do b;pure Next.skip) H a:=by
 rw[O2];exact h
theorem u0n(d:Sim P h0 w0 be oe H st h a w){x:Operand}(c:o.op = .move x∨o.op = .assign x)(b:match rdO st x with | .dead=>False|a=>K a st h):o.wp P a w (Nx P h0 w0 st be oe K a o.dst) Q:=by
 have e:K (rdO st x) st h:=by
  revert b;cases rdO st x<;>intro b<;>first|exact b|exact b.elim
 refine O6 d (v:=a.eval x) (λg f=>?_) (d.rdO x) e
 unfold execOp
 rcases c with c|c<;>rw[c]<;>exact f
theorem T0t(d:Sim P h0 w0 be oe H st h a w){t:TypeId}{x:Operand}(m:o.op = .box t x){cs:List N5}(l:c00 (rdO st x)=some cs)
  (f:newBox st cs t λav st=>K av st h):o.wp P a w (Nx P h0 w0 st be oe K a o.dst) Q:=by
 have g:=l04 d l
 have q:wpS P (execOp a.eval o) H (λn e=>∃ b,H b=none/\n = .value (ptr b 0)/\e=H.set b (.cells (a.eval x).cells t (0,0))):=by
  unfold execOp;rw[m]
  refine W7 _ _ _ ?_
  simp only[Instr.box,newVar,newRow,newObj,O2,D3,wpS]
  exact λb c=>⟨b,c,rfl,rfl⟩
 obtain⟨n,e,u,p,⟨b,c,rfl,rfl⟩,i⟩:=G9 _ _ _ d.mv.vis q
 have k:(a.eval x).cells=(a.eval x).cells.toList.toArray:=by simp
 rw[k]at i
 rw[S0b]at f
 obtain⟨s,j⟩:=d.newBox g c i
 exact E7 p ⟨_,_,h,_,_,_,_,f,rfl,s,⟨by simp,by simp⟩,j⟩
theorem b0q(g:Sim P h0 w0 be oe H st h a w){t:TypeId}(k:o.op = .alloc t){z:Value}(p:K00 P t=some z)
  (e:newBox st (vals z.cells.toList) t λav st=>K av st h):o.wp P a w (Nx P h0 w0 st be oe K a o.dst) Q:=by
 have m:wpS P (execOp a.eval o) H (λn d=>∃ b,H b=none/\n = .value (ptr b 0)/\d=H.set b (.cells z.cells t (0,0))):=by
  unfold execOp;rw[k]
  refine W7 _ _ _ ?_
  simp only[Instr.alloc,newVar,newRow,newObj,O2,D0a p,D3,wpS]
  exact λb c=>⟨b,c,rfl,rfl⟩
 obtain⟨n,d,s,l,⟨b,c,rfl,rfl⟩,f⟩:=G9 _ _ _ g.mv.vis m
 have j:z.cells=z.cells.toList.toArray:=by simp
 rw[j]at f
 rw[S0b]at e
 obtain⟨q,i⟩:=g.newBox (G2.vals st oe _) c f
 exact E7 l ⟨_,_,h,_,_,_,_,e,rfl,q,⟨by simp,by simp⟩,i⟩
theorem c0h{t:TypeId}{k a:Nat}(c:y0i P t k=some a):∃ b f n,P.underlying t=some (.struct b)/\b[k]?=some f/\W5 P f.type=some (n+1)/\f.offset=a:=by
 grind[y0i]
theorem K0o{t:TypeId}{j:Int}{b:Nat}(a:I0p P t j=some b):∃ n e sz,P.underlying t=some (.array n e)/\W5 P e=some (sz+1)/\0<=j/\j<(n:Int)/\b=j.toNat*(sz+1):=by
 unfold I0p at a
 split at a
 ·rename_i n e m f
  split at a
  ·rename_i sz d c
   cases a
   refine⟨n,e,sz,f,d,Int.natCast_nonneg m,?_,rfl⟩
   have:m<n:=by simpa [Nat.blt_eq] using c
   exact Int.ofNat_lt.2 this
  ·cases a
 ·cases a
theorem H06{t:TypeId}{x i:Operand}{k:IntKind}{j:Int}{d b off:Nat}(m:o.op = .indexAddr t x i)(q:I0p P t j=some d)(u:a.eval x=ptr b off)(h:a.eval i = .int k j):
  ∀ c:Next->Hp->Prop,c (.value (ptr b (off+d))) H->wpS P (execOp a.eval o) H c:=by
 intro c l
 obtain⟨n,e,sz,s,p,f,g,rfl⟩:=K0o q
 unfold execOp;rw[m]
 refine W7 _ _ _ ?_
 simp only[Instr.indexAt,u,h,asIntOf,O2,D3,Z5 s,f,g,and_self,if_true,Z00 p,u01,ptr,Instr.sureAddr]
 exact l
theorem exec_fieldAddr{t:TypeId}{x:Operand}{k d b off:Nat}(h:o.op = .fieldAddr t x k)(i:y0i P t k=some d)(l:a.eval x=ptr b off):
  ∀ c:Next->Hp->Prop,c (.value (ptr b (off+d))) H->wpS P (execOp a.eval o) H c:=by
 intro c e
 obtain⟨m,f,n,j,hf,g,rfl⟩:=c0h i
 unfold execOp;rw[h]
 refine W7 _ _ _ ?_
 simp only[Instr.fieldAt,O2,Z5 j,hf,l,ptr,Instr.sureAddr,D3,fieldPlace,Z00 g,Nat.add_one_ne_zero,if_false,u01]
 exact e
theorem K0i(f:Sim P h0 w0 be oe H st h a w){t:TypeId}{x:Operand}{k:Nat}(q:o.op = .fieldAddr t x k)
  (p:match rdO st x,y0i P t k with
  | .box i off,some d=>K (.box i (off+d)) st h
  | .hel f i sz k,some d=>K (.hel f i sz (k+d)) st h
  | .oel i f j sz k,some d=>K (.oel i f j sz (k+d)) st h
  | .val (.pointer (some ⟨b,off,none⟩)),some d=>K (.val (ptr b (off+d))) st h
  |_,_=>False):o.wp P a w (Nx P h0 w0 st be oe K a o.dst) Q:=by
 have g:=f.rdO x
 split at p
 ·rename_i i off d l m
  rw[l]at g
  exact O6 f (av := .box i (off+d)) (exec_fieldAddr q m g.2) ⟨g.1,rfl⟩ p
 ·rename_i sl i sz v d l m
  rw[l]at g
  obtain⟨b,C,n,c,s,u⟩:=g
  refine O6 f (av := .hel sl i sz (v+d)) (exec_fieldAddr q m u) ⟨b,C,n,c,s,?_⟩ p
  simp[Nat.add_assoc]
 ·rename_i i D j sz v d l m
  rw[l]at g
  obtain⟨e,G,by_,nn,xs,B⟩:=J0i l
  obtain⟨A,n,c,s,u⟩:=g.oel_cur B
  obtain⟨E,y,z,F⟩:=g
  refine O6 f (av := .oel i D j sz (v+d)) (exec_fieldAddr q m u) ⟨E,y,z,λ_=>⟨A,n,c,s,by simp[Nat.add_assoc]⟩⟩ p
 ·rename_i b off d l m
  rw[l]at g
  exact O6 f (av := .val (ptr b (off+d))) (exec_fieldAddr (b:=b) (off:=off) q m g) rfl p
 ·exact p.elim
theorem p9{t e:TypeId}(a:V00 P t=some e):P.underlying t=some (.slice e):=by
 grind[V00]
theorem exec_indexAddr{t e:TypeId}{x i:Operand}{k:IntKind}{j:Int}{sz b off n c:Nat}(m:o.op = .indexAddr t x i)(q:V00 P t=some e)(p:W5 P e=some sz)
  (u:a.eval x = .slice (some ⟨b,off,none⟩) n c) (h:a.eval i = .int k j) (f:0<=j) (g:j<(n:Int)) :
  ∀ d:Next->Hp->Prop,d (.value (ptr b (off+j.toNat*sz))) H->wpS P (execOp a.eval o) H d:=by
 intro d l
 have s:=p9 q
 unfold execOp;rw[m]
 refine W7 _ _ _ ?_
 simp only[Instr.indexAt,u,h,asIntOf,O2,D3,Z5 s,f,g,and_self,if_true,Z00 p,u01]
 exact l
theorem i0k(c:Sim P h0 w0 be oe H st h a w){t:TypeId}{x:Operand}{i off:Nat}{cs:List N5}{ty:TypeId}(m:o.op = .load t x)(n:rdO st x = .box i off)
  (l:nth st.bx i=some (.live cs ty)) (f:y04 P t cs off λav=>K av st h):o.wp P a w (Nx P h0 w0 st be oe K a o.dst) Q:=by
 have g:=c.rdO x
 rw[n]at g
 obtain⟨u,vs,d,e⟩:=c.box i cs ty l
 obtain⟨av,v,p,q,z⟩:=load_row (H:=H) (b:=be i) (o:=0) (be:=be) f d (λj v k=>by simp[Hp.cell,e,k])
 refine O6 c (λs y=>?_) q p
 unfold execOp;rw[m]
 refine W7 _ _ _ ?_
 rw[g.2]
 grind[Instr.loadAt,ptr,Instr.sureAddr,O2,D3]
theorem j0k(d:Sim P h0 w0 be oe H st h a w){t:TypeId}{x:Operand}{sl:Value}{idx:Int}{sz k:Nat}{c:List Value}(s:o.op = .load t x)(y:rdO st x = .hel sl idx sz k)
  (l:Z7 h sl sz idx c) (p:y04 P t (vals c) k λav=>K av st h):o.wp P a w (Nx P h0 w0 st be oe K a o.dst) Q:=by
 have g:=d.rdO x
 rw[y]at g
 obtain⟨b,B,n,E,f,i⟩:=g
 obtain⟨_,_,D,L,J,F,e,m⟩:=l
 rw[f]at e;cases e
 obtain⟨av,v,z,A,I⟩:=load_row (H:=H) (b:=b) (o:=B+idx.toNat*sz) (be:=be) p (G2.vals st oe c) (λj v q=>by
  have:=m j v q
  unfold Hp.cell at this ⊢
  split at this
  ·rename_i u;rw[d.sub _ _ u];exact this
  ·cases this)
 refine O6 d (λC G=>?_) A z
 unfold execOp;rw[s]
 refine W7 _ _ _ ?_
 rw[i]
 simp only[Instr.loadAt,ptr,Instr.sureAddr,O2,D3]
 grind
theorem I04{sz:Nat}:∀(xs:List (List Value)) (i:Nat) (c:List Value),(∀ x∈xs,x.length=sz)->xs[i]?=some c->∀ j v,c[j]?=some v->xs.flatten[i*sz+j]?=some v
 | [],i,c,_,h,j,v,b=>by simp at h
 |x::xs,0,c,a,h,j,v,b=>by
  grind
 |x::xs,i+1,c,a,h,j,v,b=>by
  simp at h
  have e:=a x mS
  have:=I04 xs i c (λy d=>a y (mC _ d)) h j v b
  grind
theorem b06.cells{h H:Hp}{v:Value}{e sz:Nat}{nn:Bool}{xs:List (List Value)}(b:b06 h H v e sz nn xs){g n c:Nat}(l:v = .slice (some ⟨g,0,none⟩) n c):
  ∀ j u,xs.flatten[j]?=some u->Hp.cell H g j=some u:=by
 intro j u i
 rcases b.2 with⟨a,_⟩|⟨d,cap,cur,a,_,f,_,_,_,k⟩
 all_goals grind[Hp.cell]
theorem k0k(d:Sim P h0 w0 be oe H st h a w){t:TypeId}{x:Operand}{i E:Nat}{idx:Int}{sz k:Nat}{F e by_:Nat}{nn:Bool}{xs:List (List Value)}{c:List Value}
  (A:o.op = .load t x) (l:rdO st x = .oel i E idx sz k) (y:nth st.ow i=some ⟨F,.live e sz by_ nn xs⟩)
  (q:xs[idx.toNat]?=some c) (s:y04 P t (vals c) k λav=>K av st h):o.wp P a w (Nx P h0 w0 st be oe K a o.dst) Q:=by
 have g:=d.rdO x
 rw[l]at g
 obtain⟨L,S,I,R,T,z⟩:=J0i l
 obtain⟨p,n,J,m,M⟩:=g.oel_cur z
 have f:=d.own i _ _ _ _ _ _ y
 obtain⟨av,v,C,D,O⟩:=load_row (H:=H) (b:=p) (o:=idx.toNat*sz) (be:=be) s (G2.vals st oe c) (λj v u =>
  f.cells m _ _ (I04 xs _ c (λx B=>(f.1 x B).1) q j v u))
 refine O6 d (λG N=>?_) D C
 unfold execOp;rw[A]
 refine W7 _ _ _ ?_
 grind[Instr.loadAt,ptr,Instr.sureAddr,O2,D3]
theorem I06{t:TypeId}{p x:Operand}{b off n:Nat}{cur:List Value}{ty:TypeId}(e:o.op = .store t p x)(g:W5 P t=some n)(f:a.eval p=ptr b off)
  (d:(a.eval x).cells.toList.length=n) (i:∀ v∈(a.eval x).cells.toList,v.oneCell'=true) (j:H b=some (.cells cur.toArray ty (0,0))) (k:off+n<=cur.length) :
  ∀ c:Next->Hp->Prop,c .skip (H.set b (.cells (K3 cur off (a.eval x).cells.toList).toArray ty (0,0)))->wpS P (execOp a.eval o) H c:=by
 intro c l
 unfold execOp;rw[e]
 refine S0t _ _ _ ?_
 rw[f]
 have h:(a.eval x).cells.size=n:=by simpa using d
 simp only[Instr.storeAt,ptr,Instr.sureAddr,O2,D3,storeVar,Z00 g,h,ne_eq,not_true_eq_false,if_false]
 grind[H04]
theorem L0i(b:Sim P h0 w0 be oe H st h a w){t:TypeId}{p x:Operand}{i off n:Nat}{cs new:List N5}{ty:TypeId}(A:o.op = .store t p x)(B:rdO st p = .box i off)
  (k:nth st.bx i=some (.live cs ty)) (u:c00 (rdO st x)=some new) (D:W5 P t=some n) (v:D06 new n=true) (m:j05 st new=true)
  (c:G0o cs off new λcs=>K (.val undef) { st with bx:=B00 st.bx i (.live cs ty) } h):o.wp P a w (Nx P h0 w0 st be oe K a o.dst) Q:=by
 have g:=b.rdO p
 rw[B]at g
 have d:=l04 b u
 have q:=m04 b _ _ m d
 have y:=x02 _ _ v
 obtain⟨I,vs,f,s⟩:=b.box i cs ty k
 unfold G0o at c
 split at c
 ·rename_i j
  have j:=Nat.le_of_ble_eq_true j
  have F:(a.eval x).cells.toList.length=n:=by rw[←d.length,y]
  have E:=I06 (H:=H) (P:=P) (a:=a) A D g.2 F q s (by rw[←f.length];omega)
  obtain⟨J,e,L,C,⟨rfl,rfl⟩,z⟩:=G9 _ _ _ b.mv.vis (E (λn e=>n = .skip/\e=_) ⟨rfl,rfl⟩)
  obtain⟨G,l⟩:=b.updBox k (f.splice d) z
  exact A08 C ⟨_,_,h,_,_,_,_,c,rfl,G,rfl,l⟩
 ·exact c.elim
end
section
variable {P:Program} {h0:Hp} {w0:World} {be:Nat->Nat} {oe:Nat->Value} {H:Hp} {st:St} {h:Hp} {a:Act} {w:World} {o:Oper} {K:AV->St->Hp->Prop} {Q:Exit->Act->World->Prop}
theorem b03{sz:Nat}:∀(xs:List (List Value)),(∀ x∈xs,x.length=sz)->xs.flatten.length=xs.length*sz
 | [],_=>by simp
 |x::xs,a=>by
  have:=b03 xs (λy b=>a y (mC _ b))
  grind
def v0n(w:World)(y:Value)(sz:Nat)(a:List (List Value)):Prop :=
 (∀ x∈a,x.length=sz/\∀ v∈x,v.oneCell'=true) /\
 ((∃ b c,y = .slice (some b) a.length c/\∀ j u,a.flatten[j]?=some u->w.cell? (b.add j)=some u)∨(∃ c,y = .slice none 0 c/\a = []))
theorem U2.newD{H:Hp}{w:World}(a:Vis H w)(x:Obj)(b:d0s x=true):U2 H w (H.set w.heap.size x) (w.drew.alloc x) :=
 (U2.drawn a (w.drawn+1) (Nat.le_succ _)).trans (U2.new (w:=w.drew) a x b)
theorem l02{H:Hp}{w:World}(a:Vis H w):H w.heap.size=none:=by
 cases hc:H w.heap.size with
 |none=>rfl
 |some x=>exact absurd (a.lt (b:=w.heap.size) (by simp[hc])) (Nat.lt_irrefl _)
theorem K0e{h H:Hp}(k:∀ b o,h b=some o->H b=some o){g:Nat}(j:H g=none){e sz cap:Nat}{nn:Bool}{xs:List (List Value)}{cur:Array Value}
  (a:∀ x∈xs,x.length=sz/\∀ v∈x,v.oneCell'=true) (c:xs.length<=cap) (d:cap<=maxLen) (f:cur.size=cap*sz) (i:cur.toList.take (xs.length*sz)=xs.flatten) :
  b06 h (H.set g (.cells cur e (0,0))) (.slice (some ⟨g,0,none⟩) xs.length cap) e sz nn xs:=by
 refine⟨a,.inr ⟨g,cap,cur,rfl,?_,by simp[Hp.set],c,d,f,i⟩⟩
 cases hc:h g with
 |none=>rfl
 |some o=>grind
theorem l0d{t e ty sz by_:Nat}{i:TypeInfo}{z:Value}(n:P.underlying t=some (.slice e))(m:P.info? e=some i)(T:i.zero=some z)(am:i.size=sz)(ap:0<sz)
  (Y:i.bytes=by_) (X:0<by_) (an:z.cells.size=sz) {v:Value} {nn:Bool} {xs:List (List Value)} (s:b06 h H v e sz nn xs) (l:Vis H w) (al:∀ b o,h b=some o->H b=some o)
  {y:Value} {a:List (List Value)} (I:v0n w y sz a) (Q:V05 (xs.length+a.length) by_) :
  ∃ C V D,(Builtin.append_ #[t,t] ty #[v,y]).run P w = .ok C V/\U2 H w D V/\b06 h D C e sz (nn || J03 a) (xs++a) /\
   (∀ b,v.ownBlock≠some b->H b≠none->D b=H b)/\(∀ g,C.ownBlock=some g->v.ownBlock=some g∨H g=none)/\(a = []->C=v):=by
 subst am
 subst Y
 have ai:xs.length+a.length<=140737488355328:=Nat.le_trans (Nat.le_mul_of_pos_right _ X) Q
 have ah:((xs.length+a.length:Nat):Int)<=9223372036854775807:=by omega
 have K:∀ x∈xs++a,x.length=i.size/\∀ v∈x,v.oneCell'=true:=λx d=>by
  rcases List.mem_append.1 d with d|d
  ·exact s.1 x d
  ·exact I.1 x d
 have L:=b03 xs (λx d=>(s.1 x d).1)
 have q:=b03 a (λx d=>(I.1 x d).1)
 have ak:∀ u∈a.flatten,u.oneCell'=true:=λu ar=>by
  grind[List.mem_flatten]
 have Z:∀ f,grownCap w (xs.length+a.length) f e<=maxLen:=λf=>grownCap_le_maxLen w _ f e (by unfold maxLen;omega)
 have grown:∀ f,b06 h (H.set w.heap.size (.cells (xs.flatten.toArray++a.flatten.toArray++Builtin.zeroCells z.cells (grownCap w (xs.length+a.length) f e-(xs.length+a.length))) e (0,0)))
   (.slice (some ⟨w.heap.size,0,none⟩) (xs++a).length (grownCap w (xs.length+a.length) f e)) e i.size (nn || J03 a) (xs++a):=λf=>by
  have ae:=grownCap_ge w (xs.length+a.length) f e
  refine K0e al (l02 l) K (by simpa using ae) (Z f) ?_ ?_
  ·simp only[Array.size_append,List.size_toArray,L,q,size_zeroCells,an,←Nat.add_mul]
   congr 1;omega
  ·simp only[Array.toList_append,List.flatten_append,List.append_assoc,List.length_append]
   rw[←List.append_assoc,List.take_append_of_le_length (by grind),List.take_of_length_le (by grind)]
 have R:a = []->b06 h H v e i.size (nn || J03 a) (xs++a):=λG=>by grind[J03]
 have U:∀(x:Obj) b,v.ownBlock≠some b->H b≠none->(H.set w.heap.size x) b=H b:=λx b _ ao=>Hp.set_other _ _ (λe=>by grind[l02])
 rcases I.2 with⟨E,c,rfl,F⟩|⟨c,rfl,J⟩
 ·rcases s.2 with⟨rfl,rfl,rfl⟩|⟨g,cap,cur,rfl,ad,N,O,aa,ab,aq⟩
  ·by_cases hm:a.length=0
   ·have J:a = []:=List.eq_nil_of_length_eq_zero hm
    refine⟨_,w,H,?_,U2.refl l,R J,λ_ _ _=>rfl,λg B => .inl B,λ_=>rfl⟩
    simp[Builtin.append_,run_underlying n,sizeOf,typeInfo,m,Builtin.lenOf,Builtin.firstCells,loadCells,loadCellsFrom,hm]
   ·have A:=run_append_nil (P:=P) w t ty e i z n m T E a.length c a.flatten q F (by omega) (by simp at ai;omega) (by grind[V05])
    have p:=grown 0
    simp only[List.length_nil,Nat.zero_add,List.nil_append,List.flatten_nil]at p
    simp only[Array.empty_append]at p
    refine⟨_,_,_,A,U2.newD l _ rfl,by simpa using p,U _,λg B => .inr ?_,λe=>by grind⟩
    grind[Value.ownBlock,l02]
  ·have aj:∀ j u,xs.flatten[j]?=some u->w.cell? ((⟨g,0,none⟩:Addr).add j)=some u:=λj u af=>by
    rw[u01,Nat.zero_add]
    refine S05 l rfl ?_
    exact s.cells rfl j u af
   by_cases hroom:xs.length+a.length<=cap
   ·have S:=l _ _ N
    have ac:xs.length*i.size+a.flatten.length<=cur.size:=by rw[q,ab,←Nat.add_mul];exact Nat.mul_le_mul_right _ hroom
    have A:=run_append_room (P:=P) w t ty e i n m g xs.length cap cur S E a.length c a.flatten q F ak hroom ac
    refine⟨_,_,H.set g (.cells (cur.toList.take (xs.length*i.size)++a.flatten++cur.toList.drop (xs.length*i.size+a.flatten.length)).toArray e (0,0)),A,
     U2.upd l N (λ_=>rfl) rfl rfl rfl (by simp) (setRow_heap w g cur _ e _ S) (λk ag=>setRow_other w g k _ ag),?_,?_,λW M => .inl M,λG=>by simp[G]⟩
    ·refine⟨K,.inr ⟨g,cap,_,by simp,ad,Hp.set_same _ _ _,by simpa using hroom,aa,?_,?_⟩⟩
     ·grind
     grind[List.flatten_append,List.length_append,Nat.add_mul,List.take_of_length_le]
    grind[Hp.set_other,Value.ownBlock]
   ·have A:=run_append_grow (P:=P) w t ty e i z n m T ⟨g,0,none⟩ xs.length cap xs.flatten L aj E a.length c a.flatten q F (by omega) ah (growslice_fits (by omega) Q)
    have p:=grown cap
    refine⟨_,_,_,A,U2.newD l _ rfl,by simpa using p,U _,λW M => .inr ?_,λG=>by grind⟩
    grind[Value.ownBlock,l02]
 ·refine⟨v,w,H,?_,U2.refl l,R J,λ_ _ _=>rfl,λg B => .inl B,λ_=>rfl⟩
  rcases s.2 with⟨rfl,_⟩|⟨g,cap,cur,rfl,_,_,O,_⟩
  ·simp[Builtin.append_,run_underlying n,sizeOf,typeInfo,m,Builtin.lenOf,Builtin.firstCells]
  ·simp[Builtin.append_,run_underlying n,sizeOf,typeInfo,m,Builtin.lenOf,Builtin.firstCells,O,storeCells]
theorem o09(b:Nat):∀(vs:List Value) (o:Nat) (w:World) (cur:Array Value) (ty:TypeId) (a:Nat×Nat),w.heap[b]?=some (.cells cur ty a)->(w.setCells b o vs).heap[b]?=some (.cells (K3 cur.toList o vs).toArray ty a)
 | [],o,w,cur,ty,a,h=>by simp_all[World.setCells,K3]
 |v::r,o,w,cur,ty,a,h=>by
  have c:(w.setCell ⟨b,o,none⟩ v).heap[b]?=some (.cells (cur.setIfInBounds o v) ty a):=by simp[World.setCell,Array.getElem?_modify,h]
  have:=o09 b r (o+1) _ _ _ _ c
  simp_all[World.setCells,K3]
theorem P07(b:Nat):∀(vs:List Value) (o:Nat) (w:World) (k:Nat),k≠b->(w.setCells b o vs).heap[k]?=w.heap[k]?
 | [],o,w,k,h=>rfl
 |v::r,o,w,k,h=>by
  rw[World.setCells,P07 b r (o+1) _ k h]
  simp only[World.setCell,Array.getElem?_modify]
  rw[if_neg (λe=>h e.symm)]
theorem m0d(b:Nat):∀(vs:List Value) (o:Nat) (w:World),(w.setCells b o vs).drawn=w.drawn
 | [],o,w=>rfl
 |v::r,o,w=>by
  rw[World.setCells,m0d b r (o+1)]
  unfold World.setCell
  split<;>rfl
theorem p09(b:Nat):∀(vs:List Value) (o:Nat) (w:World),(w.setCells b o vs).os=w.os/\(w.setCells b o vs).tape=w.tape/\(w.setCells b o vs).output=w.output/\(w.setCells b o vs).heap.size=w.heap.size
 | [],o,w=>⟨rfl,rfl,rfl,rfl⟩
 |v::r,o,w=>by
  obtain⟨a,c,d,e⟩:=p09 b r (o+1) (w.setCell ⟨b,o,none⟩ v)
  grind[World.setCells,World.setCell]
theorem Q07:∀(a vs:List Value) (off j:Nat),off+a.length<=vs.length->(K3 vs off a)[j]?=if off<=j/\j<off+a.length then a[j-off]? else vs[j]?
 | [],vs,off,j,h=>by
  simp only[K3,List.length_nil,Nat.add_zero]
  rw[if_neg (by omega)]
 |n::a,vs,off,j,h=>by
  simp only[List.length_cons]at h
  rw[K3,Q07 a _ (off+1) j (by simp;omega)]
  grind
theorem M0i{t e ty sz by_:Nat}{i:TypeInfo}{z:Value}(F:P.underlying t=some (.slice e))(D:P.info? e=some i)(al:i.zero=some z)(ah:i.size=sz)(ax:0<sz)
  (V:i.bytes=by_) (U:0<by_) (am:z.cells.size=sz) {g o n c:Nat} {xs:List (List Value)} (T:w0e h sz (.slice (some ⟨g,o,none⟩) n c) xs) (l:Vis h w)
  {y:Value} {a:List (List Value)} (s:v0n w y sz a) (O:V05 (xs.length+a.length) by_) :
  ∃ Q R h',(Builtin.append_ #[t,t] ty #[.slice (some ⟨g,o,none⟩) n c,y]).run P w = .ok Q R/\U2 h w h' R/\B0i h h' sz g Q (xs++a):=by
 subst ah
 subst V
 have aw:xs.length+a.length<=140737488355328:=Nat.le_trans (Nat.le_mul_of_pos_right _ U) O
 have ab:((xs.length+a.length:Nat):Int)<=9223372036854775807:=by omega
 obtain⟨A,au,ay,ar,cur,m,S,N,K,L,q,C⟩:=T
 cases S
 have I:∀ x∈xs++a,x.length=i.size/\∀ v∈x,v.oneCell'=true:=λx f=>by
  rcases List.mem_append.1 f with f|f
  ·exact A x f
  ·exact s.1 x f
 have M:=b03 xs (λx f=>(A x f).1)
 have p:=b03 a (λx f=>(s.1 x f).1)
 have ae:∀ u∈a.flatten,u.oneCell'=true:=λu ai=>by
  obtain⟨x,f,aj⟩:=List.mem_flatten.1 ai
  exact(s.1 x f).2 u aj
 have af:a = []->B0i h h i.size g (.slice (some ⟨g,o,none⟩) xs.length c) (xs++a):=λac=>by
  subst ac
  rw[List.append_nil]
  exact⟨⟨A,g,o,c,cur,m,rfl,N,K,L,q,C⟩,g,o,_,c,rfl,.inl rfl,λ_ _=>rfl⟩
 have G:=l _ _ q
 rcases s.2 with⟨H,cc,rfl,J⟩|⟨cc,rfl,ak⟩
 ·by_cases hroom:xs.length+a.length<=c
  ·have W:o+xs.length*i.size+a.flatten.length<=cur.size:=by
    have:(xs.length+a.length)*i.size<=c*i.size:=Nat.mul_le_mul_right _ hroom
    rw[Nat.add_mul]at this
    rw[p]
    omega
   have Z:∀ j,j<a.flatten.length->(w.cell? ⟨g,o+xs.length*i.size+j,none⟩).isSome=true:=λj d=>by
    simp only[World.cell?,G]
    simp[show o+xs.length*i.size+j<cur.size by omega]
   have X:∀ j,j<a.flatten.length->w.frozen? ⟨g,o+xs.length*i.size+j,none⟩=false:=λj d=>by
    rw[H02 (o := .cells cur m (0,0)) G]
    simp[J01]
   have E:=run_append_room_cells (P:=P) w t ty e i F D g o xs.length c H a.length cc a.flatten p J ae hroom Z X
   have ag:=o09 g a.flatten (o+xs.length*i.size) w cur m (0,0) G
   obtain⟨an,ao,ap,aq⟩:=p09 g a.flatten (o+xs.length*i.size) w
   refine⟨_,_,h.set g (.cells (K3 cur.toList (o+xs.length*i.size) a.flatten).toArray m (0,0)),E,
    U2.upd l q (λ_=>rfl) an ao ap aq ag (λk aa=>P07 _ _ _ _ k aa) (Nat.le_of_eq (m0d _ _ _ _).symm),⟨I,g,o,c,_,m,by rw[List.length_append],by rw[List.length_append];exact hroom,K,?_,Hp.set_same _ _ _,λj u d=>?_⟩,g,o,_,c,rfl,.inl rfl,λb B=>Hp.set_other _ _ B⟩
   ·simpa [W8] using L
   ·rw[List.flatten_append]at d
    rw[List.getElem?_toArray,Q07 _ _ _ _ (by simpa using W)]
    by_cases hlt:j<xs.flatten.length
    ·rw[List.getElem?_append_left hlt]at d
     rw[if_neg (by omega),Array.getElem?_toList]
     exact C j u d
    ·rw[List.getElem?_append_right (by omega)]at d
     have av:=(List.getElem?_eq_some_iff.1 d).1
     rw[if_pos (by omega),show o+j-(o+xs.length*i.size)=j-xs.flatten.length by omega]
     exact d
  ·have ad:∀ j u,xs.flatten[j]?=some u->w.cell? ((⟨g,o,none⟩:Addr).add j)=some u:=λj u d=>by
    rw[u01]
    refine S05 l rfl ?_
    simp only[Hp.cell,q]
    exact C j u d
   have E:=run_append_grow (P:=P) w t ty e i z F D al ⟨g,o,none⟩ xs.length c xs.flatten M ad H a.length cc a.flatten p J (by omega) ab (growslice_fits (by omega) O)
   have Y:=grownCap_ge w (xs.length+a.length) c e
   refine⟨_,_,_,E,U2.newD l _ rfl,⟨I,w.heap.size,0,grownCap w (xs.length+a.length) c e,_,e,by rw[List.length_append],by rw[List.length_append];exact Y,grownCap_le_maxLen w _ c e (by unfold maxLen;omega),?_,Hp.set_same _ _ _,λj u d=>?_⟩,w.heap.size,0,_,_,rfl,.inr (l02 l),λb B=>Hp.set_other _ _ B⟩
   ·simp only[Array.size_append,List.size_toArray,M,p,size_zeroCells,am,←Nat.add_mul,Nat.zero_add]
    refine Nat.le_of_eq ?_
    congr 1;omega
   ·rw[List.flatten_append]at d
    rw[Nat.zero_add,←Array.getElem?_toList]
    simp only[Array.toList_append]
    rw[List.getElem?_append_left (by simpa using (List.getElem?_eq_some_iff.1 d).1)]
    exact d
 ·refine⟨_,w,h,?_,U2.refl l,af ak⟩
  simp[Builtin.append_,run_underlying F,sizeOf,typeInfo,D,Builtin.lenOf,Builtin.firstCells,N,storeCells]
theorem N0i{t e ty sz by_:Nat}{i:TypeInfo}{z:Value}(G:P.underlying t=some (.slice e))(D:P.info? e=some i)(I:i.zero=some z)(F:i.size=sz)(_:0<sz)
  (A:i.bytes=by_) (v:0<by_) (J:z.cells.size=sz) (n:Vis h w)
  {y:Value} {a:List (List Value)} (d:v0n w y sz a) (l:J03 a=true) (m:V05 a.length by_) :
  ∃ o p h',(Builtin.append_ #[t,t] ty #[.slice none 0 0,y]).run P w = .ok o p/\U2 h w h' p/\g0m h h' sz o a:=by
 subst F
 subst A
 have K:a.length<=140737488355328:=Nat.le_trans (Nat.le_mul_of_pos_right _ v) m
 have g:=b03 a (λx H=>(d.1 x H).1)
 rcases d.2 with⟨q,c,rfl,B⟩|⟨c,rfl,f⟩
 ·by_cases hm:a.length=0
  ·have f:a = []:=List.eq_nil_of_length_eq_zero hm
   subst f;cases l
  ·have E:=run_append_nil (P:=P) w t ty e i z G D I q a.length c a.flatten g B (by omega) (by omega) (Nat.le_trans m (by decide))
   have C:=grownCap_ge w a.length 0 e
   refine⟨_,_,_,E,U2.newD n _ rfl,⟨d.1,w.heap.size,0,grownCap w a.length 0 e,_,e,rfl,C,grownCap_le_maxLen w _ 0 e (by unfold maxLen;omega),?_,Hp.set_same _ _ _,λj u k=>?_⟩,w.heap.size,0,_,_,rfl,l02 n,λb s=>Hp.set_other _ _ s⟩
   ·simp only[Array.size_append,List.size_toArray,g,size_zeroCells,J,←Nat.add_mul,Nat.zero_add]
    refine Nat.le_of_eq ?_
    congr 1;omega
   ·rw[Nat.zero_add,←Array.getElem?_toList]
    simp only[Array.toList_append]
    rw[List.getElem?_append_left (by simpa using (List.getElem?_eq_some_iff.1 k).1)]
    exact k
 ·subst f;cases l
theorem I09{e sz by_:Nat}{z:Value}(a:W5 P e=some sz)(b:F09 P e=some by_)(c:K00 P e=some z):∃ i,P.info? e=some i/\i.size=sz/\i.bytes=by_/\i.zero=some z:=by
 grind[W5,F09,K00]
theorem J04(m:Sim P h0 w0 be oe H st h a w){sz:Nat}(N:0<sz){b:Operand}{K:List (List Value)->Prop}(d:v0e st h sz (rdO st b) K):∃ e,K e/\v0n w (a.eval b) sz e:=by
 have g:=m.rdO b
 unfold v0e at d
 split at d
 ·rename_i j k l
  obtain⟨L,R,J,Q,G,p⟩:=G06 l
  rw[l]at g
  simp only[p]at d
  split at d
  ·rename_i A
   have D:=Nat.eq_of_beq_eq_true A
   subst D
   refine⟨G,d,?_⟩
   have q:=m.own j _ _ _ _ _ _ p
   rw[g.own_cur p]
   refine⟨q.1,?_⟩
   rcases q.2 with⟨f,i,_⟩|⟨z,cap,cur,f,i,s,_⟩
   ·grind
   ·refine .inl ⟨⟨z,0,none⟩,cap,f,λj u o=>?_⟩
    rw[u01,Nat.zero_add]
    exact S05 m.mv.vis rfl (q.cells f j u o)
  ·exact d.elim
 ·rename_i v l
  rw[l]at g
  obtain⟨e,C,B⟩:=d
  refine⟨e,B,?_⟩
  have E:a.eval b=v:=g
  rw[E]
  obtain⟨f,x,n,c,rfl,rfl,M,i⟩:=C
  refine⟨f,?_⟩
  rcases i with i|⟨t,F,rfl,s⟩
  ·cases x with
   |none =>
    have O:e = []:=by
     cases e with
     |nil=>rfl
     |cons y r =>
      simp_all
    grind
   |some I=>grind
  ·refine .inl ⟨⟨t,F,none⟩,c,rfl,λj u o=>?_⟩
   rw[u01]
   exact S05 (N07 m) rfl (s j u o)
 ·exact d.elim
theorem L02{t:TypeId}{p q:Operand}{as:Array Operand}{ts:Array TypeId}(e:o.op = .call { callee := .builtin .append,args:=as,argTypes:=ts })(d:as = #[p,q])(g:ts = #[t,t])
  {b:Value} {c:World} (f:(Builtin.append_ #[t,t] o.type #[a.eval p,a.eval q]).run P w = .ok b c):(execOp a.eval o).run P w = .ok (.value b) c:=by
 subst d;subst g
 unfold execOp;rw[e]
 simp only[resolve,invoke,builtin,Sem.run_bind,Sem.run_pure,Result.andThen_ok,List.map_toArray,List.map_cons,List.map_nil,f]
theorem L0o(d:Sim P h0 w0 be oe H st h a w){t:TypeId}{p q:Operand}{as:Array Operand}{ts:Array TypeId}(F:o.op = .call { callee := .builtin .append,args:=as,argTypes:=ts })
  (C:as = #[p,q]) (I:ts = #[t,t]) (c:x0e P t p q st h K):o.wp P a w (Nx P h0 w0 st be oe K a o.dst) Q:=by
 unfold x0e at c
 split at c
 rotate_left
 ·exact c.elim
 rename_i e aj
 split at c
 rotate_left
 ·exact c.elim
 rename_i sz by_ z ah D ak
 split at c
 rotate_left
 ·exact c.elim
 rename_i al
 obtain⟨i,E,L,M,N⟩:=I09 ah D ak
 have G:=p9 aj
 have J:z.cells.size=sz+1:=by simpa using x02 _ _ al
 have g:=d.rdO p
 split at c
 ·rename_i j k y
  obtain⟨ap,au,ao,ar,av,A⟩:=G06 y
  rw[y]at g
  simp only[A]at c
  split at c
  ·rename_i aa ab aq
   have ac:=Nat.eq_of_beq_eq_true aa
   have ai:=Nat.eq_of_beq_eq_true ab
   subst ac
   subst ai
   obtain⟨W,⟨u,l⟩,v⟩:=J04 d (Nat.succ_pos sz) c
   have ag:=d.own j _ _ _ _ _ _ A
   obtain⟨m,V,O,f,s,B,T,U,_⟩:=l0d (ty:=o.type) G E N L (Nat.succ_pos _) M (Nat.succ_pos _) J ag d.mv.vis d.sub v u
   obtain⟨x,R⟩:=d.updOwn (s1:=k+1) (by_:=by_+1) A (Nat.le_succ _) (λe=>absurd e (Nat.succ_ne_self k)) s T B U
   rw[←g.own_cur A]at f
   refine E7 (L02 F C I f) ⟨_,_,h,m,_,_,_,l,rfl,x,?_,R⟩
   refine⟨k+1,?_,Nat.le_refl _,λ_=>by simp⟩
   simp[stamp,o7 _ _ _ (K01 A)]
  ·exact c.elim
 ·rename_i y
  rw[y]at g
  rcases c with c|c
  rotate_left
  ·obtain⟨W,⟨⟨ad,u⟩,l⟩,v⟩:=J04 d (Nat.succ_pos sz) c
   obtain⟨m,V,h',f,s,S⟩:=N0i (ty:=o.type) G E N L (Nat.succ_pos _) M (Nat.succ_pos _) J (N07 d) v ad u
   have n:a.eval p = .slice none 0 0:=g
   rw[←n]at f
   obtain⟨O,x⟩:=d.moved s
   exact E7 (L02 F C I f) ⟨_,_,_,m,_,_,_,l _ _ S,rfl,x,rfl,Q6.refl _ _ _⟩
  obtain⟨W,⟨u,l⟩,v⟩:=J04 d (Nat.succ_pos sz) c
  have af:b06 h H (.slice none 0 0) e (sz+1) false []:=⟨by simp,.inl ⟨rfl,rfl,rfl⟩⟩
  obtain⟨m,V,O,f,s,B,T,U,_⟩:=l0d (ty:=o.type) G E N L (Nat.succ_pos _) M (Nat.succ_pos _) J af d.mv.vis d.sub v (by simpa using u)
  simp only[Bool.false_or,List.nil_append]at B
  have ae:∀ g,m.ownBlock=some g->H g=none:=λg n=>(U g n).resolve_left (by simp[Value.ownBlock])
  rw[R0b]at l
  obtain⟨x,R⟩:=d.newOwn (by_:=by_+1) (λb o D=>by rw[T b (by simp[Value.ownBlock]) (by rw[D];simp)];exact D) s B ae
  have n:a.eval p = .slice none 0 0:=g
  rw[←n]at f
  refine E7 (L02 F C I f) ⟨_,_,h,m,_,_,_,l,rfl,x,?_,R⟩
  refine⟨0,?_,Nat.le_refl _,λ_=>by simp⟩
  simp[stamp,k02]
 ·rename_i Y an am X y
  rw[y]at g
  obtain⟨W,⟨xs,Z,u,l⟩,v⟩:=J04 d (Nat.succ_pos sz) c
  obtain⟨m,V,h',f,s,S⟩:=M0i (ty:=o.type) G E N L (Nat.succ_pos _) M (Nat.succ_pos _) J Z (N07 d) v u
  have n:a.eval p = .slice (some ⟨Y,an,none⟩) am X:=g
  rw[←n]at f
  obtain⟨O,x⟩:=d.moved s
  exact E7 (L02 F C I f) ⟨_,_,_,m,_,_,_,l _ _ S,rfl,x,rfl,Q6.refl _ _ _⟩
 ·exact c.elim
end
set_option linter.unusedSimpArgs false
section
variable {P:Program} {h0:Hp} {w0:World} {be:Nat->Nat} {oe:Nat->Value} {H:Hp} {st:St} {h:Hp} {a:Act} {w:World} {o:Oper} {K:AV->St->Hp->Prop} {Q:Exit->Act->World->Prop}
theorem J06:∀(a cs:List Value) (off:Nat),off+a.length<=cs.length->K3 cs off a=cs.take off++a++cs.drop (off+a.length)
 | [],cs,off,_=>by simp[K3]
 |n::a,cs,off,c=>by
  simp only[List.length_cons]at c
  rw[K3,J06 a (cs.set off n) (off+1) (by simp;omega)]
  rw[List.take_set,List.drop_set_of_lt (by omega)]
  have b:(cs.take (off+1)).set off n=cs.take off ++ [n]:=by
   rw[List.take_succ_eq_append_getElem (by omega),List.set_append_right _ _ (by simp;omega)]
   have:off-(cs.take off).length=0:=by simp;omega
   rw[this]
   simp
  rw[b]
  simp only[List.length_cons,List.append_assoc,List.cons_append,List.nil_append]
  rw[show off+1+a.length=off+(a.length+1) from by omega]
theorem E0a(off:Nat):∀(l:List Value) (k:Nat) (a:Array Value),((l.zipIdx k).foldl (λcs p=>cs.setIfInBounds (off+p.2) p.1) a).toList=K3 a.toList (off+k) l
 | [],k,a=>rfl
 |x::l,k,a=>by
  simp only[List.zipIdx_cons,List.foldl_cons,K3]
  rw[E0a off l (k+1)]
  simp[Nat.add_assoc]
theorem L0e(v:Value)(off:Nat)(a:Array Value):(v.cells.zipIdx.foldl (λcs (p:Value×Nat)=>cs.setIfInBounds (off+p.2) p.1) a).toList=K3 a.toList off v.cells.toList:=by
 rw[←Array.foldl_toList,Array.toList_zipIdx]
 simp_all[E0a]
def D08(a:Act)(sz:Nat):Nat->List (Nat×Operand)->List (List Value)->Prop
 |_,[],[]=>True
 |i,(j,x)::r,c::cs=>j=i/\c=(a.eval x).cells.toList/\c.length=sz/\(∀ v∈c,v.oneCell'=true)/\D08 a sz (i+1) r cs
 |_,_,_=>False
theorem D08.all{sz:Nat}:∀ {i:Nat} {l:List (Nat×Operand)} {xs:List (List Value)},D08 a sz i l xs->(∀ x∈xs,x.length=sz/\∀ v∈x,v.oneCell'=true)/\l.length=xs.length
 |_,[],[],_=>by simp
 |i,(j,x)::r,c::cs,h=>by
  have d:=D08.all h.2.2.2.2
  refine⟨λy b=>?_,by simp[d.2]⟩
  rcases List.mem_cons.1 b with rfl|b
  ·exact⟨h.2.2.1,h.2.2.2.1⟩
  ·exact d.1 y b
 |_,[],_::_,h=>h.elim
 |_,_::_,[],h=>h.elim
theorem M0e{sz:Nat}:∀(l:List (Nat×Operand)) (xs:List (List Value)) (i:Nat) (b:Array Value),D08 a sz i l xs->(i+l.length)*sz<=b.size ->
  ∃ d,Instr.fill (λi=>some (i*sz,sz)) b (l.map λp=>(p.1,a.eval p.2))=some d/\d.toList=b.toList.take (i*sz)++xs.flatten++b.toList.drop ((i+l.length)*sz)
 | [],[],i,b,_,e=>⟨b,rfl,by simp⟩
 |(j,x)::r,c::cs,i,b,h,e=>by
  obtain⟨rfl,g,k,_,o⟩:=h
  have s:(a.eval x).cells.size=sz:=by rw[←k,g];simp
  have y:j*sz+sz<=b.size:=by
   refine Nat.le_trans ?_ e
   simp only[List.length_cons]
   grind
  have f:=L0e (a.eval x) (j*sz) b
  rw[←g]at f
  have q:=J06 c b.toList (j*sz) (by grind)
  have t:((a.eval x).cells.zipIdx.foldl (λcs (p:Value×Nat)=>cs.setIfInBounds (j*sz+p.2) p.1) b).size=b.size:=by
   grind[Array.length_toList,W8]
  obtain⟨d,w,m⟩:=M0e r cs (j+1) ((a.eval x).cells.zipIdx.foldl (λcs (p:Value×Nat)=>cs.setIfInBounds (j*sz+p.2) p.1) b) o (by
   rw[t];simp only[List.length_cons]at e;grind)
  refine⟨d,?_,?_⟩
  ·simp only[List.map_cons,Instr.fill,s,ne_eq,not_true_eq_false,decide_false,Bool.false_or,decide_eq_true_eq]
   grind
  ·rw[m,f,q,k]
   have u:(b.toList.take (j*sz)++c++b.toList.drop (j*sz+sz)).take ((j+1)*sz)=b.toList.take (j*sz)++c:=by
    rw[List.take_append_of_le_length,List.take_of_length_le]
    all_goals grind
   have v:(b.toList.take (j*sz)++c++b.toList.drop (j*sz+sz)).drop ((j+1+r.length)*sz)=b.toList.drop ((j+(r.length+1))*sz):=by
    have n:(b.toList.take (j*sz)++c).length=j*sz+sz:=by grind
    rw[List.drop_append,List.drop_eq_nil_of_le (by grind),n,List.nil_append,List.drop_drop]
    congr 1
    simp only[Nat.add_mul]
    omega
   grind
 | [],_::_,_,_,h,_=>h.elim
 |_::_,[],_,_,h,_=>h.elim
theorem n0d{sz:Nat}:∀(l:List (Nat×Operand)) (i:Nat) {st:St} {h:Hp} {K:List (List Value)->St->Hp->Prop},Sim P h0 w0 be oe H st h a w->R0j sz i l st h K ->
  ∃ xs st' h',K xs st' h'/\Sim P h0 w0 be oe H st' h' a w/\Q6 st be oe st' be oe/\D08 a sz i l xs
 | [],i,st,h,K,c,b=>⟨[],st,h,b,c,Q6.refl _ _ _,trivial⟩
 |(j,x)::r,i,st,h,K,c,b=>by
  simp only[R0j]at b
  split at b
  ·rename_i m
   have n:=Nat.eq_of_beq_eq_true m
   obtain⟨u,t,d,s1,f⟩:=K02 c (c.rdO x) b
   split at d
   ·rename_i o p
    obtain⟨xs,s,k,e,s2,g,q⟩:=n0d r (i+1) s1 d
    exact⟨_,s,k,e,s2,f.trans g,n.symm,rfl,x02 _ _ o,L03 _ p,q⟩
   ·exact d.elim
  ·exact b.elim
theorem K0g(U:Sim P h0 w0 be oe H st h a w){t n:Nat}{c:Array (Nat×Operand)}{e sz by_:Nat}{z:Value}(L:o.op = .buildSlice t n c)(O:V00 P t=some e)(N:W5 P e=some (sz+1))
  (S:K00 P e=some z) (Z:Nat.beq n c.size=true) (F:Nat.ble (n*(sz+1)) 16777216=true)
  (D:R0j (sz+1) 0 c.toList st h λxs st h=>newOwn st e (sz+1) by_ true xs λav st=>K av st h):o.wp P a w (Nx P h0 w0 st be oe K a o.dst) Q:=by
 obtain⟨xs,ab,B,q,s1,v,T⟩:=n0d _ _ U D
 obtain⟨C,X⟩:=T.all
 have k:n=xs.length:=by simp_all
 have G:=Nat.le_of_ble_eq_true F
 have R:wpS P (execOp a.eval o) H (λu m=>∃ b d,H b=none/\u = .value (.slice (some ⟨b,0,none⟩) xs.length xs.length)/\m=H.set b (.cells d e (0,0))/\d.toList=xs.flatten/\d.size=xs.length*(sz+1)):=by
  unfold execOp;rw[L]
  refine W7 _ _ _ ?_
  have s:∀ d:Array Value,d.size=xs.length*(sz+1)->∃ f,Instr.fill (λi=>some (i*(sz+1),sz+1)) d (c.toList.map λp=>(p.1,a.eval p.2))=some f/\f.toList=xs.flatten/\f.size=xs.length*(sz+1):=by
   grind[M0e,Array.length_toList,b03]
  have E : ¬ (n*(sz+1)>2 ^ 24):=Nat.not_lt.2 G
  simp only[Instr.buildSlice,O2,Z5 (p9 O),Z00 N,if_neg E,D3]
  have Y:(c.map λx=>(x.1,a.eval x.2)).toList=c.toList.map λp=>(p.1,a.eval p.2):=by simp
  by_cases h00:n*(sz+1)=0
  ·simp only[if_pos h00,D3]
   obtain⟨f,l,f2,f3⟩:=s ((Array.range (n*(sz+1))).map λi=>(#[]:Array Value)[i % (#[]:Array Value).size]!) (by simp[k])
   rw[show(Array.map (λx=>(x.1,a.eval x.2)) c).toList=c.toList.map λp=>(p.1,a.eval p.2) from by simp]
   simp only[l,O2,newRow,newObj,wpS,D3]
   exact λb j=>⟨b,f,j,by rw[k],rfl,f2,f3⟩
  ·simp only[if_neg h00,O2,D0a S,D3]
   obtain⟨f,l,f2,f3⟩:=s ((Array.range (n*(sz+1))).map λi=>z.cells[i % z.cells.size]!) (by simp[k])
   rw[show(Array.map (λx=>(x.1,a.eval x.2)) c).toList=c.toList.map λp=>(p.1,a.eval p.2) from by simp]
   simp only[l,O2,newRow,newObj,wpS,D3]
   exact λb j=>⟨b,f,j,by rw[k],rfl,f2,f3⟩
 obtain⟨u,m,ac,M,⟨b,d,j,rfl,rfl,f2,f3⟩,J⟩:=G9 _ _ _ s1.mv.vis R
 have I:xs.length<=maxLen:=by
  have:xs.length<=xs.length*(sz+1):=Nat.le_mul_of_pos_right _ (Nat.succ_pos _)
  grind[maxLen]
 rw[R0b]at q
 obtain⟨V,A⟩:=s1.newOwn (nn:=true) (by_:=by_) (λx y aa=>by grind[Hp.set_other]) J
  (K0e s1.sub j C (Nat.le_refl _) I f3 (by rw[f2,List.take_of_length_le (by grind)])) (λg W=>by grind[Value.ownBlock])
 refine E7 M ⟨_,_,B,_,_,_,_,q,rfl,V,?_,v.trans A⟩
 refine⟨0,?_,Nat.le_refl _,λ_=>by simp⟩
 simp[stamp,k02]
theorem K04{sz:Nat}(b:List Value)(c:b.length=sz)(d:0<sz):∀(l j:Nat),j<l*sz->(List.replicate l b).flatten[j]?=b[j % sz]?
 |0,j,h=>by simp at h
 |l+1,j,h=>by
  simp only[List.replicate_succ,List.flatten_cons]
  have h':j<l*sz+sz:=by grind
  by_cases hj:j<sz
  ·rw[List.getElem?_append_left (by omega),Nat.mod_eq_of_lt hj]
  ·rw[List.getElem?_append_right (by omega),c,K04 b c d l (j-sz) (by omega),←Nat.mod_eq_sub_mod (a:=j) (by omega)]
theorem M0o{sz:Nat}(z:Value)(b:z.cells.toList.length=sz)(c:0<sz)(l n:Nat)(e:l*sz<=n):(madeCells z.cells n).toList.take (l*sz)=(List.replicate l z.cells.toList).flatten:=by
 have d:z.cells.size=sz:=by simpa using b
 apply List.ext_getElem?
 intro j
 rw[List.getElem?_take]
 by_cases hj:j<l*sz
 ·rw[if_pos hj,K04 _ b c l j hj]
  have a:j % sz<z.cells.size:=by simp_all[Nat.mod_lt]
  simp only[madeCells,d,Array.toList_map,Array.toList_range,List.getElem?_map,List.getElem?_range (show j<n from by omega),Option.map_some,Array.getElem?_toList,Array.getElem?_eq_getElem a]
  congr 1
  simp[a]
 ·rw[if_neg hj]
  simp_all
theorem O0i(f:Sim P h0 w0 be oe H st h a w){t e sz by_:Nat}{l c:Operand}{z:Value}{m k:IntKind}{d b:Int}(Y:o.op = .makeSlice t l c)(O:V00 P t=some e)
  (N:W5 P e=some (sz+1)) (D:F09 P e=some by_) (R:K00 P e=some z) (I:rdO st l = .val (.int m d)) (F:rdO st c = .val (.int k b))
  (S:D06 z.cells.toList (sz+1)=true) (Z:z04 z.cells.toList=true) (E:0<=d/\d<=b/\b*by_<=140737488355328/\b<=9223372036854775807)
  (p:newOwn st e (sz+1) by_ true (List.replicate d.toNat z.cells.toList) λav st=>K av st h):o.wp P a w (Nx P h0 w0 st be oe K a o.dst) Q:=by
 obtain⟨i,G,u,ab,T⟩:=I09 N D R
 have X:a.eval l = .int m d:=by have:=f.rdO l;rw[I]at this;exact this
 have W:a.eval c = .int k b:=by have:=f.rdO c;rw[F]at this;exact this
 obtain⟨v,A,V,B⟩:=E
 have J:=x02 _ _ S
 have aa:=run_make (P:=P) w t e i z (p9 O) G T m k d b v A (by grind) B
 have M:(execOp a.eval o).run P w = .ok (.value (.slice (some ⟨w.heap.size,0,none⟩) d.toNat b.toNat)) (w.alloc (.cells (madeCells z.cells (b.toNat*i.size)) e)):=by
  simp_all[execOp,Sem.run_bind,Result.andThen_ok,Sem.run_pure]
 have L:U2 H w (H.set w.heap.size (.cells (madeCells z.cells (b.toNat*i.size)) e (0,0))) (w.alloc (.cells (madeCells z.cells (b.toNat*i.size)) e)):=U2.new f.mv.vis _ rfl
 have q:(List.replicate d.toNat z.cells.toList).length=d.toNat:=by simp
 have n:=K0e (h:=h) (H:=H) (e:=e) (sz:=sz+1) (nn:=true) (cap:=b.toNat) (xs:=List.replicate d.toNat z.cells.toList) (cur:=madeCells z.cells (b.toNat*i.size)) f.sub (l02 f.mv.vis)
  (λx j=>by grind[L03]) (by simp;omega) (by unfold maxLen;omega) (by rw[size_madeCells,u])
  (by rw[q,u];exact M0o z J (Nat.succ_pos _) _ _ (Nat.mul_le_mul_right _ (by omega)))
 rw[q]at n
 rw[R0b]at p
 obtain⟨U,C⟩:=f.newOwn (by_:=by_) (λx y j=>by rw[Hp.set_other _ _ (λe=>by subst e;rw[l02 f.mv.vis]at j;cases j)];exact j) L n
  (λg s=>by simp[Value.ownBlock]at s;rw[←s];exact l02 f.mv.vis)
 refine E7 M ⟨_,_,h,_,_,_,_,p,rfl,U,?_,C⟩
 refine⟨0,?_,Nat.le_refl _,λ_=>by simp⟩
 simp[stamp,k02]
end
section
variable {P:Program} {h0:Hp} {w0:World} {be:Nat->Nat} {oe:Nat->Value} {H:Hp} {st:St} {h:Hp} {a:Act} {w:World} {o:Oper} {K:AV->St->Hp->Prop} {Q:Exit->Act->World->Prop}
theorem P0i(l:Sim P h0 w0 be oe H st h a w){t:TypeId}{x i:Operand}(z:o.op = .indexAddr t x i)
  (d:match rdO st i with
  | .val (.int _ j)=>match V00 P t with
   |some e=>match W5 P e with
    |some sz=>match rdO st x with
     | .val (.slice a n c)=>InB (.slice a n c) j/\K (.hel (.slice a n c) j sz 0) st h
     | .own i k=>match nth st.ow i with
      |some ⟨_,.live _ M _ _ xs⟩=>match Nat.beq M sz with
       |true=>(0<=j/\j<(xs.length:Int))/\K (.oel i k j sz 0) st h
       |false=>False
      |_=>False
     |_=>False
    |none=>False
   |none=>match rdO st x,I0p P t j with
    | .box i off,some m=>K (.box i (off+m)) st h
    | .hel l i sz k,some m=>K (.hel l i sz (k+m)) st h
    | .oel i l j sz k,some m=>K (.oel i l j sz (k+m)) st h
    |_,_=>False
  |_=>False):o.wp P a w (Nx P h0 w0 st be oe K a o.dst) Q:=by
 have gi:=l.rdO i
 have f:=l.rdO x
 split at d
 rotate_left
 ·exact d.elim
 rename_i k j T
 rw[T]at gi
 split at d
 rotate_left
 ·split at d
  ·rename_i p off m q y
   rw[q]at f
   exact O6 l (av := .box p (off+m)) (H06 z y f.2 gi) ⟨f.1,rfl⟩ d
  ·rename_i sl p sz F m q y
   rw[q]at f
   obtain⟨b,X,n,c,v,D⟩:=f
   refine O6 l (av := .hel sl p sz (F+m)) (H06 z y D gi) ⟨b,X,n,c,v,?_⟩ d
   simp[Nat.add_assoc]
  ·rename_i p Y W sz F m q y
   rw[q]at f
   obtain⟨e,M,by_,nn,xs,s⟩:=J0i q
   obtain⟨R,n,c,v,D⟩:=f.oel_cur s
   obtain⟨aa,N,O,af⟩:=f
   refine O6 l (av := .oel p Y W sz (F+m)) (H06 z y D gi) ⟨aa,N,O,λ_=>⟨R,n,c,v,by simp[Nat.add_assoc]⟩⟩ d
  ·exact d.elim
 rename_i e I
 split at d
 rotate_left
 ·exact d.elim
 rename_i sz G
 split at d
 ·rename_i ab n c A
  rw[A]at f
  obtain⟨⟨b,off,ag,ad,v,C,u⟩,E⟩:=d
  cases v
  exact O6 l (av := .hel _ j sz 0) (exec_indexAddr z I G f gi C u) ⟨b,off,n,c,rfl,by simp⟩ E
 ·rename_i p L A
  obtain⟨ae,Z,ac,ah,xs,s⟩:=G06 A
  rw[A]at f
  simp only[s]at d
  split at d
  ·rename_i S
   have V:=Nat.eq_of_beq_eq_true S
   subst V
   obtain⟨⟨C,u⟩,E⟩:=d
   have U:=l.own p _ _ _ _ _ _ s
   rcases U.2 with⟨_,B,_⟩|⟨g,cap,cur,J,_⟩
   ·rw[B]at u;simp at u;omega
   ·have B:=f.own_cur s
    rw[J]at B
    refine O6 l (av := .oel p L j Z 0) (exec_indexAddr z I G B gi C u) ⟨L,by simp[stamp,s],Nat.le_refl _,λ_=>⟨g,xs.length,cap,J,by simp⟩⟩ E
  ·exact d.elim
 ·exact d.elim
theorem E08{sz:Nat}:∀(xs:List (List Value)) (k:Nat),(∀ x∈xs,x.length=sz)->(xs.take k).flatten=xs.flatten.take (k*sz)
 | [],k,_=>by simp
 |x::xs,0,_=>by simp
 |x::xs,k+1,a=>by
  have b:=a x mS
  simp only[List.take_succ_cons,List.flatten_cons]
  rw[E08 xs k (λy c=>a y (mC _ c)),List.take_append (l₁:=x),List.take_of_length_le (l:=x) (by grind),b,Nat.add_mul,Nat.one_mul,Nat.add_sub_cancel]
theorem d0h{sz:Nat}:∀(xs:List (List Value)) (k:Nat),(∀ x∈xs,x.length=sz)->(xs.drop k).flatten=xs.flatten.drop (k*sz)
 | [],k,_=>by simp
 |x::xs,0,_=>by simp
 |x::xs,k+1,a=>by
  have b:=a x mS
  simp only[List.drop_succ_cons,List.flatten_cons]
  rw[d0h xs k (λy c=>a y (mC _ c)),List.drop_append (l₁:=x),List.drop_of_length_le (l:=x) (by grind),b,Nat.add_mul,Nat.one_mul,Nat.add_sub_cancel,List.nil_append]
def L04(a:Act)(d:Int)(x:Option Operand)(l:Int):Prop:=match x with
 |none=>l=d
 |some y=>∃ k,a.eval y = .int k l
theorem K06(c:Sim P h0 w0 be oe H st h a w){d l:Int}{x:Option Operand}(b:k05 d (x.map (rdO st))=some l):L04 a d x l:=by
 cases x with
 |none=>simp only[Option.map_none,k05,Option.some.injEq]at b;exact b.symm
 |some y =>
  have g:=c.rdO y
  simp only[Option.map_some]at b
  cases hr:rdO st y with
  |val v =>
   rw[hr]at b g
   cases v<;>simp only[k05,Option.some.injEq]at b<;>first|(subst b;exact⟨_,g⟩)|cases b
  |_=>rw[hr]at b;cases b
theorem F08{x:Value}{k:IntKind}{i:Int}{y:Nat}{b:BoundsCode}(e:x = .int k i)(c:0<=i)(d:i<=(y:Int))(a:Nat->Hp->Prop):wpS P (Instr.sliceBound x y b) H a=a i.toNat H:=by
 subst e
 simp only[Instr.sliceBound,asIntOf,O2,D3,c,d,and_self,if_true]
theorem N0e{isS:Bool}{n c:Nat}{f b:Option Operand}{l m:Int}(i:L04 a 0 f l)(d:L04 a n b m)(h:0<=l)(s:l<=m)(t:m<=(n:Int))(u:n<=c)
  (g:Nat×Nat×Nat->Hp->Prop):wpS P (Instr.sliceBounds isS n c (f.map a.eval) (b.map a.eval) none) H g=g (l.toNat,m.toNat,c) H:=by
 have q:l<=(m.toNat:Int):=by omega
 cases f with
 |none =>
  have p:l=0:=i
  subst p
  cases b with
  |none =>
   have j:m=(n:Int):=d
   simp_all[Instr.sliceBounds,Option.map_none,O2,D3]
  |some y =>
   obtain⟨k,e⟩:=d
   simp only[Instr.sliceBounds,Option.map_none,Option.map_some,O2,D3,F08 e (by omega) (show m<=(c:Int) by omega)];rfl
 |some x =>
  obtain⟨k,o⟩:=i
  cases b with
  |none =>
   have j:m=(n:Int):=d
   subst j
   simp only[Instr.sliceBounds,Option.map_none,Option.map_some,O2,D3,F08 o h (show l<=((n:Nat):Int) by omega)];rfl
  |some y =>
   obtain⟨v,e⟩:=d
   simp only[Instr.sliceBounds,Option.map_some,O2,D3,F08 e (by omega) (show m<=(c:Int) by omega),F08 o h q]
theorem exec_slice{t e sz:Nat}{x:Operand}{g f:Option Operand}{d:Option Addr}{n c:Nat}{l m:Int}(s:o.op = .slice t x g f none)(u:V00 P t=some e)(y:W5 P e=some sz)
  (v:a.eval x = .slice d n c) (k:L04 a 0 g l) (p:L04 a n f m) (h:0<=l) (i:l<=m) (j:m<=(n:Int)) (q:n<=c) :
  ∀ b:Next->Hp->Prop,b (.value (.slice (if c=l.toNat then d else d.map (·.add (l.toNat*sz))) (m.toNat-l.toNat) (c-l.toNat))) H->wpS P (execOp a.eval o) H b:=by
 intro b w
 unfold execOp;rw[s]
 refine W7 _ _ _ ?_
 simp only[Instr.sliceAt,O2,Z5 (p9 u),Instr.slice,v,Option.map_none]
 rw[N0e k p h i j q]
 grind[Z00,D3]
theorem N0o(k:Sim P h0 w0 be oe H st h a w){t e sz:Nat}{x:Operand}{A z:Option Operand}{d:Option Addr}{n c:Nat}(O:o.op = .slice t x A z none)(T:V00 P t=some e)(S:W5 P e=some sz)
  (R:rdO st x = .val (.slice d n c)) (g:i0m sz (.slice d n c) n (A.map (rdO st)) (z.map (rdO st)) st h K):o.wp P a w (Nx P h0 w0 st be oe K a o.dst) Q:=by
 have s:=k.rdO x
 rw[R]at s
 unfold i0m at g
 split at g
 rotate_left
 ·exact g.elim
 rename_i l m I L
 obtain⟨⟨B,C,D⟩,xs,E,G⟩:=g
 obtain⟨f,U,Z,V,q,Y,M,u⟩:=E
 cases q
 have J:((xs.take m.toNat).drop l.toNat).length=m.toNat-l.toNat:=by simp;omega
 have N:SlE h sz (.slice (if c=l.toNat then d else d.map (·.add (l.toNat*sz))) (m.toNat-l.toNat) (c-l.toNat)) ((xs.take m.toNat).drop l.toNat):=by
  refine⟨λy p=>f y (List.mem_of_mem_take (List.mem_of_mem_drop p)),_,_,_,rfl,J.symm,by omega,?_⟩
  rcases u with u|⟨b,off,rfl,F⟩
  ·grind[List.flatten_eq_nil_iff,List.mem_of_mem_take,List.mem_of_mem_drop]
  ·by_cases hcl:c=l.toNat
   ·grind
   ·right
    rw[if_neg hcl]
    refine⟨b,off+l.toNat*sz,by simp[u01],λj v X=>?_⟩
    have i:=b03 xs (λx i=>(f x i).1)
    rw[Nat.add_assoc]
    refine F _ _ ?_
    have q:(xs.take m.toNat).flatten=xs.flatten.take (m.toNat*sz):=E08 xs _ (λx i=>(f x i).1)
    have W:((xs.take m.toNat).drop l.toNat).flatten=((xs.take m.toNat).flatten).drop (l.toNat*sz):=d0h _ _ (λy p=>(f y (List.mem_of_mem_take p)).1)
    grind
 exact O6 k (av := .val _) (exec_slice O T S s (K06 k I) (K06 k L) B C D M) rfl (G _ N λ_ _ _ e=>by cases e;rfl)
theorem O0o(d:Sim P h0 w0 be oe H st h a w){t e sz:Nat}{x:Operand}{B p:Option Operand}{i k:Nat}(L:o.op = .slice t x B p none)(O:V00 P t=some e)(N:W5 P e=some sz)
  (M:rdO st x = .own i k) (c:h0m i (B.map (rdO st)) (p.map (rdO st)) st h K):o.wp P a w (Nx P h0 w0 st be oe K a o.dst) Q:=by
 have F:=d.rdO x
 rw[M]at F
 obtain⟨T,C,S,an,xs,q⟩:=G06 M
 unfold h0m at c
 split at c
 rotate_left
 ·exact c.elim
 rename_i al m ap z
 simp only[q]at c
 obtain⟨⟨R,E⟩,I⟩:=c
 have ae:B=none:=by simp_all
 subst ae
 have J:L04 a (xs.length:Int) p m:=by
  cases p with
  |none=>simp at z
  |some y =>
   have g:=d.rdO y
   simp only[Option.map_some,Option.some.injEq]at z
   rw[z]at g
   exact⟨al,g⟩
 have A:=d.own i _ _ _ _ _ _ q
 have b:=F.own_cur q
 have aq:∀ v,v=oe i->v.ownBlock=(oe i).ownBlock:=λv ai=>by rw[ai]
 have am:∃ v,(∀ f:Next->Hp->Prop,f (.value v) H->wpS P (execOp a.eval o) H f)/\v.ownBlock=(oe i).ownBlock/\b06 h H v T C an (xs.take m.toNat):=by
  have G:∀ y∈xs.take m.toNat,y.length=C/\∀ v∈y,v.oneCell'=true:=λy ak=>A.1 y (List.mem_of_mem_take ak)
  rcases A.2 with⟨j,s,u⟩|⟨g,cap,cur,j,s,u,W,X,Y,Z⟩
  ·rw[j]at b
   subst s
   have af:m=0:=by simp at E;omega
   subst af
   refine⟨_,exec_slice L O N b (l:=0) rfl J (by omega) (by omega) (by simp) (Nat.le_refl _),?_,G,.inl ⟨by simp,by simp,u⟩⟩
   grind
  ·rw[j]at b
   refine⟨.slice (some ⟨g,0,none⟩) m.toNat cap,λf I=>exec_slice L O N b (l:=0) rfl J (by omega) R E W f ?_,by rw[j];rfl,G,.inr ⟨g,cap,cur,?_,s,u,?_,X,Y,?_⟩⟩
   ·grind[Int.toNat,Addr.add]
   ·have:(xs.take m.toNat).length=m.toNat:=by simp;omega
    rw[this]
   ·simp;omega
   ·have ad:(xs.take m.toNat).length=m.toNat:=by simp;omega
    rw[ad]
    have U:(xs.take m.toNat).flatten=xs.flatten.take (m.toNat*C):=E08 xs _ (λx b=>(A.1 x b).1)
    rw[U,←Z,List.take_take]
    congr 1
    rw[Nat.min_eq_left (Nat.mul_le_mul_right _ (by omega))]
 obtain⟨v,aj,ab,aa⟩:=am
 obtain⟨ar,D,au,ah,⟨rfl,rfl⟩,ag⟩:=G9 _ _ _ d.mv.vis (aj (λn D=>n = .value v/\D=H) ⟨rfl,rfl⟩)
 obtain⟨ao,V⟩:=d.updOwn (s1:=k+1) (by_:=S) q (Nat.le_succ _) (λe=>absurd e (Nat.succ_ne_self k)) ag (λ_ _ _=>rfl) aa (λg ac => .inl (by rw[←ab];exact ac))
 refine E7 ah ⟨_,_,h,v,_,_,_,I,rfl,ao,?_,V⟩
 refine⟨k+1,?_,Nat.le_refl _,λ_=>by simp⟩
 simp_all[stamp,o7,K01]
theorem exec_cutStr{t:TypeId}{x:Operand}{e d:Option Operand}{b:ByteArray}{l m:Int}(n:o.op = .slice t x e d none)(p:P.underlying t=some .string)
  (q:a.eval x = .string b) (j:L04 a 0 e l) (k:L04 a b.size d m) (f:0<=l) (g:l<=m) (h:m<=(b.size:Int)) :
  ∀ c:Next->Hp->Prop,c (.value (.string (b.extract l.toNat m.toNat))) H->wpS P (execOp a.eval o) H c:=by
 intro c i
 unfold execOp;rw[n]
 refine W7 _ _ _ ?_
 simp only[Instr.sliceAt,O2,Z5 p,Instr.slice,q,Option.map_none,Option.isSome_none,Bool.false_eq_true,if_false,D3]
 rw[N0e j k f g h (Nat.le_refl _)]
 exact i
theorem exec_index{t:TypeId}{x i:Operand}{b:ByteArray}{k:IntKind}{j:Int}{c:UInt8}(l:o.op = .index t x i)(m:P.underlying t=some .string)(n:a.eval x = .string b)(g:a.eval i = .int k j)
  (e:0<=j) (f:b[j.toNat]?=some c):∀ d:Next->Hp->Prop,d (.value (.int .u8 c.toNat)) H->wpS P (execOp a.eval o) H d:=by
 intro d h
 unfold execOp;rw[l]
 refine W7 _ _ _ ?_
 simp only[Instr.index,n,g,asIntOf,O2,D3,Z5 m,e,if_true,f]
 exact h
theorem exec_quo{t j:TypeId}{x y:Operand}{b c:Int}(g:o.op = .binOp .quo t x y j)(h:a.eval x = .int .i64 b)(i:a.eval y = .int .i64 c)(f:c≠0):
  ∀ d:Next->Hp->Prop,d (.value (.int .i64 (IntKind.i64.wrap (b.tdiv c)))) H->wpS P (execOp a.eval o) H d:=by
 intro d e
 unfold execOp;rw[g]
 refine W7 _ _ _ ?_
 simp only[h,i,eqGuard,O2,Bool.not_false,if_true,D3,binOp,Go.Op.intDiv,if_neg f,ne_eq,not_true_eq_false,if_false]
 exact e
theorem exec_rem{t j:TypeId}{x y:Operand}{b c:Int}(g:o.op = .binOp .rem t x y j)(h:a.eval x = .int .i64 b)(i:a.eval y = .int .i64 c)(f:c≠0):
  ∀ d:Next->Hp->Prop,d (.value (.int .i64 (b.tmod c))) H->wpS P (execOp a.eval o) H d:=by
 intro d e
 unfold execOp;rw[g]
 refine W7 _ _ _ ?_
 simp only[h,i,eqGuard,O2,Bool.not_false,if_true,D3,binOp,Go.Op.intDiv,if_neg f,ne_eq,not_true_eq_false,if_false]
 exact e
theorem c0q{t j:TypeId}{x y:Operand}{b c:Int}(g:o.op = .binOp .shl t x y j)(h:a.eval x = .int .i64 b)(i:a.eval y = .int .i64 c)(k:0<=c):
  ∀ d:Next->Hp->Prop,d (.value (.int .i64 (IntKind.i64.wrap (b*2 ^ min c.toNat 64)))) H->wpS P (execOp a.eval o) H d:=by
 intro d e
 unfold execOp;rw[g]
 refine W7 _ _ _ ?_
 have f : ¬ c<0:=by omega
 simp only[h,i,eqGuard,O2,Bool.not_false,if_true,D3,binOp,Go.Op.shift,if_neg f,IntKind.bits]
 exact e
theorem d0q{t j:TypeId}{x y:Operand}{b c:Int}(g:o.op = .binOp .shr t x y j)(h:a.eval x = .int .i64 b)(i:a.eval y = .int .i64 c)(k:0<=c):
  ∀ d:Next->Hp->Prop,d (.value (.int .i64 (b.fdiv (2 ^ min c.toNat 64)))) H->wpS P (execOp a.eval o) H d:=by
 intro d e
 unfold execOp;rw[g]
 refine W7 _ _ _ ?_
 have f : ¬ c<0:=by omega
 simp only[h,i,eqGuard,O2,Bool.not_false,if_true,D3,binOp,Go.Op.shift,if_neg f,IntKind.bits]
 exact e
theorem exec_cat{t j:TypeId}{x y:Operand}{b c:ByteArray}(g:o.op = .binOp .add t x y j)(h:a.eval x = .string b)(i:a.eval y = .string c)(k:b.size+c.size<=9223372036854775807):
  ∀ d:Next->Hp->Prop,d (.value (.string (b++c))) H->wpS P (execOp a.eval o) H d:=by
 intro d e
 unfold execOp;rw[g]
 refine W7 _ _ _ ?_
 have f : ¬ (((b.size+c.size:Nat):Int)>IntKind.i64.max):=by
  have:IntKind.i64.max=9223372036854775807:=by decide
  rw[this];omega
 simp only[h,i,eqGuard,O2,Bool.not_false,if_true,D3,binOp,Go.Op.stringOp,if_neg f]
 exact e
end
section
variable {P:Program} {h0:Hp} {w0:World} {be:Nat->Nat} {oe:Nat->Value} {H:Hp} {st:St} {h:Hp} {a:Act} {w:World} {o:Oper} {K:AV->St->Hp->Prop} {Q:Exit->Act->World->Prop}
theorem o0d:∀(a c r:List Value) (k:Nat),k+a.length<=c.length->K3 (c++r) k a=K3 c k a++r
 | [],c,r,k,_=>rfl
 |n::a,c,r,k,b=>by
  simp only[List.length_cons]at b
  simp only[K3]
  rw[List.set_append_left _ _ (by omega),o0d a _ r (k+1) (by simp;omega)]
theorem F0a:∀(a x l:List Value) (k:Nat),K3 (x++l) (x.length+k) a=x++K3 l k a
 | [],x,l,k=>rfl
 |n::a,x,l,k=>by
  simp only[K3]
  rw[List.set_append_right _ _ (by omega),Nat.add_sub_cancel_left,Nat.add_assoc,F0a a x _ (k+1)]
theorem R07{sz:Nat}(a:List Value)(k:Nat):∀(xs:List (List Value)) (i:Nat) (c:List Value),(∀ x∈xs,x.length=sz)->xs[i]?=some c->k+a.length<=c.length ->
  (xs.set i (K3 c k a)).flatten=K3 xs.flatten (i*sz+k) a
 | [],i,c,_,h,_=>by simp at h
 |x::xs,0,c,d,h,b=>by
  simp at h;subst h
  simp only[List.set_cons_zero,List.flatten_cons,Nat.zero_mul,Nat.zero_add]
  rw[o0d a x _ k b]
 |x::xs,i+1,c,d,h,b=>by
  simp at h
  have f:=d x mS
  simp only[List.set_cons_succ,List.flatten_cons]
  rw[R07 a k xs i c (λy e=>d y (mC _ e)) h b]
  rw[show(i+1)*sz+k=x.length+(i*sz+k) from by grind,F0a]
theorem n05:∀(b cs:List Value) (off a:Nat),(K3 cs off b).take a=K3 (cs.take a) off b
 | [],cs,off,a=>rfl
 |n::b,cs,off,a=>by
  simp only[K3]
  rw[n05 b _ (off+1) a,List.take_set]
theorem O0e:∀(a cs:List Value) (off:Nat) (v:Value),v∈K3 cs off a->v∈cs∨v∈a
 | [],cs,off,v,h => .inl h
 |n::a,cs,off,v,h=>by
  rcases O0e a _ (off+1) v h with h|h
  all_goals grind
theorem Q0i(E:Sim P h0 w0 be oe H st h a w){t:TypeId}{p x:Operand}{i N:Nat}{idx:Int}{sz k:Nat}(aj:o.op = .store t p x)(al:rdO st p = .oel i N idx sz k)
  (ac:rfy (rdO st x) st h λv st h=>match nth st.ow i,W5 P t with
   |some ⟨z,.live e d by_ nn xs⟩,some n=>match D06 v.cells.toList n,z04 v.cells.toList,Nat.beq z N,Nat.beq d sz with
    |true,true,true,true=>∃ c,xs[idx.toNat]?=some c/\G0o c k v.cells.toList λq =>
      K (.val undef) { st with ow:=B00 st.ow i ⟨z,.live e d by_ nn (xs.set idx.toNat q)⟩ } h
    |_,_,_,_=>False
   |_,_=>False):o.wp P a w (Nx P h0 w0 st be oe K a o.dst) Q:=by
 have I:=E.rdO p
 rw[al]at I
 obtain⟨ay,J,f,s1,G⟩:=K02 E (E.rdO x) ac
 have R:=I.grow G
 split at f
 rotate_left
 ·exact f.elim
 rename_i z e d by_ nn xs n B an
 split at f
 rotate_left
 ·exact f.elim
 rename_i ag ak W X
 have ao:=Nat.eq_of_beq_eq_true W
 have ap:=Nat.eq_of_beq_eq_true X
 subst ao;subst ap
 obtain⟨c,s,j⟩:=f
 unfold G0o at j
 split at j
 rotate_left
 ·exact j.elim
 rename_i A
 have A:=Nat.le_of_ble_eq_true A
 have ah:=x02 _ _ ag
 have M:=L03 _ ak
 obtain⟨g,aw,q,u,C⟩:=R.oel_cur B
 have l:=s1.own i _ _ _ _ _ _ B
 rcases l.2 with⟨m,_⟩|⟨O,cap,cur,m,ae,af,L,aa,ab,aq⟩
 ·rw[m]at u;cases u
 rw[m]at u;cases u
 have Y:=(List.getElem?_eq_some_iff.1 s)
 have Z:c.length=d:=(l.1 c (List.mem_of_getElem? s)).1
 have U:idx.toNat*d+k+n<=cur.toList.length:=by
  have:(idx.toNat+1)*d<=q*d:=Nat.mul_le_mul_right _ (Nat.le_trans Y.1 L)
  grind
 have au:=I06 (H:=H) (P:=P) (a:=a) (cur:=cur.toList) aj an C ah M (by simpa using af) U
 obtain⟨ax,F,az,am,⟨rfl,rfl⟩,ai⟩:=G9 _ _ _ s1.mv.vis (au (λn F=>n = .skip/\F=_) ⟨rfl,rfl⟩)
 rw[C08]at j
 have T:b06 J (H.set g (.cells (K3 cur.toList (idx.toNat*d+k) (a.eval x).cells.toList).toArray e (0,0))) (oe i) e d nn (xs.set idx.toNat (K3 c k (a.eval x).cells.toList)):=by
  refine⟨λy D=>?_,.inr ⟨g,q,_,by simpa using m,ae,Hp.set_same _ _ _,by simpa using L,aa,by simp[W8,ab],?_⟩⟩
  ·rcases List.mem_or_eq_of_mem_set D with D|rfl
   ·exact l.1 y D
   ·refine⟨by rw[W8,Z],λv ar=>?_⟩
    rcases O0e _ _ _ _ ar with h'|h'
    ·exact(l.1 c (List.mem_of_getElem? s)).2 v h'
    ·exact M v h'
  ·rw[R07 (sz:=d) _ _ xs idx.toNat c (λx C=>(l.1 x C).1) s A,←aq]
   simp only[List.length_set]
   rw[n05]
 obtain⟨av,S⟩:=s1.updOwn (s1:=z) (by_:=by_) B (Nat.le_refl _) (λ_=>rfl) ai (λb V _=>Hp.set_other _ _ (λe=>V (by rw[m,e];rfl))) T (λO ad => .inl ad)
 exact A08 am ⟨_,_,J,_,_,_,_,j,rfl,av,rfl,G.trans S⟩
theorem R0i(c:Sim P h0 w0 be oe H st h a w){t:TypeId}{p x:Operand}{sl:Value}{idx:Int}{sz k:Nat}{v:Value}(A:o.op = .store t p x)(B:rdO st p = .hel sl idx sz k)
    (F:rdO st x = .val v) (D:W5 P t=some 1)
    (u : ∃ b of n d cur ty, (sl = .slice (some ⟨b, of, none⟩) n d ∧ 0 ≤ idx ∧ h b = some (.cells cur ty (0, 0)) ∧ of + (idx.toNat * sz + k) < cur.size ∧ v02 v) ∧
            K (.val undef) st (h.set b (.cells (cur.setIfInBounds (of+(idx.toNat*sz+k)) v) ty (0,0)))):o.wp P a w (Nx P h0 w0 st be oe K a o.dst) Q:=by
  have f:=c.rdO p
  rw[B]at f
  have g:a.eval x=v:=by have:=c.rdO x;rw[F]at this;exact this
  obtain⟨b,off,n,d,cur,ty,⟨l,_,s,L,M⟩,y⟩:=u
  obtain⟨I,S,O,J,e,m⟩:=f
  rw[l]at e;cases e
  have i:v.cells = #[v]:=by cases v<;>simp_all [v02,Value.cells]
  have N:v.oneCell'=true:=by cases v<;>simp_all [v02,Value.oneCell']
  have E:=I06 (H:=h) (P:=P) (a:=a) (cur:=cur.toList) A D m (by rw[g,i];rfl) (by grind) (by simpa using s) (by simp;omega)
  obtain⟨R,h',T,C,⟨rfl,rfl⟩,z⟩:=G9 _ _ _ (N07 c) (E (λn h'=>n = .skip/\h'=_) ⟨rfl,rfl⟩)
  obtain⟨G,j⟩:=c.moved z
  have q:(K3 cur.toList (off+(idx.toNat*sz+k)) (a.eval x).cells.toList).toArray=cur.setIfInBounds (off+(idx.toNat*sz+k)) v:=by
    rw[g,i]
    apply Array.ext'
    simp[K3]
  rw[q]at j
  exact A08 C ⟨_,_,_,_,_,_,_,y,rfl,j,rfl,Q6.refl _ _ _⟩
theorem q09(c:Sim P h0 w0 be oe H st h a w){t:TypeId}{p x:Operand}{sl:Value}{idx:Int}{sz k n:Nat}{new:List Value}(y:o.op = .store t p x)(z:rdO st p = .hel sl idx sz k)
  (g:(a.eval x).cells.toList=new) (B:W5 P t=some n) (s:D06 new n=true) (I:z04 new=true)
  (q:x08 h sl idx (idx.toNat*sz+k) new λh'=>K (.val undef) st h'):o.wp P a w (Nx P h0 w0 st be oe K a o.dst) Q:=by
 have e:=c.rdO p
 rw[z]at e
 obtain⟨b,off,L,F,cur,ty,⟨j,_,m,J⟩,f⟩:=q
 obtain⟨E,O,M,G,d,l⟩:=e
 rw[j]at d;cases d
 have u:=x02 _ _ s
 have C:=I06 (H:=h) (P:=P) (a:=a) (cur:=cur.toList) y B l (by rw[g];exact u) (by grind[L03]) (by simpa using m) (by simp;omega)
 obtain⟨N,h',R,A,⟨rfl,rfl⟩,v⟩:=G9 _ _ _ (N07 c) (C (λn h'=>n = .skip/\h'=_) ⟨rfl,rfl⟩)
 obtain⟨D,i⟩:=c.moved v
 rw[C08]at f
 rw[g]at i
 exact A08 A ⟨_,_,_,_,_,_,_,f,rfl,i,rfl,Q6.refl _ _ _⟩
theorem r09:∀(c:List Field),U05 P c=true->∃ b,c.mapM (λf:Field=>(P.info? f.type).map λi=>(f.offset,i.size))=some b /\
  ∀(k:Nat) (f:Field) (n:Nat),c[k]?=some f->W5 P f.type=some n->b[k]?=some (f.offset,n)
 | [],_=>⟨[],rfl,by simp⟩
 |f::r,h=>by
  simp only[U05]at h
  split at h
  ·rename_i m a
   obtain⟨b,d,e⟩:=r09 r h
   unfold W5 at a
   split at a
   ·rename_i i j
    cases a
    refine⟨(f.offset,i.size)::b,by simp_all,λk g n l o=>?_⟩
    grind[W5]
   ·cases a
  ·cases h
theorem G0a{d:Array Field}{m:List (Nat×Nat)}(h:∀(k:Nat) (f:Field) (n:Nat),d.toList[k]?=some f->W5 P f.type=some n->m[k]?=some (f.offset,n)){rd:Operand->AV}
  (j:∀ x cs,c00 (rd x)=some cs->G2 st oe cs (a.eval x).cells.toList):∀(l:List (Nat×Operand)) {cs:List N5} {vs:List Value} {K:List N5->Prop},G2 st oe cs vs->E07 P d rd l cs K ->
  ∃ cs' c,K cs'/\G2 st oe cs' c/\Instr.fill (m.toArray[·]?) vs.toArray (l.map λp=>(p.1,a.eval p.2))=some c.toArray
 | [],cs,vs,K,g,b=>⟨cs,vs,b,g,rfl⟩
 |(i,x)::r,cs,vs,K,g,b=>by
  simp only[E07]at b
  split at b
  rotate_left
  ·exact b.elim
  rename_i f new hf t
  split at b
  rotate_left
  ·exact b.elim
  rename_i n v
  split at b
  rotate_left
  ·exact b.elim
  rename_i s q
  have D:=x02 _ _ s
  have C:=Nat.le_of_ble_eq_true q
  have e:=j x new t
  have u:=h i f n (by simpa using hf) v
  have B:=g.length
  have E:=e.length
  obtain⟨cs',c,y,z,F⟩:=G0a h j r (g.splice e) b
  refine⟨cs',c,y,z,?_⟩
  have w:(a.eval x).cells.size=n:=by grind
  simp only[List.map_cons,Instr.fill,List.getElem?_toArray,u,w,ne_eq,not_true_eq_false,decide_false,Bool.false_or,decide_eq_true_eq]
  rw[if_neg (by simp;omega)]
  have o:=L0e (a.eval x) f.offset vs.toArray
  have A:((a.eval x).cells.zipIdx.foldl (λcs (p:Value×Nat)=>cs.setIfInBounds (f.offset+p.2) p.1) vs.toArray)=(K3 vs f.offset (a.eval x).cells.toList).toArray:=by
   rw[←o]
  grind
theorem l0k(C:Sim P h0 w0 be oe H st h a w){t:TypeId}{c:Array (Nat×Operand)}{b:Array Field}{z:Value}{rd:Operand->AV}{K':AV->Prop}(u:o.op = .build t c)(y:P.underlying t=some (.struct b))
  (l:K00 P t=some z) (g:U05 P b.toList=true) (k:∀ x cs,c00 (rd x)=some cs->G2 st oe cs (a.eval x).cells.toList)
  (j:E07 P b rd c.toList (vals z.cells.toList) λcs=>K' (.agg cs)) :
  ∃ av v,K' av/\Good st be oe av v/\∀ w:World,(execOp a.eval o).run P w = .ok (.value v) w:=by
 obtain⟨B,p,f⟩:=r09 b.toList g
 obtain⟨cs',e,m,n,A⟩:=G0a (st:=st) (oe:=oe) (a:=a) f k c.toList (G2.vals st oe z.cells.toList) j
 have d:=l
 unfold K00 at d
 split at d
 rotate_left
 ·cases d
 rename_i i s
 have q:P.built t (c.map λx=>(x.1,a.eval x.2)).toList=some e.toArray:=by
  unfold Program.built
  simp_all
 refine⟨_,.agg e.toArray,m,⟨e,rfl,n⟩,λw=>?_⟩
 simp_all[execOp,Sem.run_bind,run_build,Result.andThen_ok,Sem.run_pure]
theorem s09{sz:Nat}{rd:Operand->AV}
  (f:∀ x cs,c00 (rd x)=some cs->G2 st oe cs (a.eval x).cells.toList):∀(l:List (Nat×Operand)) {cs:List N5} {vs:List Value} {K:List N5->Prop},G2 st oe cs vs->o0a sz rd l cs K ->
  ∃ cs' d,K cs'/\G2 st oe cs' d/\Instr.fill (λi=>some (i*sz,sz)) vs.toArray (l.map λp=>(p.1,a.eval p.2))=some d.toArray
 | [],cs,vs,K,g,b=>⟨cs,vs,b,g,rfl⟩
 |(i,x)::r,cs,vs,K,g,b=>by
  simp only[o0a]at b
  split at b
  rotate_left
  ·exact b.elim
  rename_i new q
  split at b
  rotate_left
  ·exact b.elim
  rename_i n m
  have o:=x02 _ _ n
  have z:=Nat.le_of_ble_eq_true m
  have e:=f x new q
  have y:=g.length
  have t:=e.length
  obtain⟨cs',d,u,v,w⟩:=s09 f r (g.splice e) b
  refine⟨cs',d,u,v,?_⟩
  have s:(a.eval x).cells.size=sz:=by rw[←o,t];simp
  simp only[List.map_cons,Instr.fill,s,ne_eq,not_true_eq_false,decide_false,Bool.false_or,decide_eq_true_eq]
  rw[if_neg (by simp;omega)]
  have h:=L0e (a.eval x) (i*sz) vs.toArray
  have k:((a.eval x).cells.zipIdx.foldl (λcs (p:Value×Nat)=>cs.setIfInBounds (i*sz+p.2) p.1) vs.toArray)=(K3 vs (i*sz) (a.eval x).cells.toList).toArray:=by
   rw[←h]
  rw[show((a.eval x).cells.zipIdx.foldl (λcs (x:Value×Nat)=>match x with|(c,j)=>cs.setIfInBounds (i*sz+j) c) vs.toArray)=(K3 vs (i*sz) (a.eval x).cells.toList).toArray from k]
  simpa using w
theorem m0k(D:Sim P h0 w0 be oe H st h a w){t e:TypeId}{n sz:Nat}{b:Array (Nat×Operand)}{z:Value}{rd:Operand->AV}{K':AV->Prop}(m:o.op = .build t b)(s:P.underlying t=some (.array n e))
  (u:K00 P t=some z) (c:W5 P e=some sz) (q:∀ x cs,c00 (rd x)=some cs->G2 st oe cs (a.eval x).cells.toList)
  (j:o0a sz rd b.toList (vals z.cells.toList) λcs=>K' (.agg cs)) :
  ∃ av v,K' av/\Good st be oe av v/\∀ w:World,(execOp a.eval o).run P w = .ok (.value v) w:=by
 obtain⟨cs',f,y,A,B⟩:=s09 (st:=st) (oe:=oe) (a:=a) q b.toList (G2.vals st oe z.cells.toList) j
 have d:=u
 unfold K00 at d
 split at d
 rotate_left
 ·cases d
 rename_i i k
 unfold W5 at c
 split at c
 rotate_left
 ·cases c
 rename_i C l
 cases c
 have g:P.built t (b.map λx=>(x.1,a.eval x.2)).toList=some f.toArray:=by
  unfold Program.built
  simp only[k,s,d,l]
  rw[show(Array.map (λx=>(x.1,a.eval x.2)) b).toList=b.toList.map λp=>(p.1,a.eval p.2) from by simp]
  simpa using B
 refine⟨_,.agg f.toArray,y,⟨f,rfl,A⟩,λw=>?_⟩
 unfold execOp;rw[m]
 simp only[Sem.run_bind,run_build w t _ _ g,Result.andThen_ok,Sem.run_pure]
theorem L0g(c:Sim P h0 w0 be oe H st h a w){x:Operand}{cs:List N5}(b:D07 (rdO st x)=some cs):∃ vs:List Value,a.eval x = .agg vs.toArray/\G2 st oe cs vs:=by
 have g:=c.rdO x
 cases hr:rdO st x with
 |val v =>
  rw[hr]at b g
  cases v<;>simp only[D07,Option.some.injEq]at b<;>first|(subst b;exact⟨_,by rw[show a.eval x=_ from g],G2.vals _ _ _⟩)|cases b
 |agg cs' =>
  rw[hr]at b g
  simp only[D07,Option.some.injEq]at b
  subst b
  exact g
 |_=>rw[hr]at b;cases b
theorem e0q(m:Sim P h0 w0 be oe H st h a w){t:TypeId}{x:Operand}{k:Nat}{cs:List N5}{l:Array Field}{f:Field}(u:o.op = .field t x k)(q:D07 (rdO st x)=some cs)
  (z:P.underlying t=some (.struct l)) (hf:l[k]?=some f) (b:y04 P f.type cs f.offset λav=>K av st h):o.wp P a w (Nx P h0 w0 st be oe K a o.dst) Q:=by
 obtain⟨vs,C,g⟩:=L0g m q
 unfold y04 at b
 have fin:∀(av:AV) (v:Value),K av st h->Good st be oe av v->(∀ d:Value->Hp->Prop,d v H->wpS P (part f.type vs.toArray f.offset) H d)->o.wp P a w (Nx P h0 w0 st be oe K a o.dst) Q:=by
  intro av v i s B
  refine O6 m (λd y=>?_) s i
  unfold execOp;rw[u]
  refine W7 _ _ _ ?_
  grind[Instr.field,O2,Z5,asAgg,D3]
 split at b
 ·rename_i e
  split at b
  ·rename_i n j
   split at b
   ·refine fin _ (.agg ((vs.drop f.offset).take n).toArray) b ⟨_,rfl,(g.drop _).take _⟩ λd i=>?_
    simp only[part,O2,B08 e,if_true,Z00 j,D3]
    grind
   ·exact b.elim
  ·exact b.elim
 ·rename_i e
  split at b
  ·rename_i c j
   obtain⟨v,A,p⟩:=g.nth j
   refine fin _ v b (Good.ofCell p) λd i=>?_
   simp only[part,O2,B08 e,Bool.false_eq_true,if_false]
   grind[D3]
  ·exact b.elim
 ·exact b.elim
theorem H0a{t:TypeId}{e:TypeId}{x:Operand}{as:Array Operand}{ts:Array TypeId}{b:Option Addr}{n c:Nat}(f:o.op = .call { callee := .builtin .len,args:=as,argTypes:=ts })(d:as = #[x])(h:ts = #[t])
  (g:V00 P t=some e) (i:a.eval x = .slice b n c) (w:World):(execOp a.eval o).run P w = .ok (.value (.int .i64 n)) w:=by
 subst d;subst h
 unfold execOp;rw[f]
 simp only[resolve,invoke,builtin,Builtin.len_,Sem.run_bind,Sem.run_pure,Result.andThen_ok,List.map_toArray,List.map_cons,List.map_nil,i,List.getElem?_toArray,List.getElem?_cons_zero,run_underlying (p9 g),goInt]
end
section
variable {P:Program} {h0:Hp} {w0:World} {be:Nat->Nat} {oe:Nat->Value} {H:Hp} {st:St} {h:Hp} {a:Act} {w:World} {o:Oper} {K:AV->St->Hp->Prop} {Q:Exit->Act->World->Prop}
theorem J09(d:Sim P h0 w0 be oe H st h a w){av:AV}{v:Value}(c:∀ w:World,(execOp a.eval o).run P w = .ok (.value v) w)(g:Good st be oe av v)(b:K av st h):o.wp P a w (Nx P h0 w0 st be oe K a o.dst) Q :=
 E7 (c w) ⟨av,st,h,v,be,oe,H,b,rfl,d,g,Q6.refl _ _ _⟩
set_option maxHeartbeats 1000000 in
theorem O9(q:Sim P h0 w0 be oe H st h a w)(d:c8 P o st h K):o.wp P a w (Nx P h0 w0 st be oe K a o.dst) Q:=by
 cases ho:o.op with
 |move x=>simp only[c8,ho]at d;exact u0n q (.inl ho) d
 |assign x=>simp only[c8,ho]at d;exact u0n q (.inr ho) d
 |box t x =>
  simp only[c8,ho]at d
  split at d
  ·rename_i cs D;exact T0t q ho D d
  ·exact d.elim
 |alloc t =>
  simp only[c8,ho]at d
  split at d
  ·rename_i z O;exact b0q q ho O d
  ·exact d.elim
 |fieldAddr t x k=>simp only[c8,ho]at d;exact K0i q ho d
 |indexAddr t x i=>simp only[c8,ho]at d;exact P0i q ho d
 |load t x =>
  simp only[c8,ho]at d
  split at d
  ·rename_i i off u
   split at d
   ·rename_i cs ty I;exact i0k q ho u I d
   ·exact d.elim
  ·rename_i sl idx sz k u
   obtain⟨c,D,B⟩:=d
   exact j0k q ho u D B
  ·rename_i i ag idx sz k u
   split at d
   ·rename_i a6 e a7 by_ nn xs I
    split at d
    ·rename_i U
     have ab:=Nat.eq_of_beq_eq_true U
     subst ab
     obtain⟨c,D,B⟩:=d
     exact k0k q ho u I D B
    ·exact d.elim
   ·exact d.elim
  ·exact Y8 q d
 |store t p x =>
  simp only[c8,ho]at d
  split at d
  ·rename_i i off u
   split at d
   ·rename_i cs ty new n I D A
    split at d
    ·rename_i G C;exact L0i q ho u I D A G C d
    ·exact d.elim
   ·exact d.elim
  ·rename_i i ag idx sz k u
   exact Q0i q ho u d
  ·rename_i sl idx sz k u
   split at d
   ·rename_i v s
    split at d
    ·rename_i A;exact R0i q ho u s A d
    ·rename_i n _ A
     split at d
     ·rename_i G C
      exact q09 q ho u (by have:=q.rdO x;rw[s]at this;rw[show a.eval x=v from this]) A G C d
     ·exact d.elim
    ·exact d.elim
   ·rename_i cs s
    split at d
    ·rename_i n new A N
     split at d
     ·rename_i G C
      refine q09 q ho u ?_ A G C d
      have g:=q.rdO x
      rw[s]at g
      obtain⟨vs,ax,ay⟩:=g
      rw[ax,O07 N ay]
      rfl
     ·exact d.elim
    ·exact d.elim
   ·exact d.elim
  ·exact Y8 q d
 |build t aM =>
  simp only[c8,ho]at d
  split at d
  ·rename_i aw z M O
   split at d
   ·rename_i V
    obtain⟨av,v,ad,ae,af⟩:=l0k (K':=λav=>K av st h) q ho M O V (λx cs D=>l04 q D) d
    exact J09 q af ae ad
   ·exact d.elim
  ·rename_i n e z M O
   split at d
   ·rename_i sz A
    obtain⟨av,v,ad,ae,af⟩:=m0k (K':=λav=>K av st h) q ho M O A (λx cs D=>l04 q D) d
    exact J09 q af ae ad
   ·exact d.elim
  ·exact d.elim
 |buildSlice t n aM =>
  simp only[c8,ho]at d
  split at d
  ·rename_i e J
   split at d
   ·rename_i sz by_ z A U O
    split at d
    ·rename_i I Z G;exact K0g q ho J A O I Z d
    ·exact d.elim
   ·exact d.elim
  ·exact d.elim
 |makeSlice t l c =>
  simp only[c8,ho]at d
  split at d
  ·rename_i e J
   split at d
   ·rename_i sz by_ z a0 a5 aZ a4 A U O G D
    split at d
    ·rename_i aG aD;exact O0i q ho J A U O G D aG aD d.1 d.2
    ·exact d.elim
   ·exact d.elim
  ·exact d.elim
 |field t x k =>
  simp only[c8,ho]at d
  split at d
  ·rename_i cs aw D M
   split at d
   ·rename_i f hf;exact e0q q ho D M hf d
   ·exact d.elim
  ·exact d.elim
 |slice t x a1 aj aJ =>
  cases aJ with
  |some m=>simp only[c8,ho]at d;exact C00 q d
  |none =>
   simp only[c8,ho]at d
   split at d
   ·rename_i i k u
    split at d
    ·rename_i e J
     split at d
     ·rename_i sz A;exact O0o q ho J A u d
     ·exact d.elim
    ·exact d.elim
   ·rename_i aS n c u
    split at d
    ·rename_i e J
     split at d
     ·rename_i sz A;exact N0o q ho J A u d
     ·exact d.elim
    ·exact d.elim
   ·rename_i b u
    split at d
    ·rename_i M
     unfold O0p at d
     split at d
     ·rename_i l m G Z
      have F:a.eval x = .string b:=by have:=q.rdO x;rw[u]at this;exact this
      obtain⟨⟨C,T,az⟩,B⟩:=d
      exact O6 q (av := .val _) (exec_cutStr ho M F (K06 q G) (K06 q Z) C T az) rfl B
     ·exact d.elim
    ·exact d.elim
   ·exact d.elim
 |index t x i =>
  simp only[c8,ho]at d
  split at d
  ·rename_i b k j s aj M
   have F:a.eval x = .string b:=by have:=q.rdO x;rw[s]at this;exact this
   have gi:a.eval i = .int k j:=by have:=q.rdO i;rw[aj]at this;exact this
   obtain⟨c,⟨C,T⟩,B⟩:=d
   exact O6 q (av := .val _) (exec_index ho M F gi C T) rfl B
  ·exact Y8 q d
 |binOp aL t x y aO =>
  cases aL with
  |add =>
   simp only[c8,ho]at d
   split at d
   ·rename_i b c s E
    have F:a.eval x = .string b:=by have:=q.rdO x;rw[s]at this;exact this
    have L:a.eval y = .string c:=by have:=q.rdO y;rw[E]at this;exact this
    exact O6 q (av := .val _) (exec_cat ho F L d.1) rfl d.2
   ·exact Y8 q d
  |quo =>
   simp only[c8,ho]at d
   split at d
   ·rename_i b c s E
    have F:a.eval x = .int .i64 b:=by have:=q.rdO x;rw[s]at this;exact this
    have L:a.eval y = .int .i64 c:=by have:=q.rdO y;rw[E]at this;exact this
    exact O6 q (av := .val _) (exec_quo ho F L d.1) rfl d.2
   ·exact Y8 q d
  |rem =>
   simp only[c8,ho]at d
   split at d
   ·rename_i b c s E
    have F:a.eval x = .int .i64 b:=by have:=q.rdO x;rw[s]at this;exact this
    have L:a.eval y = .int .i64 c:=by have:=q.rdO y;rw[E]at this;exact this
    exact O6 q (av := .val _) (exec_rem ho F L d.1) rfl d.2
   ·exact Y8 q d
  |shl =>
   simp only[c8,ho]at d
   split at d
   ·rename_i b c s E
    have F:a.eval x = .int .i64 b:=by have:=q.rdO x;rw[s]at this;exact this
    have L:a.eval y = .int .i64 c:=by have:=q.rdO y;rw[E]at this;exact this
    exact O6 q (av := .val _) (c0q ho F L d.1) rfl d.2
   ·exact Y8 q d
  |shr =>
   simp only[c8,ho]at d
   split at d
   ·rename_i b c s E
    have F:a.eval x = .int .i64 b:=by have:=q.rdO x;rw[s]at this;exact this
    have L:a.eval y = .int .i64 c:=by have:=q.rdO y;rw[E]at this;exact this
    exact O6 q (av := .val _) (d0q ho F L d.1) rfl d.2
   ·exact Y8 q d
  |eql =>
   simp only[c8,ho]at d
   split at d
   ·rename_i xs aQ s E
    obtain⟨b,C,B⟩:=d
    exact J09 q (av := .val _) (C _ (D7 s (q.rdO x)) (D7 E (q.rdO y))) rfl B
   ·rename_i aR a3 a2 s E
    obtain⟨b,C,B⟩:=d
    exact J09 q (av := .val _) (C _ (D7 s (q.rdO x)) (D7 E (q.rdO y))) rfl B
   ·exact C00 q d
  |neq =>
   simp only[c8,ho]at d
   split at d
   ·rename_i xs aQ s E
    obtain⟨b,C,B⟩:=d
    exact J09 q (av := .val _) (C _ (D7 s (q.rdO x)) (D7 E (q.rdO y))) rfl B
   ·exact C00 q d
  |_=>simp only[c8,ho]at d;exact C00 q d
 |convert ao ap x =>
  simp only[c8,ho]at d
  split at d
  ·rename_i i k u
   split at d
   ·rename_i ag aV sz by_ nn xs e I al am
    split at d
    ·rename_i an
     obtain⟨R,S,B⟩:=d
     obtain⟨au,aN,aq,aK,aP,aa⟩:=G06 u
     have g:=q.rdO x
     rw[u]at g
     have s:=g.own_cur aa
     have W:=q.own i _ _ _ _ _ _ I
     have run:(execOp a.eval o).run P w = .ok (.value (.string (strOfNums R))) w:=by
      unfold execOp
      rw[ho]
      rcases W.2 with⟨N,aF,_⟩|⟨X,cap,cur,N,_,aA,aW,aX,aY,ai⟩
      ·rw[aF]at S
       have aC:R = []:=by cases R with
        |nil=>rfl
        |cons n r=>cases S
       subst aC
       rw[N]at s
       simp only[s,Sem.run_bind,run_convert_bytes_nil w ao e al an 0 0 ap am,Result.andThen_ok,Sem.run_pure]
       rfl
      ·rw[N]at s
       have G:R.length=xs.length:=by rw[S];simp
       have aB:∀ j,j<xs.length->w.cell? ⟨X,0+j,none⟩=some (.int .u8 (R.getD j 0)):=λj Y=>by
        have ab:sz=1:=by
         have:=(W.1 _ (List.getElem_mem Y)).1
         rw[←this]
         simp only[S,List.getElem_map]
         rfl
        subst ab
        have hf:xs.flatten=R.map (Value.int .u8):=by
         rw[S]
         clear S G Y I W ai B
         induction R with
         |nil=>rfl
         |cons n r aH=>simp[aH]
        have aE:=a0q q _ _ aA
        have T:=congrArg (λl:List Value=>l[j]?) (ai.trans hf)
        simp only[List.getElem?_take,Nat.mul_one,if_pos Y,List.getElem?_map,Array.getElem?_toList]at T
        simp only[World.cell?,aE,Nat.zero_add]
        rw[if_neg (by simp),T]
        simp[List.getD_eq_getElem?_getD,List.getElem?_eq_getElem (show j<R.length by omega)]
       simp only[s,Sem.run_bind,run_convert_bytes_arg w ao e al an X 0 xs.length cap R G aB ap am,Result.andThen_ok,Sem.run_pure]
     exact E7 run ⟨_,_,_,_,_,_,_,B,rfl,q,rfl,Q6.refl _ _ _⟩
    ·exact d.elim
   ·exact C00 q d
  ·exact C00 q d
 |call c =>
  obtain⟨ar,as,ts⟩:=c
  cases ar with
  |builtin b =>
   cases b with
   |len =>
    simp only[c8,ho]at d
    split at d
    ·rename_i x t V ac
     have ah:as = #[x]:=by apply Array.ext';simpa using V
     have ak:ts = #[t]:=by apply Array.ext';simpa using ac
     split at d
     ·rename_i i k u
      split at d
      ·rename_i ag e sz by_ nn xs aU I J
       obtain⟨au,aN,aq,aK,aP,aa⟩:=G06 u
       have g:=q.rdO x
       rw[u]at g
       have s:=g.own_cur aa
       have W:=q.own i _ _ _ _ _ _ I
       rcases W.2 with⟨N,S,_⟩|⟨X,cap,cur,N,_⟩
       ·rw[N]at s
        refine J09 q (av := .val _) (H0a ho ah ak J s) ?_ d
        rw[S];rfl
       ·rw[N]at s
        exact J09 q (av := .val _) (H0a ho ah ak J s) rfl d
      ·exact d.elim
     ·exact Y8 q d
    ·exact d.elim
   |append =>
    simp only[c8,ho]at d
    split at d
    ·rename_i x y t aO V ac
     split at d
     ·rename_i U
      have:=Nat.eq_of_beq_eq_true U
      subst this
      exact L0o q ho (by apply Array.ext';simpa using V) (by apply Array.ext';simpa using ac) d
     ·exact d.elim
    ·exact d.elim
   |_=>simp only[c8,ho]at d;exact C00 q d
  |value f=>simp only[c8,ho]at d;exact C00 q d
  |invoke r m=>simp only[c8,ho]at d;exact C00 q d
 |lookup _ _ _ _=>simp only[c8,ho]at d;exact H09 q d
 |mapUpdate _ _ _ _=>simp only[c8,ho]at d;exact H09 q d
 |insert _ _ _ _=>simp only[c8,ho]at d;exact H09 q d
 |_=>simp only[c8,ho]at d;exact C00 q d
end
end Go.H
