/- The library of the walks, part HB: plain laws over the model. -/
import Derived.Test.YtkjhghloldgioaaGreatH3
import Derived.Laws.Tables
namespace Go.H
set_option linter.unusedVariables false
theorem H03{a:Type}:∀(l:List a) (k:Nat),nth l k=l[k]?
 | [],k=>by simp[nth]
 |x::r,0=>by simp[nth]
 |x::r,k+1=>by simp[nth,H03 r k]
theorem N08{a:Type}:∀(l:List a) (k:Nat) (x:a),F9 l k x=l.set k x
 | [],k,x=>by simp[F9]
 |y::r,0,x=>by simp[F9]
 |y::r,k+1,x=>by simp[F9,N08 r k x]
theorem J6{a:Type}(l:List a)(k:Nat)(x:a)(b:k<l.length)(j:Nat):nth (F9 l k x) j=if j=k then some x else nth l j:=by
 rw[H03,H03,N08,List.getElem?_set]
 grind
theorem P00{a:Type}{l:List a}{k:Nat}{x:a}(h:nth l k=some x):k<l.length:=by
 grind[H03,List.getElem?_eq_some_iff]
theorem w01{a:Type}(l:List a)(x:a)(j:Nat):nth (l ++ [x]) j=if j=l.length then some x else nth l j:=by
 rw[H03,H03,List.getElem?_append]
 grind
theorem d04{a:Type}(l:List a)(k:Nat)(x:a):(F9 l k x).length=l.length:=by rw[N08];simp
def stamp(st:St)(i:Nat):Option Nat:=match nth st.ow i with
 |some o=>some o.stamp
 |none=>none
def k0c(st:St)(oe:Nat->Value):p5->Value->Prop
 | .val v,x=>x=v
 | .own i k,x=>∃ s,stamp st i=some s/\k<=s/\(k=s->x=oe i)
def M1(st:St)(oe:Nat->Value):List p5->List Value->Prop
 | [],[]=>True
 |c::cs,v::vs=>k0c st oe c v/\M1 st oe cs vs
 |_,_=>False
def O1(st:St)(be:Nat->Nat)(oe:Nat->Value):AV->Value->Prop
 | .val v,x=>x=v
 | .own i k,x=>∃ a,stamp st i=some a/\k<=a/\(k=a->x=oe i)
 | .box i off,x=>i<st.bx.length/\x=ptr (be i) off
 | .hel a idx sz k,x=>∃ b o n c,a = .slice (some ⟨b,o,none⟩) n c/\x=ptr b (o+(idx.toNat*sz+k))
 | .oel i d idx sz k,x=>∃ a,stamp st i=some a/\d<=a/\(d=a->∃ g n c,oe i = .slice (some ⟨g,0,none⟩) n c/\x=ptr g (idx.toNat*sz+k))
 | .agg cs,x=>∃ vs,x = .agg vs.toArray/\M1 st oe cs vs
 | .dead,_=>True
structure F6 (st:St) (be:Nat->Nat) (oe:Nat->Value) (st':St) (be':Nat->Nat) (oe':Nat->Value):Prop where
 bl:st.bx.length<=st'.bx.length
 be:∀ i,i<st.bx.length->be' i=be i
 sm:∀ i s,stamp st i=some s->∃ s',stamp st' i=some s'/\s<=s'/\(s'=s->oe' i=oe i)
theorem F6.refl(st:St)(be:Nat->Nat)(oe:Nat->Value):F6 st be oe st be oe :=
 ⟨Nat.le_refl _,λ_ _=>rfl,λi s h=>⟨s,h,Nat.le_refl _,λ_=>rfl⟩⟩
theorem k0c.grow{st st':St}{be be':Nat->Nat}{oe oe':Nat->Value}(g:F6 st be oe st' be' oe'){c:p5}{x:Value}(h:k0c st oe c x):k0c st' oe' c x:=by
 cases c with
 |val v=>exact h
 |own i k =>
  obtain⟨j,d,f,n⟩:=h
  obtain⟨l,a,b,m⟩:=g.sm i j d
  exact⟨l,a,Nat.le_trans f b,λe=>by grind⟩
theorem M1.grow{st st':St}{be be':Nat->Nat}{oe oe':Nat->Value}(g:F6 st be oe st' be' oe'):∀ {cs:List p5} {vs:List Value},M1 st oe cs vs->M1 st' oe' cs vs
 | [],[],_=>trivial
 |_::_,_::_,h=>⟨h.1.grow g,M1.grow g h.2⟩
 | [],_::_,h=>h.elim
 |_::_,[],h=>h.elim
theorem O1.grow{st st':St}{be be':Nat->Nat}{oe oe':Nat->Value}(g:F6 st be oe st' be' oe'){av:AV}{x:Value}(h:O1 st be oe av x):O1 st' be' oe' av x:=by
 cases av with
 |val v=>exact h
 |own i k =>
  obtain⟨c,a,b,m⟩:=h
  obtain⟨j,d,f,l⟩:=g.sm i c a
  exact⟨j,d,Nat.le_trans b f,λe=>by grind⟩
 |box i off=>exact⟨Nat.lt_of_lt_of_le h.1 g.bl,by rw[g.be i h.1];exact h.2⟩
 |hel c idx sz k=>exact h
 |oel i n idx sz k =>
  obtain⟨c,a,b,m⟩:=h
  obtain⟨j,d,f,l⟩:=g.sm i c a
  exact⟨j,d,Nat.le_trans b f,λe=>by grind⟩
 |agg cs=>obtain⟨vs,a,b⟩:=h;exact⟨vs,a,b.grow g⟩
 |dead=>trivial
theorem M1.length{st:St}{oe:Nat->Value}:∀ {cs:List p5} {vs:List Value},M1 st oe cs vs->cs.length=vs.length
 | [],[],_=>rfl
 |_::_,_::_,h=>by simp[M1.length h.2]
 | [],_::_,h=>h.elim
 |_::_,[],h=>h.elim
theorem M1.vals(st:St)(oe:Nat->Value):∀(vs:List Value),M1 st oe (vals vs) vs
 | []=>trivial
 |_::r=>⟨rfl,M1.vals st oe r⟩
theorem M1.nth{st:St}{oe:Nat->Value}:∀ {cs:List p5} {vs:List Value} {k:Nat} {c:p5},M1 st oe cs vs->nth cs k=some c->∃ v,vs[k]?=some v/\k0c st oe c v
 | [],_,k,c,_,h=>by simp[H.nth]at h
 |d::cs,b::vs,0,c,h,a=>by simp[H.nth]at a;subst a;exact⟨b,by simp,h.1⟩
 |d::cs,b::vs,k+1,c,h,a=>by
  simp[H.nth]at a
  obtain⟨v,e,f⟩:=M1.nth h.2 a
  exact⟨v,by simpa using e,f⟩
 |_::_,[],_,_,h,_=>h.elim
theorem M1.drop{st:St}{oe:Nat->Value}:∀ {cs:List p5} {vs:List Value} (k:Nat),M1 st oe cs vs->M1 st oe (cs.drop k) (vs.drop k)
 |cs,vs,0,h=>by simpa using h
 | [],[],k+1,h=>by simpa using h
 |_::cs,_::vs,k+1,h=>by simpa using M1.drop k h.2
 | [],_::_,_+1,h=>h.elim
 |_::_,[],_+1,h=>h.elim
theorem M1.take{st:St}{oe:Nat->Value}:∀ {cs:List p5} {vs:List Value} (k:Nat),M1 st oe cs vs->M1 st oe (cs.take k) (vs.take k)
 |cs,vs,0,h=>by simp[M1]
 | [],[],k+1,h=>by simp[M1]
 |_::cs,_::vs,k+1,h=>by simpa [M1] using ⟨h.1,M1.take k h.2⟩
 | [],_::_,_+1,h=>h.elim
 |_::_,[],_+1,h=>h.elim
theorem M1.upd{st:St}{oe:Nat->Value}:∀ {cs:List p5} {vs:List Value} {k:Nat} {c:p5} {v:Value},M1 st oe cs vs->k0c st oe c v->M1 st oe (F9 cs k c) (vs.set k v)
 | [],[],k,c,v,h,a=>by simp[F9,M1]
 |_::cs,_::vs,0,c,v,h,a=>⟨a,h.2⟩
 |_::cs,_::vs,k+1,c,v,h,a=>⟨h.1,M1.upd h.2 a⟩
 | [],_::_,_,_,_,h,_=>h.elim
 |_::_,[],_,_,_,h,_=>h.elim
def L2:List Value->Nat->List Value->List Value
 |cs,_,[]=>cs
 |cs,off,x::r=>L2 (cs.set off x) (off+1) r
theorem M1.splice{st:St}{oe:Nat->Value}:∀ {new:List p5} {a:List Value} {cs:List p5} {vs:List Value} {off:Nat},M1 st oe cs vs->M1 st oe new a->M1 st oe (splice cs off new) (L2 vs off a)
 | [],[],cs,vs,off,h,_=>h
 |c::new,v::a,cs,vs,off,h,b=>by
  simp only[H.splice,L2]
  exact M1.splice (h.upd b.1) b.2
 | [],_::_,_,_,_,_,h=>h.elim
 |_::_,[],_,_,_,_,h=>h.elim
theorem d8:∀(a vs:List Value) (off:Nat),(L2 vs off a).length=vs.length
 | [],vs,off=>rfl
 |n::a,vs,off=>by simp[L2,d8 a]
def Q04(h H:Hp)(v:Value)(e:TypeId)(sz:Nat)(nn:Bool)(xs:List (List Value)):Prop :=
  (∀ x∈xs,x.length=sz/\∀ v∈x,v.oneCell'=true) /\
  ((v = .slice none 0 0/\xs = []/\nn=false) ∨
   ∃ g cap cur,v = .slice (some ⟨g,0,none⟩) xs.length cap/\h g=none/\H g=some (.cells cur e (0,0)) /\
     xs.length<=cap/\cap<=maxLen/\cur.size=cap*sz/\cur.toList.take (xs.length*sz)=xs.flatten)
structure Sim (P:Program) (h0:Hp) (w0:World) (be:Nat->Nat) (oe:Nat->Value) (H:Hp) (st:St) (h:Hp) (a:Act) (w:World):Prop where
 mv:j2 h0 w0 H w
 sub:∀ b o,h b=some o->H b=some o
 box:∀ i cs ty,nth st.bx i=some (.live cs ty)->h (be i)=none/\∃ vs,M1 st oe cs vs/\H (be i)=some (.cells vs.toArray ty (0,0))
 pub:∀ i b,nth st.bx i=some (.publ b)->be i=b
 own:∀ i s e sz by_ nn xs,nth st.ow i=some ⟨s,.live e sz by_ nn xs⟩->Q04 h H (oe i) e sz nn xs
 frz:∀ i s v,nth st.ow i=some ⟨s,.frozen v⟩->oe i=v
 bb:∀ i j cs ty cs' ty',nth st.bx i=some (.live cs ty)->nth st.bx j=some (.live cs' ty')->be i=be j->i=j
 oo:∀ i j s e sz by_ nn xs s' e' sz' by' nn' xs' g,nth st.ow i=some ⟨s,.live e sz by_ nn xs⟩->nth st.ow j=some ⟨s',.live e' sz' by' nn' xs'⟩ ->
  (oe i).ownBlock=some g->(oe j).ownBlock=some g->i=j
 bo:∀ i cs ty j s e sz by_ nn xs,nth st.bx i=some (.live cs ty)->nth st.ow j=some ⟨s,.live e sz by_ nn xs⟩->(oe j).ownBlock≠some (be i)
 dfr:a.defers = []
 siz:a.tmps.size=st.n
 fr:∀ s,O1 st be oe (D2 st.fr s) (a.tmps.getD s undef)
section
variable {P:Program} {h0:Hp} {w0:World} {be:Nat->Nat} {oe:Nat->Value} {H:Hp} {st:St} {h:Hp} {a:Act} {w:World}
theorem Q04.block{h H:Hp}{v:Value}{e sz:Nat}{nn:Bool}{xs:List (List Value)}(o:Q04 h H v e sz nn xs){g:Nat}(d:v.ownBlock=some g):
  h g=none/\∃ cap cur,v = .slice (some ⟨g,0,none⟩) xs.length cap/\H g=some (.cells cur e (0,0)):=by
 rcases o.2 with⟨rfl,_⟩|⟨a,cap,cur,rfl,b,c,_⟩
 all_goals grind[Value.ownBlock]
theorem Q04.keep{h b H a:Hp}{v:Value}{e sz:Nat}{nn:Bool}{xs:List (List Value)}(o:Q04 h H v e sz nn xs)
  (d:∀ g,v.ownBlock=some g->a g=H g/\b g=none):Q04 b a v e sz nn xs:=by
 refine⟨o.1,?_⟩
 rcases o.2 with f|⟨g,cap,cur,rfl,k,c,r⟩
 ·exact .inl f
 ·obtain⟨i,j⟩:=d g rfl
  exact .inr ⟨g,cap,cur,rfl,j,by rw[i];exact c,r⟩
theorem O0m(s:Sim P h0 w0 be oe H st h a w):Vis H w:=s.mv.vis
theorem O08(c:Sim P h0 w0 be oe H st h a w):Vis h w:=λb o d=>c.mv.vis b o (c.sub b o d)
theorem Sim.moved(c:Sim P h0 w0 be oe H st h a w){k:Hp}{t:World}(m:j2 h w k t):∃ f,Sim P h0 w0 be oe f st k a t:=by
 let f:Hp:=λb=>match k b with
  |some o=>some o
  |none=>match h b with
   |some _=>none
   |none=>H b
 have D:∀ b,h b=none->H b≠none->f b=H b/\k b=none:=by
  intro b d n
  have s:b<w.heap.size:=c.mv.vis.lt n
  have C:k b=none:=m.none_of s d
  grind
 have z:j2 H w f t:=by
  refine⟨m.os,m.tape,m.output,m.size,?_,?_,?_,m.fz,m.dn⟩
  ·intro b d n
   have:h b=none:=by
    cases hc:h b with
    |none=>rfl
    |some o=>rw[c.sub b o hc]at n;cases n
   exact m.keep b d this
  ·intro b o j
   simp only[f]at j
   split at j
   ·rename_i x q;cases j;exact m.vis b _ q
   ·split at j
    ·cases j
    ·rename_i q d
     have s:b<w.heap.size:=c.mv.vis.lt (by rw[j];simp)
     rw[m.keep b s d]
     exact c.mv.vis b o j
  ·intro b d
   simp only[f]at d
   split at d
   ·rename_i x q
    rcases m.fresh b (by simp[q])with l|l
    ·left
     cases hc:h b with
     |none=>exact absurd hc l
     |some o=>rw[c.sub b o hc];simp
    ·exact .inr l
   grind
 refine⟨f,⟨c.mv.trans z,?_,?_,c.pub,?_,c.frz,c.bb,c.oo,c.bo,c.dfr,c.siz,c.fr⟩⟩
 ·grind
 ·intro i cs ty p
  obtain⟨l,vs,A,v⟩:=c.box i cs ty p
  grind
 ·intro i u e sz by_ nn xs p
  refine(c.own i u e sz by_ nn xs p).keep λg y=>?_
  obtain⟨l,cap,cur,_,v⟩:=(c.own i u e sz by_ nn xs p).block y
  grind
theorem D3(d:Nat)(av:AV)(r:List (Nat×AV))(s:Nat):D2 ((d,av)::r) s=if d=s then av else D2 r s:=by
 grind[D2,Nat.beq,Nat.eq_of_beq_eq_true,Nat.ne_of_beq_eq_false]
theorem Sim.put(b:Sim P h0 w0 be oe H st h a w){d:Nat}{av:AV}{v:Value}(k:d<st.n)(l:O1 st be oe av v):
  Sim P h0 w0 be oe H { st with fr:=(d,av)::st.fr } h (a.put (some d) v) w:=by
 have c:F6 st be oe { st with fr:=(d,av)::st.fr } be oe:=⟨Nat.le_refl _,λ_ _=>rfl,λi b h=>⟨b,h,Nat.le_refl _,λ_=>rfl⟩⟩
 refine⟨b.mv,b.sub,λi cs ty m=>?_,b.pub,b.own,b.frz,b.bb,b.oo,b.bo,b.dfr,by simp[Act.put,b.siz],?_⟩
 ·obtain⟨f,vs,g,j⟩:=b.box i cs ty m
  exact⟨f,vs,g.grow c,j⟩
 intro t
 refine O1.grow c ?_
 rw[D3]
 by_cases e:d=t
 ·subst e
  rw[if_pos rfl]
  have:(a.put (some d) v).tmps.getD d undef=v:=by simp[Act.put,b.siz,k]
  rw[this]
  exact l
 ·rw[if_neg e]
  have:(a.put (some d) v).tmps.getD t undef=a.tmps.getD t undef:=by simp[Act.put,Array.getElem?_setIfInBounds_ne e]
  rw[this]
  exact b.fr t
theorem Sim.newBox(c:Sim P h0 w0 be oe H st h a w){cs:List p5}{vs:List Value}{t:TypeId}{b:Nat}{E:World}(z:M1 st oe cs vs)(y:H b=none)
  (m:j2 H w (H.set b (.cells vs.toArray t (0,0))) E) :
  let be':=λj=>if j=st.bx.length then b else be j
  let st':St := { st with bx:=st.bx ++ [.live cs t] }
  Sim P h0 w0 be' oe (H.set b (.cells vs.toArray t (0,0))) st' h a E/\F6 st be oe st' be' oe:=by
 intro be' st'
 have L:h b=none:=by
  cases p:h b with
  |none=>rfl
  |some o=>rw[c.sub b o p]at y;cases y
 have n:F6 st be oe st' be' oe:=by
  refine⟨by simp[st'],λi d=>?_,λi c N=>⟨c,N,Nat.le_refl _,λ_=>rfl⟩⟩
  grind
 have M:∀ x,H x≠none->x≠b:=λx q e=>by subst e;exact q y
 have s:∀ i cs ty,nth st.bx i=some (.live cs ty)->be' i=be i:=λi cs ty d=>by simp[be',Nat.ne_of_lt (P00 d)]
 have l:∀ i x,nth st'.bx i=some x->(i=st.bx.length/\x = .live cs t)∨(i≠st.bx.length/\nth st.bx i=some x):=by
  grind[w01]
 have R:∀ i cs ty,nth st.bx i=some (.live cs ty)->be i≠b:=λi cs ty d=>by
  obtain⟨_,vs,_,v⟩:=c.box i cs ty d
  grind
 have S:∀ i k e sz by_ nn xs g,nth st.ow i=some ⟨k,.live e sz by_ nn xs⟩->(oe i).ownBlock=some g->g≠b:=λi k e sz by_ nn xs g d z=>by
  obtain⟨_,_,_,_,v⟩:=(c.own i k e sz by_ nn xs d).block z
  grind
 refine⟨⟨c.mv.trans m,?_,?_,?_,?_,c.frz,?_,c.oo,?_,c.dfr,c.siz,λt=>(c.fr t).grow n⟩,n⟩
 ·intro x o q
  rw[Hp.set_other _ _ (M x (by rw[c.sub x o q];simp))]
  exact c.sub x o q
 ·intro i cs' ty d
  rcases l i _ d with⟨rfl,e⟩|⟨e,f⟩
  ·cases e
   exact⟨by simp[be',L],vs,z.grow n,by simp[be',Hp.set]⟩
  ·obtain⟨C,Q,J,v⟩:=c.box i cs' ty f
   rw[s i cs' ty f]
   exact⟨C,Q,J.grow n,by grind[Hp.set_other]⟩
 ·intro i F d
  rcases l i _ d with⟨_,e⟩|⟨e,f⟩
  ·cases e
  ·simp[be',e,c.pub i F f]
 ·intro i k e sz by_ nn xs d
  refine(c.own i k e sz by_ nn xs d).keep λg K=>?_
  obtain⟨C,cap,cur,_,v⟩:=(c.own i k e sz by_ nn xs d).block K
  grind[Hp.set_other]
 ·intro i j G O T U d A e
  rcases l i _ d with⟨rfl,u⟩|⟨u,f⟩<;>rcases l j _ A with⟨rfl,I⟩|⟨I,D⟩
  ·rfl
  ·grind
  ·grind
  ·rw[s i _ _ f,s j _ _ D]at e;exact c.bb i j _ _ _ _ f D e
 ·intro i G O j k e sz by_ nn xs d A p
  rcases l i _ d with⟨rfl,u⟩|⟨u,f⟩
  ·grind
  ·rw[s i _ _ f]at p;exact c.bo i _ _ j _ _ _ _ _ _ f A p
theorem Sim.updBox(c:Sim P h0 w0 be oe H st h a w){i:Nat}{A cs:List p5}{vs:List Value}{t:TypeId}{E:World}(f:nth st.bx i=some (.live A t))
  (K:M1 st oe cs vs) (m:j2 H w (H.set (be i) (.cells vs.toArray t (0,0))) E) :
  Sim P h0 w0 be oe (H.set (be i) (.cells vs.toArray t (0,0))) { st with bx:=F9 st.bx i (.live cs t) } h a E/\F6 st be oe { st with bx:=F9 st.bx i (.live cs t) } be oe:=by
 have n:F6 st be oe { st with bx:=F9 st.bx i (.live cs t) } be oe :=
  ⟨by simp[d04],λ_ _=>rfl,λi c M=>⟨c,M,Nat.le_refl _,λ_=>rfl⟩⟩
 have L:=(c.box i A t f).1
 have k:∀ j x,nth (F9 st.bx i (.live cs t)) j=some x->(j=i/\x = .live cs t)∨(j≠i/\nth st.bx j=some x):=by
  grind[J6,P00]
 refine⟨⟨c.mv.trans m,?_,?_,?_,?_,c.frz,?_,c.oo,?_,c.dfr,c.siz,λt=>(c.fr t).grow n⟩,n⟩
 ·intro x o l
  have:x≠be i:=λe=>by grind
  rw[Hp.set_other _ _ this];exact c.sub x o l
 ·intro j cs' ty d
  rcases k j _ d with⟨rfl,e⟩|⟨e,p⟩
  ·cases e;exact⟨L,vs,K.grow n,by simp[Hp.set]⟩
  ·obtain⟨v,Q,I,J⟩:=c.box j cs' ty p
   have:be j≠be i:=λs=>e (c.bb j i _ _ _ _ p f s)
   exact⟨v,Q,I.grow n,by grind[Hp.set_other]⟩
 ·intro j b d
  rcases k j _ d with⟨_,e⟩|⟨e,p⟩
  ·cases e
  ·exact c.pub j b p
 ·intro j z e sz by_ nn xs d
  refine(c.own j z e sz by_ nn xs d).keep λg C=>?_
  obtain⟨v,cap,cur,_,J⟩:=(c.own j z e sz by_ nn xs d).block C
  exact⟨Hp.set_other _ _ (λs=>by subst s;exact c.bo i _ _ j _ _ _ _ _ _ f d C),v⟩
 ·intro x y F O R S l N e
  rcases k x _ l with⟨rfl,u⟩|⟨u,q⟩<;>rcases k y _ N with⟨rfl,G⟩|⟨G,D⟩
  ·rfl
  ·exact c.bb _ _ _ _ _ _ f D e
  ·exact c.bb _ _ _ _ _ _ q f e
  ·exact c.bb _ _ _ _ _ _ q D e
 ·intro x F O j z e sz by_ nn xs l d
  rcases k x _ l with⟨rfl,u⟩|⟨u,q⟩
  ·exact c.bo _ _ _ j _ _ _ _ _ _ f d
  ·exact c.bo _ _ _ j _ _ _ _ _ _ q d
end
end Go.H
namespace Go.H
set_option linter.unusedVariables false
section
variable {P:Program} {h0:Hp} {w0:World} {be:Nat->Nat} {oe:Nat->Value} {H:Hp} {st:St} {h:Hp} {a:Act} {w:World}
theorem c0j(st:St)(o:Own)(i b:Nat)(a:stamp st i=some b):stamp { st with ow:=st.ow ++ [o] } i=some b:=by
 unfold stamp at *
 have c:i<st.ow.length:=by
  cases hn:nth st.ow i with
  |none=>rw[hn]at a;cases a
  |some x=>exact P00 hn
 simp_all[w01,Nat.ne_of_lt]
theorem Sim.newOwn(c:Sim P h0 w0 be oe H st h a w){v:Value}{e sz by_:Nat}{nn:Bool}{xs:List (List Value)}{p:Hp}{R:World}
  (I:∀ b o,H b=some o->p b=some o) (m:j2 H w p R) (Y:Q04 h p v e sz nn xs) (X:∀ g,v.ownBlock=some g->H g=none) :
  let oe':=λj=>if j=st.ow.length then v else oe j
  let st':St := { st with ow:=st.ow ++ [⟨0,.live e sz by_ nn xs⟩] }
  Sim P h0 w0 be oe' p st' h a R/\F6 st be oe st' be oe':=by
 intro oe' st'
 have F:F6 st be oe st' be oe':=by
  refine⟨Nat.le_refl _,λ_ _=>rfl,λi c A=>⟨c,c0j st _ i c A,Nat.le_refl _,λ_=>?_⟩⟩
  have W:i<st.ow.length:=by
   unfold stamp at A
   cases hn:nth st.ow i with
   |none=>rw[hn]at A;cases A
   |some x=>exact P00 hn
  grind
 have q:∀ i x,nth st'.ow i=some x->(i=st.ow.length/\x=⟨0,.live e sz by_ nn xs⟩)∨(i≠st.ow.length/\nth st.ow i=some x):=by
  grind[w01]
 have aa:∀ b,H b≠none->p b=H b:=by
  intro b J
  cases l:H b with
  |none=>exact absurd l J
  |some o=>exact I b o l
 refine⟨⟨c.mv.trans m,λb o J=>I b o (c.sub b o J),?_,c.pub,?_,?_,c.bb,?_,?_,c.dfr,c.siz,λt=>(c.fr t).grow F⟩,F⟩
 ·intro i cs ty d
  obtain⟨G,vs,S,z⟩:=c.box i cs ty d
  exact⟨G,vs,S.grow F,I _ _ z⟩
 ·intro i Q y D u C E d
  rcases q i _ d with⟨rfl,f⟩|⟨f,n⟩
  ·grind
  ·simp only[oe',if_neg f]
   refine(c.own i _ _ _ _ _ _ n).keep λg K=>?_
   obtain⟨G,cap,cur,_,z⟩:=(c.own i _ _ _ _ _ _ n).block K
   grind
 ·intro i Q U d
  rcases q i _ d with⟨rfl,f⟩|⟨f,n⟩
  ·cases f
  ·simp only[oe',if_neg f];exact c.frz i Q U n
 ·intro i j s1 y D u C E s2 f ac V ab ad g d L gi O
  have Z:∀ k s1 y D u C E,nth st.ow k=some ⟨s1,.live y D u C E⟩->(oe k).ownBlock=some g->v.ownBlock≠some g:=λk _ _ _ _ _ _ T K l=>by
   obtain⟨G,cap,cur,_,z⟩:=(c.own k _ _ _ _ _ _ T).block K
   grind
  rcases q i _ d with⟨rfl,N⟩|⟨N,n⟩<;>rcases q j _ L with⟨rfl,s⟩|⟨s,M⟩
  ·rfl
  ·grind
  ·grind
  ·simp only[oe',if_neg N]at gi;simp only[oe',if_neg s]at O;exact c.oo i j _ _ _ _ _ _ _ _ _ _ _ _ g n M gi O
 ·intro i cs ty j s1 y D u C E d L l
  rcases q j _ L with⟨rfl,s⟩|⟨s,M⟩
  ·simp only[oe',if_pos rfl]at l
   obtain⟨_,vs,_,z⟩:=c.box i cs ty d
   grind
  ·simp only[oe',if_neg s]at l;exact c.bo i cs ty j _ _ _ _ _ _ d M l
theorem Sim.updOwn(c:Sim P h0 w0 be oe H st h a w){i M V af U:Nat}{ae:Bool}{ah:List (List Value)}(K:nth st.ow i=some ⟨M,.live V af U ae ah⟩)
  {v:Value} {s1 e sz by_:Nat} {nn:Bool} {xs:List (List Value)} {J:Hp} {T:World} (ao:M<=s1) (ap:s1=M->v=oe i)
  (m:j2 H w J T) (am:∀ b,(oe i).ownBlock≠some b->H b≠none->J b=H b) (an:Q04 h J v e sz nn xs)
  (R:∀ g,v.ownBlock=some g->(oe i).ownBlock=some g∨H g=none) :
  let oe':=λj=>if j=i then v else oe j
  let st':St := { st with ow:=F9 st.ow i ⟨s1,.live e sz by_ nn xs⟩ }
  Sim P h0 w0 be oe' J st' h a T/\F6 st be oe st' be oe':=by
 intro oe' st'
 have X:=P00 K
 have L:F6 st be oe st' be oe':=by
  refine⟨Nat.le_refl _,λ_ _=>rfl,λj t Z=>?_⟩
  unfold stamp at Z ⊢
  simp only[st',J6 _ _ _ X]
  grind
 have C:∀ j x,nth st'.ow j=some x->(j=i/\x=⟨s1,.live e sz by_ nn xs⟩)∨(j≠i/\nth st.ow j=some x):=by
  grind[J6]
 have al:∀ g,(oe i).ownBlock=some g->h g=none:=λg s=>((c.own i _ _ _ _ _ _ K).block s).1
 have ar:∀ j s1 D G A F I g,j≠i->nth st.ow j=some ⟨s1,.live D G A F I⟩->(oe j).ownBlock=some g->(oe i).ownBlock≠some g/\v.ownBlock≠some g:=by
  intro j s1 D G A F I g Y n s
  have f:(oe i).ownBlock≠some g:=λl=>Y (c.oo j i _ _ _ _ _ _ _ _ _ _ _ _ g n K s l)
  refine⟨f,λl=>?_⟩
  rcases R g l with d|d
  ·exact f d
  ·obtain⟨_,cap,cur,_,q⟩:=(c.own j _ _ _ _ _ _ n).block s
   rw[d]at q;cases q
 have ai:∀ k cs ty,nth st.bx k=some (.live cs ty)->(oe i).ownBlock≠some (be k)/\v.ownBlock≠some (be k):=by
  intro k cs ty z
  have f:=c.bo k cs ty i _ _ _ _ _ _ z K
  refine⟨f,λl=>?_⟩
  rcases R _ l with d|d
  ·exact f d
  ·obtain⟨_,vs,_,q⟩:=c.box k cs ty z
   rw[d]at q;cases q
 refine⟨⟨c.mv.trans m,?_,?_,c.pub,?_,?_,c.bb,?_,?_,c.dfr,c.siz,λt=>(c.fr t).grow L⟩,L⟩
 ·intro b o W
  have ak:=c.sub b o W
  grind
 ·intro k cs ty z
  obtain⟨f,vs,d,q⟩:=c.box k cs ty z
  exact⟨f,vs,d.grow L,by grind⟩
 ·intro j S D G A F I n
  rcases C j _ n with⟨rfl,p⟩|⟨p,u⟩
  ·grind
  ·simp only[oe',if_neg p]
   refine(c.own j _ _ _ _ _ _ u).keep λg s=>?_
   obtain⟨f,cap,cur,_,q⟩:=(c.own j _ _ _ _ _ _ u).block s
   grind
 ·intro j S ag n
  rcases C j _ n with⟨rfl,p⟩|⟨p,u⟩
  ·cases p
  ·simp only[oe',if_neg p];exact c.frz j S ag u
 ·intro x y s1 D G A F I s2 p au aj aq av g aa ac O Q
  rcases C x _ aa with⟨rfl,N⟩|⟨N,ab⟩<;>rcases C y _ ac with⟨rfl,E⟩|⟨E,ad⟩
  ·rfl
  ·grind
  ·grind
  ·simp only[oe',if_neg N]at O;simp only[oe',if_neg E]at Q;exact c.oo x y _ _ _ _ _ _ _ _ _ _ _ _ g ab ad O Q
 ·intro k cs ty j s1 D G A F I z n l
  rcases C j _ n with⟨rfl,E⟩|⟨E,u⟩
  ·grind
  ·simp only[oe',if_neg E]at l;exact c.bo k cs ty j _ _ _ _ _ _ z u l
theorem Sim.freeze(c:Sim P h0 w0 be oe H st h a w){i m e sz by_:Nat}{nn:Bool}{xs:List (List Value)}(u:nth st.ow i=some ⟨m,.live e sz by_ nn xs⟩):
  ∃ f,E1 h f (oe i) e sz nn xs/\Sim P h0 w0 be oe H { st with ow:=F9 st.ow i ⟨m,.frozen (oe i)⟩ } f a w /\
   F6 st be oe { st with ow:=F9 st.ow i ⟨m,.frozen (oe i)⟩ } be oe:=by
 have W:=P00 u
 have C:=c.own i _ _ _ _ _ _ u
 have s:F6 st be oe { st with ow:=F9 st.ow i ⟨m,.frozen (oe i)⟩ } be oe:=by
  refine⟨Nat.le_refl _,λ_ _=>rfl,λj t Z=>⟨t,?_,Nat.le_refl _,λ_=>rfl⟩⟩
  unfold stamp at Z ⊢
  simp only[J6 _ _ _ W]
  grind
 have n:∀ j x,nth (F9 st.ow i ⟨m,.frozen (oe i)⟩) j=some x->(j=i/\x=⟨m,.frozen (oe i)⟩)∨(j≠i/\nth st.ow j=some x):=by
  grind[J6]
 have N:∀ f,(∀ b,(oe i).ownBlock≠some b->f b=h b)->(∀ b o,f b=some o->H b=some o) ->
   Sim P h0 w0 be oe H { st with ow:=F9 st.ow i ⟨m,.frozen (oe i)⟩ } f a w:=by
  intro f M Y
  refine⟨c.mv,Y,?_,c.pub,?_,?_,c.bb,?_,?_,c.dfr,c.siz,λt=>(c.fr t).grow s⟩
  ·intro k cs ty v
   obtain⟨z,vs,J,V⟩:=c.box k cs ty v
   exact⟨by rw[M _ (c.bo k cs ty i _ _ _ _ _ _ v u)];exact z,vs,J.grow s,V⟩
  ·intro j Q G R F O S q
   rcases n j _ q with⟨rfl,d⟩|⟨d,l⟩
   ·cases d
   ·refine(c.own j _ _ _ _ _ _ l).keep λg L=>⟨rfl,?_⟩
    rw[M g (λA=>d (c.oo j i _ _ _ _ _ _ _ _ _ _ _ _ g l u L A))]
    exact((c.own j _ _ _ _ _ _ l).block L).1
  ·intro j Q ad q
   rcases n j _ q with⟨rfl,d⟩|⟨d,l⟩
   ·cases d;rfl
   ·exact c.frz j Q ad l
  ·intro x y s1 G R F O S s2 d ag ae af ah g E ab T U
   rcases n x _ E with⟨rfl,I⟩|⟨I,aa⟩<;>rcases n y _ ab with⟨rfl,p⟩|⟨p,ac⟩
   ·rfl
   ·cases I
   ·cases p
   ·exact c.oo x y _ _ _ _ _ _ _ _ _ _ _ _ g aa ac T U
  ·intro k cs ty j s1 G R F O S v q A
   rcases n j _ q with⟨rfl,p⟩|⟨p,l⟩
   ·cases p
   ·exact c.bo k cs ty j _ _ _ _ _ _ v l A
 rcases C.2 with⟨D,E,X⟩|⟨g,cap,cur,D,z,J,r⟩
 ·exact⟨h,⟨C.1,.inl ⟨D,E,X,rfl⟩⟩,N h (λ_ _=>rfl) c.sub,s⟩
 ·refine⟨h.set g (.cells cur e (0,0)),⟨C.1,.inr ⟨g,cap,cur,D,z,rfl,r⟩⟩,N _ ?_ ?_,s⟩
  ·grind[Hp.set_other,Value.ownBlock]
  ·intro b o K
   by_cases e':b=g
   ·grind[Hp.set]
   ·rw[Hp.set_other _ _ e']at K;exact c.sub b o K
theorem Sim.publ(c:Sim P h0 w0 be oe H st h a w){i:Nat}{cs:List p5}{ty:TypeId}(n:nth st.bx i=some (.live cs ty)){vs:List Value}
  (T:H (be i)=some (.cells vs.toArray ty (0,0))) :
  h (be i)=none/\Sim P h0 w0 be oe H { st with bx:=F9 st.bx i (.publ (be i)) } (h.set (be i) (.cells vs.toArray ty (0,0))) a w /\
   F6 st be oe { st with bx:=F9 st.bx i (.publ (be i)) } be oe:=by
 have U:=P00 n
 have I:=(c.box i cs ty n).1
 have q:F6 st be oe { st with bx:=F9 st.bx i (.publ (be i)) } be oe :=
  ⟨by simp[d04],λ_ _=>rfl,λj t J=>⟨t,J,Nat.le_refl _,λ_=>rfl⟩⟩
 have f:∀ j x,nth (F9 st.bx i (.publ (be i))) j=some x->(j=i/\x = .publ (be i))∨(j≠i/\nth st.bx j=some x):=by
  grind[J6]
 refine⟨I,⟨c.mv,?_,?_,?_,?_,c.frz,?_,c.oo,?_,c.dfr,c.siz,λt=>(c.fr t).grow q⟩,q⟩
 ·intro b o A
  by_cases l:b=be i
  ·grind[Hp.set]
  ·rw[Hp.set_other _ _ l]at A;exact c.sub b o A
 ·intro k cs' N s
  rcases f k _ s with⟨rfl,e⟩|⟨e,p⟩
  ·cases e
  ·obtain⟨E,Q,F,G⟩:=c.box k cs' N p
   exact⟨by rw[Hp.set_other _ _ (λl=>e (c.bb k i _ _ _ _ p n l))];exact E,Q,F.grow q,G⟩
 ·intro k b s
  rcases f k _ s with⟨rfl,e⟩|⟨e,p⟩
  ·cases e;rfl
  ·exact c.pub k b p
 ·intro j M d W R V Y m
  refine(c.own j _ _ _ _ _ _ m).keep λg C=>⟨rfl,?_⟩
  rw[Hp.set_other _ _ (λl=>by subst l;exact c.bo i cs ty j _ _ _ _ _ _ n m C)]
  exact((c.own j _ _ _ _ _ _ m).block C).1
 ·intro x y D O S X u K e
  rcases f x _ u with⟨_,d⟩|⟨d,v⟩
  ·cases d
  rcases f y _ K with⟨_,z⟩|⟨z,L⟩
  ·cases z
  exact c.bb _ _ _ _ _ _ v L e
 ·intro x D O j M e sz by_ nn xs u m
  rcases f x _ u with⟨_,d⟩|⟨d,v⟩
  ·cases d
  ·exact c.bo _ _ _ j _ _ _ _ _ _ v m
theorem Sim.rdA(d:Sim P h0 w0 be oe H st h a w){av:AV}{x:Value}(g:O1 st be oe av x):O1 st be oe (rdA st av) x:=by
 cases av with
 |own i k =>
  simp only[Go.H.rdA]
  split
  ·rename_i m o c
   split
   ·rename_i j
    have l:=Nat.eq_of_beq_eq_true j
    split
    ·exact g
    ·rename_i v
     obtain⟨t,n,_,e⟩:=g
     have:t=m:=by grind[stamp]
     subst this
     have:=e l.symm
     rw[d.frz i _ v c]at this
     exact this
   ·trivial
  ·trivial
 |box i off =>
  simp only[Go.H.rdA]
  split
  ·exact g
  ·rename_i b c
   have:=g.2
   rw[d.pub i b c]at this
   exact this
  ·trivial
 |oel i k idx sz f =>
  simp only[Go.H.rdA]
  split
  ·split
   ·exact g
   ·trivial
  ·trivial
 |_=>exact g
theorem Sim.rdO(s:Sim P h0 w0 be oe H st h a w)(x:Operand):O1 st be oe (rdO st x) (a.eval x):=by
 cases x with
 |tmp t=>exact s.rdA (s.fr t)
 |const v=>rfl
 |global g=>trivial
 |func f=>rfl
theorem o05{st:St}{av:AV}{i k:Nat}(h:Go.H.rdA st av = .own i k):∃ e sz by_ nn xs,nth st.ow i=some ⟨k,.live e sz by_ nn xs⟩:=by
 cases av with
 |own j l =>
  grind[Go.H.rdA,Nat.eq_of_beq_eq_true]
 |box j off=>simp only[Go.H.rdA]at h;split at h<;>cases h
 |oel j l idx sz f=>simp only[Go.H.rdA]at h;split at h<;>(try split at h)<;>cases h
 |_=>cases h
theorem p05{st:St}{x:Operand}{i k:Nat}(h:Go.H.rdO st x = .own i k):∃ e sz by_ nn xs,nth st.ow i=some ⟨k,.live e sz by_ nn xs⟩:=by
 cases x with
 |tmp t=>exact o05 h
 |_=>cases h
theorem I0f{st:St}{av:AV}{i k:Nat}{idx:Int}{sz f:Nat}(h:Go.H.rdA st av = .oel i k idx sz f):∃ e a by_ nn xs,nth st.ow i=some ⟨k,.live e a by_ nn xs⟩:=by
 cases av with
 |own j l=>simp only[Go.H.rdA]at h;split at h<;>(try split at h)<;>(try split at h)<;>cases h
 |box j off=>simp only[Go.H.rdA]at h;split at h<;>cases h
 |oel j l idx sz f =>
  grind[Go.H.rdA,Nat.eq_of_beq_eq_true]
 |_=>cases h
theorem d0k{st:St}{x:Operand}{i k:Nat}{idx:Int}{sz f:Nat}(h:Go.H.rdO st x = .oel i k idx sz f):∃ e a by_ nn xs,nth st.ow i=some ⟨k,.live e a by_ nn xs⟩:=by
 cases x with
 |tmp t=>exact I0f h
 |_=>cases h
theorem O1.own_cur{st:St}{be:Nat->Nat}{oe:Nat->Value}{i k:Nat}{x:Value}{o:OSt}(g:O1 st be oe (.own i k) x)(c:nth st.ow i=some ⟨k,o⟩):x=oe i:=by
 obtain⟨d,a,_,b⟩:=g
 grind[stamp]
theorem O1.oel_cur{st:St}{be:Nat->Nat}{oe:Nat->Value}{i k:Nat}{idx:Int}{sz f:Nat}{x:Value}{o:OSt}(g:O1 st be oe (.oel i k idx sz f) x)(d:nth st.ow i=some ⟨k,o⟩):
  ∃ g n c,oe i = .slice (some ⟨g,0,none⟩) n c/\x=ptr g (idx.toNat*sz+f):=by
 obtain⟨e,a,_,b⟩:=g
 grind[stamp]
theorem j06{st:St}:∀ {cs:List p5} {vs a:List Value},Y0b cs=some vs->M1 st oe cs a->a=vs
 | [],vs,[],h,_=>by cases h;rfl
 | [],vs,_::_,h,g=>g.elim
 | .val v::r,vs,[],h,g=>g.elim
 | .val v::r,vs,w::a,h,g=>by
  simp only[Y0b]at h
  split at h
  ·rename_i e d
   cases h
   obtain⟨b,c⟩:=g
   rw[j06 d c,show w=v from b]
  ·cases h
 | .own i k::r,vs,a,h,g=>by cases h
theorem O6{st:St}{av:AV}{v x:Value}(h:C03 av=some v)(g:O1 st be oe av x):x=v:=by
 cases av with
 |val u=>cases h;exact g
 |agg cs =>
  simp only[C03]at h
  split at h
  ·rename_i vs b
   cases h
   obtain⟨c,rfl,a⟩:=g
   rw[j06 b a]
  ·cases h
 |_=>cases h
end
end Go.H
namespace Go.H
set_option linter.unusedVariables false
theorem T1{P:Program}{i g:Type}(d:Sem i)(f:i->Sem g):∀(h:Hp) (K:g->Hp->Prop),wpS P (d >>= f) h K=wpS P d h (λx e=>wpS P (f x) e K):=by
 change ∀(h:Hp) (K:g->Hp->Prop),wpS P (d.bind f) h K=wpS P d h (λx e=>wpS P (f x) e K)
 induction d with
 |pure a=>intro h K;rfl
 |load m a k b=>grind[Sem.bind,wpS]
 |store m a v k b=>intro h K;simp only[Sem.bind,wpS,b]
 |new o k b=>grind[Sem.bind,wpS]
 |shape r k b=>grind[Sem.bind,wpS]
 |freeze a n k b=>intro h K;rfl
 |frozen a k b=>grind[Sem.bind,wpS]
 |getObj r k b=>grind[Sem.bind,wpS]
 |setObj r o k b=>grind[Sem.bind,wpS]
 |choose q k b=>grind[Sem.bind,wpS]
 |sys c k b=>intro h K;rfl
 |program k b=>grind[Sem.bind,wpS]
 |mark m k b=>grind[Sem.bind,wpS]
 |halt x=>intro h K;rfl
theorem Z1{P:Program}{a:Type}(x:a)(h:Hp)(K:a->Hp->Prop):wpS P (pure x) h K=K x h:=rfl
theorem e0k{P:Program}{e:Type}(d:Sem e){x:e}(b:evP P d=some x):∀ w:World,d.run P w = .ok x w:=by
 induction d with
 |pure a=>simp_all[evP,Option.some.injEq]
 |program k c=>intro w;exact c _ b w
 |mark m k c=>intro w;exact c b w
 |_=>simp[evP]at b
theorem P08(a:Operand->Value):∀ l:List Operand,B0f a l=l.map a
 | []=>rfl
 |x::r=>by simp only[B0f,List.map_cons,P08 a r]
theorem f0k:∀ a b:List Value,x0m a b=a++b
 | [],b=>rfl
 |x::r,b=>by simp only[x0m,List.cons_append,f0k r b]
theorem R04:∀ l:List Operand,Z05 l=l.map fun | .const _=>true|_=>false
 | []=>rfl
 | .const _::r=>by simp only[Z05,List.map_cons,R04 r]
 | .tmp _::r=>by simp only[Z05,List.map_cons,R04 r]
 | .global _::r=>by simp only[Z05,List.map_cons,R04 r]
 | .func _::r=>by simp only[Z05,List.map_cons,R04 r]
theorem l0c(a:Operand->Value)(o:Oper):F0g a o=execOp a o:=by
 unfold F0g
 split
 ·rename_i c d
  obtain⟨i,as,j⟩:=c
  split
  ·rename_i b g
   simp only at g
   subst g
   unfold execOp
   rw[d]
   simp only[resolve,P08,R04]
   rw[show(List.map a as.toList).toArray=as.map a from by apply Array.ext';simp]
   have h:∀ f:Operand->Bool,(List.map f as.toList).toArray=as.map f:=λf=>by apply Array.ext';simp
   rw[h]
   rfl
  ·rfl
 ·rename_i fn first e d
  unfold execOp
  rw[d]
  simp only[P08]
  rw[show(List.map a first.toList).toArray=first.map a from by apply Array.ext';simp,show(List.map a e.toList).toArray=e.map a from by apply Array.ext';simp]
 ·rfl
theorem f07{P:Program}{e:Operand->Value}{o:Oper}{f:FuncId}{l:List Value}(a:J07 e o=some (f,l))(b:okF P f=true)(w:World):(execOp e o).run P w = .ok (.enter f l.toArray) w:=by
 unfold J07 at a
 split at a
 ·rename_i c i
  obtain⟨m,as,q⟩:=c
  split at a
  ·rename_i x d
   simp only at d
   subst d
   split at a
   ·rename_i p first n j
    cases a
    unfold okF at b
    split at b
    ·rename_i fn hf
     split at b
     ·rename_i k g
      split at b
      ·cases b
      ·rename_i h
       unfold execOp
       rw[i]
       simp only[resolve,j,Deferred.ofValue,Sem.run_bind,Sem.run_pure,Result.andThen_ok,invoke,callFunc,program,Sem.run,hf,h,g,Bool.false_eq_true,if_false,Option.isNone_some]
       simp_all[f0k,P08]
     ·cases b
    ·cases b
   ·cases a
  ·cases a
 ·cases a
section
variable {P:Program} {h0:Hp} {w0:World} {be:Nat->Nat} {oe:Nat->Value} {H:Hp} {st:St} {h:Hp} {a:Act} {w:World}
theorem F6.trans{st f h:St}{be a b:Nat->Nat}{oe d e:Nat->Value}(g:F6 st be oe f a d)(k:F6 f a d h b e):F6 st be oe h b e:=by
 refine⟨Nat.le_trans g.bl k.bl,λi c=>?_,λi m l=>?_⟩
 ·rw[k.be i (Nat.lt_of_lt_of_le c g.bl),g.be i c]
 ·obtain⟨s1,j,n,o⟩:=g.sm i m l
  obtain⟨s2,p,q,s⟩:=k.sm i s1 j
  grind
theorem Q08(p:Sim P h0 w0 be oe H st h a w){i k:Nat}{x:Value}(g:∃ t,stamp st i=some t/\k<=t/\(k=t->x=oe i)){K:Value->St->Hp->Prop}
  (b:A0f i k st h K):∃ st' c,K x st' c/\Sim P h0 w0 be oe H st' c a w/\F6 st be oe st' be oe/\st'.bx=st.bx:=by
 unfold A0f at b
 obtain⟨t,s,_,n⟩:=g
 split at b
 ·rename_i m e sz by_ nn xs j
  split at b
  ·rename_i d
   have f:=Nat.eq_of_beq_eq_true d
   have l:t=m:=by grind[stamp]
   have o:x=oe i:=n (by rw[l,f])
   obtain⟨c,q,f2,f3⟩:=p.freeze j
   rw[o]
   exact⟨_,c,b _ _ q,f2,f3,rfl⟩
  ·exact b.elim
 ·rename_i m v j
  split at b
  ·rename_i d
   have f:=Nat.eq_of_beq_eq_true d
   have l:t=m:=by grind[stamp]
   have o:x=v:=by rw[n (by rw[l,f]),p.frz i _ v j]
   grind[F6.refl]
  ·exact b.elim
 ·exact b.elim
theorem i02:∀(cs:List p5) {st:St} {h:Hp} {vs:List Value} {K:List Value->St->Hp->Prop},Sim P h0 w0 be oe H st h a w->M1 st oe cs vs->Y05 cs st h K ->
  ∃ st' d,K vs st' d/\Sim P h0 w0 be oe H st' d a w/\F6 st be oe st' be oe/\st'.bx=st.bx
 | [],st,h,[],K,c,_,b=>⟨st,h,b,c,F6.refl _ _ _,rfl⟩
 | .val v::r,st,h,x::vs,K,c,g,b=>by
  have p:x=v:=g.1
  subst p
  obtain⟨st',d,t,u⟩:=i02 r c g.2 b
  grind
 | .own i k::r,st,h,x::vs,K,c,g,b=>by
  obtain⟨y,s,f,s1,e,n⟩:=Q08 c g.1 b
  obtain⟨q,m,j,s2,l,o⟩:=i02 r s1 (g.2.grow e) f
  exact⟨q,m,j,s2,e.trans l,o.trans n⟩
 | [],_,_,_::_,_,_,g,_=>g.elim
 |_::_,_,_,[],_,_,g,_=>g.elim
theorem X01(d:Sim P h0 w0 be oe H st h a w){av:AV}{x:Value}(g:O1 st be oe av x){K:Value->St->Hp->Prop}(c:rfy av st h K):
  ∃ st' e,K x st' e/\Sim P h0 w0 be oe H st' e a w/\F6 st be oe st' be oe:=by
 cases av with
 |val v=>have j:x=v:=g;subst j;exact⟨st,h,c,d,F6.refl _ _ _⟩
 |own i k=>obtain⟨st',e,s,t,u,_⟩:=Q08 d g c;grind
 |box i off =>
  have j:=g.2
  simp only[rfy,w0m]at c
  split at c
  ·rename_i cells ty f
   obtain⟨E,vs,l,p⟩:=d.box i cells ty f
   obtain⟨C,D,m,s1,o,n⟩:=i02 cells d l c
   have q:nth C.bx i=some (.live cells ty):=by rw[n];exact f
   obtain⟨y,z,A⟩:=s1.publ q p
   rw[j]
   exact⟨_,_,m (be i) y,z,o.trans A⟩
  ·rename_i b f
   rw[j,d.pub i b f]
   grind[F6.refl]
  ·exact c.elim
 |agg cs =>
  obtain⟨vs,rfl,l⟩:=g
  obtain⟨st',e,s,t,u,_⟩:=i02 cs d l c
  grind
 |_=>exact c.elim
theorem j02:∀(l:List Operand) {st:St} {h:Hp} {K:List (Nat×Value)->St->Hp->Prop},Sim P h0 w0 be oe H st h a w->X0b l st h K ->
  ∃ vs st' n,K vs st' n/\Sim P h0 w0 be oe H st' n a w/\F6 st be oe st' be oe/\(∀ p∈vs,p.2=a.eval (.tmp p.1))/\(∀ x∈l,(∃ t v,x = .tmp t/\(t,v)∈vs)∨(∀ s,rho s x=a.eval x))
 | [],st,h,K,c,b=>⟨[],st,h,b,c,F6.refl _ _ _,by simp,by simp⟩
 | .tmp t::r,st,h,K,c,b=>by
  obtain⟨y,u,o,s1,q⟩:=X01 c (c.rdO (.tmp t)) b
  obtain⟨vs,j,i,e,s2,g,k,m⟩:=j02 r s1 o
  refine⟨_,j,i,e,s2,q.trans g,?_,?_⟩
  all_goals grind
 | .const v::r,st,h,K,c,b=>by
  obtain⟨vs,j,i,e,s2,g,k,m⟩:=j02 r c b
  refine⟨vs,j,i,e,s2,g,k,λx d=>?_⟩
  rcases List.mem_cons.1 d with rfl|d
  ·exact .inr λ_=>rfl
  ·exact m x d
 | .func f::r,st,h,K,c,b=>by
  obtain⟨vs,j,i,e,s2,g,k,m⟩:=j02 r c b
  refine⟨vs,j,i,e,s2,g,k,λx d=>?_⟩
  rcases List.mem_cons.1 d with rfl|d
  ·exact .inr λ_=>rfl
  ·exact m x d
 | .global _::_,_,_,_,_,b=>b.elim
theorem V09:∀(vs:List (Nat×Value)) (t:Nat) (y:Value),(∀ p∈vs,p.1=t->p.2=y)->(∃ v,(t,v)∈vs)->V0j vs t=y
 | [],t,y,_,h=>by grind
 |(k,v)::r,t,y,a,h=>by
  simp only[V0j]
  split
  ·simp_all
  ·rename_i c
   refine V09 r t y (λp b=>a p (mC _ b)) ?_
   grind[absurd,Nat.ne_of_beq_eq_false]
theorem W09{o:Oper}{vs:List (Nat×Value)}(c:Y0a o.op=false)(d:∀ p∈vs,p.2=a.eval (.tmp p.1))
  (f:∀ x∈o.op.operands.toList,(∃ t v,x = .tmp t/\(t,v)∈vs)∨(∀ k,rho k x=a.eval x)):execOp (rho vs) o=execOp a.eval o:=by
 refine execOp_congr o (λcs b g=>by rw[g]at c;cases c) λx j=>?_
 rcases f x (by simpa using j)with⟨t,v,rfl,h⟩|hf
 ·exact V09 vs t _ (λp i e=>by rw[d p i,e]) ⟨v,h⟩
 ·exact hf vs
def Nx(P:Program)(h0:Hp)(w0:World)(g:St)(e:Nat->Nat)(f:Nat->Value)(K:AV->St->Hp->Prop)(a:Act)(d:Option Tmp):Act->World->Prop:=λc h =>
 ∃ av st' b v be oe H,K av st' b/\c=a.put d v/\Sim P h0 w0 be oe H st' b a h/\O1 st' be oe av v/\F6 g e f st' be oe
theorem L7{o:Oper}{next:Act->World->Prop}{Q:Exit->Act->World->Prop}{v:Value}{b:World}(d:(execOp a.eval o).run P w = .ok (.value v) b)
  (c:next (a.put o.dst v) b):o.wp P a w next Q:=by
 unfold Oper.wp;rw[d];exact c
theorem R08{o:Oper}{next:Act->World->Prop}{Q:Exit->Act->World->Prop}{w':World}(hr:(execOp a.eval o).run P w = .ok .skip w')
  (hn:next (a.put o.dst undef) w'):o.wp P a w next Q:=by
 unfold Oper.wp;rw[hr];exact hn
theorem q05{o:Oper}{vs:List (Nat×Value)}(d:∀ p∈vs,p.2=a.eval (.tmp p.1))
  (f:∀ x∈o.op.operands.toList,(∃ t v,x = .tmp t/\(t,v)∈vs)∨(∀ k,rho k x=a.eval x)):J07 (rho vs) o=J07 a.eval o:=by
 have j:∀ x∈o.op.operands.toList,rho vs x=a.eval x:=λx b=>by
  rcases f x b with⟨t,v,rfl,h⟩|hf
  ·exact V09 vs t _ (λp i e=>by rw[d p i,e]) ⟨v,h⟩
  ·exact hf vs
 unfold J07
 split
 ·rename_i c l
  split
  ·rename_i x b
   have g:∀ y,y=x∨y∈c.args.toList->y∈o.op.operands.toList:=λy m=>by
    grind[Op.operands,Call.operands]
   rw[j x (g x (.inl rfl))]
   have:B0f (rho vs) c.args.toList=B0f a.eval c.args.toList:=by
    grind[P08,List.map_congr_left]
   rw[this]
  ·rfl
 ·rfl
theorem M8(D:Sim P h0 w0 be oe H st h a w){o:Oper}{K:AV->St->Hp->Prop}{Q:Exit->Act->World->Prop}(c:G04 P o st h K):o.wp P a w (Nx P h0 w0 st be oe K a o.dst) Q:=by
 unfold G04 at c
 split at c
 ·exact c.elim
 rename_i C
 obtain⟨vs,i,F,b,s1,d,p,q⟩:=j02 _ D c
 rw[l0c,W09 C p q,q05 p q]at b
 split at b
 ·rename_i f l u
  split at b
  ·rename_i A
   unfold Oper.wp
   rw[f07 u A,Oper.upon_enter]
   refine(b.run w (O08 s1)).mono ?_
   rintro e I ⟨v,t,rfl,x,z⟩
   obtain⟨s,E⟩:=s1.moved z
   exact⟨.val v,i,t,v,be,oe,s,x,rfl,E,rfl,d⟩
  ·exact b.elim
 ·obtain⟨n,k,G,m,g,y⟩:=p9 _ _ _ (O08 s1) b
  obtain⟨j,s2⟩:=s1.moved y
  cases n with
  |value v=>exact L7 m ⟨.val v,i,k,v,be,oe,j,g,rfl,s2,rfl,d⟩
  |skip=>exact R08 m ⟨.val undef,i,k,undef,be,oe,j,g,rfl,s2,rfl,d⟩
  |_=>exact g.elim
theorem Sim.still(c:Sim P h0 w0 be oe H st h a w){hf:Hp}{e:World}(f:∀ b o,hf b=some o->H b=some o)(m:j2 hf w hf e):Sim P h0 w0 be oe H st h a e:=by
 refine⟨c.mv.trans ⟨m.os,m.tape,m.output,m.size,?_,?_,λb d => .inl d,m.fz,m.dn⟩,c.sub,c.box,c.pub,c.own,c.frz,c.bb,c.oo,c.bo,c.dfr,c.siz,c.fr⟩
 ·intro b d i
  refine m.keep b d ?_
  cases hc:hf b with
  |none=>rfl
  |some o=>grind
 ·intro b o d
  cases hc:hf b with
  |some g =>
   have:=f b g hc
   rw[this]at d;cases d
   exact m.vis b _ hc
  |none=>rw[m.keep b (c.mv.vis.lt (by rw[d];simp)) hc];exact c.mv.vis b o d
theorem U0g(d:Sim P h0 w0 be oe H st h a w){o:Oper}{K:AV->St->Hp->Prop}{Q:Exit->Act->World->Prop}(c:y0m P o st h K):o.wp P a w (Nx P h0 w0 st be oe K a o.dst) Q:=by
 unfold y0m at c
 split at c
 ·exact c.elim
 rename_i s
 obtain⟨vs,t,p,b,s1,_,m,n⟩:=j02 _ d c
 rw[q05 m n]at b
 split at b
 ·rename_i f l g
  split at b
  ·rename_i k
   unfold Oper.wp
   rw[f07 g k,Oper.upon_enter]
   refine(b.run w (O08 s1)).mono ?_
   rintro e u ⟨v,q,rfl,⟨rfl,i⟩,j⟩
   exact⟨.val v,st,h,v,be,oe,H,i,rfl,d.still s1.sub j,rfl,F6.refl _ _ _⟩
  ·exact b.elim
 ·exact b.elim
theorem H9(c:Sim P h0 w0 be oe H st h a w){o:Oper}{K:AV->St->Hp->Prop}{Q:Exit->Act->World->Prop}(b:N0i P o st h K):o.wp P a w (Nx P h0 w0 st be oe K a o.dst) Q:=by
 grind[N0i,M8,U0g]
end
end Go.H
namespace Go.H
set_option linter.unusedVariables false
section
variable {P:Program}
theorem H5{t:TypeId}{d:TypeDesc}(a:P.underlying t=some d)(h:Hp)(K:TypeDesc->Hp->Prop):wpS P (underlying t) h K=K d h:=by
 grind[underlying,program,T1,wpS,Z1]
theorem S08{t:TypeId}{i:TypeInfo}(a:P.info? t=some i)(h:Hp)(K:TypeInfo->Hp->Prop):wpS P (typeInfo t) h K=K i h:=by
 grind[typeInfo,program,T1,wpS,Z1]
theorem Q00{t:TypeId}{n:Nat}(a:G5 P t=some n)(h:Hp)(K:Nat->Hp->Prop):wpS P (sizeOf t) h K=K n h:=by
 grind[G5,sizeOf,T1,S08,Z1]
theorem T08{t:TypeId}{z:Value}(a:v00 P t=some z)(h:Hp)(K:Value->Hp->Prop):wpS P (zeroValue t) h K=K z h:=by
 grind[v00,zeroValue,T1,S08,Z1]
theorem g07{t:TypeId}{b:Bool}(a:y0f P t=some b)(h:Hp)(K:Bool->Hp->Prop):wpS P (isAgg t) h K=K b h:=by
 unfold y0f at a
 grind[isAgg,T1,H5,Z1,absurd]
theorem e04{H:Hp}{b o:Nat}:∀(vs:List Value) (i:Nat) (acc:Array Value) (K:Array Value->Hp->Prop),(∀ j v,vs[j]?=some v->Hp.cell H b (o+i+j)=some v) ->
  K (acc++vs.toArray) H->wpS P (loadCellsFrom ⟨b,o,none⟩ i vs.length acc) H K
 | [],i,acc,K,_,c=>by grind[loadCellsFrom,Z1]
 |v::vs,i,acc,K,a,c=>by
  have h0:=a 0 v (by simp)
  simp only[loadCellsFrom,List.length_cons,T1,load,wpS]
  have d:(⟨b,o,none⟩:Addr).add i=⟨b,o+i,none⟩:=by unfold Addr.add;split<;>simp_all
  rw[d]
  refine⟨v,⟨rfl,by simpa using h0⟩,e04 vs (i+1) (acc.push v) K ?_ ?_⟩
  ·intro j u e
   have:=a (j+1) u (by simpa using e)
   grind
  ·simpa using c
theorem k02{a:Type}:∀(l:List a) (n:Nat),T05 l n=true->l.length=n
 | [],0,_=>rfl
 |_::r,k+1,h=>by simp[k02 r k h]
 | [],_+1,h=>by cases h
 |_::_,0,h=>by cases h
variable {h0:Hp} {w0:World} {be:Nat->Nat} {oe:Nat->Value} {H:Hp} {st:St} {h:Hp} {a:Act} {w:World}
theorem O1.ofCell{st:St}{be:Nat->Nat}{oe:Nat->Value}{c:p5}{v:Value}(g:k0c st oe c v):O1 st be oe (ofCell c) v:=by
 cases c with
 |val u=>exact g
 |own i k=>exact g
theorem load_row{t:TypeId}{cs:List p5}{vs:List Value}{off:Nat}{K:AV->Prop}{b o:Nat}(a:A03 P t cs off K)(g:M1 st oe cs vs)
  (q:∀ j v,vs[j]?=some v->Hp.cell H b (o+j)=some v):∃ av v,K av/\O1 st be oe av v/\∀ d:Value->Hp->Prop,d v H->wpS P (loadVar t ⟨b,o+off,none⟩) H d:=by
 unfold A03 at a
 split at a
 ·rename_i e
  split at a
  ·rename_i n f
   split at a
   ·rename_i m
    have p:=k02 _ _ m
    have h:=(g.drop off).take n
    refine⟨_,.agg ((vs.drop off).take n).toArray,a,⟨_,rfl,h⟩,λd l=>?_⟩
    have u:((vs.drop off).take n).length=n:=by rw[←h.length,p]
    simp only[loadVar,T1,g07 e,if_true,Q00 f,loadCells]
    have:=e04 (P:=P) (H:=H) (b:=b) (o:=o+off) ((vs.drop off).take n) 0 #[] (λx k=>wpS P (pure (Value.agg x)) k d) (λj v s=>by
     grind) (by grind[Z1])
    grind
   ·exact a.elim
  ·exact a.elim
 ·rename_i e
  split at a
  ·rename_i c f
   obtain⟨v,w,i⟩:=g.nth f
   refine⟨_,v,a,O1.ofCell i,λd l=>?_⟩
   simp only[loadVar,T1,g07 e,Bool.false_eq_true,if_false,load,wpS]
   grind
  ·exact a.elim
 ·exact a.elim
theorem Hp.set_set(h:Hp)(b:Nat)(x y:Obj):(h.set b x).set b y=h.set b y:=by
 funext k;simp only[Hp.set];split<;>rfl
theorem K0p{v:Value}(h:v.oneCell'=true):G02 v:=by cases v<;>simp_all [Value.oneCell',G02]
theorem I03{b:Nat}{t:TypeId}:∀(a:List Value) (cur:List Value) (off i:Nat) (K:Unit->Hp->Prop) (H:Hp),H b=some (.cells cur.toArray t (0,0)) ->
  off+i+a.length<=cur.length->(∀ v∈a,v.oneCell'=true)->K () (H.set b (.cells (L2 cur (off+i) a).toArray t (0,0)))->wpS P (storeCells ⟨b,off,none⟩ a i) H K
 | [],cur,off,i,K,H,e,_,_,c=>by
  have:H.set b (.cells cur.toArray t (0,0))=H:=by
   grind[Hp.set]
  simp only[L2,this]at c
  exact c
 |n::a,cur,off,i,K,H,e,g,d,c=>by
  simp only[storeCells,T1,store,wpS]
  have f:(⟨b,off,none⟩:Addr).add i=⟨b,off+i,none⟩:=by unfold Addr.add;split<;>simp_all
  rw[f]
  simp only[List.length_cons]at g
  refine⟨cur.toArray,t,(0,0),⟨e,rfl,by simp;omega,by simp,K0p (d n mS)⟩,?_⟩
  refine I03 (t:=t) a (cur.set (off+i) n) off (i+1) K _ (by simp[Hp.set]) (by simp;omega) (λv h=>d v (mC _ h)) ?_
  grind[Hp.set_set,L2,Nat.add_assoc]
theorem S04:∀(a cs:List Value) (off:Nat),splice cs off a=L2 cs off a
 | [],cs,off=>rfl
 |n::a,cs,off=>by simp only[splice,L2,N08,S04 a]
theorem m0c(f:Sim P h0 w0 be oe H st h a w){i k:Nat}{e sz by_:Nat}{nn:Bool}{xs:List (List Value)}(d:nth st.ow i=some ⟨k,.live e sz by_ nn xs⟩):∃ x n c,oe i = .slice x n c:=by
 rcases(f.own i _ _ _ _ _ _ d).2 with⟨b,_⟩|⟨g,cap,cur,b,_⟩
 all_goals grind
theorem r05(m:Sim P h0 w0 be oe H st h a w){x:Operand}{cs:List p5}(b:q00 (rdO st x)=some cs):M1 st oe cs (a.eval x).cells.toList:=by
 have g:=m.rdO x
 cases hr:rdO st x with
 |val v =>
  rw[hr]at b g
  have d:a.eval x=v:=g
  rw[d]
  cases v<;>simp only[q00,Option.some.injEq]at b<;>first|(subst b;first|exact M1.vals _ _ _|exact⟨rfl,trivial⟩)|cases b
 |own i k =>
  rw[hr]at b g
  obtain⟨e,sz,by_,nn,xs,f⟩:=p05 hr
  simp only[q00,Option.some.injEq]at b
  subst b
  have j:a.eval x=oe i:=g.own_cur f
  obtain⟨y,n,c,l⟩:=m0c m f
  rw[j,l]
  rw[j,l]at g
  exact⟨g,trivial⟩
 |agg cs' =>
  rw[hr]at b g
  simp only[q00,Option.some.injEq]at b
  subst b
  obtain⟨vs,d,o⟩:=g
  rw[d]
  exact o
 |_=>rw[hr]at b;cases b
theorem p03(f:Sim P h0 w0 be oe H st h a w):∀(cs:List p5) (vs:List Value),a04 st cs=true->M1 st oe cs vs->∀ v∈vs,v.oneCell'=true
 | [],[],_,_,v,d=>by cases d
 | .val u::r,x::vs,b,g,v,d=>by
  simp only[a04]at b
  split at b
  ·rename_i o
   rcases List.mem_cons.1 d with rfl|d
   ·have:v=u:=g.1
    rw[this];exact o
   ·exact p03 f r vs b g.2 v d
  ·cases b
 | .own i k::r,x::vs,b,g,v,d=>by
  have m:O1 st be oe (rdA st (.own i k)) x:=f.rdA (av := .own i k) g.1
  simp only[a04]at b
  split at b
  ·rename_i j l p
   rcases List.mem_cons.1 d with rfl|d
   ·rw[p]at m
    obtain⟨e,sz,by_,nn,xs,q⟩:=o05 p
    obtain⟨y,n,c,t⟩:=m0c f q
    rw[m.own_cur q,t];rfl
   ·exact p03 f r vs b g.2 v d
  ·rename_i u s
   split at b
   ·rename_i o
    rcases List.mem_cons.1 d with rfl|d
    ·rw[s]at m
     have:v=u:=m
     rw[this];exact o
    ·exact p03 f r vs b g.2 v d
   ·cases b
  ·cases b
 | [],_::_,_,g,_,_=>g.elim
 |_::_,[],_,g,_,_=>g.elim
theorem P02:∀(vs:List Value),B03 vs=true->∀ v∈vs,v.oneCell'=true
 | [],_,v,a=>by cases a
 |x::r,b,v,a=>by
  simp only[B03]at b
  split at b
  ·rename_i c
   rcases List.mem_cons.1 a with rfl|a
   ·exact c
   ·exact P02 r b v a
  ·cases b
end
end Go.H
namespace Go.H
set_option linter.unusedVariables false
section
variable {P:Program} {h0:Hp} {w0:World} {be:Nat->Nat} {oe:Nat->Value} {H:Hp} {st:St} {h:Hp} {a:Act} {w:World} {o:Oper} {K:AV->St->Hp->Prop} {Q:Exit->Act->World->Prop}
theorem j01(b o n:Nat):(⟨b,o,none⟩:Addr).add n=⟨b,o+n,none⟩:=by unfold Addr.add;split<;>simp_all
theorem t7(d:Sim P h0 w0 be oe H st h a w){av:AV}{v:Value}(k:∀ c:Next->Hp->Prop,c (.value v) H->wpS P (execOp a.eval o) H c)(g:O1 st be oe av v)(f:K av st h):
  o.wp P a w (Nx P h0 w0 st be oe K a o.dst) Q:=by
 obtain⟨n,b,m,j,⟨rfl,rfl⟩,i⟩:=p9 _ _ _ d.mv.vis (k (λn b=>n = .value v/\b=H) ⟨rfl,rfl⟩)
 have l:Sim P h0 w0 be oe b st h a m:=d.still (hf:=b) (λ_ _ e=>e) i
 exact L7 j ⟨av,st,h,v,be,oe,b,f,rfl,l,g,F6.refl _ _ _⟩
theorem w7{P:Program}(b:Sem Value)(H:Hp)(a:Next->Hp->Prop)(h:wpS P b H (λv H=>a (.value v) H)):wpS P (do pure (Next.value (←b))) H a:=by
 rw[T1];exact h
theorem L0p{P:Program}(b:Sem Unit)(H:Hp)(a:Next->Hp->Prop)(h:wpS P b H (λ_ H=>a .skip H)):wpS P (do b;pure Next.skip) H a:=by
 rw[T1];exact h
theorem g0k(d:Sim P h0 w0 be oe H st h a w){x:Operand}(c:o.op = .move x∨o.op = .assign x)(b:match rdO st x with | .dead=>False|a=>K a st h):o.wp P a w (Nx P h0 w0 st be oe K a o.dst) Q:=by
 have e:K (rdO st x) st h:=by
  revert b;cases rdO st x<;>intro b<;>first|exact b|exact b.elim
 refine t7 d (v:=a.eval x) (λg f=>?_) (d.rdO x) e
 unfold execOp
 rcases c with c|c<;>rw[c]<;>exact f
theorem M0p(d:Sim P h0 w0 be oe H st h a w){t:TypeId}{x:Operand}(m:o.op = .box t x){cs:List p5}(l:q00 (rdO st x)=some cs)
  (f:newBox st cs t λav st=>K av st h):o.wp P a w (Nx P h0 w0 st be oe K a o.dst) Q:=by
 have g:=r05 d l
 have q:wpS P (execOp a.eval o) H (λn e=>∃ b,H b=none/\n = .value (ptr b 0)/\e=H.set b (.cells (a.eval x).cells t (0,0))):=by
  unfold execOp;rw[m]
  refine w7 _ _ _ ?_
  simp only[Instr.box,newVar,newRow,newObj,T1,Z1,wpS]
  exact λb c=>⟨b,c,rfl,rfl⟩
 obtain⟨n,e,u,p,⟨b,c,rfl,rfl⟩,i⟩:=p9 _ _ _ d.mv.vis q
 have k:(a.eval x).cells=(a.eval x).cells.toList.toArray:=by simp
 rw[k]at i
 rw[P09]at f
 obtain⟨s,j⟩:=d.newBox g c i
 exact L7 p ⟨_,_,h,_,_,_,_,f,rfl,s,⟨by simp,by simp⟩,j⟩
theorem P0m(g:Sim P h0 w0 be oe H st h a w){t:TypeId}(k:o.op = .alloc t){z:Value}(p:v00 P t=some z)
  (e:newBox st (vals z.cells.toList) t λav st=>K av st h):o.wp P a w (Nx P h0 w0 st be oe K a o.dst) Q:=by
 have m:wpS P (execOp a.eval o) H (λn d=>∃ b,H b=none/\n = .value (ptr b 0)/\d=H.set b (.cells z.cells t (0,0))):=by
  unfold execOp;rw[k]
  refine w7 _ _ _ ?_
  simp only[Instr.alloc,newVar,newRow,newObj,T1,T08 p,Z1,wpS]
  exact λb c=>⟨b,c,rfl,rfl⟩
 obtain⟨n,d,s,l,⟨b,c,rfl,rfl⟩,f⟩:=p9 _ _ _ g.mv.vis m
 have j:z.cells=z.cells.toList.toArray:=by simp
 rw[j]at f
 rw[P09]at e
 obtain⟨q,i⟩:=g.newBox (M1.vals st oe _) c f
 exact L7 l ⟨_,_,h,_,_,_,_,e,rfl,q,⟨by simp,by simp⟩,i⟩
theorem q0e{t:TypeId}{k a:Nat}(c:z0f P t k=some a):∃ b f n,P.underlying t=some (.struct b)/\b[k]?=some f/\G5 P f.type=some (n+1)/\f.offset=a:=by
 grind[z0f]
theorem exec_fieldAddr{t:TypeId}{x:Operand}{k d b off:Nat}(h:o.op = .fieldAddr t x k)(i:z0f P t k=some d)(l:a.eval x=ptr b off):
  ∀ c:Next->Hp->Prop,c (.value (ptr b (off+d))) H->wpS P (execOp a.eval o) H c:=by
 intro c e
 obtain⟨m,f,n,j,hf,g,rfl⟩:=q0e i
 unfold execOp;rw[h]
 refine w7 _ _ _ ?_
 simp only[Instr.fieldAt,T1,H5 j,hf,l,ptr,Instr.sureAddr,Z1,fieldPlace,Q00 g,Nat.add_one_ne_zero,if_false,j01]
 exact e
theorem J0f(f:Sim P h0 w0 be oe H st h a w){t:TypeId}{x:Operand}{k:Nat}(q:o.op = .fieldAddr t x k)
  (p:match rdO st x,z0f P t k with
  | .box i off,some d=>K (.box i (off+d)) st h
  | .hel f i sz k,some d=>K (.hel f i sz (k+d)) st h
  | .oel i f j sz k,some d=>K (.oel i f j sz (k+d)) st h
  | .val (.pointer (some ⟨b,off,none⟩)),some d=>K (.val (ptr b (off+d))) st h
  |_,_=>False):o.wp P a w (Nx P h0 w0 st be oe K a o.dst) Q:=by
 have g:=f.rdO x
 split at p
 ·rename_i i off d l m
  rw[l]at g
  exact t7 f (av := .box i (off+d)) (exec_fieldAddr q m g.2) ⟨g.1,rfl⟩ p
 ·rename_i sl i sz v d l m
  rw[l]at g
  obtain⟨b,D,n,c,s,u⟩:=g
  refine t7 f (av := .hel sl i sz (v+d)) (exec_fieldAddr q m u) ⟨b,D,n,c,s,?_⟩ p
  simp[Nat.add_assoc]
 ·rename_i i E j sz v d l m
  rw[l]at g
  obtain⟨e,I,by_,nn,xs,C⟩:=d0k l
  obtain⟨A,n,c,s,u⟩:=g.oel_cur C
  obtain⟨F,y,z,G⟩:=g
  refine t7 f (av := .oel i E j sz (v+d)) (exec_fieldAddr q m u) ⟨F,y,z,λ_=>⟨A,n,c,s,by simp[Nat.add_assoc]⟩⟩ p
 ·rename_i b off d l m
  rw[l]at g
  exact t7 f (av := .val (ptr b (off+d))) (exec_fieldAddr (b:=b) (off:=off) q m g) rfl p
 ·exact p.elim
theorem E8{t e:TypeId}(a:k00 P t=some e):P.underlying t=some (.slice e):=by
 grind[k00]
theorem exec_indexAddr{t e:TypeId}{x i:Operand}{k:IntKind}{j:Int}{sz b off n c:Nat}(m:o.op = .indexAddr t x i)(q:k00 P t=some e)(p:G5 P e=some sz)
  (u:a.eval x = .slice (some ⟨b,off,none⟩) n c) (h:a.eval i = .int k j) (f:0<=j) (g:j<(n:Int)) :
  ∀ d:Next->Hp->Prop,d (.value (ptr b (off+j.toNat*sz))) H->wpS P (execOp a.eval o) H d:=by
 intro d l
 have s:=E8 q
 unfold execOp;rw[m]
 refine w7 _ _ _ ?_
 simp only[Instr.indexAt,u,h,asIntOf,T1,Z1,H5 s,f,g,and_self,if_true,Q00 p,j01]
 exact l
theorem V0g(c:Sim P h0 w0 be oe H st h a w){t:TypeId}{x:Operand}{i off:Nat}{cs:List p5}{ty:TypeId}(m:o.op = .load t x)(n:rdO st x = .box i off)
  (l:nth st.bx i=some (.live cs ty)) (f:A03 P t cs off λav=>K av st h):o.wp P a w (Nx P h0 w0 st be oe K a o.dst) Q:=by
 have g:=c.rdO x
 rw[n]at g
 obtain⟨u,vs,d,e⟩:=c.box i cs ty l
 obtain⟨av,v,p,q,z⟩:=load_row (H:=H) (b:=be i) (o:=0) (be:=be) f d (λj v k=>by simp[Hp.cell,e,k])
 refine t7 c (λs y=>?_) q p
 unfold execOp;rw[m]
 refine w7 _ _ _ ?_
 rw[g.2]
 grind[Instr.loadAt,ptr,Instr.sureAddr,T1,Z1]
theorem W0g(d:Sim P h0 w0 be oe H st h a w){t:TypeId}{x:Operand}{sl:Value}{idx:Int}{sz k:Nat}{c:List Value}(s:o.op = .load t x)(y:rdO st x = .hel sl idx sz k)
  (l:Y8 h sl sz idx c) (p:A03 P t (vals c) k λav=>K av st h):o.wp P a w (Nx P h0 w0 st be oe K a o.dst) Q:=by
 have g:=d.rdO x
 rw[y]at g
 obtain⟨b,C,n,F,f,i⟩:=g
 obtain⟨_,_,E,M,L,G,e,m⟩:=l
 rw[f]at e;cases e
 obtain⟨av,v,z,A,J⟩:=load_row (H:=H) (b:=b) (o:=C+idx.toNat*sz) (be:=be) p (M1.vals st oe c) (λj v q=>by
  have:=m j v q
  unfold Hp.cell at this ⊢
  split at this
  ·rename_i u;rw[d.sub _ _ u];exact this
  ·cases this)
 refine t7 d (λD I=>?_) A z
 unfold execOp;rw[s]
 refine w7 _ _ _ ?_
 rw[i]
 simp only[Instr.loadAt,ptr,Instr.sureAddr,T1,Z1]
 grind
theorem Q02{sz:Nat}:∀(xs:List (List Value)) (i:Nat) (c:List Value),(∀ x∈xs,x.length=sz)->xs[i]?=some c->∀ j v,c[j]?=some v->xs.flatten[i*sz+j]?=some v
 | [],i,c,_,h,j,v,b=>by simp at h
 |x::xs,0,c,a,h,j,v,b=>by
  grind
 |x::xs,i+1,c,a,h,j,v,b=>by
  simp at h
  have e:=a x mS
  have:=Q02 xs i c (λy d=>a y (mC _ d)) h j v b
  grind
theorem Q04.cells{h H:Hp}{v:Value}{e sz:Nat}{nn:Bool}{xs:List (List Value)}(b:Q04 h H v e sz nn xs){g n c:Nat}(l:v = .slice (some ⟨g,0,none⟩) n c):
  ∀ j u,xs.flatten[j]?=some u->Hp.cell H g j=some u:=by
 intro j u i
 rcases b.2 with⟨a,_⟩|⟨d,cap,cur,a,_,f,_,_,_,k⟩
 all_goals grind[Hp.cell]
theorem X0g(d:Sim P h0 w0 be oe H st h a w){t:TypeId}{x:Operand}{i F:Nat}{idx:Int}{sz k:Nat}{G e by_:Nat}{nn:Bool}{xs:List (List Value)}{c:List Value}
  (A:o.op = .load t x) (l:rdO st x = .oel i F idx sz k) (y:nth st.ow i=some ⟨G,.live e sz by_ nn xs⟩)
  (q:xs[idx.toNat]?=some c) (s:A03 P t (vals c) k λav=>K av st h):o.wp P a w (Nx P h0 w0 st be oe K a o.dst) Q:=by
 have g:=d.rdO x
 rw[l]at g
 obtain⟨M,T,J,S,U,z⟩:=d0k l
 obtain⟨p,n,L,m,N⟩:=g.oel_cur z
 have f:=d.own i _ _ _ _ _ _ y
 obtain⟨av,v,D,E,R⟩:=load_row (H:=H) (b:=p) (o:=idx.toNat*sz) (be:=be) s (M1.vals st oe c) (λj v u =>
  f.cells m _ _ (Q02 xs _ c (λx C=>(f.1 x C).1) q j v u))
 refine t7 d (λI O=>?_) E D
 unfold execOp;rw[A]
 refine w7 _ _ _ ?_
 grind[Instr.loadAt,ptr,Instr.sureAddr,T1,Z1]
theorem s05{t:TypeId}{p x:Operand}{b off n:Nat}{cur:List Value}{ty:TypeId}(e:o.op = .store t p x)(g:G5 P t=some n)(f:a.eval p=ptr b off)
  (d:(a.eval x).cells.toList.length=n) (i:∀ v∈(a.eval x).cells.toList,v.oneCell'=true) (j:H b=some (.cells cur.toArray ty (0,0))) (k:off+n<=cur.length) :
  ∀ c:Next->Hp->Prop,c .skip (H.set b (.cells (L2 cur off (a.eval x).cells.toList).toArray ty (0,0)))->wpS P (execOp a.eval o) H c:=by
 intro c l
 unfold execOp;rw[e]
 refine L0p _ _ _ ?_
 rw[f]
 have h:(a.eval x).cells.size=n:=by simpa using d
 simp only[Instr.storeAt,ptr,Instr.sureAddr,T1,Z1,storeVar,Q00 g,h,ne_eq,not_true_eq_false,if_false]
 grind[I03]
theorem K0f(b:Sim P h0 w0 be oe H st h a w){t:TypeId}{p x:Operand}{i off n:Nat}{cs new:List p5}{ty:TypeId}(A:o.op = .store t p x)(C:rdO st p = .box i off)
  (k:nth st.bx i=some (.live cs ty)) (u:q00 (rdO st x)=some new) (E:G5 P t=some n) (v:T05 new n=true) (m:a04 st new=true)
  (c:m0l cs off new λcs=>K (.val undef) { st with bx:=F9 st.bx i (.live cs ty) } h):o.wp P a w (Nx P h0 w0 st be oe K a o.dst) Q:=by
 have g:=b.rdO p
 rw[C]at g
 have d:=r05 b u
 have q:=p03 b _ _ m d
 have y:=k02 _ _ v
 obtain⟨J,vs,f,s⟩:=b.box i cs ty k
 unfold m0l at c
 split at c
 ·rename_i j
  have j:=Nat.le_of_ble_eq_true j
  have G:(a.eval x).cells.toList.length=n:=by rw[←d.length,y]
  have F:=s05 (H:=H) (P:=P) (a:=a) A E g.2 G q s (by rw[←f.length];omega)
  obtain⟨L,e,M,D,⟨rfl,rfl⟩,z⟩:=p9 _ _ _ b.mv.vis (F (λn e=>n = .skip/\e=_) ⟨rfl,rfl⟩)
  obtain⟨I,l⟩:=b.updBox k (f.splice d) z
  exact R08 D ⟨_,_,h,_,_,_,_,c,rfl,I,rfl,l⟩
 ·exact c.elim
end
end Go.H
namespace Go.H
set_option linter.unusedVariables false
section
variable {P:Program} {h0:Hp} {w0:World} {be:Nat->Nat} {oe:Nat->Value} {H:Hp} {st:St} {h:Hp} {a:Act} {w:World} {o:Oper} {K:AV->St->Hp->Prop} {Q:Exit->Act->World->Prop}
theorem R02{sz:Nat}:∀(xs:List (List Value)),(∀ x∈xs,x.length=sz)->xs.flatten.length=xs.length*sz
 | [],_=>by simp
 |x::xs,a=>by
  have:=R02 xs (λy b=>a y (mC _ b))
  grind
def Q0m(w:World)(y:Value)(sz:Nat)(a:List (List Value)):Prop :=
 (∀ x∈a,x.length=sz/\∀ v∈x,v.oneCell'=true) /\
 ((∃ b c,y = .slice (some b) a.length c/\∀ j u,a.flatten[j]?=some u->w.cell? (b.add j)=some u)∨(∃ c,y = .slice none 0 c/\a = []))
theorem j2.newD{H:Hp}{w:World}(a:Vis H w)(x:Obj)(b:o0o x=true):j2 H w (H.set w.heap.size x) (w.drew.alloc x) :=
 (j2.drawn a (w.drawn+1) (Nat.le_succ _)).trans (j2.new (w:=w.drew) a x b)
theorem l02{H:Hp}{w:World}(a:Vis H w):H w.heap.size=none:=by
 cases hc:H w.heap.size with
 |none=>rfl
 |some x=>exact absurd (a.lt (b:=w.heap.size) (by simp[hc])) (Nat.lt_irrefl _)
theorem n0c{h H:Hp}(k:∀ b o,h b=some o->H b=some o){g:Nat}(j:H g=none){e sz cap:Nat}{nn:Bool}{xs:List (List Value)}{cur:Array Value}
  (a:∀ x∈xs,x.length=sz/\∀ v∈x,v.oneCell'=true) (c:xs.length<=cap) (d:cap<=maxLen) (f:cur.size=cap*sz) (i:cur.toList.take (xs.length*sz)=xs.flatten) :
  Q04 h (H.set g (.cells cur e (0,0))) (.slice (some ⟨g,0,none⟩) xs.length cap) e sz nn xs:=by
 refine⟨a,.inr ⟨g,cap,cur,rfl,?_,by simp[Hp.set],c,d,f,i⟩⟩
 cases hc:h g with
 |none=>rfl
 |some o=>grind
theorem d0b{t e ty sz by_:Nat}{i:TypeInfo}{z:Value}(n:P.underlying t=some (.slice e))(m:P.info? e=some i)(U:i.zero=some z)(an:i.size=sz)(aq:0<sz)
  (Z:i.bytes=by_) (Y:0<by_) (ao:z.cells.size=sz) {v:Value} {nn:Bool} {xs:List (List Value)} (s:Q04 h H v e sz nn xs) (l:Vis H w) (am:∀ b o,h b=some o->H b=some o)
  {y:Value} {a:List (List Value)} (J:Q0m w y sz a) (R:C08 (xs.length+a.length) by_) :
  ∃ D W E,(Builtin.append_ #[t,t] ty #[v,y]).run P w = .ok D W/\j2 H w E W/\Q04 h E D e sz (nn || I04 a) (xs++a) /\
   (∀ b,v.ownBlock≠some b->H b≠none->E b=H b)/\(∀ g,D.ownBlock=some g->v.ownBlock=some g∨H g=none)/\(a = []->D=v):=by
 subst an
 subst Z
 have aj:xs.length+a.length<=140737488355328:=Nat.le_trans (Nat.le_mul_of_pos_right _ Y) R
 have ai:((xs.length+a.length:Nat):Int)<=9223372036854775807:=by omega
 have L:∀ x∈xs++a,x.length=i.size/\∀ v∈x,v.oneCell'=true:=λx d=>by
  rcases List.mem_append.1 d with d|d
  ·exact s.1 x d
  ·exact J.1 x d
 have M:=R02 xs (λx d=>(s.1 x d).1)
 have q:=R02 a (λx d=>(J.1 x d).1)
 have al:∀ u∈a.flatten,u.oneCell'=true:=λu au=>by
  grind[List.mem_flatten]
 have aa:∀ f,grownCap w (xs.length+a.length) f e<=maxLen:=λf=>grownCap_le_maxLen w _ f e (by unfold maxLen;omega)
 have grown:∀ f,Q04 h (H.set w.heap.size (.cells (xs.flatten.toArray++a.flatten.toArray++Builtin.zeroCells z.cells (grownCap w (xs.length+a.length) f e-(xs.length+a.length))) e (0,0)))
   (.slice (some ⟨w.heap.size,0,none⟩) (xs++a).length (grownCap w (xs.length+a.length) f e)) e i.size (nn || I04 a) (xs++a):=λf=>by
  have af:=grownCap_ge w (xs.length+a.length) f e
  refine n0c am (l02 l) L (by simpa using af) (aa f) ?_ ?_
  ·simp only[Array.size_append,List.size_toArray,M,q,size_zeroCells,ao,←Nat.add_mul]
   congr 1;omega
  ·simp only[Array.toList_append,List.flatten_append,List.append_assoc,List.length_append]
   rw[←List.append_assoc,List.take_append_of_le_length (by grind),List.take_of_length_le (by grind)]
 have S:a = []->Q04 h H v e i.size (nn || I04 a) (xs++a):=λI=>by grind[I04]
 have V:∀(x:Obj) b,v.ownBlock≠some b->H b≠none->(H.set w.heap.size x) b=H b:=λx b _ ap=>Hp.set_other _ _ (λe=>by grind[l02])
 rcases J.2 with⟨F,c,rfl,G⟩|⟨c,rfl,K⟩
 ·rcases s.2 with⟨rfl,rfl,rfl⟩|⟨g,cap,cur,rfl,ae,O,Q,ab,ac,ar⟩
  ·by_cases hm:a.length=0
   ·have K:a = []:=List.eq_nil_of_length_eq_zero hm
    refine⟨_,w,H,?_,j2.refl l,S K,λ_ _ _=>rfl,λg C => .inl C,λ_=>rfl⟩
    simp[Builtin.append_,run_underlying n,sizeOf,typeInfo,m,Builtin.lenOf,Builtin.firstCells,loadCells,loadCellsFrom,hm]
   ·have A:=run_append_nil (P:=P) w t ty e i z n m U F a.length c a.flatten q G (by omega) (by simp at aj;omega) (by grind[C08])
    have p:=grown 0
    simp only[List.length_nil,Nat.zero_add,List.nil_append,List.flatten_nil]at p
    simp only[Array.empty_append]at p
    refine⟨_,_,_,A,j2.newD l _ rfl,by simpa using p,V _,λg C => .inr ?_,λe=>by grind⟩
    grind[Value.ownBlock,l02]
  ·have ak:∀ j u,xs.flatten[j]?=some u->w.cell? ((⟨g,0,none⟩:Addr).add j)=some u:=λj u ag=>by
    rw[j01,Nat.zero_add]
    refine F04 l rfl ?_
    exact s.cells rfl j u ag
   by_cases hroom:xs.length+a.length<=cap
   ·have T:=l _ _ O
    have ad:xs.length*i.size+a.flatten.length<=cur.size:=by rw[q,ac,←Nat.add_mul];exact Nat.mul_le_mul_right _ hroom
    have A:=run_append_room (P:=P) w t ty e i n m g xs.length cap cur T F a.length c a.flatten q G al hroom ad
    refine⟨_,_,H.set g (.cells (cur.toList.take (xs.length*i.size)++a.flatten++cur.toList.drop (xs.length*i.size+a.flatten.length)).toArray e (0,0)),A,
     j2.upd l O (λ_=>rfl) rfl rfl rfl (by simp) (setRow_heap w g cur _ e _ T) (λk ah=>setRow_other w g k _ ah),?_,?_,λX N => .inl N,λI=>by simp[I]⟩
    ·refine⟨L,.inr ⟨g,cap,_,by simp,ae,Hp.set_same _ _ _,by simpa using hroom,ab,?_,?_⟩⟩
     ·grind
     grind[List.flatten_append,List.length_append,Nat.add_mul,List.take_of_length_le]
    grind[Hp.set_other,Value.ownBlock]
   ·have A:=run_append_grow (P:=P) w t ty e i z n m U ⟨g,0,none⟩ xs.length cap xs.flatten M ak F a.length c a.flatten q G (by omega) ai (growslice_fits (by omega) R)
    have p:=grown cap
    refine⟨_,_,_,A,j2.newD l _ rfl,by simpa using p,V _,λX N => .inr ?_,λI=>by grind⟩
    grind[Value.ownBlock,l02]
 ·refine⟨v,w,H,?_,j2.refl l,S K,λ_ _ _=>rfl,λg C => .inl C,λ_=>rfl⟩
  rcases s.2 with⟨rfl,_⟩|⟨g,cap,cur,rfl,_,_,Q,_⟩
  ·simp[Builtin.append_,run_underlying n,sizeOf,typeInfo,m,Builtin.lenOf,Builtin.firstCells]
  ·simp[Builtin.append_,run_underlying n,sizeOf,typeInfo,m,Builtin.lenOf,Builtin.firstCells,Q,storeCells]
theorem N07(b:Nat):∀(vs:List Value) (o:Nat) (w:World) (cur:Array Value) (ty:TypeId) (a:Nat×Nat),w.heap[b]?=some (.cells cur ty a)->(w.setCells b o vs).heap[b]?=some (.cells (L2 cur.toList o vs).toArray ty a)
 | [],o,w,cur,ty,a,h=>by simp_all[World.setCells,L2]
 |v::r,o,w,cur,ty,a,h=>by
  have c:(w.setCell ⟨b,o,none⟩ v).heap[b]?=some (.cells (cur.setIfInBounds o v) ty a):=by simp[World.setCell,Array.getElem?_modify,h]
  have:=N07 b r (o+1) _ _ _ _ c
  simp_all[World.setCells,L2]
theorem k06(b:Nat):∀(vs:List Value) (o:Nat) (w:World) (k:Nat),k≠b->(w.setCells b o vs).heap[k]?=w.heap[k]?
 | [],o,w,k,h=>rfl
 |v::r,o,w,k,h=>by
  rw[World.setCells,k06 b r (o+1) _ k h]
  simp only[World.setCell,Array.getElem?_modify]
  rw[if_neg (λe=>h e.symm)]
theorem e0b(b:Nat):∀(vs:List Value) (o:Nat) (w:World),(w.setCells b o vs).drawn=w.drawn
 | [],o,w=>rfl
 |v::r,o,w=>by
  rw[World.setCells,e0b b r (o+1)]
  unfold World.setCell
  split<;>rfl
theorem O07(b:Nat):∀(vs:List Value) (o:Nat) (w:World),(w.setCells b o vs).os=w.os/\(w.setCells b o vs).tape=w.tape/\(w.setCells b o vs).output=w.output/\(w.setCells b o vs).heap.size=w.heap.size
 | [],o,w=>⟨rfl,rfl,rfl,rfl⟩
 |v::r,o,w=>by
  obtain⟨a,c,d,e⟩:=O07 b r (o+1) (w.setCell ⟨b,o,none⟩ v)
  grind[World.setCells,World.setCell]
theorem l06:∀(a vs:List Value) (off j:Nat),off+a.length<=vs.length->(L2 vs off a)[j]?=if off<=j/\j<off+a.length then a[j-off]? else vs[j]?
 | [],vs,off,j,h=>by
  simp only[L2,List.length_nil,Nat.add_zero]
  rw[if_neg (by omega)]
 |n::a,vs,off,j,h=>by
  simp only[List.length_cons]at h
  rw[L2,l06 a _ (off+1) j (by simp;omega)]
  grind
theorem L0f{t e ty sz by_:Nat}{i:TypeInfo}{z:Value}(F:P.underlying t=some (.slice e))(D:P.info? e=some i)(al:i.zero=some z)(ai:i.size=sz)(ax:0<sz)
  (W:i.bytes=by_) (V:0<by_) (am:z.cells.size=sz) {g o n c:Nat} {xs:List (List Value)} (U:A0m h sz (.slice (some ⟨g,o,none⟩) n c) xs) (l:Vis h w)
  {y:Value} {a:List (List Value)} (G:Q0m w y sz a) (Q:C08 (xs.length+a.length) by_) :
  ∃ R S I,(Builtin.append_ #[t,t] ty #[.slice (some ⟨g,o,none⟩) n c,y]).run P w = .ok R S/\j2 h w I S/\B0m h I sz g R (xs++a):=by
 subst ai
 subst W
 have aw:xs.length+a.length<=140737488355328:=Nat.le_trans (Nat.le_mul_of_pos_right _ V) Q
 have ac:((xs.length+a.length:Nat):Int)<=9223372036854775807:=by omega
 obtain⟨q,au,az,ar,cur,m,T,O,L,M,C,X⟩:=U
 cases T
 have J:∀ x∈xs++a,x.length=i.size/\∀ v∈x,v.oneCell'=true:=λx d=>by
  rcases List.mem_append.1 d with d|d
  ·exact q x d
  ·exact G.1 x d
 have N:=R02 xs (λx d=>(q x d).1)
 have A:=R02 a (λx d=>(G.1 x d).1)
 have af:∀ u∈a.flatten,u.oneCell'=true:=λu ay=>by
  grind[List.mem_flatten]
 have ag:a = []->B0m h h i.size g (.slice (some ⟨g,o,none⟩) xs.length c) (xs++a):=λad=>by
  subst ad
  rw[List.append_nil]
  exact⟨⟨q,g,o,c,cur,m,rfl,O,L,M,C,X⟩,g,o,_,c,rfl,.inl rfl,λ_ _=>rfl⟩
 have aj:=l _ _ C
 rcases G.2 with⟨H,p,rfl,K⟩|⟨p,rfl,ak⟩
 ·by_cases hroom:xs.length+a.length<=c
  ·have Y:o+xs.length*i.size+a.flatten.length<=cur.size:=by
    have:(xs.length+a.length)*i.size<=c*i.size:=Nat.mul_le_mul_right _ hroom
    grind
   have aa:∀ j,j<a.flatten.length->(w.cell? ⟨g,o+xs.length*i.size+j,none⟩).isSome=true:=λj f=>by
    grind[World.cell?]
   have Z:∀ j,j<a.flatten.length->w.frozen? ⟨g,o+xs.length*i.size+j,none⟩=false:=λj f=>by
    simp_all[g01,u00]
   have E:=run_append_room_cells (P:=P) w t ty e i F D g o xs.length c H a.length p a.flatten A K af hroom aa Z
   have ah:=N07 g a.flatten (o+xs.length*i.size) w cur m (0,0) aj
   obtain⟨an,ao,ap,aq⟩:=O07 g a.flatten (o+xs.length*i.size) w
   refine⟨_,_,h.set g (.cells (L2 cur.toList (o+xs.length*i.size) a.flatten).toArray m (0,0)),E,
    j2.upd l C (λ_=>rfl) an ao ap aq ah (λk ab=>k06 _ _ _ _ k ab) (Nat.le_of_eq (e0b _ _ _ _).symm),⟨J,g,o,c,_,m,by rw[List.length_append],by grind,L,?_,Hp.set_same _ _ _,λj u f=>?_⟩,g,o,_,c,rfl,.inl rfl,λb s=>Hp.set_other _ _ s⟩
   ·simpa [d8] using M
   ·rw[List.flatten_append]at f
    rw[List.getElem?_toArray,l06 _ _ _ _ (by simpa using Y)]
    by_cases hlt:j<xs.flatten.length
    ·grind
    ·rw[List.getElem?_append_right (by omega)]at f
     grind
  ·have ae:∀ j u,xs.flatten[j]?=some u->w.cell? ((⟨g,o,none⟩:Addr).add j)=some u:=λj u f=>by
    grind[j01,F04,Hp.cell]
   have E:=run_append_grow (P:=P) w t ty e i z F D al ⟨g,o,none⟩ xs.length c xs.flatten N ae H a.length p a.flatten A K (by omega) ac (growslice_fits (by omega) Q)
   have av:=grownCap_ge w (xs.length+a.length) c e
   refine⟨_,_,_,E,j2.newD l _ rfl,⟨J,w.heap.size,0,grownCap w (xs.length+a.length) c e,_,e,by rw[List.length_append],by grind,grownCap_le_maxLen w _ c e (by unfold maxLen;omega),?_,Hp.set_same _ _ _,λj u f=>?_⟩,w.heap.size,0,_,_,rfl,.inr (l02 l),λb s=>Hp.set_other _ _ s⟩
   ·simp only[Array.size_append,List.size_toArray,N,A,size_zeroCells,am,←Nat.add_mul,Nat.zero_add]
    grind
   grind
 ·refine⟨_,w,h,?_,j2.refl l,ag ak⟩
  simp[Builtin.append_,run_underlying F,sizeOf,typeInfo,D,Builtin.lenOf,Builtin.firstCells,O,storeCells]
theorem b08{e sz by_:Nat}{z:Value}(a:G5 P e=some sz)(b:Z07 P e=some by_)(c:v00 P e=some z):∃ i,P.info? e=some i/\i.size=sz/\i.bytes=by_/\i.zero=some z:=by
 grind[G5,Z07,v00]
theorem t05(m:Sim P h0 w0 be oe H st h a w){sz:Nat}(O:0<sz){b:Operand}{K:List (List Value)->Prop}(d:l0e st h sz (rdO st b) K):∃ e,K e/\Q0m w (a.eval b) sz e:=by
 have g:=m.rdO b
 unfold l0e at d
 split at d
 ·rename_i j k l
  obtain⟨M,S,L,R,I,p⟩:=p05 l
  rw[l]at g
  simp only[p]at d
  split at d
  ·rename_i A
   have E:=Nat.eq_of_beq_eq_true A
   subst E
   refine⟨I,d,?_⟩
   have q:=m.own j _ _ _ _ _ _ p
   rw[g.own_cur p]
   refine⟨q.1,?_⟩
   rcases q.2 with⟨f,i,_⟩|⟨z,cap,cur,f,i,s,_⟩
   ·grind
   ·refine .inl ⟨⟨z,0,none⟩,cap,f,λj u o=>?_⟩
    rw[j01,Nat.zero_add]
    exact F04 m.mv.vis rfl (q.cells f j u o)
  ·exact d.elim
 ·rename_i v l
  rw[l]at g
  obtain⟨e,D,C⟩:=d
  refine⟨e,C,?_⟩
  have F:a.eval b=v:=g
  rw[F]
  obtain⟨f,x,n,c,rfl,rfl,N,i⟩:=D
  refine⟨f,?_⟩
  rcases i with i|⟨t,G,rfl,s⟩
  ·cases x with
   |none =>
    have Q:e = []:=by
     cases e with
     |nil=>rfl
     |cons y r =>
      simp_all
    grind
   |some J=>grind
  ·refine .inl ⟨⟨t,G,none⟩,c,rfl,λj u o=>?_⟩
   rw[j01]
   exact F04 (O08 m) rfl (s j u o)
 ·exact d.elim
theorem S02{t:TypeId}{p q:Operand}{as:Array Operand}{b:Array TypeId}(f:o.op = .call { callee := .builtin .append,args:=as,argTypes:=b })(e:as = #[p,q])(h:b = #[t,t])
  {c:Value} {d:World} (g:(Builtin.append_ #[t,t] o.type #[a.eval p,a.eval q]).run P w = .ok c d):(execOp a.eval o).run P w = .ok (.value c) d:=by
 subst e;subst h
 unfold execOp;rw[f]
 simp only[resolve,invoke,builtin,Sem.run_bind,Sem.run_pure,Result.andThen_ok,List.map_toArray,List.map_cons,List.map_nil,g]
theorem q0l(d:Sim P h0 w0 be oe H st h a w){t:TypeId}{p q:Operand}{as:Array Operand}{V:Array TypeId}(I:o.op = .call { callee := .builtin .append,args:=as,argTypes:=V })
  (E:as = #[p,q]) (L:V = #[t,t]) (c:Z0b P t p q st h K):o.wp P a w (Nx P h0 w0 st be oe K a o.dst) Q:=by
 unfold Z0b at c
 split at c
 rotate_left
 ·exact c.elim
 rename_i e ak
 split at c
 rotate_left
 ·exact c.elim
 rename_i sz by_ z ai T al
 split at c
 rotate_left
 ·exact c.elim
 rename_i am
 obtain⟨i,F,N,O,R⟩:=b08 ai T al
 have J:=E8 ak
 have M:z.cells.size=sz+1:=by simpa using k02 _ _ am
 have g:=d.rdO p
 split at c
 ·rename_i j k m
  obtain⟨aq,aw,ap,av,ax,C⟩:=p05 m
  rw[m]at g
  simp only[C]at c
  split at c
  ·rename_i ac ad au
   have ae:=Nat.eq_of_beq_eq_true ac
   have aj:=Nat.eq_of_beq_eq_true ad
   subst ae
   subst aj
   obtain⟨X,⟨v,l⟩,x⟩:=t05 d (Nat.succ_pos sz) c
   have ah:=d.own j _ _ _ _ _ _ C
   obtain⟨n,W,S,f,u,A,U,G,_⟩:=d0b (ty:=o.type) J F R N (Nat.succ_pos _) O (Nat.succ_pos _) M ah d.mv.vis d.sub x v
   obtain⟨y,D⟩:=d.updOwn (s1:=k+1) (by_:=by_+1) C (Nat.le_succ _) (λe=>absurd e (Nat.succ_ne_self k)) u U A G
   rw[←g.own_cur C]at f
   refine L7 (S02 I E L f) ⟨_,_,h,n,_,_,_,l,rfl,y,?_,D⟩
   refine⟨k+1,?_,Nat.le_refl _,λ_=>by simp⟩
   simp_all[stamp,J6,P00]
  ·exact c.elim
 ·rename_i m
  rw[m]at g
  obtain⟨X,⟨v,l⟩,x⟩:=t05 d (Nat.succ_pos sz) c
  have ag:Q04 h H (.slice none 0 0) e (sz+1) false []:=⟨by simp,.inl ⟨rfl,rfl,rfl⟩⟩
  obtain⟨n,W,S,f,u,A,U,G,_⟩:=d0b (ty:=o.type) J F R N (Nat.succ_pos _) O (Nat.succ_pos _) M ag d.mv.vis d.sub x (by simpa using v)
  simp only[Bool.false_or,List.nil_append]at A
  have af:∀ g,n.ownBlock=some g->H g=none:=λg s=>(G g s).resolve_left (by simp[Value.ownBlock])
  rw[O09]at l
  obtain⟨y,D⟩:=d.newOwn (by_:=by_+1) (λb o T=>by grind[Value.ownBlock]) u A af
  have s:a.eval p = .slice none 0 0:=g
  rw[←s]at f
  refine L7 (S02 I E L f) ⟨_,_,h,n,_,_,_,l,rfl,y,?_,D⟩
  refine⟨0,?_,Nat.le_refl _,λ_=>by simp⟩
  simp[stamp,w01]
 ·rename_i Z ao an Y m
  rw[m]at g
  obtain⟨X,⟨xs,ab,v,l⟩,x⟩:=t05 d (Nat.succ_pos sz) c
  obtain⟨n,W,ar,f,u,aa⟩:=L0f (ty:=o.type) J F R N (Nat.succ_pos _) O (Nat.succ_pos _) M ab (O08 d) x v
  have s:a.eval p = .slice (some ⟨Z,ao,none⟩) an Y:=g
  rw[←s]at f
  obtain⟨S,y⟩:=d.moved u
  exact L7 (S02 I E L f) ⟨_,_,_,n,_,_,_,l _ _ aa,rfl,y,rfl,F6.refl _ _ _⟩
 ·exact c.elim
end
end Go.H
namespace Go.H
set_option linter.unusedVariables false
set_option linter.unusedSimpArgs false
section
variable {P:Program} {h0:Hp} {w0:World} {be:Nat->Nat} {oe:Nat->Value} {H:Hp} {st:St} {h:Hp} {a:Act} {w:World} {o:Oper} {K:AV->St->Hp->Prop} {Q:Exit->Act->World->Prop}
theorem u05:∀(a cs:List Value) (off:Nat),off+a.length<=cs.length->L2 cs off a=cs.take off++a++cs.drop (off+a.length)
 | [],cs,off,_=>by simp[L2]
 |n::a,cs,off,c=>by
  simp only[List.length_cons]at c
  rw[L2,u05 a (cs.set off n) (off+1) (by simp;omega)]
  rw[List.take_set,List.drop_set_of_lt (by omega)]
  have b:(cs.take (off+1)).set off n=cs.take off ++ [n]:=by
   rw[List.take_succ_eq_append_getElem (by omega),List.set_append_right _ _ (by simp;omega)]
   have:off-(cs.take off).length=0:=by simp;omega
   rw[this]
   simp
  rw[b]
  simp only[List.length_cons,List.append_assoc,List.cons_append,List.nil_append]
  rw[show off+1+a.length=off+(a.length+1) from by omega]
theorem U08(off:Nat):∀(l:List Value) (k:Nat) (a:Array Value),((l.zipIdx k).foldl (λcs p=>cs.setIfInBounds (off+p.2) p.1) a).toList=L2 a.toList (off+k) l
 | [],k,a=>rfl
 |x::l,k,a=>by
  simp only[List.zipIdx_cons,List.foldl_cons,L2]
  rw[U08 off l (k+1)]
  simp[Nat.add_assoc]
theorem Y0g(v:Value)(off:Nat)(a:Array Value):(v.cells.zipIdx.foldl (λcs (p:Value×Nat)=>cs.setIfInBounds (off+p.2) p.1) a).toList=L2 a.toList off v.cells.toList:=by
 rw[←Array.foldl_toList,Array.toList_zipIdx]
 simp_all[U08]
def h07(a:Act)(sz:Nat):Nat->List (Nat×Operand)->List (List Value)->Prop
 |_,[],[]=>True
 |i,(j,x)::r,c::cs=>j=i/\c=(a.eval x).cells.toList/\c.length=sz/\(∀ v∈c,v.oneCell'=true)/\h07 a sz (i+1) r cs
 |_,_,_=>False
theorem h07.all{sz:Nat}:∀ {i:Nat} {l:List (Nat×Operand)} {xs:List (List Value)},h07 a sz i l xs->(∀ x∈xs,x.length=sz/\∀ v∈x,v.oneCell'=true)/\l.length=xs.length
 |_,[],[],_=>by simp
 |i,(j,x)::r,c::cs,h=>by
  have d:=h07.all h.2.2.2.2
  refine⟨λy b=>?_,by simp[d.2]⟩
  rcases List.mem_cons.1 b with rfl|b
  ·exact⟨h.2.2.1,h.2.2.2.1⟩
  ·exact d.1 y b
 |_,[],_::_,h=>h.elim
 |_,_::_,[],h=>h.elim
theorem o0c{sz:Nat}:∀(l:List (Nat×Operand)) (xs:List (List Value)) (i:Nat) (b:Array Value),h07 a sz i l xs->(i+l.length)*sz<=b.size ->
  ∃ d,Instr.fill (λi=>some (i*sz,sz)) b (l.map λp=>(p.1,a.eval p.2))=some d/\d.toList=b.toList.take (i*sz)++xs.flatten++b.toList.drop ((i+l.length)*sz)
 | [],[],i,b,_,e=>⟨b,rfl,by simp⟩
 |(j,x)::r,c::cs,i,b,h,e=>by
  obtain⟨rfl,g,k,_,o⟩:=h
  have s:(a.eval x).cells.size=sz:=by rw[←k,g];simp
  have y:j*sz+sz<=b.size:=by
   refine Nat.le_trans ?_ e
   simp only[List.length_cons]
   grind
  have f:=Y0g (a.eval x) (j*sz) b
  rw[←g]at f
  have q:=u05 c b.toList (j*sz) (by grind)
  have t:((a.eval x).cells.zipIdx.foldl (λcs (p:Value×Nat)=>cs.setIfInBounds (j*sz+p.2) p.1) b).size=b.size:=by
   grind[Array.length_toList,d8]
  obtain⟨d,w,m⟩:=o0c r cs (j+1) ((a.eval x).cells.zipIdx.foldl (λcs (p:Value×Nat)=>cs.setIfInBounds (j*sz+p.2) p.1) b) o (by
   rw[t];simp only[List.length_cons]at e;grind)
  refine⟨d,?_,?_⟩
  ·simp only[List.map_cons,Instr.fill,s,ne_eq,not_true_eq_false,decide_false,Bool.false_or,decide_eq_true_eq]
   grind
  ·rw[m,f,q,k]
   have u:(b.toList.take (j*sz)++c++b.toList.drop (j*sz+sz)).take ((j+1)*sz)=b.toList.take (j*sz)++c:=by
    rw[List.take_append_of_le_length,List.take_of_length_le]
    all_goals grind
   have v:(b.toList.take (j*sz)++c++b.toList.drop (j*sz+sz)).drop ((j+1+r.length)*sz)=b.toList.drop ((j+(r.length+1))*sz):=by
    have n:(b.toList.take (j*sz)++c).length=j*sz+sz:=by grind
    rw[List.drop_append,List.drop_eq_nil_of_le (by grind),n,List.nil_append,List.drop_drop]
    congr 1
    simp only[Nat.add_mul]
    omega
   grind
 | [],_::_,_,_,h,_=>h.elim
 |_::_,[],_,_,h,_=>h.elim
theorem f0b{sz:Nat}:∀(l:List (Nat×Operand)) (i:Nat) {st:St} {h:Hp} {K:List (List Value)->St->Hp->Prop},Sim P h0 w0 be oe H st h a w->G0g sz i l st h K ->
  ∃ xs st' e,K xs st' e/\Sim P h0 w0 be oe H st' e a w/\F6 st be oe st' be oe/\h07 a sz i l xs
 | [],i,st,h,K,c,b=>⟨[],st,h,b,c,F6.refl _ _ _,trivial⟩
 |(j,x)::r,i,st,h,K,c,b=>by
  simp only[G0g]at b
  split at b
  ·rename_i n
   have o:=Nat.eq_of_beq_eq_true n
   obtain⟨v,u,d,s1,g⟩:=X01 c (c.rdO x) b
   split at d
   ·rename_i p q
    obtain⟨xs,t,m,f,s2,k,s⟩:=f0b r (i+1) s1 d
    exact⟨_,t,m,f,s2,g.trans k,o.symm,rfl,k02 _ _ p,P02 _ q,s⟩
   ·exact d.elim
  ·exact b.elim
theorem V0d(V:Sim P h0 w0 be oe H st h a w){t n:Nat}{c:Array (Nat×Operand)}{e sz by_:Nat}{z:Value}(M:o.op = .buildSlice t n c)(R:k00 P t=some e)(O:G5 P e=some (sz+1))
  (T:v00 P e=some z) (aa:Nat.beq n c.size=true) (G:Nat.ble (n*(sz+1)) 16777216=true)
  (E:G0g (sz+1) 0 c.toList st h λxs st h=>newOwn st e (sz+1) by_ true xs λav st=>K av st h):o.wp P a w (Nx P h0 w0 st be oe K a o.dst) Q:=by
 obtain⟨xs,ac,C,q,s1,v,U⟩:=f0b _ _ V E
 obtain⟨D,Y⟩:=U.all
 have k:n=xs.length:=by simp_all
 have I:=Nat.le_of_ble_eq_true G
 have S:wpS P (execOp a.eval o) H (λu m=>∃ b d,H b=none/\u = .value (.slice (some ⟨b,0,none⟩) xs.length xs.length)/\m=H.set b (.cells d e (0,0))/\d.toList=xs.flatten/\d.size=xs.length*(sz+1)):=by
  unfold execOp;rw[M]
  refine w7 _ _ _ ?_
  have s:∀ d:Array Value,d.size=xs.length*(sz+1)->∃ f,Instr.fill (λi=>some (i*(sz+1),sz+1)) d (c.toList.map λp=>(p.1,a.eval p.2))=some f/\f.toList=xs.flatten/\f.size=xs.length*(sz+1):=by
   grind[o0c,Array.length_toList,R02]
  have F : ¬ (n*(sz+1)>2 ^ 24):=Nat.not_lt.2 I
  simp only[Instr.buildSlice,T1,H5 (E8 R),Q00 O,if_neg F,Z1]
  have Z:(c.map λx=>(x.1,a.eval x.2)).toList=c.toList.map λp=>(p.1,a.eval p.2):=by simp
  by_cases h00:n*(sz+1)=0
  ·simp only[if_pos h00,Z1]
   obtain⟨f,l,f2,f3⟩:=s ((Array.range (n*(sz+1))).map λi=>(#[]:Array Value)[i % (#[]:Array Value).size]!) (by simp[k])
   rw[show(Array.map (λx=>(x.1,a.eval x.2)) c).toList=c.toList.map λp=>(p.1,a.eval p.2) from by simp]
   simp only[l,T1,newRow,newObj,wpS,Z1]
   exact λb j=>⟨b,f,j,by rw[k],rfl,f2,f3⟩
  ·simp only[if_neg h00,T1,T08 T,Z1]
   obtain⟨f,l,f2,f3⟩:=s ((Array.range (n*(sz+1))).map λi=>z.cells[i % z.cells.size]!) (by simp[k])
   rw[show(Array.map (λx=>(x.1,a.eval x.2)) c).toList=c.toList.map λp=>(p.1,a.eval p.2) from by simp]
   simp only[l,T1,newRow,newObj,wpS,Z1]
   exact λb j=>⟨b,f,j,by rw[k],rfl,f2,f3⟩
 obtain⟨u,m,ad,N,⟨b,d,j,rfl,rfl,f2,f3⟩,L⟩:=p9 _ _ _ s1.mv.vis S
 have J:xs.length<=maxLen:=by
  have:xs.length<=xs.length*(sz+1):=Nat.le_mul_of_pos_right _ (Nat.succ_pos _)
  grind[maxLen]
 rw[O09]at q
 obtain⟨W,A⟩:=s1.newOwn (nn:=true) (by_:=by_) (λx y ab=>by grind[Hp.set_other]) L
  (n0c s1.sub j D (Nat.le_refl _) J f3 (by rw[f2,List.take_of_length_le (by grind)])) (λg X=>by grind[Value.ownBlock])
 refine L7 N ⟨_,_,C,_,_,_,_,q,rfl,W,?_,v.trans A⟩
 refine⟨0,?_,Nat.le_refl _,λ_=>by simp⟩
 simp[stamp,w01]
theorem J03{sz:Nat}(b:List Value)(c:b.length=sz)(d:0<sz):∀(l j:Nat),j<l*sz->(List.replicate l b).flatten[j]?=b[j % sz]?
 |0,j,h=>by simp at h
 |l+1,j,h=>by
  simp only[List.replicate_succ,List.flatten_cons]
  have e:j<l*sz+sz:=by grind
  by_cases hj:j<sz
  ·rw[List.getElem?_append_left (by omega),Nat.mod_eq_of_lt hj]
  ·rw[List.getElem?_append_right (by omega),c,J03 b c d l (j-sz) (by omega),←Nat.mod_eq_sub_mod (a:=j) (by omega)]
theorem r0l{sz:Nat}(z:Value)(b:z.cells.toList.length=sz)(c:0<sz)(l n:Nat)(e:l*sz<=n):(madeCells z.cells n).toList.take (l*sz)=(List.replicate l z.cells.toList).flatten:=by
 have d:z.cells.size=sz:=by simpa using b
 apply List.ext_getElem?
 intro j
 rw[List.getElem?_take]
 by_cases hj:j<l*sz
 ·rw[if_pos hj,J03 _ b c l j hj]
  have a:j % sz<z.cells.size:=by simp_all[Nat.mod_lt]
  simp only[madeCells,d,Array.toList_map,Array.toList_range,List.getElem?_map,List.getElem?_range (show j<n from by omega),Option.map_some,Array.getElem?_toList,Array.getElem?_eq_getElem a]
  congr 1
  simp[a]
 ·rw[if_neg hj]
  simp_all
theorem M0f(f:Sim P h0 w0 be oe H st h a w){t e sz by_:Nat}{l c:Operand}{z:Value}{m k:IntKind}{d b:Int}(Z:o.op = .makeSlice t l c)(R:k00 P t=some e)
  (O:G5 P e=some (sz+1)) (E:Z07 P e=some by_) (S:v00 P e=some z) (J:rdO st l = .val (.int m d)) (G:rdO st c = .val (.int k b))
  (T:T05 z.cells.toList (sz+1)=true) (aa:B03 z.cells.toList=true) (F:0<=d/\d<=b/\b*by_<=140737488355328/\b<=9223372036854775807)
  (p:newOwn st e (sz+1) by_ true (List.replicate d.toNat z.cells.toList) λav st=>K av st h):o.wp P a w (Nx P h0 w0 st be oe K a o.dst) Q:=by
 obtain⟨i,I,u,ac,U⟩:=b08 O E S
 have Y:a.eval l = .int m d:=by have:=f.rdO l;rw[J]at this;exact this
 have X:a.eval c = .int k b:=by have:=f.rdO c;rw[G]at this;exact this
 obtain⟨v,A,W,C⟩:=F
 have L:=k02 _ _ T
 have ab:=run_make (P:=P) w t e i z (E8 R) I U m k d b v A (by grind) C
 have N:(execOp a.eval o).run P w = .ok (.value (.slice (some ⟨w.heap.size,0,none⟩) d.toNat b.toNat)) (w.alloc (.cells (madeCells z.cells (b.toNat*i.size)) e)):=by
  simp_all[execOp,Sem.run_bind,Result.andThen_ok,Sem.run_pure]
 have M:j2 H w (H.set w.heap.size (.cells (madeCells z.cells (b.toNat*i.size)) e (0,0))) (w.alloc (.cells (madeCells z.cells (b.toNat*i.size)) e)):=j2.new f.mv.vis _ rfl
 have q:(List.replicate d.toNat z.cells.toList).length=d.toNat:=by simp
 have n:=n0c (h:=h) (H:=H) (e:=e) (sz:=sz+1) (nn:=true) (cap:=b.toNat) (xs:=List.replicate d.toNat z.cells.toList) (cur:=madeCells z.cells (b.toNat*i.size)) f.sub (l02 f.mv.vis)
  (λx j=>by grind[P02]) (by simp;omega) (by unfold maxLen;omega) (by rw[size_madeCells,u])
  (by rw[q,u];exact r0l z L (Nat.succ_pos _) _ _ (Nat.mul_le_mul_right _ (by omega)))
 rw[q]at n
 rw[O09]at p
 obtain⟨V,D⟩:=f.newOwn (by_:=by_) (λx y j=>by rw[Hp.set_other _ _ (λe=>by subst e;rw[l02 f.mv.vis]at j;cases j)];exact j) M n
  (λg s=>by simp[Value.ownBlock]at s;rw[←s];exact l02 f.mv.vis)
 refine L7 N ⟨_,_,h,_,_,_,_,p,rfl,V,?_,D⟩
 refine⟨0,?_,Nat.le_refl _,λ_=>by simp⟩
 simp[stamp,w01]
end
end Go.H
namespace Go.H
set_option linter.unusedVariables false
set_option linter.unusedSimpArgs false
section
variable {P:Program} {h0:Hp} {w0:World} {be:Nat->Nat} {oe:Nat->Value} {H:Hp} {st:St} {h:Hp} {a:Act} {w:World} {o:Oper} {K:AV->St->Hp->Prop} {Q:Exit->Act->World->Prop}
theorem N0f(f:Sim P h0 w0 be oe H st h a w){t:TypeId}{x i:Operand}(y:o.op = .indexAddr t x i)
  (d:match rdO st i with
  | .val (.int _ j)=>match k00 P t with
   |some e=>match G5 P e with
    |some sz=>match rdO st x with
     | .val (.slice a n c)=>InB (.slice a n c) j/\K (.hel (.slice a n c) j sz 0) st h
     | .own i k=>match nth st.ow i with
      |some ⟨_,.live _ M _ _ xs⟩=>match Nat.beq M sz with
       |true=>(0<=j/\j<(xs.length:Int))/\K (.oel i k j sz 0) st h
       |false=>False
      |_=>False
     |_=>False
    |none=>False
   |none=>False
  |_=>False):o.wp P a w (Nx P h0 w0 st be oe K a o.dst) Q:=by
 have gi:=f.rdO i
 have l:=f.rdO x
 split at d
 rotate_left
 ·exact d.elim
 rename_i k j I
 rw[I]at gi
 split at d
 rotate_left
 ·exact d.elim
 rename_i e A
 split at d
 rotate_left
 ·exact d.elim
 rename_i sz z
 split at d
 ·rename_i O n c p
  rw[p]at l
  obtain⟨⟨b,off,U,S,F,q,s⟩,u⟩:=d
  cases F
  exact t7 f (av := .hel _ j sz 0) (exec_indexAddr y A z l gi q s) ⟨b,off,n,c,rfl,by simp⟩ u
 ·rename_i D E p
  obtain⟨T,N,R,V,xs,m⟩:=p05 p
  rw[p]at l
  simp only[m]at d
  split at d
  ·rename_i G
   have L:=Nat.eq_of_beq_eq_true G
   subst L
   obtain⟨⟨q,s⟩,u⟩:=d
   have J:=f.own D _ _ _ _ _ _ m
   rcases J.2 with⟨_,v,_⟩|⟨g,cap,cur,C,_⟩
   ·grind
   ·have v:=l.own_cur m
    rw[C]at v
    refine t7 f (av := .oel D E j N 0) (exec_indexAddr y A z v gi q s) ⟨E,by simp[stamp,m],Nat.le_refl _,λ_=>⟨g,xs.length,cap,C,by simp⟩⟩ u
  ·exact d.elim
 ·exact d.elim
theorem i07{sz:Nat}:∀(xs:List (List Value)) (k:Nat),(∀ x∈xs,x.length=sz)->(xs.take k).flatten=xs.flatten.take (k*sz)
 | [],k,_=>by simp
 |x::xs,0,_=>by simp
 |x::xs,k+1,a=>by
  have b:=a x mS
  simp only[List.take_succ_cons,List.flatten_cons]
  rw[i07 xs k (λy c=>a y (mC _ c)),List.take_append (l₁:=x),List.take_of_length_le (l:=x) (by grind),b,Nat.add_mul,Nat.one_mul,Nat.add_sub_cancel]
theorem r0e{sz:Nat}:∀(xs:List (List Value)) (k:Nat),(∀ x∈xs,x.length=sz)->(xs.drop k).flatten=xs.flatten.drop (k*sz)
 | [],k,_=>by simp
 |x::xs,0,_=>by simp
 |x::xs,k+1,a=>by
  have b:=a x mS
  simp only[List.drop_succ_cons,List.flatten_cons]
  rw[r0e xs k (λy c=>a y (mC _ c)),List.drop_append (l₁:=x),List.drop_of_length_le (l:=x) (by grind),b,Nat.add_mul,Nat.one_mul,Nat.add_sub_cancel,List.nil_append]
def K03(a:Act)(d:Int)(x:Option Operand)(l:Int):Prop:=match x with
 |none=>l=d
 |some y=>∃ k,a.eval y = .int k l
theorem v05(c:Sim P h0 w0 be oe H st h a w){d l:Int}{x:Option Operand}(b:b04 d (x.map (rdO st))=some l):K03 a d x l:=by
 cases x with
 |none=>simp only[Option.map_none,b04,Option.some.injEq]at b;exact b.symm
 |some y =>
  have g:=c.rdO y
  simp only[Option.map_some]at b
  cases hr:rdO st y with
  |val v =>
   rw[hr]at b g
   cases v<;>simp only[b04,Option.some.injEq]at b<;>first|(subst b;exact⟨_,g⟩)|cases b
  |_=>rw[hr]at b;cases b
theorem j07{x:Value}{k:IntKind}{i:Int}{y:Nat}{b:BoundsCode}(e:x = .int k i)(c:0<=i)(d:i<=(y:Int))(a:Nat->Hp->Prop):wpS P (Instr.sliceBound x y b) H a=a i.toNat H:=by
 subst e
 simp only[Instr.sliceBound,asIntOf,T1,Z1,c,d,and_self,if_true]
theorem p0c{isS:Bool}{n c:Nat}{f b:Option Operand}{l m:Int}(i:K03 a 0 f l)(d:K03 a n b m)(h:0<=l)(s:l<=m)(t:m<=(n:Int))(u:n<=c)
  (g:Nat×Nat×Nat->Hp->Prop):wpS P (Instr.sliceBounds isS n c (f.map a.eval) (b.map a.eval) none) H g=g (l.toNat,m.toNat,c) H:=by
 have q:l<=(m.toNat:Int):=by omega
 cases f with
 |none =>
  have p:l=0:=i
  subst p
  cases b with
  |none =>
   have j:m=(n:Int):=d
   simp_all[Instr.sliceBounds,Option.map_none,T1,Z1]
  |some y =>
   obtain⟨k,e⟩:=d
   simp only[Instr.sliceBounds,Option.map_none,Option.map_some,T1,Z1,j07 e (by omega) (show m<=(c:Int) by omega)];rfl
 |some x =>
  obtain⟨k,o⟩:=i
  cases b with
  |none =>
   have j:m=(n:Int):=d
   subst j
   simp only[Instr.sliceBounds,Option.map_none,Option.map_some,T1,Z1,j07 o h (show l<=((n:Nat):Int) by omega)];rfl
  |some y =>
   obtain⟨v,e⟩:=d
   simp only[Instr.sliceBounds,Option.map_some,T1,Z1,j07 e (by omega) (show m<=(c:Int) by omega),j07 o h q]
theorem exec_slice{t e sz:Nat}{x:Operand}{g f:Option Operand}{d:Option Addr}{n c:Nat}{l m:Int}(s:o.op = .slice t x g f none)(u:k00 P t=some e)(y:G5 P e=some sz)
  (v:a.eval x = .slice d n c) (k:K03 a 0 g l) (p:K03 a n f m) (h:0<=l) (i:l<=m) (j:m<=(n:Int)) (q:n<=c) :
  ∀ b:Next->Hp->Prop,b (.value (.slice (if c=l.toNat then d else d.map (·.add (l.toNat*sz))) (m.toNat-l.toNat) (c-l.toNat))) H->wpS P (execOp a.eval o) H b:=by
 intro b w
 unfold execOp;rw[s]
 refine w7 _ _ _ ?_
 simp only[Instr.sliceAt,T1,H5 (E8 u),Instr.slice,v,Option.map_none]
 rw[p0c k p h i j q]
 grind[Q00,Z1]
theorem s0l(k:Sim P h0 w0 be oe H st h a w){t e sz:Nat}{x:Operand}{A z:Option Operand}{d:Option Addr}{n c:Nat}(R:o.op = .slice t x A z none)(U:k00 P t=some e)(T:G5 P e=some sz)
  (S:rdO st x = .val (.slice d n c)) (g:R0i sz (.slice d n c) n (A.map (rdO st)) (z.map (rdO st)) st h K):o.wp P a w (Nx P h0 w0 st be oe K a o.dst) Q:=by
 have s:=k.rdO x
 rw[S]at s
 unfold R0i at g
 split at g
 rotate_left
 ·exact g.elim
 rename_i l m J M
 obtain⟨⟨C,D,E⟩,xs,F,I⟩:=g
 obtain⟨f,V,aa,W,q,Z,N,u⟩:=F
 cases q
 have L:((xs.take m.toNat).drop l.toNat).length=m.toNat-l.toNat:=by simp;omega
 have O:SlE h sz (.slice (if c=l.toNat then d else d.map (·.add (l.toNat*sz))) (m.toNat-l.toNat) (c-l.toNat)) ((xs.take m.toNat).drop l.toNat):=by
  refine⟨λy p=>f y (List.mem_of_mem_take (List.mem_of_mem_drop p)),_,_,_,rfl,L.symm,by omega,?_⟩
  rcases u with u|⟨b,off,rfl,G⟩
  ·grind[List.flatten_eq_nil_iff,List.mem_of_mem_take,List.mem_of_mem_drop]
  ·by_cases hcl:c=l.toNat
   ·grind
   ·right
    rw[if_neg hcl]
    refine⟨b,off+l.toNat*sz,by simp[j01],λj v Y=>?_⟩
    have i:=R02 xs (λx i=>(f x i).1)
    rw[Nat.add_assoc]
    refine G _ _ ?_
    have q:(xs.take m.toNat).flatten=xs.flatten.take (m.toNat*sz):=i07 xs _ (λx i=>(f x i).1)
    have X:((xs.take m.toNat).drop l.toNat).flatten=((xs.take m.toNat).flatten).drop (l.toNat*sz):=r0e _ _ (λy p=>(f y (List.mem_of_mem_take p)).1)
    grind
 exact t7 k (av := .val _) (exec_slice R U T s (v05 k J) (v05 k M) C D E N) rfl (I _ O λ_ _ _ e=>by cases e;rfl)
theorem t0l(d:Sim P h0 w0 be oe H st h a w){t e sz:Nat}{x:Operand}{C p:Option Operand}{i k:Nat}(M:o.op = .slice t x C p none)(R:k00 P t=some e)(O:G5 P e=some sz)
  (N:rdO st x = .own i k) (c:P0i i (C.map (rdO st)) (p.map (rdO st)) st h K):o.wp P a w (Nx P h0 w0 st be oe K a o.dst) Q:=by
 have G:=d.rdO x
 rw[N]at G
 obtain⟨U,D,T,ao,xs,q⟩:=p05 N
 unfold P0i at c
 split at c
 rotate_left
 ·exact c.elim
 rename_i am m aq z
 simp only[q]at c
 obtain⟨⟨S,F⟩,J⟩:=c
 have af:C=none:=by simp_all
 subst af
 have L:K03 a (xs.length:Int) p m:=by
  cases p with
  |none=>simp at z
  |some y =>
   have g:=d.rdO y
   simp only[Option.map_some,Option.some.injEq]at z
   rw[z]at g
   exact⟨am,g⟩
 have A:=d.own i _ _ _ _ _ _ q
 have b:=G.own_cur q
 have ar:∀ v,v=oe i->v.ownBlock=(oe i).ownBlock:=λv aj=>by rw[aj]
 have an:∃ v,(∀ f:Next->Hp->Prop,f (.value v) H->wpS P (execOp a.eval o) H f)/\v.ownBlock=(oe i).ownBlock/\Q04 h H v U D ao (xs.take m.toNat):=by
  have I:∀ y∈xs.take m.toNat,y.length=D/\∀ v∈y,v.oneCell'=true:=λy al=>A.1 y (List.mem_of_mem_take al)
  rcases A.2 with⟨j,s,u⟩|⟨g,cap,cur,j,s,u,X,Y,Z,aa⟩
  ·rw[j]at b
   subst s
   have ag:m=0:=by simp at F;omega
   subst ag
   refine⟨_,exec_slice M R O b (l:=0) rfl L (by omega) (by omega) (by simp) (Nat.le_refl _),?_,I,.inl ⟨by simp,by simp,u⟩⟩
   grind
  ·rw[j]at b
   refine⟨.slice (some ⟨g,0,none⟩) m.toNat cap,λf J=>exec_slice M R O b (l:=0) rfl L (by omega) S F X f ?_,by rw[j];rfl,I,.inr ⟨g,cap,cur,?_,s,u,?_,Y,Z,?_⟩⟩
   ·grind[Int.toNat,Addr.add]
   ·have:(xs.take m.toNat).length=m.toNat:=by simp;omega
    rw[this]
   ·simp;omega
   ·have ae:(xs.take m.toNat).length=m.toNat:=by simp;omega
    rw[ae]
    have V:(xs.take m.toNat).flatten=xs.flatten.take (m.toNat*D):=i07 xs _ (λx b=>(A.1 x b).1)
    rw[V,←aa,List.take_take]
    congr 1
    rw[Nat.min_eq_left (Nat.mul_le_mul_right _ (by omega))]
 obtain⟨v,ak,ac,ab⟩:=an
 obtain⟨au,E,av,ai,⟨rfl,rfl⟩,ah⟩:=p9 _ _ _ d.mv.vis (ak (λn E=>n = .value v/\E=H) ⟨rfl,rfl⟩)
 obtain⟨ap,W⟩:=d.updOwn (s1:=k+1) (by_:=T) q (Nat.le_succ _) (λe=>absurd e (Nat.succ_ne_self k)) ah (λ_ _ _=>rfl) ab (λg ad => .inl (by rw[←ac];exact ad))
 refine L7 ai ⟨_,_,h,v,_,_,_,J,rfl,ap,?_,W⟩
 refine⟨k+1,?_,Nat.le_refl _,λ_=>by simp⟩
 simp_all[stamp,J6,P00]
theorem exec_cutStr{t:TypeId}{x:Operand}{e d:Option Operand}{b:ByteArray}{l m:Int}(n:o.op = .slice t x e d none)(p:P.underlying t=some .string)
  (q:a.eval x = .string b) (j:K03 a 0 e l) (k:K03 a b.size d m) (f:0<=l) (g:l<=m) (h:m<=(b.size:Int)) :
  ∀ c:Next->Hp->Prop,c (.value (.string (b.extract l.toNat m.toNat))) H->wpS P (execOp a.eval o) H c:=by
 intro c i
 unfold execOp;rw[n]
 refine w7 _ _ _ ?_
 simp only[Instr.sliceAt,T1,H5 p,Instr.slice,q,Option.map_none,Option.isSome_none,Bool.false_eq_true,if_false,Z1]
 rw[p0c j k f g h (Nat.le_refl _)]
 exact i
theorem exec_index{t:TypeId}{x i:Operand}{b:ByteArray}{k:IntKind}{j:Int}{c:UInt8}(l:o.op = .index t x i)(m:P.underlying t=some .string)(n:a.eval x = .string b)(g:a.eval i = .int k j)
  (e:0<=j) (f:b[j.toNat]?=some c):∀ d:Next->Hp->Prop,d (.value (.int .u8 c.toNat)) H->wpS P (execOp a.eval o) H d:=by
 intro d h
 unfold execOp;rw[l]
 refine w7 _ _ _ ?_
 simp only[Instr.index,n,g,asIntOf,T1,Z1,H5 m,e,if_true,f]
 exact h
theorem exec_quo{t j:TypeId}{x y:Operand}{b c:Int}(g:o.op = .binOp .quo t x y j)(h:a.eval x = .int .i64 b)(i:a.eval y = .int .i64 c)(f:c≠0):
  ∀ d:Next->Hp->Prop,d (.value (.int .i64 (IntKind.i64.wrap (b.tdiv c)))) H->wpS P (execOp a.eval o) H d:=by
 intro d e
 unfold execOp;rw[g]
 refine w7 _ _ _ ?_
 simp only[h,i,eqGuard,T1,Bool.not_false,if_true,Z1,binOp,Go.Op.intDiv,if_neg f,ne_eq,not_true_eq_false,if_false]
 exact e
theorem exec_rem{t j:TypeId}{x y:Operand}{b c:Int}(g:o.op = .binOp .rem t x y j)(h:a.eval x = .int .i64 b)(i:a.eval y = .int .i64 c)(f:c≠0):
  ∀ d:Next->Hp->Prop,d (.value (.int .i64 (b.tmod c))) H->wpS P (execOp a.eval o) H d:=by
 intro d e
 unfold execOp;rw[g]
 refine w7 _ _ _ ?_
 simp only[h,i,eqGuard,T1,Bool.not_false,if_true,Z1,binOp,Go.Op.intDiv,if_neg f,ne_eq,not_true_eq_false,if_false]
 exact e
theorem R0m{t j:TypeId}{x y:Operand}{b c:Int}(g:o.op = .binOp .shl t x y j)(h:a.eval x = .int .i64 b)(i:a.eval y = .int .i64 c)(k:0<=c):
  ∀ d:Next->Hp->Prop,d (.value (.int .i64 (IntKind.i64.wrap (b*2 ^ min c.toNat 64)))) H->wpS P (execOp a.eval o) H d:=by
 intro d e
 unfold execOp;rw[g]
 refine w7 _ _ _ ?_
 have f : ¬ c<0:=by omega
 simp only[h,i,eqGuard,T1,Bool.not_false,if_true,Z1,binOp,Go.Op.shift,if_neg f,IntKind.bits]
 exact e
theorem S0m{t j:TypeId}{x y:Operand}{b c:Int}(g:o.op = .binOp .shr t x y j)(h:a.eval x = .int .i64 b)(i:a.eval y = .int .i64 c)(k:0<=c):
  ∀ d:Next->Hp->Prop,d (.value (.int .i64 (b.fdiv (2 ^ min c.toNat 64)))) H->wpS P (execOp a.eval o) H d:=by
 intro d e
 unfold execOp;rw[g]
 refine w7 _ _ _ ?_
 have f : ¬ c<0:=by omega
 simp only[h,i,eqGuard,T1,Bool.not_false,if_true,Z1,binOp,Go.Op.shift,if_neg f,IntKind.bits]
 exact e
theorem exec_cat{t j:TypeId}{x y:Operand}{b c:ByteArray}(g:o.op = .binOp .add t x y j)(h:a.eval x = .string b)(i:a.eval y = .string c)(k:b.size+c.size<=9223372036854775807):
  ∀ d:Next->Hp->Prop,d (.value (.string (b++c))) H->wpS P (execOp a.eval o) H d:=by
 intro d e
 unfold execOp;rw[g]
 refine w7 _ _ _ ?_
 have f : ¬ (((b.size+c.size:Nat):Int)>IntKind.i64.max):=by
  have:IntKind.i64.max=9223372036854775807:=by decide
  rw[this];omega
 simp only[h,i,eqGuard,T1,Bool.not_false,if_true,Z1,binOp,Go.Op.stringOp,if_neg f]
 exact e
end
end Go.H
namespace Go.H
set_option linter.unusedVariables false
set_option linter.unusedSimpArgs false
section
variable {P:Program} {h0:Hp} {w0:World} {be:Nat->Nat} {oe:Nat->Value} {H:Hp} {st:St} {h:Hp} {a:Act} {w:World} {o:Oper} {K:AV->St->Hp->Prop} {Q:Exit->Act->World->Prop}
theorem g0b:∀(a c r:List Value) (k:Nat),k+a.length<=c.length->L2 (c++r) k a=L2 c k a++r
 | [],c,r,k,_=>rfl
 |n::a,c,r,k,b=>by
  simp only[List.length_cons]at b
  simp only[L2]
  rw[List.set_append_left _ _ (by omega),g0b a _ r (k+1) (by simp;omega)]
theorem V08:∀(a x l:List Value) (k:Nat),L2 (x++l) (x.length+k) a=x++L2 l k a
 | [],x,l,k=>rfl
 |n::a,x,l,k=>by
  simp only[L2]
  rw[List.set_append_right _ _ (by omega),Nat.add_sub_cancel_left,Nat.add_assoc,V08 a x _ (k+1)]
theorem m06{sz:Nat}(a:List Value)(k:Nat):∀(xs:List (List Value)) (i:Nat) (c:List Value),(∀ x∈xs,x.length=sz)->xs[i]?=some c->k+a.length<=c.length ->
  (xs.set i (L2 c k a)).flatten=L2 xs.flatten (i*sz+k) a
 | [],i,c,_,h,_=>by simp at h
 |x::xs,0,c,d,h,b=>by
  simp at h;subst h
  simp only[List.set_cons_zero,List.flatten_cons,Nat.zero_mul,Nat.zero_add]
  rw[g0b a x _ k b]
 |x::xs,i+1,c,d,h,b=>by
  simp at h
  have f:=d x mS
  simp only[List.set_cons_succ,List.flatten_cons]
  rw[m06 a k xs i c (λy e=>d y (mC _ e)) h b]
  rw[show(i+1)*sz+k=x.length+(i*sz+k) from by grind,V08]
theorem f04:∀(a cs:List Value) (off N:Nat),(L2 cs off a).take N=L2 (cs.take N) off a
 | [],cs,off,N=>rfl
 |n::a,cs,off,N=>by
  simp only[L2]
  rw[f04 a _ (off+1) N,List.take_set]
theorem q0c:∀(a cs:List Value) (off:Nat) (v:Value),v∈L2 cs off a->v∈cs∨v∈a
 | [],cs,off,v,h => .inl h
 |n::a,cs,off,v,h=>by
  rcases q0c a _ (off+1) v h with h|h
  all_goals grind
theorem O0f(G:Sim P h0 w0 be oe H st h a w){t:TypeId}{p x:Operand}{i R:Nat}{idx:Int}{sz k:Nat}(al:o.op = .store t p x)(an:rdO st p = .oel i R idx sz k)
  (ae:rfy (rdO st x) st h λv st h=>match nth st.ow i,G5 P t with
   |some ⟨z,.live e d by_ nn xs⟩,some n=>match T05 v.cells.toList n,B03 v.cells.toList,Nat.beq z R,Nat.beq d sz with
    |true,true,true,true=>∃ c,xs[idx.toNat]?=some c/\m0l c k v.cells.toList λq =>
      K (.val undef) { st with ow:=F9 st.ow i ⟨z,.live e d by_ nn (xs.set idx.toNat q)⟩ } h
    |_,_,_,_=>False
   |_,_=>False):o.wp P a w (Nx P h0 w0 st be oe K a o.dst) Q:=by
 have L:=G.rdO p
 rw[an]at L
 obtain⟨aA,M,f,s1,J⟩:=X01 G (G.rdO x) ae
 have T:=L.grow J
 split at f
 rotate_left
 ·exact f.elim
 rename_i z e d by_ nn xs n D ap
 split at f
 rotate_left
 ·exact f.elim
 rename_i ai am Y Z
 have aq:=Nat.eq_of_beq_eq_true Y
 have ar:=Nat.eq_of_beq_eq_true Z
 subst aq;subst ar
 obtain⟨c,s,j⟩:=f
 unfold m0l at j
 split at j
 rotate_left
 ·exact j.elim
 rename_i C
 have C:=Nat.le_of_ble_eq_true C
 have aj:=k02 _ _ ai
 have O:=P02 _ am
 obtain⟨g,ay,q,u,E⟩:=T.oel_cur D
 have l:=s1.own i _ _ _ _ _ _ D
 rcases l.2 with⟨m,_⟩|⟨S,cap,cur,m,ag,ah,N,ac,ad,au⟩
 ·rw[m]at u;cases u
 rw[m]at u;cases u
 have aa:=(List.getElem?_eq_some_iff.1 s)
 have ab:c.length=d:=(l.1 c (List.mem_of_getElem? s)).1
 have W:idx.toNat*d+k+n<=cur.toList.length:=by
  have:(idx.toNat+1)*d<=q*d:=Nat.mul_le_mul_right _ (Nat.le_trans aa.1 N)
  grind
 have aw:=s05 (H:=H) (P:=P) (a:=a) (cur:=cur.toList) al ap E aj O (by simpa using ah) W
 obtain⟨az,I,aB,ao,⟨rfl,rfl⟩,ak⟩:=p9 _ _ _ s1.mv.vis (aw (λn I=>n = .skip/\I=_) ⟨rfl,rfl⟩)
 rw[S04]at j
 have V:Q04 M (H.set g (.cells (L2 cur.toList (idx.toNat*d+k) (a.eval x).cells.toList).toArray e (0,0))) (oe i) e d nn (xs.set idx.toNat (L2 c k (a.eval x).cells.toList)):=by
  refine⟨λy F=>?_,.inr ⟨g,q,_,by simpa using m,ag,Hp.set_same _ _ _,by simpa using N,ac,by simp[d8,ad],?_⟩⟩
  ·rcases List.mem_or_eq_of_mem_set F with F|rfl
   ·exact l.1 y F
   ·refine⟨by rw[d8,ab],λv av=>?_⟩
    rcases q0c _ _ _ _ av with A|A
    ·exact(l.1 c (List.mem_of_getElem? s)).2 v A
    ·exact O v A
  ·rw[m06 (sz:=d) _ _ xs idx.toNat c (λx E=>(l.1 x E).1) s C,←au]
   simp only[List.length_set]
   rw[f04]
 obtain⟨ax,U⟩:=s1.updOwn (s1:=z) (by_:=by_) D (Nat.le_refl _) (λ_=>rfl) ak (λb X _=>Hp.set_other _ _ (λe=>X (by rw[m,e];rfl))) V (λS af => .inl af)
 exact R08 ao ⟨_,_,M,_,_,_,_,j,rfl,ax,rfl,J.trans U⟩
theorem P0f(c:Sim P h0 w0 be oe H st h a w){t:TypeId}{p x:Operand}{sl:Value}{idx:Int}{sz k:Nat}{v:Value}(C:o.op = .store t p x)(D:rdO st p = .hel sl idx sz k)
    (I:rdO st x = .val v) (F:G5 P t=some 1)
    (y : ∃ b of n d cur ty, (sl = .slice (some ⟨b, of, none⟩) n d ∧ 0 ≤ idx ∧ h b = some (.cells cur ty (0, 0)) ∧ of + (idx.toNat * sz + k) < cur.size ∧ G02 v) ∧
            K (.val undef) st (h.set b (.cells (cur.setIfInBounds (of+(idx.toNat*sz+k)) v) ty (0,0)))):o.wp P a w (Nx P h0 w0 st be oe K a o.dst) Q:=by
  have f:=c.rdO p
  rw[D]at f
  have g:a.eval x=v:=by have:=c.rdO x;rw[I]at this;exact this
  obtain⟨b,off,n,d,cur,ty,⟨m,_,u,N,O⟩,z⟩:=y
  obtain⟨L,U,S,M,e,q⟩:=f
  rw[m]at e;cases e
  have j:v.cells = #[v]:=by cases v<;>simp_all [G02,Value.cells]
  have R:v.oneCell'=true:=by cases v<;>simp_all [G02,Value.oneCell']
  have G:=s05 (H:=h) (P:=P) (a:=a) (cur:=cur.toList) C F q (by rw[g,j];rfl) (by grind) (by simpa using u) (by simp;omega)
  obtain⟨T,i,V,E,⟨rfl,rfl⟩,A⟩:=p9 _ _ _ (O08 c) (G (λn i=>n = .skip/\i=_) ⟨rfl,rfl⟩)
  obtain⟨J,l⟩:=c.moved A
  have s:(L2 cur.toList (off+(idx.toNat*sz+k)) (a.eval x).cells.toList).toArray=cur.setIfInBounds (off+(idx.toNat*sz+k)) v:=by
    rw[g,j]
    apply Array.ext'
    simp[L2]
  rw[s]at l
  exact R08 E ⟨_,_,_,_,_,_,_,z,rfl,l,rfl,F6.refl _ _ _⟩
theorem P07(d:Sim P h0 w0 be oe H st h a w){t:TypeId}{p x:Operand}{sl:Value}{idx:Int}{sz k n:Nat}{new:List Value}(z:o.op = .store t p x)(A:rdO st p = .hel sl idx sz k)
  (i:(a.eval x).cells.toList=new) (D:G5 P t=some n) (u:T05 new n=true) (L:B03 new=true)
  (s:J04 h sl idx (idx.toNat*sz+k) new λc=>K (.val undef) st c):o.wp P a w (Nx P h0 w0 st be oe K a o.dst) Q:=by
 have f:=d.rdO p
 rw[A]at f
 obtain⟨b,off,N,I,cur,ty,⟨l,_,q,M⟩,g⟩:=s
 obtain⟨G,S,O,J,e,m⟩:=f
 rw[l]at e;cases e
 have v:=k02 _ _ u
 have E:=s05 (H:=h) (P:=P) (a:=a) (cur:=cur.toList) z D m (by rw[i];exact v) (by grind[P02]) (by simpa using q) (by simp;omega)
 obtain⟨R,c,T,C,⟨rfl,rfl⟩,y⟩:=p9 _ _ _ (O08 d) (E (λn c=>n = .skip/\c=_) ⟨rfl,rfl⟩)
 obtain⟨F,j⟩:=d.moved y
 rw[S04]at g
 rw[i]at j
 exact R08 C ⟨_,_,_,_,_,_,_,g,rfl,j,rfl,F6.refl _ _ _⟩
theorem Q07:∀(c:List Field),H04 P c=true->∃ b,c.mapM (λf:Field=>(P.info? f.type).map λi=>(f.offset,i.size))=some b /\
  ∀(k:Nat) (f:Field) (n:Nat),c[k]?=some f->G5 P f.type=some n->b[k]?=some (f.offset,n)
 | [],_=>⟨[],rfl,by simp⟩
 |f::r,h=>by
  simp only[H04]at h
  split at h
  ·rename_i m a
   obtain⟨b,d,e⟩:=Q07 r h
   unfold G5 at a
   split at a
   ·rename_i i j
    cases a
    refine⟨(f.offset,i.size)::b,by simp_all,λk g n l o=>?_⟩
    grind[G5]
   ·cases a
  ·cases h
theorem W08{d:Array Field}{m:List (Nat×Nat)}(h:∀(k:Nat) (f:Field) (n:Nat),d.toList[k]?=some f->G5 P f.type=some n->m[k]?=some (f.offset,n)){rd:Operand->AV}
  (j:∀ x cs,q00 (rd x)=some cs->M1 st oe cs (a.eval x).cells.toList):∀(l:List (Nat×Operand)) {cs:List p5} {vs:List Value} {K:List p5->Prop},M1 st oe cs vs->b06 P d rd l cs K ->
  ∃ cs' c,K cs'/\M1 st oe cs' c/\Instr.fill (m.toArray[·]?) vs.toArray (l.map λp=>(p.1,a.eval p.2))=some c.toArray
 | [],cs,vs,K,g,b=>⟨cs,vs,b,g,rfl⟩
 |(i,x)::r,cs,vs,K,g,b=>by
  simp only[b06]at b
  split at b
  rotate_left
  ·exact b.elim
  rename_i f new hf t
  split at b
  rotate_left
  ·exact b.elim
  rename_i n v
  split at b
  rotate_left
  ·exact b.elim
  rename_i s q
  have E:=k02 _ _ s
  have D:=Nat.le_of_ble_eq_true q
  have e:=j x new t
  have u:=h i f n (by simpa using hf) v
  have C:=g.length
  have F:=e.length
  obtain⟨cs',c,y,z,G⟩:=W08 h j r (g.splice e) b
  refine⟨cs',c,y,z,?_⟩
  have w:(a.eval x).cells.size=n:=by grind
  simp only[List.map_cons,Instr.fill,List.getElem?_toArray,u,w,ne_eq,not_true_eq_false,decide_false,Bool.false_or,decide_eq_true_eq]
  rw[if_neg (by simp;omega)]
  have o:=Y0g (a.eval x) f.offset vs.toArray
  have A:((a.eval x).cells.zipIdx.foldl (λcs (p:Value×Nat)=>cs.setIfInBounds (f.offset+p.2) p.1) vs.toArray)=(L2 vs f.offset (a.eval x).cells.toList).toArray:=by
   rw[←o]
  grind
theorem Z0g(D:Sim P h0 w0 be oe H st h a w){t:TypeId}{c:Array (Nat×Operand)}{b:Array Field}{z:Value}{rd:Operand->AV}{K':AV->Prop}(u:o.op = .build t c)(y:P.underlying t=some (.struct b))
  (l:v00 P t=some z) (g:H04 P b.toList=true) (k:∀ x cs,q00 (rd x)=some cs->M1 st oe cs (a.eval x).cells.toList)
  (j:b06 P b rd c.toList (vals z.cells.toList) λcs=>K' (.agg cs)) :
  ∃ av v,K' av/\O1 st be oe av v/\∀ w:World,(execOp a.eval o).run P w = .ok (.value v) w:=by
 obtain⟨C,p,f⟩:=Q07 b.toList g
 obtain⟨cs',e,m,n,A⟩:=W08 (st:=st) (oe:=oe) (a:=a) f k c.toList (M1.vals st oe z.cells.toList) j
 have d:=l
 unfold v00 at d
 split at d
 rotate_left
 ·cases d
 rename_i i s
 have q:P.built t (c.map λx=>(x.1,a.eval x.2)).toList=some e.toArray:=by
  unfold Program.built
  simp_all
 refine⟨_,.agg e.toArray,m,⟨e,rfl,n⟩,λw=>?_⟩
 simp_all[execOp,Sem.run_bind,run_build,Result.andThen_ok,Sem.run_pure]
theorem W0d(c:Sim P h0 w0 be oe H st h a w){x:Operand}{cs:List p5}(b:a06 (rdO st x)=some cs):∃ vs:List Value,a.eval x = .agg vs.toArray/\M1 st oe cs vs:=by
 have g:=c.rdO x
 cases hr:rdO st x with
 |val v =>
  rw[hr]at b g
  cases v<;>simp only[a06,Option.some.injEq]at b<;>first|(subst b;exact⟨_,by rw[show a.eval x=_ from g],M1.vals _ _ _⟩)|cases b
 |agg cs' =>
  rw[hr]at b g
  simp only[a06,Option.some.injEq]at b
  subst b
  exact g
 |_=>rw[hr]at b;cases b
theorem T0m(m:Sim P h0 w0 be oe H st h a w){t:TypeId}{x:Operand}{k:Nat}{cs:List p5}{l:Array Field}{f:Field}(u:o.op = .field t x k)(q:a06 (rdO st x)=some cs)
  (z:P.underlying t=some (.struct l)) (hf:l[k]?=some f) (b:A03 P f.type cs f.offset λav=>K av st h):o.wp P a w (Nx P h0 w0 st be oe K a o.dst) Q:=by
 obtain⟨vs,D,g⟩:=W0d m q
 unfold A03 at b
 have fin:∀(av:AV) (v:Value),K av st h->O1 st be oe av v->(∀ d:Value->Hp->Prop,d v H->wpS P (part f.type vs.toArray f.offset) H d)->o.wp P a w (Nx P h0 w0 st be oe K a o.dst) Q:=by
  intro av v i s C
  refine t7 m (λd y=>?_) s i
  unfold execOp;rw[u]
  refine w7 _ _ _ ?_
  grind[Instr.field,T1,H5,asAgg,Z1]
 split at b
 ·rename_i e
  split at b
  ·rename_i n j
   split at b
   ·refine fin _ (.agg ((vs.drop f.offset).take n).toArray) b ⟨_,rfl,(g.drop _).take _⟩ λd i=>?_
    simp only[part,T1,g07 e,if_true,Q00 j,Z1]
    grind
   ·exact b.elim
  ·exact b.elim
 ·rename_i e
  split at b
  ·rename_i c j
   obtain⟨v,A,p⟩:=g.nth j
   refine fin _ v b (O1.ofCell p) λd i=>?_
   simp only[part,T1,g07 e,Bool.false_eq_true,if_false]
   grind[Z1]
  ·exact b.elim
 ·exact b.elim
theorem X08{t:TypeId}{e:TypeId}{x:Operand}{as:Array Operand}{b:Array TypeId}{d:Option Addr}{n c:Nat}(g:o.op = .call { callee := .builtin .len,args:=as,argTypes:=b })(f:as = #[x])(i:b = #[t])
  (h:k00 P t=some e) (j:a.eval x = .slice d n c) (w:World):(execOp a.eval o).run P w = .ok (.value (.int .i64 n)) w:=by
 subst f;subst i
 unfold execOp;rw[g]
 simp only[resolve,invoke,builtin,Builtin.len_,Sem.run_bind,Sem.run_pure,Result.andThen_ok,List.map_toArray,List.map_cons,List.map_nil,j,List.getElem?_toArray,List.getElem?_cons_zero,run_underlying (E8 h),goInt]
end
end Go.H
namespace Go.H
set_option linter.unusedVariables false
set_option linter.unusedSimpArgs false
section
variable {P:Program} {h0:Hp} {w0:World} {be:Nat->Nat} {oe:Nat->Value} {H:Hp} {st:St} {h:Hp} {a:Act} {w:World} {o:Oper} {K:AV->St->Hp->Prop} {Q:Exit->Act->World->Prop}
theorem X09(d:Sim P h0 w0 be oe H st h a w){av:AV}{v:Value}(c:∀ w:World,(execOp a.eval o).run P w = .ok (.value v) w)(g:O1 st be oe av v)(b:K av st h):o.wp P a w (Nx P h0 w0 st be oe K a o.dst) Q :=
 L7 (c w) ⟨av,st,h,v,be,oe,H,b,rfl,d,g,F6.refl _ _ _⟩
set_option maxHeartbeats 1000000 in
theorem a9(q:Sim P h0 w0 be oe H st h a w)(d:U7 P o st h K):o.wp P a w (Nx P h0 w0 st be oe K a o.dst) Q:=by
 cases ho:o.op with
 |move x=>simp only[U7,ho]at d;exact g0k q (.inl ho) d
 |assign x=>simp only[U7,ho]at d;exact g0k q (.inr ho) d
 |box t x =>
  simp only[U7,ho]at d
  grind[M0p]
 |alloc t =>
  simp only[U7,ho]at d
  grind[P0m]
 |fieldAddr t x k=>simp only[U7,ho]at d;exact J0f q ho d
 |indexAddr t x i=>simp only[U7,ho]at d;exact N0f q ho d
 |load t x =>
  simp only[U7,ho]at d
  grind[V0g,W0g,Nat.eq_of_beq_eq_true,X0g,M8]
 |store t p x =>
  simp only[U7,ho]at d
  split at d
  ·rename_i i off A
   split at d
   ·rename_i cs ty new n L V G
    split at d
    ·rename_i F u;exact K0f q ho A L V G F u d
    ·exact d.elim
   ·exact d.elim
  ·rename_i i ah idx sz k A
   exact O0f q ho A d
  ·rename_i sl idx sz k A
   split at d
   ·rename_i v s
    split at d
    ·rename_i G;exact P0f q ho A s G d
    ·rename_i n _ G
     split at d
     ·rename_i F u
      exact P07 q ho A (by have:=q.rdO x;rw[s]at this;rw[show a.eval x=v from this]) G F u d
     ·exact d.elim
    ·exact d.elim
   ·rename_i cs s
    split at d
    ·rename_i n new G J
     split at d
     ·rename_i F u
      refine P07 q ho A ?_ G F u d
      have g:=q.rdO x
      rw[s]at g
      obtain⟨vs,al,am⟩:=g
      rw[al,j06 J am]
      rfl
     ·exact d.elim
    ·exact d.elim
   ·exact d.elim
  grind[M8]
 |build t aF =>
  simp only[U7,ho]at d
  split at d
  ·rename_i aS z T W
   split at d
   ·rename_i U
    obtain⟨av,v,az,aA,aB⟩:=Z0g (K':=λav=>K av st h) q ho T W U (λx cs V=>r05 q V) d
    exact X09 q aB aA az
   ·exact d.elim
  ·exact d.elim
 |buildSlice t n aF =>
  simp only[U7,ho]at d
  split at d
  ·rename_i e S
   split at d
   ·rename_i sz by_ z G X W
    split at d
    ·rename_i L Z F;exact V0d q ho S G W L Z d
    ·exact d.elim
   ·exact d.elim
  ·exact d.elim
 |makeSlice t l c =>
  simp only[U7,ho]at d
  split at d
  ·rename_i e S
   split at d
   ·rename_i sz by_ z aZ a4 aY a3 G X W F V
    split at d
    all_goals grind[M0f]
   ·exact d.elim
  ·exact d.elim
 |field t x k =>
  simp only[U7,ho]at d
  grind[T0m]
 |slice t x a0 ae aC =>
  cases aC with
  |some m=>simp only[U7,ho]at d;exact H9 q d
  |none =>
   simp only[U7,ho]at d
   split at d
   ·grind[t0l]
   ·grind[s0l]
   ·rename_i b A
    split at d
    ·rename_i T
     unfold C0m at d
     split at d
     ·rename_i l m F Z
      have D:a.eval x = .string b:=by have:=q.rdO x;rw[A]at this;exact this
      obtain⟨⟨u,O,an⟩,E⟩:=d
      exact t7 q (av := .val _) (exec_cutStr ho T D (v05 q F) (v05 q Z) u O an) rfl E
     ·exact d.elim
    ·exact d.elim
   ·exact d.elim
 |index t x i =>
  simp only[U7,ho]at d
  split at d
  ·rename_i b k j s ae T
   have D:a.eval x = .string b:=by have:=q.rdO x;rw[s]at this;exact this
   have gi:a.eval i = .int k j:=by have:=q.rdO i;rw[ae]at this;exact this
   obtain⟨c,⟨u,O⟩,E⟩:=d
   exact t7 q (av := .val _) (exec_index ho T D gi u O) rfl E
  grind[M8]
 |binOp aE t x y aJ =>
  cases aE with
  |add =>
   simp only[U7,ho]at d
   split at d
   ·rename_i b c s C
    have D:a.eval x = .string b:=by have:=q.rdO x;rw[s]at this;exact this
    have I:a.eval y = .string c:=by have:=q.rdO y;rw[C]at this;exact this
    exact t7 q (av := .val _) (exec_cat ho D I d.1) rfl d.2
   grind[M8]
  |quo =>
   simp only[U7,ho]at d
   split at d
   ·rename_i b c s C
    have D:a.eval x = .int .i64 b:=by have:=q.rdO x;rw[s]at this;exact this
    have I:a.eval y = .int .i64 c:=by have:=q.rdO y;rw[C]at this;exact this
    exact t7 q (av := .val _) (exec_quo ho D I d.1) rfl d.2
   grind[M8]
  |rem =>
   simp only[U7,ho]at d
   split at d
   ·rename_i b c s C
    have D:a.eval x = .int .i64 b:=by have:=q.rdO x;rw[s]at this;exact this
    have I:a.eval y = .int .i64 c:=by have:=q.rdO y;rw[C]at this;exact this
    exact t7 q (av := .val _) (exec_rem ho D I d.1) rfl d.2
   grind[M8]
  |shl =>
   simp only[U7,ho]at d
   split at d
   ·rename_i b c s C
    have D:a.eval x = .int .i64 b:=by have:=q.rdO x;rw[s]at this;exact this
    have I:a.eval y = .int .i64 c:=by have:=q.rdO y;rw[C]at this;exact this
    exact t7 q (av := .val _) (R0m ho D I d.1) rfl d.2
   grind[M8]
  |shr =>
   simp only[U7,ho]at d
   split at d
   ·rename_i b c s C
    have D:a.eval x = .int .i64 b:=by have:=q.rdO x;rw[s]at this;exact this
    have I:a.eval y = .int .i64 c:=by have:=q.rdO y;rw[C]at this;exact this
    exact t7 q (av := .val _) (S0m ho D I d.1) rfl d.2
   grind[M8]
  |eql =>
   simp only[U7,ho]at d
   split at d
   ·rename_i xs aO s C
    obtain⟨b,u,E⟩:=d
    exact X09 q (av := .val _) (u _ (O6 s (q.rdO x)) (O6 C (q.rdO y))) rfl E
   ·rename_i aP a2 a1 s C
    obtain⟨b,u,E⟩:=d
    exact X09 q (av := .val _) (u _ (O6 s (q.rdO x)) (O6 C (q.rdO y))) rfl E
   grind[H9]
  |neq =>
   simp only[U7,ho]at d
   split at d
   ·rename_i xs aO s C
    obtain⟨b,u,E⟩:=d
    exact X09 q (av := .val _) (u _ (O6 s (q.rdO x)) (O6 C (q.rdO y))) rfl E
   grind[H9]
  |_=>simp only[U7,ho]at d;exact H9 q d
 |convert aK aM x =>
  simp only[U7,ho]at d
  split at d
  ·rename_i i k A
   split at d
   ·rename_i ah aR sz by_ nn xs e L ar au
    split at d
    ·rename_i aw
     obtain⟨N,M,E⟩:=d
     obtain⟨ak,aH,ai,aD,aN,aa⟩:=p05 A
     have g:=q.rdO x
     rw[A]at g
     have s:=g.own_cur aa
     have R:=q.own i _ _ _ _ _ _ L
     have aG:(execOp a.eval o).run P w = .ok (.value (.string (strOfNums N))) w:=by
      unfold execOp
      rw[ho]
      rcases R.2 with⟨J,ax,_⟩|⟨ab,cap,cur,J,_,ao,aT,aU,aV,ad⟩
      ·rw[ax]at M
       have ap:N = []:=by simp_all
       subst ap
       rw[J]at s
       simp only[s,Sem.run_bind,run_convert_bytes_nil w aK e ar aw 0 0 aM au,Result.andThen_ok,Sem.run_pure]
       rfl
      ·rw[J]at s
       have F:N.length=xs.length:=by rw[M];simp
       have aW:∀ j,j<xs.length->w.cell? ⟨ab,0+j,none⟩=some (.int .u8 (N.getD j 0)):=λj Y=>by
        have aq:sz=1:=by
         have:=(R.1 _ (List.getElem_mem Y)).1
         grind
        subst aq
        have hf:xs.flatten=N.map (Value.int .u8):=by
         rw[M]
         clear M F Y L R ad E
         induction N with
         |nil=>rfl
         |cons n r ay=>simp[ay]
        have aX:=O0m q _ _ ao
        have O:=congrArg (λl:List Value=>l[j]?) (ad.trans hf)
        simp only[List.getElem?_take,Nat.mul_one,if_pos Y,List.getElem?_map,Array.getElem?_toList]at O
        simp_all[World.cell?,Nat.zero_add,if_neg,List.getD_eq_getElem?_getD,List.getElem?_eq_getElem]
       grind[Sem.run_bind,run_convert_bytes_arg,Result.andThen_ok,Sem.run_pure]
     exact L7 aG ⟨_,_,_,_,_,_,_,E,rfl,q,rfl,F6.refl _ _ _⟩
    ·exact d.elim
   grind[H9]
  grind[H9]
 |call c =>
  obtain⟨aj,as,aL⟩:=c
  cases aj with
  |builtin b =>
   cases b with
   |len =>
    simp only[U7,ho]at d
    split at d
    ·rename_i x t U af
     have ac:as = #[x]:=by apply Array.ext';simpa using U
     have ag:aL = #[t]:=by apply Array.ext';simpa using af
     split at d
     ·rename_i i k A
      split at d
      ·rename_i ah e sz by_ nn xs aQ L S
       obtain⟨ak,aH,ai,aD,aN,aa⟩:=p05 A
       have g:=q.rdO x
       rw[A]at g
       have s:=g.own_cur aa
       have R:=q.own i _ _ _ _ _ _ L
       rcases R.2 with⟨J,M,_⟩|⟨ab,cap,cur,J,_⟩
       ·rw[J]at s
        refine X09 q (av := .val _) (X08 ho ac ag S s) ?_ d
        rw[M];rfl
       ·rw[J]at s
        exact X09 q (av := .val _) (X08 ho ac ag S s) rfl d
      ·exact d.elim
     grind[M8]
    ·exact d.elim
   |append =>
    simp only[U7,ho]at d
    split at d
    ·rename_i x y t aJ U af
     split at d
     ·rename_i X
      have:=Nat.eq_of_beq_eq_true X
      subst this
      exact q0l q ho (by grind) (by grind) d
     ·exact d.elim
    ·exact d.elim
   |_=>simp only[U7,ho]at d;exact H9 q d
  |value f=>simp only[U7,ho]at d;exact H9 q d
  |invoke r m=>simp only[U7,ho]at d;exact H9 q d
 |_=>simp only[U7,ho]at d;exact H9 q d
end
end Go.H
