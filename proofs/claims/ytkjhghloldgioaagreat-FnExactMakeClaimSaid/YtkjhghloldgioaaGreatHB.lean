/- The library of the walks, part HB: plain laws over the model. -/
import Derived.Test.YtkjhghloldgioaaGreatH3
import Derived.Laws.Tables
namespace Go.H
set_option linter.unusedVariables false
theorem b05{a:Type}:∀(l:List a) (k:Nat),nth l k=l[k]?
 | [],k=>by simp[nth]
 |x::r,0=>by simp[nth]
 |x::r,k+1=>by simp[nth,b05 r k]
theorem C0a{a:Type}:∀(l:List a) (k:Nat) (x:a),I00 l k x=l.set k x
 | [],k,x=>by simp[I00]
 |y::r,0,x=>by simp[I00]
 |y::r,k+1,x=>by simp[I00,C0a r k x]
theorem D7{a:Type}(l:List a)(k:Nat)(x:a)(b:k<l.length)(j:Nat):nth (I00 l k x) j=if j=k then some x else nth l j:=by
 rw[b05,b05,C0a,List.getElem?_set]
 grind
theorem Z01{a:Type}{l:List a}{k:Nat}{x:a}(h:nth l k=some x):k<l.length:=by
 grind[b05,List.getElem?_eq_some_iff]
theorem V02{a:Type}(l:List a)(x:a)(j:Nat):nth (l ++ [x]) j=if j=l.length then some x else nth l j:=by
 rw[b05,b05,List.getElem?_append]
 grind
theorem C05{a:Type}(l:List a)(k:Nat)(x:a):(I00 l k x).length=l.length:=by rw[C0a];simp
def stamp(st:St)(i:Nat):Option Nat:=match nth st.ow i with
 |some o=>some o.stamp
 |none=>none
def m0e(st:St)(oe:Nat->Value):S5->Value->Prop
 | .val v,x=>x=v
 | .own i k,x=>∃ s,stamp st i=some s/\k<=s/\(k=s->x=oe i)
def D2(st:St)(oe:Nat->Value):List S5->List Value->Prop
 | [],[]=>True
 |c::cs,v::vs=>m0e st oe c v/\D2 st oe cs vs
 |_,_=>False
def I2(st:St)(be:Nat->Nat)(oe:Nat->Value):AV->Value->Prop
 | .val v,x=>x=v
 | .own i k,x=>∃ a,stamp st i=some a/\k<=a/\(k=a->x=oe i)
 | .box i off,x=>i<st.bx.length/\x=ptr (be i) off
 | .hel a idx sz k,x=>∃ b o n c,a = .slice (some ⟨b,o,none⟩) n c/\x=ptr b (o+(idx.toNat*sz+k))
 | .oel i d idx sz k,x=>∃ a,stamp st i=some a/\d<=a/\(d=a->∃ g n c,oe i = .slice (some ⟨g,0,none⟩) n c/\x=ptr g (idx.toNat*sz+k))
 | .agg cs,x=>∃ vs,x = .agg vs.toArray/\D2 st oe cs vs
 | .dead,_=>True
structure a7 (st:St) (be:Nat->Nat) (oe:Nat->Value) (st':St) (be':Nat->Nat) (oe':Nat->Value):Prop where
 bl:st.bx.length<=st'.bx.length
 be:∀ i,i<st.bx.length->be' i=be i
 sm:∀ i s,stamp st i=some s->∃ s',stamp st' i=some s'/\s<=s'/\(s'=s->oe' i=oe i)
theorem a7.refl(st:St)(be:Nat->Nat)(oe:Nat->Value):a7 st be oe st be oe :=
 ⟨Nat.le_refl _,λ_ _=>rfl,λi s h=>⟨s,h,Nat.le_refl _,λ_=>rfl⟩⟩
theorem m0e.grow{st st':St}{be be':Nat->Nat}{oe oe':Nat->Value}(g:a7 st be oe st' be' oe'){c:S5}{x:Value}(h:m0e st oe c x):m0e st' oe' c x:=by
 cases c with
 |val v=>exact h
 |own i k =>
  obtain⟨j,d,f,n⟩:=h
  obtain⟨l,a,b,m⟩:=g.sm i j d
  exact⟨l,a,Nat.le_trans f b,λe=>by grind⟩
theorem D2.grow{st st':St}{be be':Nat->Nat}{oe oe':Nat->Value}(g:a7 st be oe st' be' oe'):∀ {cs:List S5} {vs:List Value},D2 st oe cs vs->D2 st' oe' cs vs
 | [],[],_=>trivial
 |_::_,_::_,h=>⟨h.1.grow g,D2.grow g h.2⟩
 | [],_::_,h=>h.elim
 |_::_,[],h=>h.elim
theorem I2.grow{st st':St}{be be':Nat->Nat}{oe oe':Nat->Value}(g:a7 st be oe st' be' oe'){av:AV}{x:Value}(h:I2 st be oe av x):I2 st' be' oe' av x:=by
 cases av with
 |val v=>exact h
 |own i k =>
  obtain⟨c,a,b,m⟩:=h
  obtain⟨j,d,f,l⟩:=g.sm i c a
  exact⟨j,d,Nat.le_trans b f,λe=>by grind⟩
 |box i off=>exact⟨Nat.lt_of_lt_of_le h.1 g.bl,by rw[g.be i h.1];exact h.2⟩
 |hel c idx sz k=>exact h
 |oel i n idx sz k =>
  obtain⟨c,a,b,m⟩:=h
  obtain⟨j,d,f,l⟩:=g.sm i c a
  exact⟨j,d,Nat.le_trans b f,λe=>by grind⟩
 |agg cs=>obtain⟨vs,a,b⟩:=h;exact⟨vs,a,b.grow g⟩
 |dead=>trivial
theorem D2.length{st:St}{oe:Nat->Value}:∀ {cs:List S5} {vs:List Value},D2 st oe cs vs->cs.length=vs.length
 | [],[],_=>rfl
 |_::_,_::_,h=>by simp[D2.length h.2]
 | [],_::_,h=>h.elim
 |_::_,[],h=>h.elim
theorem D2.vals(st:St)(oe:Nat->Value):∀(vs:List Value),D2 st oe (vals vs) vs
 | []=>trivial
 |_::r=>⟨rfl,D2.vals st oe r⟩
theorem D2.nth{st:St}{oe:Nat->Value}:∀ {cs:List S5} {vs:List Value} {k:Nat} {c:S5},D2 st oe cs vs->nth cs k=some c->∃ v,vs[k]?=some v/\m0e st oe c v
 | [],_,k,c,_,h=>by simp[H.nth]at h
 |d::cs,b::vs,0,c,h,a=>by simp[H.nth]at a;subst a;exact⟨b,by simp,h.1⟩
 |d::cs,b::vs,k+1,c,h,a=>by
  simp[H.nth]at a
  obtain⟨v,e,f⟩:=D2.nth h.2 a
  exact⟨v,by simpa using e,f⟩
 |_::_,[],_,_,h,_=>h.elim
theorem D2.drop{st:St}{oe:Nat->Value}:∀ {cs:List S5} {vs:List Value} (k:Nat),D2 st oe cs vs->D2 st oe (cs.drop k) (vs.drop k)
 |cs,vs,0,h=>by simpa using h
 | [],[],k+1,h=>by simpa using h
 |_::cs,_::vs,k+1,h=>by simpa using D2.drop k h.2
 | [],_::_,_+1,h=>h.elim
 |_::_,[],_+1,h=>h.elim
theorem D2.take{st:St}{oe:Nat->Value}:∀ {cs:List S5} {vs:List Value} (k:Nat),D2 st oe cs vs->D2 st oe (cs.take k) (vs.take k)
 |cs,vs,0,h=>by simp[D2]
 | [],[],k+1,h=>by simp[D2]
 |_::cs,_::vs,k+1,h=>by simpa [D2] using ⟨h.1,D2.take k h.2⟩
 | [],_::_,_+1,h=>h.elim
 |_::_,[],_+1,h=>h.elim
theorem D2.upd{st:St}{oe:Nat->Value}:∀ {cs:List S5} {vs:List Value} {k:Nat} {c:S5} {v:Value},D2 st oe cs vs->m0e st oe c v->D2 st oe (I00 cs k c) (vs.set k v)
 | [],[],k,c,v,h,a=>by simp[I00,D2]
 |_::cs,_::vs,0,c,v,h,a=>⟨a,h.2⟩
 |_::cs,_::vs,k+1,c,v,h,a=>⟨h.1,D2.upd h.2 a⟩
 | [],_::_,_,_,_,h,_=>h.elim
 |_::_,[],_,_,_,h,_=>h.elim
def D3:List Value->Nat->List Value->List Value
 |cs,_,[]=>cs
 |cs,off,x::r=>D3 (cs.set off x) (off+1) r
theorem D2.splice{st:St}{oe:Nat->Value}:∀ {new:List S5} {a:List Value} {cs:List S5} {vs:List Value} {off:Nat},D2 st oe cs vs->D2 st oe new a->D2 st oe (splice cs off new) (D3 vs off a)
 | [],[],cs,vs,off,h,_=>h
 |c::new,v::a,cs,vs,off,h,b=>by
  simp only[H.splice,D3]
  exact D2.splice (h.upd b.1) b.2
 | [],_::_,_,_,_,_,h=>h.elim
 |_::_,[],_,_,_,_,h=>h.elim
theorem j9:∀(a vs:List Value) (off:Nat),(D3 vs off a).length=vs.length
 | [],vs,off=>rfl
 |n::a,vs,off=>by simp[D3,j9 a]
def v06(h H:Hp)(v:Value)(e:TypeId)(sz:Nat)(nn:Bool)(xs:List (List Value)):Prop :=
  (∀ x∈xs,x.length=sz/\∀ v∈x,v.oneCell'=true) /\
  ((v = .slice none 0 0/\xs = []/\nn=false) ∨
   ∃ g cap cur,v = .slice (some ⟨g,0,none⟩) xs.length cap/\h g=none/\H g=some (.cells cur e (0,0)) /\
     xs.length<=cap/\cap<=maxLen/\cur.size=cap*sz/\cur.toList.take (xs.length*sz)=xs.flatten)
structure Sim (P:Program) (h0:Hp) (w0:World) (be:Nat->Nat) (oe:Nat->Value) (H:Hp) (st:St) (h:Hp) (a:Act) (w:World):Prop where
 mv:T2 h0 w0 H w
 sub:∀ b o,h b=some o->H b=some o
 box:∀ i cs ty,nth st.bx i=some (.live cs ty)->h (be i)=none/\∃ vs,D2 st oe cs vs/\H (be i)=some (.cells vs.toArray ty (0,0))
 pub:∀ i b,nth st.bx i=some (.publ b)->be i=b
 own:∀ i s e sz by_ nn xs,nth st.ow i=some ⟨s,.live e sz by_ nn xs⟩->v06 h H (oe i) e sz nn xs
 frz:∀ i s v,nth st.ow i=some ⟨s,.frozen v⟩->oe i=v
 bb:∀ i j cs ty cs' ty',nth st.bx i=some (.live cs ty)->nth st.bx j=some (.live cs' ty')->be i=be j->i=j
 oo:∀ i j s e sz by_ nn xs s' e' sz' by' nn' xs' g,nth st.ow i=some ⟨s,.live e sz by_ nn xs⟩->nth st.ow j=some ⟨s',.live e' sz' by' nn' xs'⟩ ->
  (oe i).ownBlock=some g->(oe j).ownBlock=some g->i=j
 bo:∀ i cs ty j s e sz by_ nn xs,nth st.bx i=some (.live cs ty)->nth st.ow j=some ⟨s,.live e sz by_ nn xs⟩->(oe j).ownBlock≠some (be i)
 dfr:a.defers = []
 siz:a.tmps.size=st.n
 fr:∀ s,I2 st be oe (Z2 st.fr s) (a.tmps.getD s undef)
section
variable {P:Program} {h0:Hp} {w0:World} {be:Nat->Nat} {oe:Nat->Value} {H:Hp} {st:St} {h:Hp} {a:Act} {w:World}
theorem v06.block{h H:Hp}{v:Value}{e sz:Nat}{nn:Bool}{xs:List (List Value)}(o:v06 h H v e sz nn xs){g:Nat}(d:v.ownBlock=some g):
  h g=none/\∃ cap cur,v = .slice (some ⟨g,0,none⟩) xs.length cap/\H g=some (.cells cur e (0,0)):=by
 rcases o.2 with⟨rfl,_⟩|⟨a,cap,cur,rfl,b,c,_⟩
 all_goals grind[Value.ownBlock]
theorem v06.keep{h b H a:Hp}{v:Value}{e sz:Nat}{nn:Bool}{xs:List (List Value)}(o:v06 h H v e sz nn xs)
  (d:∀ g,v.ownBlock=some g->a g=H g/\b g=none):v06 b a v e sz nn xs:=by
 refine⟨o.1,?_⟩
 rcases o.2 with f|⟨g,cap,cur,rfl,k,c,r⟩
 ·exact .inl f
 ·obtain⟨i,j⟩:=d g rfl
  exact .inr ⟨g,cap,cur,rfl,j,by rw[i];exact c,r⟩
theorem P0o(s:Sim P h0 w0 be oe H st h a w):Vis H w:=s.mv.vis
theorem z09(c:Sim P h0 w0 be oe H st h a w):Vis h w:=λb o d=>c.mv.vis b o (c.sub b o d)
theorem Sim.moved(c:Sim P h0 w0 be oe H st h a w){k:Hp}{t:World}(m:T2 h w k t):∃ f,Sim P h0 w0 be oe f st k a t:=by
 let f:Hp:=λb=>match k b with
  |some o=>some o
  |none=>match h b with
   |some _=>none
   |none=>H b
 have C:∀ b,h b=none->H b≠none->f b=H b/\k b=none:=by
  intro b d n
  have s:b<w.heap.size:=c.mv.vis.lt n
  have B:k b=none:=m.none_of s d
  grind
 have z:T2 H w f t:=by
  refine⟨m.os,m.tape,m.output,m.size,?_,?_,?_,m.fz,m.dn⟩
  ·intro b d n
   have:h b=none:=by
    cases hc:h b with
    |none=>rfl
    |some o=>rw[c.sub b o hc]at n;cases n
   exact m.keep b d this
  ·intro b o j
   simp only[f]at j
   split at j
   ·rename_i x q;cases j;exact m.vis b _ q
   ·split at j
    ·cases j
    ·rename_i q d
     have s:b<w.heap.size:=c.mv.vis.lt (by rw[j];simp)
     rw[m.keep b s d]
     exact c.mv.vis b o j
  ·intro b d
   simp only[f]at d
   split at d
   ·rename_i x q
    rcases m.fresh b (by simp[q])with l|l
    ·left
     cases hc:h b with
     |none=>exact absurd hc l
     |some o=>rw[c.sub b o hc];simp
    ·exact .inr l
   grind
 refine⟨f,⟨c.mv.trans z,?_,?_,c.pub,?_,c.frz,c.bb,c.oo,c.bo,c.dfr,c.siz,c.fr⟩⟩
 ·grind
 ·intro i cs ty p
  obtain⟨l,vs,A,v⟩:=c.box i cs ty p
  grind
 ·intro i u e sz by_ nn xs p
  refine(c.own i u e sz by_ nn xs p).keep λg y=>?_
  obtain⟨l,cap,cur,_,v⟩:=(c.own i u e sz by_ nn xs p).block y
  grind
theorem Z3(d:Nat)(av:AV)(r:List (Nat×AV))(s:Nat):Z2 ((d,av)::r) s=if d=s then av else Z2 r s:=by
 grind[Z2,Nat.beq,Nat.eq_of_beq_eq_true,Nat.ne_of_beq_eq_false]
theorem Sim.put(b:Sim P h0 w0 be oe H st h a w){d:Nat}{av:AV}{v:Value}(k:d<st.n)(l:I2 st be oe av v):
  Sim P h0 w0 be oe H { st with fr:=(d,av)::st.fr } h (a.put (some d) v) w:=by
 have c:a7 st be oe { st with fr:=(d,av)::st.fr } be oe:=⟨Nat.le_refl _,λ_ _=>rfl,λi b h=>⟨b,h,Nat.le_refl _,λ_=>rfl⟩⟩
 refine⟨b.mv,b.sub,λi cs ty m=>?_,b.pub,b.own,b.frz,b.bb,b.oo,b.bo,b.dfr,by simp[Act.put,b.siz],?_⟩
 ·obtain⟨f,vs,g,j⟩:=b.box i cs ty m
  exact⟨f,vs,g.grow c,j⟩
 intro t
 refine I2.grow c ?_
 rw[Z3]
 by_cases e:d=t
 ·subst e
  rw[if_pos rfl]
  have:(a.put (some d) v).tmps.getD d undef=v:=by simp[Act.put,b.siz,k]
  rw[this]
  exact l
 ·rw[if_neg e]
  have:(a.put (some d) v).tmps.getD t undef=a.tmps.getD t undef:=by simp[Act.put,Array.getElem?_setIfInBounds_ne e]
  rw[this]
  exact b.fr t
theorem Sim.newBox(c:Sim P h0 w0 be oe H st h a w){cs:List S5}{vs:List Value}{t:TypeId}{b:Nat}{D:World}(z:D2 st oe cs vs)(y:H b=none)
  (m:T2 H w (H.set b (.cells vs.toArray t (0,0))) D) :
  let be':=λj=>if j=st.bx.length then b else be j
  let st':St := { st with bx:=st.bx ++ [.live cs t] }
  Sim P h0 w0 be' oe (H.set b (.cells vs.toArray t (0,0))) st' h a D/\a7 st be oe st' be' oe:=by
 intro be' st'
 have K:h b=none:=by
  cases p:h b with
  |none=>rfl
  |some o=>rw[c.sub b o p]at y;cases y
 have n:a7 st be oe st' be' oe:=by
  refine⟨by simp[st'],λi d=>?_,λi c M=>⟨c,M,Nat.le_refl _,λ_=>rfl⟩⟩
  grind
 have L:∀ x,H x≠none->x≠b:=λx q e=>by subst e;exact q y
 have s:∀ i cs ty,nth st.bx i=some (.live cs ty)->be' i=be i:=λi cs ty d=>by simp[be',Nat.ne_of_lt (Z01 d)]
 have l:∀ i x,nth st'.bx i=some x->(i=st.bx.length/\x = .live cs t)∨(i≠st.bx.length/\nth st.bx i=some x):=by
  grind[V02]
 have Q:∀ i cs ty,nth st.bx i=some (.live cs ty)->be i≠b:=λi cs ty d=>by
  obtain⟨_,vs,_,v⟩:=c.box i cs ty d
  grind
 have R:∀ i k e sz by_ nn xs g,nth st.ow i=some ⟨k,.live e sz by_ nn xs⟩->(oe i).ownBlock=some g->g≠b:=λi k e sz by_ nn xs g d z=>by
  obtain⟨_,_,_,_,v⟩:=(c.own i k e sz by_ nn xs d).block z
  grind
 refine⟨⟨c.mv.trans m,?_,?_,?_,?_,c.frz,?_,c.oo,?_,c.dfr,c.siz,λt=>(c.fr t).grow n⟩,n⟩
 ·intro x o q
  rw[Hp.set_other _ _ (L x (by rw[c.sub x o q];simp))]
  exact c.sub x o q
 ·intro i cs' ty d
  rcases l i _ d with⟨rfl,e⟩|⟨e,f⟩
  ·cases e
   exact⟨by simp[be',K],vs,z.grow n,by simp[be',Hp.set]⟩
  ·obtain⟨B,O,I,v⟩:=c.box i cs' ty f
   rw[s i cs' ty f]
   exact⟨B,O,I.grow n,by grind[Hp.set_other]⟩
 ·intro i E d
  rcases l i _ d with⟨_,e⟩|⟨e,f⟩
  ·cases e
  ·simp[be',e,c.pub i E f]
 ·intro i k e sz by_ nn xs d
  refine(c.own i k e sz by_ nn xs d).keep λg J=>?_
  obtain⟨B,cap,cur,_,v⟩:=(c.own i k e sz by_ nn xs d).block J
  grind[Hp.set_other]
 ·intro i j F N S T d A e
  rcases l i _ d with⟨rfl,u⟩|⟨u,f⟩<;>rcases l j _ A with⟨rfl,G⟩|⟨G,C⟩
  ·rfl
  ·grind
  ·grind
  ·rw[s i _ _ f,s j _ _ C]at e;exact c.bb i j _ _ _ _ f C e
 ·intro i F N j k e sz by_ nn xs d A p
  rcases l i _ d with⟨rfl,u⟩|⟨u,f⟩
  ·grind
  ·rw[s i _ _ f]at p;exact c.bo i _ _ j _ _ _ _ _ _ f A p
theorem Sim.updBox(c:Sim P h0 w0 be oe H st h a w){i:Nat}{A cs:List S5}{vs:List Value}{t:TypeId}{D:World}(f:nth st.bx i=some (.live A t))
  (J:D2 st oe cs vs) (m:T2 H w (H.set (be i) (.cells vs.toArray t (0,0))) D) :
  Sim P h0 w0 be oe (H.set (be i) (.cells vs.toArray t (0,0))) { st with bx:=I00 st.bx i (.live cs t) } h a D/\a7 st be oe { st with bx:=I00 st.bx i (.live cs t) } be oe:=by
 have n:a7 st be oe { st with bx:=I00 st.bx i (.live cs t) } be oe :=
  ⟨by simp[C05],λ_ _=>rfl,λi c L=>⟨c,L,Nat.le_refl _,λ_=>rfl⟩⟩
 have K:=(c.box i A t f).1
 have k:∀ j x,nth (I00 st.bx i (.live cs t)) j=some x->(j=i/\x = .live cs t)∨(j≠i/\nth st.bx j=some x):=by
  grind[D7,Z01]
 refine⟨⟨c.mv.trans m,?_,?_,?_,?_,c.frz,?_,c.oo,?_,c.dfr,c.siz,λt=>(c.fr t).grow n⟩,n⟩
 ·intro x o l
  have:x≠be i:=λe=>by grind
  rw[Hp.set_other _ _ this];exact c.sub x o l
 ·intro j cs' ty d
  rcases k j _ d with⟨rfl,e⟩|⟨e,p⟩
  ·cases e;exact⟨K,vs,J.grow n,by simp[Hp.set]⟩
  ·obtain⟨v,O,G,I⟩:=c.box j cs' ty p
   have:be j≠be i:=λs=>e (c.bb j i _ _ _ _ p f s)
   exact⟨v,O,G.grow n,by grind[Hp.set_other]⟩
 ·intro j b d
  rcases k j _ d with⟨_,e⟩|⟨e,p⟩
  ·cases e
  ·exact c.pub j b p
 ·intro j z e sz by_ nn xs d
  refine(c.own j z e sz by_ nn xs d).keep λg B=>?_
  obtain⟨v,cap,cur,_,I⟩:=(c.own j z e sz by_ nn xs d).block B
  exact⟨Hp.set_other _ _ (λs=>by subst s;exact c.bo i _ _ j _ _ _ _ _ _ f d B),v⟩
 ·intro x y E N Q R l M e
  rcases k x _ l with⟨rfl,u⟩|⟨u,q⟩<;>rcases k y _ M with⟨rfl,F⟩|⟨F,C⟩
  ·rfl
  ·exact c.bb _ _ _ _ _ _ f C e
  ·exact c.bb _ _ _ _ _ _ q f e
  ·exact c.bb _ _ _ _ _ _ q C e
 ·intro x E N j z e sz by_ nn xs l d
  rcases k x _ l with⟨rfl,u⟩|⟨u,q⟩
  ·exact c.bo _ _ _ j _ _ _ _ _ _ f d
  ·exact c.bo _ _ _ j _ _ _ _ _ _ q d
end
end Go.H
namespace Go.H
set_option linter.unusedVariables false
section
variable {P:Program} {h0:Hp} {w0:World} {be:Nat->Nat} {oe:Nat->Value} {H:Hp} {st:St} {h:Hp} {a:Act} {w:World}
theorem j0l(st:St)(o:Own)(i b:Nat)(a:stamp st i=some b):stamp { st with ow:=st.ow ++ [o] } i=some b:=by
 unfold stamp at *
 have c:i<st.ow.length:=by
  cases hn:nth st.ow i with
  |none=>rw[hn]at a;cases a
  |some x=>exact Z01 hn
 simp_all[V02,Nat.ne_of_lt]
theorem Sim.newOwn(c:Sim P h0 w0 be oe H st h a w){v:Value}{e sz by_:Nat}{nn:Bool}{xs:List (List Value)}{p:Hp}{Q:World}
  (G:∀ b o,H b=some o->p b=some o) (m:T2 H w p Q) (X:v06 h p v e sz nn xs) (W:∀ g,v.ownBlock=some g->H g=none) :
  let oe':=λj=>if j=st.ow.length then v else oe j
  let st':St := { st with ow:=st.ow ++ [⟨0,.live e sz by_ nn xs⟩] }
  Sim P h0 w0 be oe' p st' h a Q/\a7 st be oe st' be oe':=by
 intro oe' st'
 have E:a7 st be oe st' be oe':=by
  refine⟨Nat.le_refl _,λ_ _=>rfl,λi c A=>⟨c,j0l st _ i c A,Nat.le_refl _,λ_=>?_⟩⟩
  have V:i<st.ow.length:=by
   unfold stamp at A
   cases hn:nth st.ow i with
   |none=>rw[hn]at A;cases A
   |some x=>exact Z01 hn
  grind
 have q:∀ i x,nth st'.ow i=some x->(i=st.ow.length/\x=⟨0,.live e sz by_ nn xs⟩)∨(i≠st.ow.length/\nth st.ow i=some x):=by
  grind[V02]
 have Z:∀ b,H b≠none->p b=H b:=by
  intro b I
  cases l:H b with
  |none=>exact absurd l I
  |some o=>exact G b o l
 refine⟨⟨c.mv.trans m,λb o I=>G b o (c.sub b o I),?_,c.pub,?_,?_,c.bb,?_,?_,c.dfr,c.siz,λt=>(c.fr t).grow E⟩,E⟩
 ·intro i cs ty d
  obtain⟨F,vs,R,z⟩:=c.box i cs ty d
  exact⟨F,vs,R.grow E,G _ _ z⟩
 ·intro i O y C u B D d
  rcases q i _ d with⟨rfl,f⟩|⟨f,n⟩
  ·grind
  ·simp only[oe',if_neg f]
   refine(c.own i _ _ _ _ _ _ n).keep λg J=>?_
   obtain⟨F,cap,cur,_,z⟩:=(c.own i _ _ _ _ _ _ n).block J
   grind
 ·intro i O T d
  rcases q i _ d with⟨rfl,f⟩|⟨f,n⟩
  ·cases f
  ·simp only[oe',if_neg f];exact c.frz i O T n
 ·intro i j s1 y C u B D s2 f ab U aa ac g d K gi N
  have Y:∀ k s1 y C u B D,nth st.ow k=some ⟨s1,.live y C u B D⟩->(oe k).ownBlock=some g->v.ownBlock≠some g:=λk _ _ _ _ _ _ S J l=>by
   obtain⟨F,cap,cur,_,z⟩:=(c.own k _ _ _ _ _ _ S).block J
   grind
  rcases q i _ d with⟨rfl,M⟩|⟨M,n⟩<;>rcases q j _ K with⟨rfl,s⟩|⟨s,L⟩
  ·rfl
  ·grind
  ·grind
  ·simp only[oe',if_neg M]at gi;simp only[oe',if_neg s]at N;exact c.oo i j _ _ _ _ _ _ _ _ _ _ _ _ g n L gi N
 ·intro i cs ty j s1 y C u B D d K l
  rcases q j _ K with⟨rfl,s⟩|⟨s,L⟩
  ·simp only[oe',if_pos rfl]at l
   obtain⟨_,vs,_,z⟩:=c.box i cs ty d
   grind
  ·simp only[oe',if_neg s]at l;exact c.bo i cs ty j _ _ _ _ _ _ d L l
theorem Sim.updOwn(c:Sim P h0 w0 be oe H st h a w){i L U ae T:Nat}{ad:Bool}{ag:List (List Value)}(J:nth st.ow i=some ⟨L,.live U ae T ad ag⟩)
  {v:Value} {s1 e sz by_:Nat} {nn:Bool} {xs:List (List Value)} {I:Hp} {S:World} (an:L<=s1) (ao:s1=L->v=oe i)
  (m:T2 H w I S) (al:∀ b,(oe i).ownBlock≠some b->H b≠none->I b=H b) (am:v06 h I v e sz nn xs)
  (Q:∀ g,v.ownBlock=some g->(oe i).ownBlock=some g∨H g=none) :
  let oe':=λj=>if j=i then v else oe j
  let st':St := { st with ow:=I00 st.ow i ⟨s1,.live e sz by_ nn xs⟩ }
  Sim P h0 w0 be oe' I st' h a S/\a7 st be oe st' be oe':=by
 intro oe' st'
 have W:=Z01 J
 have K:a7 st be oe st' be oe':=by
  refine⟨Nat.le_refl _,λ_ _=>rfl,λj t Y=>?_⟩
  unfold stamp at Y ⊢
  simp only[st',D7 _ _ _ W]
  grind
 have B:∀ j x,nth st'.ow j=some x->(j=i/\x=⟨s1,.live e sz by_ nn xs⟩)∨(j≠i/\nth st.ow j=some x):=by
  grind[D7]
 have ak:∀ g,(oe i).ownBlock=some g->h g=none:=λg s=>((c.own i _ _ _ _ _ _ J).block s).1
 have aq:∀ j s1 C F A E G g,j≠i->nth st.ow j=some ⟨s1,.live C F A E G⟩->(oe j).ownBlock=some g->(oe i).ownBlock≠some g/\v.ownBlock≠some g:=by
  intro j s1 C F A E G g X n s
  have f:(oe i).ownBlock≠some g:=λl=>X (c.oo j i _ _ _ _ _ _ _ _ _ _ _ _ g n J s l)
  refine⟨f,λl=>?_⟩
  rcases Q g l with d|d
  ·exact f d
  ·obtain⟨_,cap,cur,_,q⟩:=(c.own j _ _ _ _ _ _ n).block s
   rw[d]at q;cases q
 have ah:∀ k cs ty,nth st.bx k=some (.live cs ty)->(oe i).ownBlock≠some (be k)/\v.ownBlock≠some (be k):=by
  intro k cs ty z
  have f:=c.bo k cs ty i _ _ _ _ _ _ z J
  refine⟨f,λl=>?_⟩
  rcases Q _ l with d|d
  ·exact f d
  ·obtain⟨_,vs,_,q⟩:=c.box k cs ty z
   rw[d]at q;cases q
 refine⟨⟨c.mv.trans m,?_,?_,c.pub,?_,?_,c.bb,?_,?_,c.dfr,c.siz,λt=>(c.fr t).grow K⟩,K⟩
 ·intro b o V
  have aj:=c.sub b o V
  grind
 ·intro k cs ty z
  obtain⟨f,vs,d,q⟩:=c.box k cs ty z
  exact⟨f,vs,d.grow K,by grind⟩
 ·intro j R C F A E G n
  rcases B j _ n with⟨rfl,p⟩|⟨p,u⟩
  ·grind
  ·simp only[oe',if_neg p]
   refine(c.own j _ _ _ _ _ _ u).keep λg s=>?_
   obtain⟨f,cap,cur,_,q⟩:=(c.own j _ _ _ _ _ _ u).block s
   grind
 ·intro j R af n
  rcases B j _ n with⟨rfl,p⟩|⟨p,u⟩
  ·cases p
  ·simp only[oe',if_neg p];exact c.frz j R af u
 ·intro x y s1 C F A E G s2 p ar ai ap au g Z ab N O
  rcases B x _ Z with⟨rfl,M⟩|⟨M,aa⟩<;>rcases B y _ ab with⟨rfl,D⟩|⟨D,ac⟩
  ·rfl
  ·grind
  ·grind
  ·simp only[oe',if_neg M]at N;simp only[oe',if_neg D]at O;exact c.oo x y _ _ _ _ _ _ _ _ _ _ _ _ g aa ac N O
 ·intro k cs ty j s1 C F A E G z n l
  rcases B j _ n with⟨rfl,D⟩|⟨D,u⟩
  ·grind
  ·simp only[oe',if_neg D]at l;exact c.bo k cs ty j _ _ _ _ _ _ z u l
theorem Sim.freeze(c:Sim P h0 w0 be oe H st h a w){i m e sz by_:Nat}{nn:Bool}{xs:List (List Value)}(u:nth st.ow i=some ⟨m,.live e sz by_ nn xs⟩):
  ∃ f,H1 h f (oe i) e sz nn xs/\Sim P h0 w0 be oe H { st with ow:=I00 st.ow i ⟨m,.frozen (oe i)⟩ } f a w /\
   a7 st be oe { st with ow:=I00 st.ow i ⟨m,.frozen (oe i)⟩ } be oe:=by
 have V:=Z01 u
 have B:=c.own i _ _ _ _ _ _ u
 have s:a7 st be oe { st with ow:=I00 st.ow i ⟨m,.frozen (oe i)⟩ } be oe:=by
  refine⟨Nat.le_refl _,λ_ _=>rfl,λj t Y=>⟨t,?_,Nat.le_refl _,λ_=>rfl⟩⟩
  unfold stamp at Y ⊢
  simp only[D7 _ _ _ V]
  grind
 have n:∀ j x,nth (I00 st.ow i ⟨m,.frozen (oe i)⟩) j=some x->(j=i/\x=⟨m,.frozen (oe i)⟩)∨(j≠i/\nth st.ow j=some x):=by
  grind[D7]
 have M:∀ f,(∀ b,(oe i).ownBlock≠some b->f b=h b)->(∀ b o,f b=some o->H b=some o) ->
   Sim P h0 w0 be oe H { st with ow:=I00 st.ow i ⟨m,.frozen (oe i)⟩ } f a w:=by
  intro f L X
  refine⟨c.mv,X,?_,c.pub,?_,?_,c.bb,?_,?_,c.dfr,c.siz,λt=>(c.fr t).grow s⟩
  ·intro k cs ty v
   obtain⟨z,vs,I,U⟩:=c.box k cs ty v
   exact⟨by rw[L _ (c.bo k cs ty i _ _ _ _ _ _ v u)];exact z,vs,I.grow s,U⟩
  ·intro j O F Q E N R q
   rcases n j _ q with⟨rfl,d⟩|⟨d,l⟩
   ·cases d
   ·refine(c.own j _ _ _ _ _ _ l).keep λg K=>⟨rfl,?_⟩
    rw[L g (λA=>d (c.oo j i _ _ _ _ _ _ _ _ _ _ _ _ g l u K A))]
    exact((c.own j _ _ _ _ _ _ l).block K).1
  ·intro j O ac q
   rcases n j _ q with⟨rfl,d⟩|⟨d,l⟩
   ·cases d;rfl
   ·exact c.frz j O ac l
  ·intro x y s1 F Q E N R s2 d af ad ae ag g D aa S T
   rcases n x _ D with⟨rfl,G⟩|⟨G,Z⟩<;>rcases n y _ aa with⟨rfl,p⟩|⟨p,ab⟩
   ·rfl
   ·cases G
   ·cases p
   ·exact c.oo x y _ _ _ _ _ _ _ _ _ _ _ _ g Z ab S T
  ·intro k cs ty j s1 F Q E N R v q A
   rcases n j _ q with⟨rfl,p⟩|⟨p,l⟩
   ·cases p
   ·exact c.bo k cs ty j _ _ _ _ _ _ v l A
 rcases B.2 with⟨C,D,W⟩|⟨g,cap,cur,C,z,I,r⟩
 ·exact⟨h,⟨B.1,.inl ⟨C,D,W,rfl⟩⟩,M h (λ_ _=>rfl) c.sub,s⟩
 ·refine⟨h.set g (.cells cur e (0,0)),⟨B.1,.inr ⟨g,cap,cur,C,z,rfl,r⟩⟩,M _ ?_ ?_,s⟩
  ·grind[Hp.set_other,Value.ownBlock]
  ·intro b o J
   by_cases e':b=g
   ·grind[Hp.set]
   ·rw[Hp.set_other _ _ e']at J;exact c.sub b o J
theorem Sim.publ(c:Sim P h0 w0 be oe H st h a w){i:Nat}{cs:List S5}{ty:TypeId}(n:nth st.bx i=some (.live cs ty)){vs:List Value}
  (S:H (be i)=some (.cells vs.toArray ty (0,0))) :
  h (be i)=none/\Sim P h0 w0 be oe H { st with bx:=I00 st.bx i (.publ (be i)) } (h.set (be i) (.cells vs.toArray ty (0,0))) a w /\
   a7 st be oe { st with bx:=I00 st.bx i (.publ (be i)) } be oe:=by
 have T:=Z01 n
 have G:=(c.box i cs ty n).1
 have q:a7 st be oe { st with bx:=I00 st.bx i (.publ (be i)) } be oe :=
  ⟨by simp[C05],λ_ _=>rfl,λj t I=>⟨t,I,Nat.le_refl _,λ_=>rfl⟩⟩
 have f:∀ j x,nth (I00 st.bx i (.publ (be i))) j=some x->(j=i/\x = .publ (be i))∨(j≠i/\nth st.bx j=some x):=by
  grind[D7]
 refine⟨G,⟨c.mv,?_,?_,?_,?_,c.frz,?_,c.oo,?_,c.dfr,c.siz,λt=>(c.fr t).grow q⟩,q⟩
 ·intro b o A
  by_cases l:b=be i
  ·grind[Hp.set]
  ·rw[Hp.set_other _ _ l]at A;exact c.sub b o A
 ·intro k cs' M s
  rcases f k _ s with⟨rfl,e⟩|⟨e,p⟩
  ·cases e
  ·obtain⟨D,O,E,F⟩:=c.box k cs' M p
   exact⟨by rw[Hp.set_other _ _ (λl=>e (c.bb k i _ _ _ _ p n l))];exact D,O,E.grow q,F⟩
 ·intro k b s
  rcases f k _ s with⟨rfl,e⟩|⟨e,p⟩
  ·cases e;rfl
  ·exact c.pub k b p
 ·intro j L d V Q U X m
  refine(c.own j _ _ _ _ _ _ m).keep λg B=>⟨rfl,?_⟩
  rw[Hp.set_other _ _ (λl=>by subst l;exact c.bo i cs ty j _ _ _ _ _ _ n m B)]
  exact((c.own j _ _ _ _ _ _ m).block B).1
 ·intro x y C N R W u J e
  rcases f x _ u with⟨_,d⟩|⟨d,v⟩
  ·cases d
  rcases f y _ J with⟨_,z⟩|⟨z,K⟩
  ·cases z
  exact c.bb _ _ _ _ _ _ v K e
 ·intro x C N j L e sz by_ nn xs u m
  rcases f x _ u with⟨_,d⟩|⟨d,v⟩
  ·cases d
  ·exact c.bo _ _ _ j _ _ _ _ _ _ v m
theorem Sim.rdA(d:Sim P h0 w0 be oe H st h a w){av:AV}{x:Value}(g:I2 st be oe av x):I2 st be oe (rdA st av) x:=by
 cases av with
 |own i k =>
  simp only[Go.H.rdA]
  split
  ·rename_i m o c
   split
   ·rename_i j
    have l:=Nat.eq_of_beq_eq_true j
    split
    ·exact g
    ·rename_i v
     obtain⟨t,n,_,e⟩:=g
     have:t=m:=by grind[stamp]
     subst this
     have:=e l.symm
     rw[d.frz i _ v c]at this
     exact this
   ·trivial
  ·trivial
 |box i off =>
  simp only[Go.H.rdA]
  split
  ·exact g
  ·rename_i b c
   have:=g.2
   rw[d.pub i b c]at this
   exact this
  ·trivial
 |oel i k idx sz f =>
  simp only[Go.H.rdA]
  split
  ·split
   ·exact g
   ·trivial
  ·trivial
 |_=>exact g
theorem Sim.rdO(s:Sim P h0 w0 be oe H st h a w)(x:Operand):I2 st be oe (rdO st x) (a.eval x):=by
 cases x with
 |tmp t=>exact s.rdA (s.fr t)
 |const v=>rfl
 |global g=>trivial
 |func f=>rfl
theorem Q06{st:St}{av:AV}{i k:Nat}(h:Go.H.rdA st av = .own i k):∃ e sz by_ nn xs,nth st.ow i=some ⟨k,.live e sz by_ nn xs⟩:=by
 cases av with
 |own j l =>
  grind[Go.H.rdA,Nat.eq_of_beq_eq_true]
 |box j off=>simp only[Go.H.rdA]at h;split at h<;>cases h
 |oel j l idx sz f=>simp only[Go.H.rdA]at h;split at h<;>(try split at h)<;>cases h
 |_=>cases h
theorem R06{st:St}{x:Operand}{i k:Nat}(h:Go.H.rdO st x = .own i k):∃ e sz by_ nn xs,nth st.ow i=some ⟨k,.live e sz by_ nn xs⟩:=by
 cases x with
 |tmp t=>exact Q06 h
 |_=>cases h
theorem Q0h{st:St}{av:AV}{i k:Nat}{idx:Int}{sz f:Nat}(h:Go.H.rdA st av = .oel i k idx sz f):∃ e a by_ nn xs,nth st.ow i=some ⟨k,.live e a by_ nn xs⟩:=by
 cases av with
 |own j l=>simp only[Go.H.rdA]at h;split at h<;>(try split at h)<;>(try split at h)<;>cases h
 |box j off=>simp only[Go.H.rdA]at h;split at h<;>cases h
 |oel j l idx sz f =>
  grind[Go.H.rdA,Nat.eq_of_beq_eq_true]
 |_=>cases h
theorem s0m{st:St}{x:Operand}{i k:Nat}{idx:Int}{sz f:Nat}(h:Go.H.rdO st x = .oel i k idx sz f):∃ e a by_ nn xs,nth st.ow i=some ⟨k,.live e a by_ nn xs⟩:=by
 cases x with
 |tmp t=>exact Q0h h
 |_=>cases h
theorem I2.own_cur{st:St}{be:Nat->Nat}{oe:Nat->Value}{i k:Nat}{x:Value}{o:OSt}(g:I2 st be oe (.own i k) x)(c:nth st.ow i=some ⟨k,o⟩):x=oe i:=by
 obtain⟨d,a,_,b⟩:=g
 grind[stamp]
theorem I2.oel_cur{st:St}{be:Nat->Nat}{oe:Nat->Value}{i k:Nat}{idx:Int}{sz f:Nat}{x:Value}{o:OSt}(g:I2 st be oe (.oel i k idx sz f) x)(d:nth st.ow i=some ⟨k,o⟩):
  ∃ g n c,oe i = .slice (some ⟨g,0,none⟩) n c/\x=ptr g (idx.toNat*sz+f):=by
 obtain⟨e,a,_,b⟩:=g
 grind[stamp]
theorem X07{st:St}:∀ {cs:List S5} {vs a:List Value},Z0d cs=some vs->D2 st oe cs a->a=vs
 | [],vs,[],h,_=>by cases h;rfl
 | [],vs,_::_,h,g=>g.elim
 | .val v::r,vs,[],h,g=>g.elim
 | .val v::r,vs,w::a,h,g=>by
  simp only[Z0d]at h
  split at h
  ·rename_i e d
   cases h
   obtain⟨b,c⟩:=g
   rw[X07 d c,show w=v from b]
  ·cases h
 | .own i k::r,vs,a,h,g=>by cases h
theorem O7{st:St}{av:AV}{v x:Value}(h:V04 av=some v)(g:I2 st be oe av x):x=v:=by
 cases av with
 |val u=>cases h;exact g
 |agg cs =>
  simp only[V04]at h
  split at h
  ·rename_i vs b
   cases h
   obtain⟨c,rfl,a⟩:=g
   rw[X07 b a]
  ·cases h
 |_=>cases h
end
end Go.H
namespace Go.H
set_option linter.unusedVariables false
theorem M2{P:Program}{i g:Type}(d:Sem i)(f:i->Sem g):∀(h:Hp) (K:g->Hp->Prop),wpS P (d >>= f) h K=wpS P d h (λx e=>wpS P (f x) e K):=by
 change ∀(h:Hp) (K:g->Hp->Prop),wpS P (d.bind f) h K=wpS P d h (λx e=>wpS P (f x) e K)
 induction d with
 |pure a=>intro h K;rfl
 |load m a k b=>grind[Sem.bind,wpS]
 |store m a v k b=>intro h K;simp only[Sem.bind,wpS,b]
 |new o k b=>grind[Sem.bind,wpS]
 |shape r k b=>grind[Sem.bind,wpS]
 |freeze a n k b=>intro h K;rfl
 |frozen a k b=>grind[Sem.bind,wpS]
 |getObj r k b=>grind[Sem.bind,wpS]
 |setObj r o k b=>grind[Sem.bind,wpS]
 |choose q k b=>grind[Sem.bind,wpS]
 |sys c k b=>intro h K;rfl
 |program k b=>grind[Sem.bind,wpS]
 |mark m k b=>grind[Sem.bind,wpS]
 |halt x=>intro h K;rfl
theorem U2{P:Program}{a:Type}(x:a)(h:Hp)(K:a->Hp->Prop):wpS P (pure x) h K=K x h:=rfl
theorem t0m{P:Program}{e:Type}(d:Sem e){x:e}(b:evP P d=some x):∀ w:World,d.run P w = .ok x w:=by
 induction d with
 |pure a=>simp_all[evP,Option.some.injEq]
 |program k c=>intro w;exact c _ b w
 |mark m k c=>intro w;exact c b w
 |_=>simp[evP]at b
theorem D0a(a:Operand->Value):∀ l:List Operand,J0h a l=l.map a
 | []=>rfl
 |x::r=>by simp only[J0h,List.map_cons,D0a a r]
theorem u0m:∀ a b:List Value,z0o a b=a++b
 | [],b=>rfl
 |x::r,b=>by simp only[z0o,List.cons_append,u0m r b]
theorem w06:∀ l:List Operand,N07 l=l.map fun | .const _=>true|_=>false
 | []=>rfl
 | .const _::r=>by simp only[N07,List.map_cons,w06 r]
 | .tmp _::r=>by simp only[N07,List.map_cons,w06 r]
 | .global _::r=>by simp only[N07,List.map_cons,w06 r]
 | .func _::r=>by simp only[N07,List.map_cons,w06 r]
theorem n0e(a:Operand->Value)(o:Oper):P0i a o=execOp a o:=by
 unfold P0i
 split
 ·rename_i c d
  obtain⟨i,as,j⟩:=c
  split
  ·rename_i b g
   simp only at g
   subst g
   unfold execOp
   rw[d]
   simp only[resolve,D0a,w06]
   rw[show(List.map a as.toList).toArray=as.map a from by apply Array.ext';simp]
   have h:∀ f:Operand->Bool,(List.map f as.toList).toArray=as.map f:=λf=>by apply Array.ext';simp
   rw[h]
   rfl
  ·rfl
 ·rename_i fn first e d
  unfold execOp
  rw[d]
  simp only[D0a]
  rw[show(List.map a first.toList).toArray=first.map a from by apply Array.ext';simp,show(List.map a e.toList).toArray=e.map a from by apply Array.ext';simp]
 ·rfl
theorem R08{P:Program}{e:Operand->Value}{o:Oper}{f:FuncId}{l:List Value}(a:s09 e o=some (f,l))(b:okF P f=true)(w:World):(execOp e o).run P w = .ok (.enter f l.toArray) w:=by
 unfold s09 at a
 split at a
 ·rename_i c i
  obtain⟨m,as,q⟩:=c
  split at a
  ·rename_i x d
   simp only at d
   subst d
   split at a
   ·rename_i p first n j
    cases a
    unfold okF at b
    split at b
    ·rename_i fn hf
     split at b
     ·rename_i k g
      split at b
      ·cases b
      ·rename_i h
       unfold execOp
       rw[i]
       simp only[resolve,j,Deferred.ofValue,Sem.run_bind,Sem.run_pure,Result.andThen_ok,invoke,callFunc,program,Sem.run,hf,h,g,Bool.false_eq_true,if_false,Option.isNone_some]
       simp_all[u0m,D0a]
     ·cases b
    ·cases b
   ·cases a
  ·cases a
 ·cases a
section
variable {P:Program} {h0:Hp} {w0:World} {be:Nat->Nat} {oe:Nat->Value} {H:Hp} {st:St} {h:Hp} {a:Act} {w:World}
theorem a7.trans{st f h:St}{be a b:Nat->Nat}{oe d e:Nat->Value}(g:a7 st be oe f a d)(k:a7 f a d h b e):a7 st be oe h b e:=by
 refine⟨Nat.le_trans g.bl k.bl,λi c=>?_,λi m l=>?_⟩
 ·rw[k.be i (Nat.lt_of_lt_of_le c g.bl),g.be i c]
 ·obtain⟨s1,j,n,o⟩:=g.sm i m l
  obtain⟨s2,p,q,s⟩:=k.sm i s1 j
  grind
theorem E0a(p:Sim P h0 w0 be oe H st h a w){i k:Nat}{x:Value}(g:∃ t,stamp st i=some t/\k<=t/\(k=t->x=oe i)){K:Value->St->Hp->Prop}
  (b:I0h i k st h K):∃ st' c,K x st' c/\Sim P h0 w0 be oe H st' c a w/\a7 st be oe st' be oe/\st'.bx=st.bx:=by
 unfold I0h at b
 obtain⟨t,s,_,n⟩:=g
 split at b
 ·rename_i m e sz by_ nn xs j
  split at b
  ·rename_i d
   have f:=Nat.eq_of_beq_eq_true d
   have l:t=m:=by grind[stamp]
   have o:x=oe i:=n (by rw[l,f])
   obtain⟨c,q,f2,f3⟩:=p.freeze j
   rw[o]
   exact⟨_,c,b _ _ q,f2,f3,rfl⟩
  ·exact b.elim
 ·rename_i m v j
  split at b
  ·rename_i d
   have f:=Nat.eq_of_beq_eq_true d
   have l:t=m:=by grind[stamp]
   have o:x=v:=by rw[n (by rw[l,f]),p.frz i _ v j]
   grind[a7.refl]
  ·exact b.elim
 ·exact b.elim
theorem C03:∀(cs:List S5) {st:St} {h:Hp} {vs:List Value} {K:List Value->St->Hp->Prop},Sim P h0 w0 be oe H st h a w->D2 st oe cs vs->M07 cs st h K ->
  ∃ st' d,K vs st' d/\Sim P h0 w0 be oe H st' d a w/\a7 st be oe st' be oe/\st'.bx=st.bx
 | [],st,h,[],K,c,_,b=>⟨st,h,b,c,a7.refl _ _ _,rfl⟩
 | .val v::r,st,h,x::vs,K,c,g,b=>by
  have p:x=v:=g.1
  subst p
  obtain⟨st',d,t,u⟩:=C03 r c g.2 b
  grind
 | .own i k::r,st,h,x::vs,K,c,g,b=>by
  obtain⟨y,s,f,s1,e,n⟩:=E0a c g.1 b
  obtain⟨q,m,j,s2,l,o⟩:=C03 r s1 (g.2.grow e) f
  exact⟨q,m,j,s2,e.trans l,o.trans n⟩
 | [],_,_,_::_,_,_,g,_=>g.elim
 |_::_,_,_,[],_,_,g,_=>g.elim
theorem s03(d:Sim P h0 w0 be oe H st h a w){av:AV}{x:Value}(g:I2 st be oe av x){K:Value->St->Hp->Prop}(c:rfy av st h K):
  ∃ st' e,K x st' e/\Sim P h0 w0 be oe H st' e a w/\a7 st be oe st' be oe:=by
 cases av with
 |val v=>have j:x=v:=g;subst j;exact⟨st,h,c,d,a7.refl _ _ _⟩
 |own i k=>obtain⟨st',e,s,t,u,_⟩:=E0a d g c;grind
 |box i off =>
  have j:=g.2
  simp only[rfy,y0o]at c
  split at c
  ·rename_i cells ty f
   obtain⟨D,vs,l,p⟩:=d.box i cells ty f
   obtain⟨B,C,m,s1,o,n⟩:=C03 cells d l c
   have q:nth B.bx i=some (.live cells ty):=by rw[n];exact f
   obtain⟨y,z,A⟩:=s1.publ q p
   rw[j]
   exact⟨_,_,m (be i) y,z,o.trans A⟩
  ·rename_i b f
   rw[j,d.pub i b f]
   grind[a7.refl]
  ·exact c.elim
 |agg cs =>
  obtain⟨vs,rfl,l⟩:=g
  obtain⟨st',e,s,t,u,_⟩:=C03 cs d l c
  grind
 |_=>exact c.elim
theorem D03:∀(l:List Operand) {st:St} {h:Hp} {K:List (Nat×Value)->St->Hp->Prop},Sim P h0 w0 be oe H st h a w->Y0d l st h K ->
  ∃ vs st' n,K vs st' n/\Sim P h0 w0 be oe H st' n a w/\a7 st be oe st' be oe/\(∀ p∈vs,p.2=a.eval (.tmp p.1))/\(∀ x∈l,(∃ t v,x = .tmp t/\(t,v)∈vs)∨(∀ s,rho s x=a.eval x))
 | [],st,h,K,c,b=>⟨[],st,h,b,c,a7.refl _ _ _,by simp,by simp⟩
 | .tmp t::r,st,h,K,c,b=>by
  obtain⟨y,u,o,s1,q⟩:=s03 c (c.rdO (.tmp t)) b
  obtain⟨vs,j,i,e,s2,g,k,m⟩:=D03 r s1 o
  refine⟨_,j,i,e,s2,q.trans g,?_,?_⟩
  all_goals grind
 | .const v::r,st,h,K,c,b=>by
  obtain⟨vs,j,i,e,s2,g,k,m⟩:=D03 r c b
  refine⟨vs,j,i,e,s2,g,k,λx d=>?_⟩
  rcases List.mem_cons.1 d with rfl|d
  ·exact .inr λ_=>rfl
  ·exact m x d
 | .func f::r,st,h,K,c,b=>by
  obtain⟨vs,j,i,e,s2,g,k,m⟩:=D03 r c b
  refine⟨vs,j,i,e,s2,g,k,λx d=>?_⟩
  rcases List.mem_cons.1 d with rfl|d
  ·exact .inr λ_=>rfl
  ·exact m x d
 | .global _::_,_,_,_,_,b=>b.elim
theorem O0b:∀(vs:List (Nat×Value)) (t:Nat) (y:Value),(∀ p∈vs,p.1=t->p.2=y)->(∃ v,(t,v)∈vs)->j0m vs t=y
 | [],t,y,_,h=>by grind
 |(k,v)::r,t,y,a,h=>by
  simp only[j0m]
  split
  ·simp_all
  ·rename_i c
   refine O0b r t y (λp b=>a p (mC _ b)) ?_
   grind[absurd,Nat.ne_of_beq_eq_false]
theorem P0b{o:Oper}{vs:List (Nat×Value)}(c:P0c o.op=false)(d:∀ p∈vs,p.2=a.eval (.tmp p.1))
  (f:∀ x∈o.op.operands.toList,(∃ t v,x = .tmp t/\(t,v)∈vs)∨(∀ k,rho k x=a.eval x)):execOp (rho vs) o=execOp a.eval o:=by
 refine execOp_congr o (λcs b g=>by rw[g]at c;cases c) λx j=>?_
 rcases f x (by simpa using j)with⟨t,v,rfl,h⟩|hf
 ·exact O0b vs t _ (λp i e=>by rw[d p i,e]) ⟨v,h⟩
 ·exact hf vs
def Nx(P:Program)(h0:Hp)(w0:World)(g:St)(e:Nat->Nat)(f:Nat->Value)(K:AV->St->Hp->Prop)(a:Act)(d:Option Tmp):Act->World->Prop:=λc h =>
 ∃ av st' b v be oe H,K av st' b/\c=a.put d v/\Sim P h0 w0 be oe H st' b a h/\I2 st' be oe av v/\a7 g e f st' be oe
theorem t8{o:Oper}{next:Act->World->Prop}{Q:Exit->Act->World->Prop}{v:Value}{b:World}(d:(execOp a.eval o).run P w = .ok (.value v) b)
  (c:next (a.put o.dst v) b):o.wp P a w next Q:=by
 unfold Oper.wp;rw[d];exact c
theorem F0a{o:Oper}{next:Act->World->Prop}{Q:Exit->Act->World->Prop}{w':World}(hr:(execOp a.eval o).run P w = .ok .skip w')
  (hn:next (a.put o.dst undef) w'):o.wp P a w next Q:=by
 unfold Oper.wp;rw[hr];exact hn
theorem S06{o:Oper}{vs:List (Nat×Value)}(d:∀ p∈vs,p.2=a.eval (.tmp p.1))
  (f:∀ x∈o.op.operands.toList,(∃ t v,x = .tmp t/\(t,v)∈vs)∨(∀ k,rho k x=a.eval x)):s09 (rho vs) o=s09 a.eval o:=by
 have j:∀ x∈o.op.operands.toList,rho vs x=a.eval x:=λx b=>by
  rcases f x b with⟨t,v,rfl,h⟩|hf
  ·exact O0b vs t _ (λp i e=>by rw[d p i,e]) ⟨v,h⟩
  ·exact hf vs
 unfold s09
 split
 ·rename_i c l
  split
  ·rename_i x b
   have g:∀ y,y=x∨y∈c.args.toList->y∈o.op.operands.toList:=λy m=>by
    grind[Op.operands,Call.operands]
   rw[j x (g x (.inl rfl))]
   have:J0h (rho vs) c.args.toList=J0h a.eval c.args.toList:=by
    grind[D0a,List.map_congr_left]
   rw[this]
  ·rfl
 ·rfl
theorem S9(C:Sim P h0 w0 be oe H st h a w){o:Oper}{K:AV->St->Hp->Prop}{Q:Exit->Act->World->Prop}(c:n06 P o st h K):o.wp P a w (Nx P h0 w0 st be oe K a o.dst) Q:=by
 unfold n06 at c
 split at c
 ·exact c.elim
 rename_i B
 obtain⟨vs,i,E,b,s1,d,p,q⟩:=D03 _ C c
 rw[n0e,P0b B p q,S06 p q]at b
 split at b
 ·rename_i f l u
  split at b
  ·rename_i A
   unfold Oper.wp
   rw[R08 u A,Oper.upon_enter]
   refine(b.run w (z09 s1)).mono ?_
   rintro e G ⟨v,t,rfl,x,z⟩
   obtain⟨s,D⟩:=s1.moved z
   exact⟨.val v,i,t,v,be,oe,s,x,rfl,D,rfl,d⟩
  ·exact b.elim
 ·obtain⟨n,k,F,m,g,y⟩:=v00 _ _ _ (z09 s1) b
  obtain⟨j,s2⟩:=s1.moved y
  cases n with
  |value v=>exact t8 m ⟨.val v,i,k,v,be,oe,j,g,rfl,s2,rfl,d⟩
  |skip=>exact F0a m ⟨.val undef,i,k,undef,be,oe,j,g,rfl,s2,rfl,d⟩
  |_=>exact g.elim
theorem Sim.still(c:Sim P h0 w0 be oe H st h a w){hf:Hp}{e:World}(f:∀ b o,hf b=some o->H b=some o)(m:T2 hf w hf e):Sim P h0 w0 be oe H st h a e:=by
 refine⟨c.mv.trans ⟨m.os,m.tape,m.output,m.size,?_,?_,λb d => .inl d,m.fz,m.dn⟩,c.sub,c.box,c.pub,c.own,c.frz,c.bb,c.oo,c.bo,c.dfr,c.siz,c.fr⟩
 ·intro b d i
  refine m.keep b d ?_
  cases hc:hf b with
  |none=>rfl
  |some o=>grind
 ·intro b o d
  cases hc:hf b with
  |some g =>
   have:=f b g hc
   rw[this]at d;cases d
   exact m.vis b _ hc
  |none=>rw[m.keep b (c.mv.vis.lt (by rw[d];simp)) hc];exact c.mv.vis b o d
theorem e0j(d:Sim P h0 w0 be oe H st h a w){o:Oper}{K:AV->St->Hp->Prop}{Q:Exit->Act->World->Prop}(c:A0o P o st h K):o.wp P a w (Nx P h0 w0 st be oe K a o.dst) Q:=by
 unfold A0o at c
 split at c
 ·exact c.elim
 rename_i s
 obtain⟨vs,t,p,b,s1,_,m,n⟩:=D03 _ d c
 rw[S06 m n]at b
 split at b
 ·rename_i f l g
  split at b
  ·rename_i k
   unfold Oper.wp
   rw[R08 g k,Oper.upon_enter]
   refine(b.run w (z09 s1)).mono ?_
   rintro e u ⟨v,q,rfl,⟨rfl,i⟩,j⟩
   exact⟨.val v,st,h,v,be,oe,H,i,rfl,d.still s1.sub j,rfl,a7.refl _ _ _⟩
  ·exact b.elim
 ·exact b.elim
theorem K00(c:Sim P h0 w0 be oe H st h a w){o:Oper}{K:AV->St->Hp->Prop}{Q:Exit->Act->World->Prop}(b:U0k P o st h K):o.wp P a w (Nx P h0 w0 st be oe K a o.dst) Q:=by
 grind[U0k,S9,e0j]
end
end Go.H
namespace Go.H
set_option linter.unusedVariables false
section
variable {P:Program}
theorem C6{t:TypeId}{d:TypeDesc}(a:P.underlying t=some d)(h:Hp)(K:TypeDesc->Hp->Prop):wpS P (underlying t) h K=K d h:=by
 grind[underlying,program,M2,wpS,U2]
theorem G0a{t:TypeId}{i:TypeInfo}(a:P.info? t=some i)(h:Hp)(K:TypeInfo->Hp->Prop):wpS P (typeInfo t) h K=K i h:=by
 grind[typeInfo,program,M2,wpS,U2]
theorem a02{t:TypeId}{n:Nat}(a:B6 P t=some n)(h:Hp)(K:Nat->Hp->Prop):wpS P (sizeOf t) h K=K n h:=by
 grind[B6,sizeOf,M2,G0a,U2]
theorem H0a{t:TypeId}{z:Value}(a:y01 P t=some z)(h:Hp)(K:Value->Hp->Prop):wpS P (zeroValue t) h K=K z h:=by
 grind[y01,zeroValue,M2,G0a,U2]
theorem S08{t:TypeId}{b:Bool}(a:G0h P t=some b)(h:Hp)(K:Bool->Hp->Prop):wpS P (isAgg t) h K=K b h:=by
 unfold G0h at a
 grind[isAgg,M2,C6,U2,absurd]
theorem D05{H:Hp}{b o:Nat}:∀(vs:List Value) (i:Nat) (acc:Array Value) (K:Array Value->Hp->Prop),(∀ j v,vs[j]?=some v->Hp.cell H b (o+i+j)=some v) ->
  K (acc++vs.toArray) H->wpS P (loadCellsFrom ⟨b,o,none⟩ i vs.length acc) H K
 | [],i,acc,K,_,c=>by grind[loadCellsFrom,U2]
 |v::vs,i,acc,K,a,c=>by
  have h0:=a 0 v (by simp)
  simp only[loadCellsFrom,List.length_cons,M2,load,wpS]
  have d:(⟨b,o,none⟩:Addr).add i=⟨b,o+i,none⟩:=by unfold Addr.add;split<;>simp_all
  rw[d]
  refine⟨v,⟨rfl,by simpa using h0⟩,D05 vs (i+1) (acc.push v) K ?_ ?_⟩
  ·intro j u e
   have:=a (j+1) u (by simpa using e)
   grind
  ·simpa using c
theorem E03{a:Type}:∀(l:List a) (n:Nat),H07 l n=true->l.length=n
 | [],0,_=>rfl
 |_::r,k+1,h=>by simp[E03 r k h]
 | [],_+1,h=>by cases h
 |_::_,0,h=>by cases h
variable {h0:Hp} {w0:World} {be:Nat->Nat} {oe:Nat->Value} {H:Hp} {st:St} {h:Hp} {a:Act} {w:World}
theorem I2.ofCell{st:St}{be:Nat->Nat}{oe:Nat->Value}{c:S5}{v:Value}(g:m0e st oe c v):I2 st be oe (ofCell c) v:=by
 cases c with
 |val u=>exact g
 |own i k=>exact g
theorem load_row{t:TypeId}{cs:List S5}{vs:List Value}{off:Nat}{K:AV->Prop}{b o:Nat}(a:T04 P t cs off K)(g:D2 st oe cs vs)
  (q:∀ j v,vs[j]?=some v->Hp.cell H b (o+j)=some v):∃ av v,K av/\I2 st be oe av v/\∀ d:Value->Hp->Prop,d v H->wpS P (loadVar t ⟨b,o+off,none⟩) H d:=by
 unfold T04 at a
 split at a
 ·rename_i e
  split at a
  ·rename_i n f
   split at a
   ·rename_i m
    have p:=E03 _ _ m
    have h:=(g.drop off).take n
    refine⟨_,.agg ((vs.drop off).take n).toArray,a,⟨_,rfl,h⟩,λd l=>?_⟩
    have u:((vs.drop off).take n).length=n:=by rw[←h.length,p]
    simp only[loadVar,M2,S08 e,if_true,a02 f,loadCells]
    have:=D05 (P:=P) (H:=H) (b:=b) (o:=o+off) ((vs.drop off).take n) 0 #[] (λx k=>wpS P (pure (Value.agg x)) k d) (λj v s=>by
     grind) (by grind[U2])
    grind
   ·exact a.elim
  ·exact a.elim
 ·rename_i e
  split at a
  ·rename_i c f
   obtain⟨v,w,i⟩:=g.nth f
   refine⟨_,v,a,I2.ofCell i,λd l=>?_⟩
   simp only[loadVar,M2,S08 e,Bool.false_eq_true,if_false,load,wpS]
   grind
  ·exact a.elim
 ·exact a.elim
theorem Hp.set_set(h:Hp)(b:Nat)(x y:Obj):(h.set b x).set b y=h.set b y:=by
 funext k;simp only[Hp.set];split<;>rfl
theorem N0r{v:Value}(h:v.oneCell'=true):j04 v:=by cases v<;>simp_all [Value.oneCell',j04]
theorem c05{b:Nat}{t:TypeId}:∀(a:List Value) (cur:List Value) (off i:Nat) (K:Unit->Hp->Prop) (H:Hp),H b=some (.cells cur.toArray t (0,0)) ->
  off+i+a.length<=cur.length->(∀ v∈a,v.oneCell'=true)->K () (H.set b (.cells (D3 cur (off+i) a).toArray t (0,0)))->wpS P (storeCells ⟨b,off,none⟩ a i) H K
 | [],cur,off,i,K,H,e,_,_,c=>by
  have:H.set b (.cells cur.toArray t (0,0))=H:=by
   grind[Hp.set]
  simp only[D3,this]at c
  exact c
 |n::a,cur,off,i,K,H,e,g,d,c=>by
  simp only[storeCells,M2,store,wpS]
  have f:(⟨b,off,none⟩:Addr).add i=⟨b,off+i,none⟩:=by unfold Addr.add;split<;>simp_all
  rw[f]
  simp only[List.length_cons]at g
  refine⟨cur.toArray,t,(0,0),⟨e,rfl,by simp;omega,by simp,N0r (d n mS)⟩,?_⟩
  refine c05 (t:=t) a (cur.set (off+i) n) off (i+1) K _ (by simp[Hp.set]) (by simp;omega) (λv h=>d v (mC _ h)) ?_
  grind[Hp.set_set,D3,Nat.add_assoc]
theorem x06:∀(a cs:List Value) (off:Nat),splice cs off a=D3 cs off a
 | [],cs,off=>rfl
 |n::a,cs,off=>by simp only[splice,D3,C0a,x06 a]
theorem o0e(f:Sim P h0 w0 be oe H st h a w){i k:Nat}{e sz by_:Nat}{nn:Bool}{xs:List (List Value)}(d:nth st.ow i=some ⟨k,.live e sz by_ nn xs⟩):∃ x n c,oe i = .slice x n c:=by
 rcases(f.own i _ _ _ _ _ _ d).2 with⟨b,_⟩|⟨g,cap,cur,b,_⟩
 all_goals grind
theorem T06(m:Sim P h0 w0 be oe H st h a w){x:Operand}{cs:List S5}(b:r01 (rdO st x)=some cs):D2 st oe cs (a.eval x).cells.toList:=by
 have g:=m.rdO x
 cases hr:rdO st x with
 |val v =>
  rw[hr]at b g
  have d:a.eval x=v:=g
  rw[d]
  cases v<;>simp only[r01,Option.some.injEq]at b<;>first|(subst b;first|exact D2.vals _ _ _|exact⟨rfl,trivial⟩)|cases b
 |own i k =>
  rw[hr]at b g
  obtain⟨e,sz,by_,nn,xs,f⟩:=R06 hr
  simp only[r01,Option.some.injEq]at b
  subst b
  have j:a.eval x=oe i:=g.own_cur f
  obtain⟨y,n,c,l⟩:=o0e m f
  rw[j,l]
  rw[j,l]at g
  exact⟨g,trivial⟩
 |agg cs' =>
  rw[hr]at b g
  simp only[r01,Option.some.injEq]at b
  subst b
  obtain⟨vs,d,o⟩:=g
  rw[d]
  exact o
 |_=>rw[hr]at b;cases b
theorem J04(f:Sim P h0 w0 be oe H st h a w):∀(cs:List S5) (vs:List Value),z05 st cs=true->D2 st oe cs vs->∀ v∈vs,v.oneCell'=true
 | [],[],_,_,v,d=>by cases d
 | .val u::r,x::vs,b,g,v,d=>by
  simp only[z05]at b
  split at b
  ·rename_i o
   rcases List.mem_cons.1 d with rfl|d
   ·have:v=u:=g.1
    rw[this];exact o
   ·exact J04 f r vs b g.2 v d
  ·cases b
 | .own i k::r,x::vs,b,g,v,d=>by
  have m:I2 st be oe (rdA st (.own i k)) x:=f.rdA (av := .own i k) g.1
  simp only[z05]at b
  split at b
  ·rename_i j l p
   rcases List.mem_cons.1 d with rfl|d
   ·rw[p]at m
    obtain⟨e,sz,by_,nn,xs,q⟩:=Q06 p
    obtain⟨y,n,c,t⟩:=o0e f q
    rw[m.own_cur q,t];rfl
   ·exact J04 f r vs b g.2 v d
  ·rename_i u s
   split at b
   ·rename_i o
    rcases List.mem_cons.1 d with rfl|d
    ·rw[s]at m
     have:v=u:=m
     rw[this];exact o
    ·exact J04 f r vs b g.2 v d
   ·cases b
  ·cases b
 | [],_::_,_,g,_,_=>g.elim
 |_::_,[],_,g,_,_=>g.elim
theorem t04:∀(vs:List Value),U04 vs=true->∀ v∈vs,v.oneCell'=true
 | [],_,v,a=>by cases a
 |x::r,b,v,a=>by
  simp only[U04]at b
  split at b
  ·rename_i c
   rcases List.mem_cons.1 a with rfl|a
   ·exact c
   ·exact t04 r b v a
  ·cases b
end
end Go.H
namespace Go.H
set_option linter.unusedVariables false
section
variable {P:Program} {h0:Hp} {w0:World} {be:Nat->Nat} {oe:Nat->Value} {H:Hp} {st:St} {h:Hp} {a:Act} {w:World} {o:Oper} {K:AV->St->Hp->Prop} {Q:Exit->Act->World->Prop}
theorem D02(b o n:Nat):(⟨b,o,none⟩:Addr).add n=⟨b,o+n,none⟩:=by unfold Addr.add;split<;>simp_all
theorem w8(d:Sim P h0 w0 be oe H st h a w){av:AV}{v:Value}(k:∀ c:Next->Hp->Prop,c (.value v) H->wpS P (execOp a.eval o) H c)(g:I2 st be oe av v)(f:K av st h):
  o.wp P a w (Nx P h0 w0 st be oe K a o.dst) Q:=by
 obtain⟨n,b,m,j,⟨rfl,rfl⟩,i⟩:=v00 _ _ _ d.mv.vis (k (λn b=>n = .value v/\b=H) ⟨rfl,rfl⟩)
 have l:Sim P h0 w0 be oe b st h a m:=d.still (hf:=b) (λ_ _ e=>e) i
 exact t8 j ⟨av,st,h,v,be,oe,b,f,rfl,l,g,a7.refl _ _ _⟩
theorem z8{P:Program}(b:Sem Value)(H:Hp)(a:Next->Hp->Prop)(h:wpS P b H (λv H=>a (.value v) H)):wpS P (do pure (Next.value (←b))) H a:=by
 rw[M2];exact h
theorem O0r{P:Program}(b:Sem Unit)(H:Hp)(a:Next->Hp->Prop)(h:wpS P b H (λ_ H=>a .skip H)):wpS P (do b;pure Next.skip) H a:=by
 rw[M2];exact h
theorem v0m(d:Sim P h0 w0 be oe H st h a w){x:Operand}(c:o.op = .move x∨o.op = .assign x)(b:match rdO st x with | .dead=>False|a=>K a st h):o.wp P a w (Nx P h0 w0 st be oe K a o.dst) Q:=by
 have e:K (rdO st x) st h:=by
  revert b;cases rdO st x<;>intro b<;>first|exact b|exact b.elim
 refine w8 d (v:=a.eval x) (λg f=>?_) (d.rdO x) e
 unfold execOp
 rcases c with c|c<;>rw[c]<;>exact f
theorem P0r(d:Sim P h0 w0 be oe H st h a w){t:TypeId}{x:Operand}(m:o.op = .box t x){cs:List S5}(l:r01 (rdO st x)=some cs)
  (f:newBox st cs t λav st=>K av st h):o.wp P a w (Nx P h0 w0 st be oe K a o.dst) Q:=by
 have g:=T06 d l
 have q:wpS P (execOp a.eval o) H (λn e=>∃ b,H b=none/\n = .value (ptr b 0)/\e=H.set b (.cells (a.eval x).cells t (0,0))):=by
  unfold execOp;rw[m]
  refine z8 _ _ _ ?_
  simp only[Instr.box,newVar,newRow,newObj,M2,U2,wpS]
  exact λb c=>⟨b,c,rfl,rfl⟩
 obtain⟨n,e,u,p,⟨b,c,rfl,rfl⟩,i⟩:=v00 _ _ _ d.mv.vis q
 have k:(a.eval x).cells=(a.eval x).cells.toList.toArray:=by simp
 rw[k]at i
 rw[H0b]at f
 obtain⟨s,j⟩:=d.newBox g c i
 exact t8 p ⟨_,_,h,_,_,_,_,f,rfl,s,⟨by simp,by simp⟩,j⟩
theorem Q0o(g:Sim P h0 w0 be oe H st h a w){t:TypeId}(k:o.op = .alloc t){z:Value}(p:y01 P t=some z)
  (e:newBox st (vals z.cells.toList) t λav st=>K av st h):o.wp P a w (Nx P h0 w0 st be oe K a o.dst) Q:=by
 have m:wpS P (execOp a.eval o) H (λn d=>∃ b,H b=none/\n = .value (ptr b 0)/\d=H.set b (.cells z.cells t (0,0))):=by
  unfold execOp;rw[k]
  refine z8 _ _ _ ?_
  simp only[Instr.alloc,newVar,newRow,newObj,M2,H0a p,U2,wpS]
  exact λb c=>⟨b,c,rfl,rfl⟩
 obtain⟨n,d,s,l,⟨b,c,rfl,rfl⟩,f⟩:=v00 _ _ _ g.mv.vis m
 have j:z.cells=z.cells.toList.toArray:=by simp
 rw[j]at f
 rw[H0b]at e
 obtain⟨q,i⟩:=g.newBox (D2.vals st oe _) c f
 exact t8 l ⟨_,_,h,_,_,_,_,e,rfl,q,⟨by simp,by simp⟩,i⟩
theorem v0g{t:TypeId}{k a:Nat}(c:H0h P t k=some a):∃ b f n,P.underlying t=some (.struct b)/\b[k]?=some f/\B6 P f.type=some (n+1)/\f.offset=a:=by
 grind[H0h]
theorem exec_fieldAddr{t:TypeId}{x:Operand}{k d b off:Nat}(h:o.op = .fieldAddr t x k)(i:H0h P t k=some d)(l:a.eval x=ptr b off):
  ∀ c:Next->Hp->Prop,c (.value (ptr b (off+d))) H->wpS P (execOp a.eval o) H c:=by
 intro c e
 obtain⟨m,f,n,j,hf,g,rfl⟩:=v0g i
 unfold execOp;rw[h]
 refine z8 _ _ _ ?_
 simp only[Instr.fieldAt,M2,C6 j,hf,l,ptr,Instr.sureAddr,U2,fieldPlace,a02 g,Nat.add_one_ne_zero,if_false,D02]
 exact e
theorem R0h(f:Sim P h0 w0 be oe H st h a w){t:TypeId}{x:Operand}{k:Nat}(q:o.op = .fieldAddr t x k)
  (p:match rdO st x,H0h P t k with
  | .box i off,some d=>K (.box i (off+d)) st h
  | .hel f i sz k,some d=>K (.hel f i sz (k+d)) st h
  | .oel i f j sz k,some d=>K (.oel i f j sz (k+d)) st h
  | .val (.pointer (some ⟨b,off,none⟩)),some d=>K (.val (ptr b (off+d))) st h
  |_,_=>False):o.wp P a w (Nx P h0 w0 st be oe K a o.dst) Q:=by
 have g:=f.rdO x
 split at p
 ·rename_i i off d l m
  rw[l]at g
  exact w8 f (av := .box i (off+d)) (exec_fieldAddr q m g.2) ⟨g.1,rfl⟩ p
 ·rename_i sl i sz v d l m
  rw[l]at g
  obtain⟨b,C,n,c,s,u⟩:=g
  refine w8 f (av := .hel sl i sz (v+d)) (exec_fieldAddr q m u) ⟨b,C,n,c,s,?_⟩ p
  simp[Nat.add_assoc]
 ·rename_i i D j sz v d l m
  rw[l]at g
  obtain⟨e,G,by_,nn,xs,B⟩:=s0m l
  obtain⟨A,n,c,s,u⟩:=g.oel_cur B
  obtain⟨E,y,z,F⟩:=g
  refine w8 f (av := .oel i D j sz (v+d)) (exec_fieldAddr q m u) ⟨E,y,z,λ_=>⟨A,n,c,s,by simp[Nat.add_assoc]⟩⟩ p
 ·rename_i b off d l m
  rw[l]at g
  exact w8 f (av := .val (ptr b (off+d))) (exec_fieldAddr (b:=b) (off:=off) q m g) rfl p
 ·exact p.elim
theorem G9{t e:TypeId}(a:m01 P t=some e):P.underlying t=some (.slice e):=by
 grind[m01]
theorem exec_indexAddr{t e:TypeId}{x i:Operand}{k:IntKind}{j:Int}{sz b off n c:Nat}(m:o.op = .indexAddr t x i)(q:m01 P t=some e)(p:B6 P e=some sz)
  (u:a.eval x = .slice (some ⟨b,off,none⟩) n c) (h:a.eval i = .int k j) (f:0<=j) (g:j<(n:Int)) :
  ∀ d:Next->Hp->Prop,d (.value (ptr b (off+j.toNat*sz))) H->wpS P (execOp a.eval o) H d:=by
 intro d l
 have s:=G9 q
 unfold execOp;rw[m]
 refine z8 _ _ _ ?_
 simp only[Instr.indexAt,u,h,asIntOf,M2,U2,C6 s,f,g,and_self,if_true,a02 p,D02]
 exact l
theorem f0j(c:Sim P h0 w0 be oe H st h a w){t:TypeId}{x:Operand}{i off:Nat}{cs:List S5}{ty:TypeId}(m:o.op = .load t x)(n:rdO st x = .box i off)
  (l:nth st.bx i=some (.live cs ty)) (f:T04 P t cs off λav=>K av st h):o.wp P a w (Nx P h0 w0 st be oe K a o.dst) Q:=by
 have g:=c.rdO x
 rw[n]at g
 obtain⟨u,vs,d,e⟩:=c.box i cs ty l
 obtain⟨av,v,p,q,z⟩:=load_row (H:=H) (b:=be i) (o:=0) (be:=be) f d (λj v k=>by simp[Hp.cell,e,k])
 refine w8 c (λs y=>?_) q p
 unfold execOp;rw[m]
 refine z8 _ _ _ ?_
 rw[g.2]
 grind[Instr.loadAt,ptr,Instr.sureAddr,M2,U2]
theorem g0j(d:Sim P h0 w0 be oe H st h a w){t:TypeId}{x:Operand}{sl:Value}{idx:Int}{sz k:Nat}{c:List Value}(s:o.op = .load t x)(y:rdO st x = .hel sl idx sz k)
  (l:O9 h sl sz idx c) (p:T04 P t (vals c) k λav=>K av st h):o.wp P a w (Nx P h0 w0 st be oe K a o.dst) Q:=by
 have g:=d.rdO x
 rw[y]at g
 obtain⟨b,B,n,E,f,i⟩:=g
 obtain⟨_,_,D,L,J,F,e,m⟩:=l
 rw[f]at e;cases e
 obtain⟨av,v,z,A,I⟩:=load_row (H:=H) (b:=b) (o:=B+idx.toNat*sz) (be:=be) p (D2.vals st oe c) (λj v q=>by
  have:=m j v q
  unfold Hp.cell at this ⊢
  split at this
  ·rename_i u;rw[d.sub _ _ u];exact this
  ·cases this)
 refine w8 d (λC G=>?_) A z
 unfold execOp;rw[s]
 refine z8 _ _ _ ?_
 rw[i]
 simp only[Instr.loadAt,ptr,Instr.sureAddr,M2,U2]
 grind
theorem u04{sz:Nat}:∀(xs:List (List Value)) (i:Nat) (c:List Value),(∀ x∈xs,x.length=sz)->xs[i]?=some c->∀ j v,c[j]?=some v->xs.flatten[i*sz+j]?=some v
 | [],i,c,_,h,j,v,b=>by simp at h
 |x::xs,0,c,a,h,j,v,b=>by
  grind
 |x::xs,i+1,c,a,h,j,v,b=>by
  simp at h
  have e:=a x mS
  have:=u04 xs i c (λy d=>a y (mC _ d)) h j v b
  grind
theorem v06.cells{h H:Hp}{v:Value}{e sz:Nat}{nn:Bool}{xs:List (List Value)}(b:v06 h H v e sz nn xs){g n c:Nat}(l:v = .slice (some ⟨g,0,none⟩) n c):
  ∀ j u,xs.flatten[j]?=some u->Hp.cell H g j=some u:=by
 intro j u i
 rcases b.2 with⟨a,_⟩|⟨d,cap,cur,a,_,f,_,_,_,k⟩
 all_goals grind[Hp.cell]
theorem h0j(d:Sim P h0 w0 be oe H st h a w){t:TypeId}{x:Operand}{i E:Nat}{idx:Int}{sz k:Nat}{F e by_:Nat}{nn:Bool}{xs:List (List Value)}{c:List Value}
  (A:o.op = .load t x) (l:rdO st x = .oel i E idx sz k) (y:nth st.ow i=some ⟨F,.live e sz by_ nn xs⟩)
  (q:xs[idx.toNat]?=some c) (s:T04 P t (vals c) k λav=>K av st h):o.wp P a w (Nx P h0 w0 st be oe K a o.dst) Q:=by
 have g:=d.rdO x
 rw[l]at g
 obtain⟨L,S,I,R,T,z⟩:=s0m l
 obtain⟨p,n,J,m,M⟩:=g.oel_cur z
 have f:=d.own i _ _ _ _ _ _ y
 obtain⟨av,v,C,D,O⟩:=load_row (H:=H) (b:=p) (o:=idx.toNat*sz) (be:=be) s (D2.vals st oe c) (λj v u =>
  f.cells m _ _ (u04 xs _ c (λx B=>(f.1 x B).1) q j v u))
 refine w8 d (λG N=>?_) D C
 unfold execOp;rw[A]
 refine z8 _ _ _ ?_
 grind[Instr.loadAt,ptr,Instr.sureAddr,M2,U2]
theorem U06{t:TypeId}{p x:Operand}{b off n:Nat}{cur:List Value}{ty:TypeId}(e:o.op = .store t p x)(g:B6 P t=some n)(f:a.eval p=ptr b off)
  (d:(a.eval x).cells.toList.length=n) (i:∀ v∈(a.eval x).cells.toList,v.oneCell'=true) (j:H b=some (.cells cur.toArray ty (0,0))) (k:off+n<=cur.length) :
  ∀ c:Next->Hp->Prop,c .skip (H.set b (.cells (D3 cur off (a.eval x).cells.toList).toArray ty (0,0)))->wpS P (execOp a.eval o) H c:=by
 intro c l
 unfold execOp;rw[e]
 refine O0r _ _ _ ?_
 rw[f]
 have h:(a.eval x).cells.size=n:=by simpa using d
 simp only[Instr.storeAt,ptr,Instr.sureAddr,M2,U2,storeVar,a02 g,h,ne_eq,not_true_eq_false,if_false]
 grind[c05]
theorem S0h(b:Sim P h0 w0 be oe H st h a w){t:TypeId}{p x:Operand}{i off n:Nat}{cs new:List S5}{ty:TypeId}(A:o.op = .store t p x)(B:rdO st p = .box i off)
  (k:nth st.bx i=some (.live cs ty)) (u:r01 (rdO st x)=some new) (D:B6 P t=some n) (v:H07 new n=true) (m:z05 st new=true)
  (c:x0n cs off new λcs=>K (.val undef) { st with bx:=I00 st.bx i (.live cs ty) } h):o.wp P a w (Nx P h0 w0 st be oe K a o.dst) Q:=by
 have g:=b.rdO p
 rw[B]at g
 have d:=T06 b u
 have q:=J04 b _ _ m d
 have y:=E03 _ _ v
 obtain⟨I,vs,f,s⟩:=b.box i cs ty k
 unfold x0n at c
 split at c
 ·rename_i j
  have j:=Nat.le_of_ble_eq_true j
  have F:(a.eval x).cells.toList.length=n:=by rw[←d.length,y]
  have E:=U06 (H:=H) (P:=P) (a:=a) A D g.2 F q s (by rw[←f.length];omega)
  obtain⟨J,e,L,C,⟨rfl,rfl⟩,z⟩:=v00 _ _ _ b.mv.vis (E (λn e=>n = .skip/\e=_) ⟨rfl,rfl⟩)
  obtain⟨G,l⟩:=b.updBox k (f.splice d) z
  exact F0a C ⟨_,_,h,_,_,_,_,c,rfl,G,rfl,l⟩
 ·exact c.elim
end
end Go.H
namespace Go.H
set_option linter.unusedVariables false
section
variable {P:Program} {h0:Hp} {w0:World} {be:Nat->Nat} {oe:Nat->Value} {H:Hp} {st:St} {h:Hp} {a:Act} {w:World} {o:Oper} {K:AV->St->Hp->Prop} {Q:Exit->Act->World->Prop}
theorem b02{sz:Nat}:∀(xs:List (List Value)),(∀ x∈xs,x.length=sz)->xs.flatten.length=xs.length*sz
 | [],_=>by simp
 |x::xs,a=>by
  have:=b02 xs (λy b=>a y (mC _ b))
  grind
def w0m(w:World)(y:Value)(sz:Nat)(a:List (List Value)):Prop :=
 (∀ x∈a,x.length=sz/\∀ v∈x,v.oneCell'=true) /\
 ((∃ b c,y = .slice (some b) a.length c/\∀ j u,a.flatten[j]?=some u->w.cell? (b.add j)=some u)∨(∃ c,y = .slice none 0 c/\a = []))
theorem T2.newD{H:Hp}{w:World}(a:Vis H w)(x:Obj)(b:m0q x=true):T2 H w (H.set w.heap.size x) (w.drew.alloc x) :=
 (T2.drawn a (w.drawn+1) (Nat.le_succ _)).trans (T2.new (w:=w.drew) a x b)
theorem W02{H:Hp}{w:World}(a:Vis H w):H w.heap.size=none:=by
 cases hc:H w.heap.size with
 |none=>rfl
 |some x=>exact absurd (a.lt (b:=w.heap.size) (by simp[hc])) (Nat.lt_irrefl _)
theorem p0e{h H:Hp}(k:∀ b o,h b=some o->H b=some o){g:Nat}(j:H g=none){e sz cap:Nat}{nn:Bool}{xs:List (List Value)}{cur:Array Value}
  (a:∀ x∈xs,x.length=sz/\∀ v∈x,v.oneCell'=true) (c:xs.length<=cap) (d:cap<=maxLen) (f:cur.size=cap*sz) (i:cur.toList.take (xs.length*sz)=xs.flatten) :
  v06 h (H.set g (.cells cur e (0,0))) (.slice (some ⟨g,0,none⟩) xs.length cap) e sz nn xs:=by
 refine⟨a,.inr ⟨g,cap,cur,rfl,?_,by simp[Hp.set],c,d,f,i⟩⟩
 cases hc:h g with
 |none=>rfl
 |some o=>grind
theorem U0c{t e ty sz by_:Nat}{i:TypeInfo}{z:Value}(n:P.underlying t=some (.slice e))(m:P.info? e=some i)(T:i.zero=some z)(am:i.size=sz)(ap:0<sz)
  (Y:i.bytes=by_) (X:0<by_) (an:z.cells.size=sz) {v:Value} {nn:Bool} {xs:List (List Value)} (s:v06 h H v e sz nn xs) (l:Vis H w) (al:∀ b o,h b=some o->H b=some o)
  {y:Value} {a:List (List Value)} (I:w0m w y sz a) (Q:Q07 (xs.length+a.length) by_) :
  ∃ C V D,(Builtin.append_ #[t,t] ty #[v,y]).run P w = .ok C V/\T2 H w D V/\v06 h D C e sz (nn || r04 a) (xs++a) /\
   (∀ b,v.ownBlock≠some b->H b≠none->D b=H b)/\(∀ g,C.ownBlock=some g->v.ownBlock=some g∨H g=none)/\(a = []->C=v):=by
 subst am
 subst Y
 have ai:xs.length+a.length<=140737488355328:=Nat.le_trans (Nat.le_mul_of_pos_right _ X) Q
 have ah:((xs.length+a.length:Nat):Int)<=9223372036854775807:=by omega
 have K:∀ x∈xs++a,x.length=i.size/\∀ v∈x,v.oneCell'=true:=λx d=>by
  rcases List.mem_append.1 d with d|d
  ·exact s.1 x d
  ·exact I.1 x d
 have L:=b02 xs (λx d=>(s.1 x d).1)
 have q:=b02 a (λx d=>(I.1 x d).1)
 have ak:∀ u∈a.flatten,u.oneCell'=true:=λu ar=>by
  grind[List.mem_flatten]
 have Z:∀ f,grownCap w (xs.length+a.length) f e<=maxLen:=λf=>grownCap_le_maxLen w _ f e (by unfold maxLen;omega)
 have grown:∀ f,v06 h (H.set w.heap.size (.cells (xs.flatten.toArray++a.flatten.toArray++Builtin.zeroCells z.cells (grownCap w (xs.length+a.length) f e-(xs.length+a.length))) e (0,0)))
   (.slice (some ⟨w.heap.size,0,none⟩) (xs++a).length (grownCap w (xs.length+a.length) f e)) e i.size (nn || r04 a) (xs++a):=λf=>by
  have ae:=grownCap_ge w (xs.length+a.length) f e
  refine p0e al (W02 l) K (by simpa using ae) (Z f) ?_ ?_
  ·simp only[Array.size_append,List.size_toArray,L,q,size_zeroCells,an,←Nat.add_mul]
   congr 1;omega
  ·simp only[Array.toList_append,List.flatten_append,List.append_assoc,List.length_append]
   rw[←List.append_assoc,List.take_append_of_le_length (by grind),List.take_of_length_le (by grind)]
 have R:a = []->v06 h H v e i.size (nn || r04 a) (xs++a):=λG=>by grind[r04]
 have U:∀(x:Obj) b,v.ownBlock≠some b->H b≠none->(H.set w.heap.size x) b=H b:=λx b _ ao=>Hp.set_other _ _ (λe=>by grind[W02])
 rcases I.2 with⟨E,c,rfl,F⟩|⟨c,rfl,J⟩
 ·rcases s.2 with⟨rfl,rfl,rfl⟩|⟨g,cap,cur,rfl,ad,N,O,aa,ab,aq⟩
  ·by_cases hm:a.length=0
   ·have J:a = []:=List.eq_nil_of_length_eq_zero hm
    refine⟨_,w,H,?_,T2.refl l,R J,λ_ _ _=>rfl,λg B => .inl B,λ_=>rfl⟩
    simp[Builtin.append_,run_underlying n,sizeOf,typeInfo,m,Builtin.lenOf,Builtin.firstCells,loadCells,loadCellsFrom,hm]
   ·have A:=run_append_nil (P:=P) w t ty e i z n m T E a.length c a.flatten q F (by omega) (by simp at ai;omega) (by grind[Q07])
    have p:=grown 0
    simp only[List.length_nil,Nat.zero_add,List.nil_append,List.flatten_nil]at p
    simp only[Array.empty_append]at p
    refine⟨_,_,_,A,T2.newD l _ rfl,by simpa using p,U _,λg B => .inr ?_,λe=>by grind⟩
    grind[Value.ownBlock,W02]
  ·have aj:∀ j u,xs.flatten[j]?=some u->w.cell? ((⟨g,0,none⟩:Addr).add j)=some u:=λj u af=>by
    rw[D02,Nat.zero_add]
    refine m06 l rfl ?_
    exact s.cells rfl j u af
   by_cases hroom:xs.length+a.length<=cap
   ·have S:=l _ _ N
    have ac:xs.length*i.size+a.flatten.length<=cur.size:=by rw[q,ab,←Nat.add_mul];exact Nat.mul_le_mul_right _ hroom
    have A:=run_append_room (P:=P) w t ty e i n m g xs.length cap cur S E a.length c a.flatten q F ak hroom ac
    refine⟨_,_,H.set g (.cells (cur.toList.take (xs.length*i.size)++a.flatten++cur.toList.drop (xs.length*i.size+a.flatten.length)).toArray e (0,0)),A,
     T2.upd l N (λ_=>rfl) rfl rfl rfl (by simp) (setRow_heap w g cur _ e _ S) (λk ag=>setRow_other w g k _ ag),?_,?_,λW M => .inl M,λG=>by simp[G]⟩
    ·refine⟨K,.inr ⟨g,cap,_,by simp,ad,Hp.set_same _ _ _,by simpa using hroom,aa,?_,?_⟩⟩
     ·grind
     grind[List.flatten_append,List.length_append,Nat.add_mul,List.take_of_length_le]
    grind[Hp.set_other,Value.ownBlock]
   ·have A:=run_append_grow (P:=P) w t ty e i z n m T ⟨g,0,none⟩ xs.length cap xs.flatten L aj E a.length c a.flatten q F (by omega) ah (growslice_fits (by omega) Q)
    have p:=grown cap
    refine⟨_,_,_,A,T2.newD l _ rfl,by simpa using p,U _,λW M => .inr ?_,λG=>by grind⟩
    grind[Value.ownBlock,W02]
 ·refine⟨v,w,H,?_,T2.refl l,R J,λ_ _ _=>rfl,λg B => .inl B,λ_=>rfl⟩
  rcases s.2 with⟨rfl,_⟩|⟨g,cap,cur,rfl,_,_,O,_⟩
  ·simp[Builtin.append_,run_underlying n,sizeOf,typeInfo,m,Builtin.lenOf,Builtin.firstCells]
  ·simp[Builtin.append_,run_underlying n,sizeOf,typeInfo,m,Builtin.lenOf,Builtin.firstCells,O,storeCells]
theorem A09(b:Nat):∀(vs:List Value) (o:Nat) (w:World) (cur:Array Value) (ty:TypeId) (a:Nat×Nat),w.heap[b]?=some (.cells cur ty a)->(w.setCells b o vs).heap[b]?=some (.cells (D3 cur.toList o vs).toArray ty a)
 | [],o,w,cur,ty,a,h=>by simp_all[World.setCells,D3]
 |v::r,o,w,cur,ty,a,h=>by
  have c:(w.setCell ⟨b,o,none⟩ v).heap[b]?=some (.cells (cur.setIfInBounds o v) ty a):=by simp[World.setCell,Array.getElem?_modify,h]
  have:=A09 b r (o+1) _ _ _ _ c
  simp_all[World.setCells,D3]
theorem Y07(b:Nat):∀(vs:List Value) (o:Nat) (w:World) (k:Nat),k≠b->(w.setCells b o vs).heap[k]?=w.heap[k]?
 | [],o,w,k,h=>rfl
 |v::r,o,w,k,h=>by
  rw[World.setCells,Y07 b r (o+1) _ k h]
  simp only[World.setCell,Array.getElem?_modify]
  rw[if_neg (λe=>h e.symm)]
theorem V0c(b:Nat):∀(vs:List Value) (o:Nat) (w:World),(w.setCells b o vs).drawn=w.drawn
 | [],o,w=>rfl
 |v::r,o,w=>by
  rw[World.setCells,V0c b r (o+1)]
  unfold World.setCell
  split<;>rfl
theorem B09(b:Nat):∀(vs:List Value) (o:Nat) (w:World),(w.setCells b o vs).os=w.os/\(w.setCells b o vs).tape=w.tape/\(w.setCells b o vs).output=w.output/\(w.setCells b o vs).heap.size=w.heap.size
 | [],o,w=>⟨rfl,rfl,rfl,rfl⟩
 |v::r,o,w=>by
  obtain⟨a,c,d,e⟩:=B09 b r (o+1) (w.setCell ⟨b,o,none⟩ v)
  grind[World.setCells,World.setCell]
theorem Z07:∀(a vs:List Value) (off j:Nat),off+a.length<=vs.length->(D3 vs off a)[j]?=if off<=j/\j<off+a.length then a[j-off]? else vs[j]?
 | [],vs,off,j,h=>by
  simp only[D3,List.length_nil,Nat.add_zero]
  rw[if_neg (by omega)]
 |n::a,vs,off,j,h=>by
  simp only[List.length_cons]at h
  rw[D3,Z07 a _ (off+1) j (by simp;omega)]
  grind
theorem T0h{t e ty sz by_:Nat}{i:TypeInfo}{z:Value}(G:P.underlying t=some (.slice e))(E:P.info? e=some i)(an:i.zero=some z)(aj:i.size=sz)(az:0<sz)
  (X:i.bytes=by_) (W:0<by_) (ao:z.cells.size=sz) {g o n c:Nat} {xs:List (List Value)} (V:y0n h sz (.slice (some ⟨g,o,none⟩) n c) xs) (l:Vis h w)
  {y:Value} {a:List (List Value)} (s:w0m w y sz a) (R:Q07 (xs.length+a.length) by_) :
  ∃ S T J,(Builtin.append_ #[t,t] ty #[.slice (some ⟨g,o,none⟩) n c,y]).run P w = .ok S T/\T2 h w J T/\C0o h J sz g S (xs++a):=by
 subst aj
 subst X
 have ay:xs.length+a.length<=140737488355328:=Nat.le_trans (Nat.le_mul_of_pos_right _ W) R
 have ad:((xs.length+a.length:Nat):Int)<=9223372036854775807:=by omega
 obtain⟨B,aw,aA,av,cur,m,U,Q,M,N,q,D⟩:=V
 cases U
 have K:∀ x∈xs++a,x.length=i.size/\∀ v∈x,v.oneCell'=true:=λx f=>by
  rcases List.mem_append.1 f with f|f
  ·exact B x f
  ·exact s.1 x f
 have O:=b02 xs (λx f=>(B x f).1)
 have p:=b02 a (λx f=>(s.1 x f).1)
 have ag:∀ u∈a.flatten,u.oneCell'=true:=λu ak=>by
  obtain⟨x,f,al⟩:=List.mem_flatten.1 ak
  exact(s.1 x f).2 u al
 have ah:a = []->C0o h h i.size g (.slice (some ⟨g,o,none⟩) xs.length c) (xs++a):=λae=>by
  subst ae
  rw[List.append_nil]
  exact⟨⟨B,g,o,c,cur,m,rfl,Q,M,N,q,D⟩,g,o,_,c,rfl,.inl rfl,λ_ _=>rfl⟩
 have H:=l _ _ q
 rcases s.2 with⟨I,A,rfl,L⟩|⟨A,rfl,am⟩
 ·by_cases hroom:xs.length+a.length<=c
  ·have Y:o+xs.length*i.size+a.flatten.length<=cur.size:=by
    have:(xs.length+a.length)*i.size<=c*i.size:=Nat.mul_le_mul_right _ hroom
    rw[Nat.add_mul]at this
    rw[p]
    omega
   have ab:∀ j,j<a.flatten.length->(w.cell? ⟨g,o+xs.length*i.size+j,none⟩).isSome=true:=λj d=>by
    simp only[World.cell?,H]
    simp[show o+xs.length*i.size+j<cur.size by omega]
   have Z:∀ j,j<a.flatten.length->w.frozen? ⟨g,o+xs.length*i.size+j,none⟩=false:=λj d=>by
    rw[A02 (o := .cells cur m (0,0)) H]
    simp[x01]
   have F:=run_append_room_cells (P:=P) w t ty e i G E g o xs.length c I a.length A a.flatten p L ag hroom ab Z
   have ai:=A09 g a.flatten (o+xs.length*i.size) w cur m (0,0) H
   obtain⟨ap,aq,ar,au⟩:=B09 g a.flatten (o+xs.length*i.size) w
   refine⟨_,_,h.set g (.cells (D3 cur.toList (o+xs.length*i.size) a.flatten).toArray m (0,0)),F,
    T2.upd l q (λ_=>rfl) ap aq ar au ai (λk ac=>Y07 _ _ _ _ k ac) (Nat.le_of_eq (V0c _ _ _ _).symm),⟨K,g,o,c,_,m,by rw[List.length_append],by rw[List.length_append];exact hroom,M,?_,Hp.set_same _ _ _,λj u d=>?_⟩,g,o,_,c,rfl,.inl rfl,λb C=>Hp.set_other _ _ C⟩
   ·simpa [j9] using N
   ·rw[List.flatten_append]at d
    rw[List.getElem?_toArray,Z07 _ _ _ _ (by simpa using Y)]
    by_cases hlt:j<xs.flatten.length
    ·rw[List.getElem?_append_left hlt]at d
     rw[if_neg (by omega),Array.getElem?_toList]
     exact D j u d
    ·rw[List.getElem?_append_right (by omega)]at d
     have ax:=(List.getElem?_eq_some_iff.1 d).1
     rw[if_pos (by omega),show o+j-(o+xs.length*i.size)=j-xs.flatten.length by omega]
     exact d
  ·have af:∀ j u,xs.flatten[j]?=some u->w.cell? ((⟨g,o,none⟩:Addr).add j)=some u:=λj u d=>by
    rw[D02]
    refine m06 l rfl ?_
    simp only[Hp.cell,q]
    exact D j u d
   have F:=run_append_grow (P:=P) w t ty e i z G E an ⟨g,o,none⟩ xs.length c xs.flatten O af I a.length A a.flatten p L (by omega) ad (growslice_fits (by omega) R)
   have aa:=grownCap_ge w (xs.length+a.length) c e
   refine⟨_,_,_,F,T2.newD l _ rfl,⟨K,w.heap.size,0,grownCap w (xs.length+a.length) c e,_,e,by rw[List.length_append],by rw[List.length_append];exact aa,grownCap_le_maxLen w _ c e (by unfold maxLen;omega),?_,Hp.set_same _ _ _,λj u d=>?_⟩,w.heap.size,0,_,_,rfl,.inr (W02 l),λb C=>Hp.set_other _ _ C⟩
   ·simp only[Array.size_append,List.size_toArray,O,p,size_zeroCells,ao,←Nat.add_mul,Nat.zero_add]
    refine Nat.le_of_eq ?_
    congr 1;omega
   ·rw[List.flatten_append]at d
    rw[Nat.zero_add,←Array.getElem?_toList]
    simp only[Array.toList_append]
    rw[List.getElem?_append_left (by simpa using (List.getElem?_eq_some_iff.1 d).1)]
    exact d
 ·refine⟨_,w,h,?_,T2.refl l,ah am⟩
  simp[Builtin.append_,run_underlying G,sizeOf,typeInfo,E,Builtin.lenOf,Builtin.firstCells,Q,storeCells]
theorem U0h{t e ty sz by_:Nat}{i:TypeInfo}{z:Value}(H:P.underlying t=some (.slice e))(E:P.info? e=some i)(J:i.zero=some z)(G:i.size=sz)(_:0<sz)
  (B:i.bytes=by_) (A:0<by_) (K:z.cells.size=sz) (o:Vis h w)
  {y:Value} {a:List (List Value)} (d:w0m w y sz a) (m:r04 a=true) (n:Q07 a.length by_) :
  ∃ p q g,(Builtin.append_ #[t,t] ty #[.slice none 0 0,y]).run P w = .ok p q/\T2 h w g q/\r0s h g sz p a:=by
 subst G
 subst B
 have L:a.length<=140737488355328:=Nat.le_trans (Nat.le_mul_of_pos_right _ A) n
 have k:=b02 a (λx I=>(d.1 x I).1)
 rcases d.2 with⟨s,c,rfl,C⟩|⟨c,rfl,f⟩
 ·by_cases hm:a.length=0
  ·have f:a = []:=List.eq_nil_of_length_eq_zero hm
   subst f;cases m
  ·have F:=run_append_nil (P:=P) w t ty e i z H E J s a.length c a.flatten k C (by omega) (by omega) (Nat.le_trans n (by decide))
   have D:=grownCap_ge w a.length 0 e
   refine⟨_,_,_,F,T2.newD o _ rfl,⟨d.1,w.heap.size,0,grownCap w a.length 0 e,_,e,rfl,D,grownCap_le_maxLen w _ 0 e (by unfold maxLen;omega),?_,Hp.set_same _ _ _,λj u l=>?_⟩,w.heap.size,0,_,_,rfl,W02 o,λb v=>Hp.set_other _ _ v⟩
   ·simp only[Array.size_append,List.size_toArray,k,size_zeroCells,K,←Nat.add_mul,Nat.zero_add]
    refine Nat.le_of_eq ?_
    congr 1;omega
   ·rw[Nat.zero_add,←Array.getElem?_toList]
    simp only[Array.toList_append]
    rw[List.getElem?_append_left (by simpa using (List.getElem?_eq_some_iff.1 l).1)]
    exact l
 ·subst f;cases m
theorem S09{e sz by_:Nat}{z:Value}(a:B6 P e=some sz)(b:Q09 P e=some by_)(c:y01 P e=some z):∃ i,P.info? e=some i/\i.size=sz/\i.bytes=by_/\i.zero=some z:=by
 grind[B6,Q09,y01]
theorem d05(m:Sim P h0 w0 be oe H st h a w){sz:Nat}(N:0<sz){b:Operand}{K:List (List Value)->Prop}(d:a0e st h sz (rdO st b) K):∃ e,K e/\w0m w (a.eval b) sz e:=by
 have g:=m.rdO b
 unfold a0e at d
 split at d
 ·rename_i j k l
  obtain⟨L,R,J,Q,G,p⟩:=R06 l
  rw[l]at g
  simp only[p]at d
  split at d
  ·rename_i A
   have D:=Nat.eq_of_beq_eq_true A
   subst D
   refine⟨G,d,?_⟩
   have q:=m.own j _ _ _ _ _ _ p
   rw[g.own_cur p]
   refine⟨q.1,?_⟩
   rcases q.2 with⟨f,i,_⟩|⟨z,cap,cur,f,i,s,_⟩
   ·grind
   ·refine .inl ⟨⟨z,0,none⟩,cap,f,λj u o=>?_⟩
    rw[D02,Nat.zero_add]
    exact m06 m.mv.vis rfl (q.cells f j u o)
  ·exact d.elim
 ·rename_i v l
  rw[l]at g
  obtain⟨e,C,B⟩:=d
  refine⟨e,B,?_⟩
  have E:a.eval b=v:=g
  rw[E]
  obtain⟨f,x,n,c,rfl,rfl,M,i⟩:=C
  refine⟨f,?_⟩
  rcases i with i|⟨t,F,rfl,s⟩
  ·cases x with
   |none =>
    have O:e = []:=by
     cases e with
     |nil=>rfl
     |cons y r =>
      simp_all
    grind
   |some I=>grind
  ·refine .inl ⟨⟨t,F,none⟩,c,rfl,λj u o=>?_⟩
   rw[D02]
   exact m06 (z09 m) rfl (s j u o)
 ·exact d.elim
theorem t03{t:TypeId}{p q:Operand}{as:Array Operand}{b:Array TypeId}(f:o.op = .call { callee := .builtin .append,args:=as,argTypes:=b })(e:as = #[p,q])(h:b = #[t,t])
  {c:Value} {d:World} (g:(Builtin.append_ #[t,t] o.type #[a.eval p,a.eval q]).run P w = .ok c d):(execOp a.eval o).run P w = .ok (.value c) d:=by
 subst e;subst h
 unfold execOp;rw[f]
 simp only[resolve,invoke,builtin,Sem.run_bind,Sem.run_pure,Result.andThen_ok,List.map_toArray,List.map_cons,List.map_nil,g]
theorem C0n(d:Sim P h0 w0 be oe H st h a w){t:TypeId}{p q:Operand}{as:Array Operand}{X:Array TypeId}(F:o.op = .call { callee := .builtin .append,args:=as,argTypes:=X })
  (C:as = #[p,q]) (I:X = #[t,t]) (c:b0e P t p q st h K):o.wp P a w (Nx P h0 w0 st be oe K a o.dst) Q:=by
 unfold b0e at c
 split at c
 rotate_left
 ·exact c.elim
 rename_i e al
 split at c
 rotate_left
 ·exact c.elim
 rename_i sz by_ z aj D am
 split at c
 rotate_left
 ·exact c.elim
 rename_i an
 obtain⟨i,E,L,M,N⟩:=S09 aj D am
 have G:=G9 al
 have J:z.cells.size=sz+1:=by simpa using E03 _ _ an
 have g:=d.rdO p
 split at c
 ·rename_i j k y
  obtain⟨ar,aw,aq,av,ax,A⟩:=R06 y
  rw[y]at g
  simp only[A]at c
  split at c
  ·rename_i ac ad au
   have ae:=Nat.eq_of_beq_eq_true ac
   have ak:=Nat.eq_of_beq_eq_true ad
   subst ae
   subst ak
   obtain⟨W,⟨u,l⟩,v⟩:=d05 d (Nat.succ_pos sz) c
   have ai:=d.own j _ _ _ _ _ _ A
   obtain⟨m,V,O,f,s,B,T,U,_⟩:=U0c (ty:=o.type) G E N L (Nat.succ_pos _) M (Nat.succ_pos _) J ai d.mv.vis d.sub v u
   obtain⟨x,R⟩:=d.updOwn (s1:=k+1) (by_:=by_+1) A (Nat.le_succ _) (λe=>absurd e (Nat.succ_ne_self k)) s T B U
   rw[←g.own_cur A]at f
   refine t8 (t03 F C I f) ⟨_,_,h,m,_,_,_,l,rfl,x,?_,R⟩
   refine⟨k+1,?_,Nat.le_refl _,λ_=>by simp⟩
   simp[stamp,D7 _ _ _ (Z01 A)]
  ·exact c.elim
 ·rename_i y
  rw[y]at g
  rcases c with c|c
  rotate_left
  ·obtain⟨W,⟨⟨af,u⟩,l⟩,v⟩:=d05 d (Nat.succ_pos sz) c
   obtain⟨m,V,aa,f,s,S⟩:=U0h (ty:=o.type) G E N L (Nat.succ_pos _) M (Nat.succ_pos _) J (z09 d) v af u
   have n:a.eval p = .slice none 0 0:=g
   rw[←n]at f
   obtain⟨O,x⟩:=d.moved s
   exact t8 (t03 F C I f) ⟨_,_,_,m,_,_,_,l _ _ S,rfl,x,rfl,a7.refl _ _ _⟩
  obtain⟨W,⟨u,l⟩,v⟩:=d05 d (Nat.succ_pos sz) c
  have ah:v06 h H (.slice none 0 0) e (sz+1) false []:=⟨by simp,.inl ⟨rfl,rfl,rfl⟩⟩
  obtain⟨m,V,O,f,s,B,T,U,_⟩:=U0c (ty:=o.type) G E N L (Nat.succ_pos _) M (Nat.succ_pos _) J ah d.mv.vis d.sub v (by simpa using u)
  simp only[Bool.false_or,List.nil_append]at B
  have ag:∀ g,m.ownBlock=some g->H g=none:=λg n=>(U g n).resolve_left (by simp[Value.ownBlock])
  rw[G0b]at l
  obtain⟨x,R⟩:=d.newOwn (by_:=by_+1) (λb o D=>by rw[T b (by simp[Value.ownBlock]) (by rw[D];simp)];exact D) s B ag
  have n:a.eval p = .slice none 0 0:=g
  rw[←n]at f
  refine t8 (t03 F C I f) ⟨_,_,h,m,_,_,_,l,rfl,x,?_,R⟩
  refine⟨0,?_,Nat.le_refl _,λ_=>by simp⟩
  simp[stamp,V02]
 ·rename_i Z ap ao Y y
  rw[y]at g
  obtain⟨W,⟨xs,ab,u,l⟩,v⟩:=d05 d (Nat.succ_pos sz) c
  obtain⟨m,V,aa,f,s,S⟩:=T0h (ty:=o.type) G E N L (Nat.succ_pos _) M (Nat.succ_pos _) J ab (z09 d) v u
  have n:a.eval p = .slice (some ⟨Z,ap,none⟩) ao Y:=g
  rw[←n]at f
  obtain⟨O,x⟩:=d.moved s
  exact t8 (t03 F C I f) ⟨_,_,_,m,_,_,_,l _ _ S,rfl,x,rfl,a7.refl _ _ _⟩
 ·exact c.elim
end
end Go.H
namespace Go.H
set_option linter.unusedVariables false
set_option linter.unusedSimpArgs false
section
variable {P:Program} {h0:Hp} {w0:World} {be:Nat->Nat} {oe:Nat->Value} {H:Hp} {st:St} {h:Hp} {a:Act} {w:World} {o:Oper} {K:AV->St->Hp->Prop} {Q:Exit->Act->World->Prop}
theorem V06:∀(a cs:List Value) (off:Nat),off+a.length<=cs.length->D3 cs off a=cs.take off++a++cs.drop (off+a.length)
 | [],cs,off,_=>by simp[D3]
 |n::a,cs,off,c=>by
  simp only[List.length_cons]at c
  rw[D3,V06 a (cs.set off n) (off+1) (by simp;omega)]
  rw[List.take_set,List.drop_set_of_lt (by omega)]
  have b:(cs.take (off+1)).set off n=cs.take off ++ [n]:=by
   rw[List.take_succ_eq_append_getElem (by omega),List.set_append_right _ _ (by simp;omega)]
   have:off-(cs.take off).length=0:=by simp;omega
   rw[this]
   simp
  rw[b]
  simp only[List.length_cons,List.append_assoc,List.cons_append,List.nil_append]
  rw[show off+1+a.length=off+(a.length+1) from by omega]
theorem I0a(off:Nat):∀(l:List Value) (k:Nat) (a:Array Value),((l.zipIdx k).foldl (λcs p=>cs.setIfInBounds (off+p.2) p.1) a).toList=D3 a.toList (off+k) l
 | [],k,a=>rfl
 |x::l,k,a=>by
  simp only[List.zipIdx_cons,List.foldl_cons,D3]
  rw[I0a off l (k+1)]
  simp[Nat.add_assoc]
theorem i0j(v:Value)(off:Nat)(a:Array Value):(v.cells.zipIdx.foldl (λcs (p:Value×Nat)=>cs.setIfInBounds (off+p.2) p.1) a).toList=D3 a.toList off v.cells.toList:=by
 rw[←Array.foldl_toList,Array.toList_zipIdx]
 simp_all[I0a]
def T08(a:Act)(sz:Nat):Nat->List (Nat×Operand)->List (List Value)->Prop
 |_,[],[]=>True
 |i,(j,x)::r,c::cs=>j=i/\c=(a.eval x).cells.toList/\c.length=sz/\(∀ v∈c,v.oneCell'=true)/\T08 a sz (i+1) r cs
 |_,_,_=>False
theorem T08.all{sz:Nat}:∀ {i:Nat} {l:List (Nat×Operand)} {xs:List (List Value)},T08 a sz i l xs->(∀ x∈xs,x.length=sz/\∀ v∈x,v.oneCell'=true)/\l.length=xs.length
 |_,[],[],_=>by simp
 |i,(j,x)::r,c::cs,h=>by
  have d:=T08.all h.2.2.2.2
  refine⟨λy b=>?_,by simp[d.2]⟩
  rcases List.mem_cons.1 b with rfl|b
  ·exact⟨h.2.2.1,h.2.2.2.1⟩
  ·exact d.1 y b
 |_,[],_::_,h=>h.elim
 |_,_::_,[],h=>h.elim
theorem q0e{sz:Nat}:∀(l:List (Nat×Operand)) (xs:List (List Value)) (i:Nat) (b:Array Value),T08 a sz i l xs->(i+l.length)*sz<=b.size ->
  ∃ d,Instr.fill (λi=>some (i*sz,sz)) b (l.map λp=>(p.1,a.eval p.2))=some d/\d.toList=b.toList.take (i*sz)++xs.flatten++b.toList.drop ((i+l.length)*sz)
 | [],[],i,b,_,e=>⟨b,rfl,by simp⟩
 |(j,x)::r,c::cs,i,b,h,e=>by
  obtain⟨rfl,g,k,_,o⟩:=h
  have s:(a.eval x).cells.size=sz:=by rw[←k,g];simp
  have y:j*sz+sz<=b.size:=by
   refine Nat.le_trans ?_ e
   simp only[List.length_cons]
   grind
  have f:=i0j (a.eval x) (j*sz) b
  rw[←g]at f
  have q:=V06 c b.toList (j*sz) (by grind)
  have t:((a.eval x).cells.zipIdx.foldl (λcs (p:Value×Nat)=>cs.setIfInBounds (j*sz+p.2) p.1) b).size=b.size:=by
   grind[Array.length_toList,j9]
  obtain⟨d,w,m⟩:=q0e r cs (j+1) ((a.eval x).cells.zipIdx.foldl (λcs (p:Value×Nat)=>cs.setIfInBounds (j*sz+p.2) p.1) b) o (by
   rw[t];simp only[List.length_cons]at e;grind)
  refine⟨d,?_,?_⟩
  ·simp only[List.map_cons,Instr.fill,s,ne_eq,not_true_eq_false,decide_false,Bool.false_or,decide_eq_true_eq]
   grind
  ·rw[m,f,q,k]
   have u:(b.toList.take (j*sz)++c++b.toList.drop (j*sz+sz)).take ((j+1)*sz)=b.toList.take (j*sz)++c:=by
    rw[List.take_append_of_le_length,List.take_of_length_le]
    all_goals grind
   have v:(b.toList.take (j*sz)++c++b.toList.drop (j*sz+sz)).drop ((j+1+r.length)*sz)=b.toList.drop ((j+(r.length+1))*sz):=by
    have n:(b.toList.take (j*sz)++c).length=j*sz+sz:=by grind
    rw[List.drop_append,List.drop_eq_nil_of_le (by grind),n,List.nil_append,List.drop_drop]
    congr 1
    simp only[Nat.add_mul]
    omega
   grind
 | [],_::_,_,_,h,_=>h.elim
 |_::_,[],_,_,h,_=>h.elim
theorem W0c{sz:Nat}:∀(l:List (Nat×Operand)) (i:Nat) {st:St} {h:Hp} {K:List (List Value)->St->Hp->Prop},Sim P h0 w0 be oe H st h a w->Q0i sz i l st h K ->
  ∃ xs st' e,K xs st' e/\Sim P h0 w0 be oe H st' e a w/\a7 st be oe st' be oe/\T08 a sz i l xs
 | [],i,st,h,K,c,b=>⟨[],st,h,b,c,a7.refl _ _ _,trivial⟩
 |(j,x)::r,i,st,h,K,c,b=>by
  simp only[Q0i]at b
  split at b
  ·rename_i n
   have o:=Nat.eq_of_beq_eq_true n
   obtain⟨v,u,d,s1,g⟩:=s03 c (c.rdO x) b
   split at d
   ·rename_i p q
    obtain⟨xs,t,m,f,s2,k,s⟩:=W0c r (i+1) s1 d
    exact⟨_,t,m,f,s2,g.trans k,o.symm,rfl,E03 _ _ p,t04 _ q,s⟩
   ·exact d.elim
  ·exact b.elim
theorem g0g(U:Sim P h0 w0 be oe H st h a w){t n:Nat}{c:Array (Nat×Operand)}{e sz by_:Nat}{z:Value}(L:o.op = .buildSlice t n c)(O:m01 P t=some e)(N:B6 P e=some (sz+1))
  (S:y01 P e=some z) (Z:Nat.beq n c.size=true) (F:Nat.ble (n*(sz+1)) 16777216=true)
  (D:Q0i (sz+1) 0 c.toList st h λxs st h=>newOwn st e (sz+1) by_ true xs λav st=>K av st h):o.wp P a w (Nx P h0 w0 st be oe K a o.dst) Q:=by
 obtain⟨xs,ab,B,q,s1,v,T⟩:=W0c _ _ U D
 obtain⟨C,X⟩:=T.all
 have k:n=xs.length:=by simp_all
 have G:=Nat.le_of_ble_eq_true F
 have R:wpS P (execOp a.eval o) H (λu m=>∃ b d,H b=none/\u = .value (.slice (some ⟨b,0,none⟩) xs.length xs.length)/\m=H.set b (.cells d e (0,0))/\d.toList=xs.flatten/\d.size=xs.length*(sz+1)):=by
  unfold execOp;rw[L]
  refine z8 _ _ _ ?_
  have s:∀ d:Array Value,d.size=xs.length*(sz+1)->∃ f,Instr.fill (λi=>some (i*(sz+1),sz+1)) d (c.toList.map λp=>(p.1,a.eval p.2))=some f/\f.toList=xs.flatten/\f.size=xs.length*(sz+1):=by
   grind[q0e,Array.length_toList,b02]
  have E : ¬ (n*(sz+1)>2 ^ 24):=Nat.not_lt.2 G
  simp only[Instr.buildSlice,M2,C6 (G9 O),a02 N,if_neg E,U2]
  have Y:(c.map λx=>(x.1,a.eval x.2)).toList=c.toList.map λp=>(p.1,a.eval p.2):=by simp
  by_cases h00:n*(sz+1)=0
  ·simp only[if_pos h00,U2]
   obtain⟨f,l,f2,f3⟩:=s ((Array.range (n*(sz+1))).map λi=>(#[]:Array Value)[i % (#[]:Array Value).size]!) (by simp[k])
   rw[show(Array.map (λx=>(x.1,a.eval x.2)) c).toList=c.toList.map λp=>(p.1,a.eval p.2) from by simp]
   simp only[l,M2,newRow,newObj,wpS,U2]
   exact λb j=>⟨b,f,j,by rw[k],rfl,f2,f3⟩
  ·simp only[if_neg h00,M2,H0a S,U2]
   obtain⟨f,l,f2,f3⟩:=s ((Array.range (n*(sz+1))).map λi=>z.cells[i % z.cells.size]!) (by simp[k])
   rw[show(Array.map (λx=>(x.1,a.eval x.2)) c).toList=c.toList.map λp=>(p.1,a.eval p.2) from by simp]
   simp only[l,M2,newRow,newObj,wpS,U2]
   exact λb j=>⟨b,f,j,by rw[k],rfl,f2,f3⟩
 obtain⟨u,m,ac,M,⟨b,d,j,rfl,rfl,f2,f3⟩,J⟩:=v00 _ _ _ s1.mv.vis R
 have I:xs.length<=maxLen:=by
  have:xs.length<=xs.length*(sz+1):=Nat.le_mul_of_pos_right _ (Nat.succ_pos _)
  grind[maxLen]
 rw[G0b]at q
 obtain⟨V,A⟩:=s1.newOwn (nn:=true) (by_:=by_) (λx y aa=>by grind[Hp.set_other]) J
  (p0e s1.sub j C (Nat.le_refl _) I f3 (by rw[f2,List.take_of_length_le (by grind)])) (λg W=>by grind[Value.ownBlock])
 refine t8 M ⟨_,_,B,_,_,_,_,q,rfl,V,?_,v.trans A⟩
 refine⟨0,?_,Nat.le_refl _,λ_=>by simp⟩
 simp[stamp,V02]
theorem e05{sz:Nat}(b:List Value)(c:b.length=sz)(d:0<sz):∀(l j:Nat),j<l*sz->(List.replicate l b).flatten[j]?=b[j % sz]?
 |0,j,h=>by simp at h
 |l+1,j,h=>by
  simp only[List.replicate_succ,List.flatten_cons]
  have e:j<l*sz+sz:=by grind
  by_cases hj:j<sz
  ·rw[List.getElem?_append_left (by omega),Nat.mod_eq_of_lt hj]
  ·rw[List.getElem?_append_right (by omega),c,e05 b c d l (j-sz) (by omega),←Nat.mod_eq_sub_mod (a:=j) (by omega)]
theorem D0n{sz:Nat}(z:Value)(b:z.cells.toList.length=sz)(c:0<sz)(l n:Nat)(e:l*sz<=n):(madeCells z.cells n).toList.take (l*sz)=(List.replicate l z.cells.toList).flatten:=by
 have d:z.cells.size=sz:=by simpa using b
 apply List.ext_getElem?
 intro j
 rw[List.getElem?_take]
 by_cases hj:j<l*sz
 ·rw[if_pos hj,e05 _ b c l j hj]
  have a:j % sz<z.cells.size:=by simp_all[Nat.mod_lt]
  simp only[madeCells,d,Array.toList_map,Array.toList_range,List.getElem?_map,List.getElem?_range (show j<n from by omega),Option.map_some,Array.getElem?_toList,Array.getElem?_eq_getElem a]
  congr 1
  simp[a]
 ·rw[if_neg hj]
  simp_all
theorem V0h(f:Sim P h0 w0 be oe H st h a w){t e sz by_:Nat}{l c:Operand}{z:Value}{m k:IntKind}{d b:Int}(Y:o.op = .makeSlice t l c)(O:m01 P t=some e)
  (N:B6 P e=some (sz+1)) (D:Q09 P e=some by_) (R:y01 P e=some z) (I:rdO st l = .val (.int m d)) (F:rdO st c = .val (.int k b))
  (S:H07 z.cells.toList (sz+1)=true) (Z:U04 z.cells.toList=true) (E:0<=d/\d<=b/\b*by_<=140737488355328/\b<=9223372036854775807)
  (p:newOwn st e (sz+1) by_ true (List.replicate d.toNat z.cells.toList) λav st=>K av st h):o.wp P a w (Nx P h0 w0 st be oe K a o.dst) Q:=by
 obtain⟨i,G,u,ab,T⟩:=S09 N D R
 have X:a.eval l = .int m d:=by have:=f.rdO l;rw[I]at this;exact this
 have W:a.eval c = .int k b:=by have:=f.rdO c;rw[F]at this;exact this
 obtain⟨v,A,V,B⟩:=E
 have J:=E03 _ _ S
 have aa:=run_make (P:=P) w t e i z (G9 O) G T m k d b v A (by grind) B
 have M:(execOp a.eval o).run P w = .ok (.value (.slice (some ⟨w.heap.size,0,none⟩) d.toNat b.toNat)) (w.alloc (.cells (madeCells z.cells (b.toNat*i.size)) e)):=by
  simp_all[execOp,Sem.run_bind,Result.andThen_ok,Sem.run_pure]
 have L:T2 H w (H.set w.heap.size (.cells (madeCells z.cells (b.toNat*i.size)) e (0,0))) (w.alloc (.cells (madeCells z.cells (b.toNat*i.size)) e)):=T2.new f.mv.vis _ rfl
 have q:(List.replicate d.toNat z.cells.toList).length=d.toNat:=by simp
 have n:=p0e (h:=h) (H:=H) (e:=e) (sz:=sz+1) (nn:=true) (cap:=b.toNat) (xs:=List.replicate d.toNat z.cells.toList) (cur:=madeCells z.cells (b.toNat*i.size)) f.sub (W02 f.mv.vis)
  (λx j=>by grind[t04]) (by simp;omega) (by unfold maxLen;omega) (by rw[size_madeCells,u])
  (by rw[q,u];exact D0n z J (Nat.succ_pos _) _ _ (Nat.mul_le_mul_right _ (by omega)))
 rw[q]at n
 rw[G0b]at p
 obtain⟨U,C⟩:=f.newOwn (by_:=by_) (λx y j=>by rw[Hp.set_other _ _ (λe=>by subst e;rw[W02 f.mv.vis]at j;cases j)];exact j) L n
  (λg s=>by simp[Value.ownBlock]at s;rw[←s];exact W02 f.mv.vis)
 refine t8 M ⟨_,_,h,_,_,_,_,p,rfl,U,?_,C⟩
 refine⟨0,?_,Nat.le_refl _,λ_=>by simp⟩
 simp[stamp,V02]
end
end Go.H
namespace Go.H
set_option linter.unusedVariables false
set_option linter.unusedSimpArgs false
section
variable {P:Program} {h0:Hp} {w0:World} {be:Nat->Nat} {oe:Nat->Value} {H:Hp} {st:St} {h:Hp} {a:Act} {w:World} {o:Oper} {K:AV->St->Hp->Prop} {Q:Exit->Act->World->Prop}
theorem W0h(f:Sim P h0 w0 be oe H st h a w){t:TypeId}{x i:Operand}(y:o.op = .indexAddr t x i)
  (d:match rdO st i with
  | .val (.int _ j)=>match m01 P t with
   |some e=>match B6 P e with
    |some sz=>match rdO st x with
     | .val (.slice a n c)=>InB (.slice a n c) j/\K (.hel (.slice a n c) j sz 0) st h
     | .own i k=>match nth st.ow i with
      |some ⟨_,.live _ L _ _ xs⟩=>match Nat.beq L sz with
       |true=>(0<=j/\j<(xs.length:Int))/\K (.oel i k j sz 0) st h
       |false=>False
      |_=>False
     |_=>False
    |none=>False
   |none=>False
  |_=>False):o.wp P a w (Nx P h0 w0 st be oe K a o.dst) Q:=by
 have gi:=f.rdO i
 have l:=f.rdO x
 split at d
 rotate_left
 ·exact d.elim
 rename_i k j G
 rw[G]at gi
 split at d
 rotate_left
 ·exact d.elim
 rename_i e A
 split at d
 rotate_left
 ·exact d.elim
 rename_i sz z
 split at d
 ·rename_i N n c p
  rw[p]at l
  obtain⟨⟨b,off,T,R,E,q,s⟩,u⟩:=d
  cases E
  exact w8 f (av := .hel _ j sz 0) (exec_indexAddr y A z l gi q s) ⟨b,off,n,c,rfl,by simp⟩ u
 ·rename_i C D p
  obtain⟨S,M,O,U,xs,m⟩:=R06 p
  rw[p]at l
  simp only[m]at d
  split at d
  ·rename_i F
   have J:=Nat.eq_of_beq_eq_true F
   subst J
   obtain⟨⟨q,s⟩,u⟩:=d
   have I:=f.own C _ _ _ _ _ _ m
   rcases I.2 with⟨_,v,_⟩|⟨g,cap,cur,B,_⟩
   ·grind
   ·have v:=l.own_cur m
    rw[B]at v
    refine w8 f (av := .oel C D j M 0) (exec_indexAddr y A z v gi q s) ⟨D,by simp[stamp,m],Nat.le_refl _,λ_=>⟨g,xs.length,cap,B,by simp⟩⟩ u
  ·exact d.elim
 ·exact d.elim
theorem U08{sz:Nat}:∀(xs:List (List Value)) (k:Nat),(∀ x∈xs,x.length=sz)->(xs.take k).flatten=xs.flatten.take (k*sz)
 | [],k,_=>by simp
 |x::xs,0,_=>by simp
 |x::xs,k+1,a=>by
  have b:=a x mS
  simp only[List.take_succ_cons,List.flatten_cons]
  rw[U08 xs k (λy c=>a y (mC _ c)),List.take_append (l₁:=x),List.take_of_length_le (l:=x) (by grind),b,Nat.add_mul,Nat.one_mul,Nat.add_sub_cancel]
theorem w0g{sz:Nat}:∀(xs:List (List Value)) (k:Nat),(∀ x∈xs,x.length=sz)->(xs.drop k).flatten=xs.flatten.drop (k*sz)
 | [],k,_=>by simp
 |x::xs,0,_=>by simp
 |x::xs,k+1,a=>by
  have b:=a x mS
  simp only[List.drop_succ_cons,List.flatten_cons]
  rw[w0g xs k (λy c=>a y (mC _ c)),List.drop_append (l₁:=x),List.drop_of_length_le (l:=x) (by grind),b,Nat.add_mul,Nat.one_mul,Nat.add_sub_cancel,List.nil_append]
def f05(a:Act)(d:Int)(x:Option Operand)(l:Int):Prop:=match x with
 |none=>l=d
 |some y=>∃ k,a.eval y = .int k l
theorem W06(c:Sim P h0 w0 be oe H st h a w){d l:Int}{x:Option Operand}(b:A05 d (x.map (rdO st))=some l):f05 a d x l:=by
 cases x with
 |none=>simp only[Option.map_none,A05,Option.some.injEq]at b;exact b.symm
 |some y =>
  have g:=c.rdO y
  simp only[Option.map_some]at b
  cases hr:rdO st y with
  |val v =>
   rw[hr]at b g
   cases v<;>simp only[A05,Option.some.injEq]at b<;>first|(subst b;exact⟨_,g⟩)|cases b
  |_=>rw[hr]at b;cases b
theorem V08{x:Value}{k:IntKind}{i:Int}{y:Nat}{b:BoundsCode}(e:x = .int k i)(c:0<=i)(d:i<=(y:Int))(a:Nat->Hp->Prop):wpS P (Instr.sliceBound x y b) H a=a i.toNat H:=by
 subst e
 simp only[Instr.sliceBound,asIntOf,M2,U2,c,d,and_self,if_true]
theorem r0e{isS:Bool}{n c:Nat}{f b:Option Operand}{l m:Int}(i:f05 a 0 f l)(d:f05 a n b m)(h:0<=l)(s:l<=m)(t:m<=(n:Int))(u:n<=c)
  (g:Nat×Nat×Nat->Hp->Prop):wpS P (Instr.sliceBounds isS n c (f.map a.eval) (b.map a.eval) none) H g=g (l.toNat,m.toNat,c) H:=by
 have q:l<=(m.toNat:Int):=by omega
 cases f with
 |none =>
  have p:l=0:=i
  subst p
  cases b with
  |none =>
   have j:m=(n:Int):=d
   simp_all[Instr.sliceBounds,Option.map_none,M2,U2]
  |some y =>
   obtain⟨k,e⟩:=d
   simp only[Instr.sliceBounds,Option.map_none,Option.map_some,M2,U2,V08 e (by omega) (show m<=(c:Int) by omega)];rfl
 |some x =>
  obtain⟨k,o⟩:=i
  cases b with
  |none =>
   have j:m=(n:Int):=d
   subst j
   simp only[Instr.sliceBounds,Option.map_none,Option.map_some,M2,U2,V08 o h (show l<=((n:Nat):Int) by omega)];rfl
  |some y =>
   obtain⟨v,e⟩:=d
   simp only[Instr.sliceBounds,Option.map_some,M2,U2,V08 e (by omega) (show m<=(c:Int) by omega),V08 o h q]
theorem exec_slice{t e sz:Nat}{x:Operand}{g f:Option Operand}{d:Option Addr}{n c:Nat}{l m:Int}(s:o.op = .slice t x g f none)(u:m01 P t=some e)(y:B6 P e=some sz)
  (v:a.eval x = .slice d n c) (k:f05 a 0 g l) (p:f05 a n f m) (h:0<=l) (i:l<=m) (j:m<=(n:Int)) (q:n<=c) :
  ∀ b:Next->Hp->Prop,b (.value (.slice (if c=l.toNat then d else d.map (·.add (l.toNat*sz))) (m.toNat-l.toNat) (c-l.toNat))) H->wpS P (execOp a.eval o) H b:=by
 intro b w
 unfold execOp;rw[s]
 refine z8 _ _ _ ?_
 simp only[Instr.sliceAt,M2,C6 (G9 u),Instr.slice,v,Option.map_none]
 rw[r0e k p h i j q]
 grind[a02,U2]
theorem E0n(k:Sim P h0 w0 be oe H st h a w){t e sz:Nat}{x:Operand}{A z:Option Operand}{d:Option Addr}{n c:Nat}(O:o.op = .slice t x A z none)(T:m01 P t=some e)(S:B6 P e=some sz)
  (R:rdO st x = .val (.slice d n c)) (g:Y0k sz (.slice d n c) n (A.map (rdO st)) (z.map (rdO st)) st h K):o.wp P a w (Nx P h0 w0 st be oe K a o.dst) Q:=by
 have s:=k.rdO x
 rw[R]at s
 unfold Y0k at g
 split at g
 rotate_left
 ·exact g.elim
 rename_i l m I L
 obtain⟨⟨B,C,D⟩,xs,E,G⟩:=g
 obtain⟨f,U,Z,V,q,Y,M,u⟩:=E
 cases q
 have J:((xs.take m.toNat).drop l.toNat).length=m.toNat-l.toNat:=by simp;omega
 have N:SlE h sz (.slice (if c=l.toNat then d else d.map (·.add (l.toNat*sz))) (m.toNat-l.toNat) (c-l.toNat)) ((xs.take m.toNat).drop l.toNat):=by
  refine⟨λy p=>f y (List.mem_of_mem_take (List.mem_of_mem_drop p)),_,_,_,rfl,J.symm,by omega,?_⟩
  rcases u with u|⟨b,off,rfl,F⟩
  ·grind[List.flatten_eq_nil_iff,List.mem_of_mem_take,List.mem_of_mem_drop]
  ·by_cases hcl:c=l.toNat
   ·grind
   ·right
    rw[if_neg hcl]
    refine⟨b,off+l.toNat*sz,by simp[D02],λj v X=>?_⟩
    have i:=b02 xs (λx i=>(f x i).1)
    rw[Nat.add_assoc]
    refine F _ _ ?_
    have q:(xs.take m.toNat).flatten=xs.flatten.take (m.toNat*sz):=U08 xs _ (λx i=>(f x i).1)
    have W:((xs.take m.toNat).drop l.toNat).flatten=((xs.take m.toNat).flatten).drop (l.toNat*sz):=w0g _ _ (λy p=>(f y (List.mem_of_mem_take p)).1)
    grind
 exact w8 k (av := .val _) (exec_slice O T S s (W06 k I) (W06 k L) B C D M) rfl (G _ N λ_ _ _ e=>by cases e;rfl)
theorem F0n(d:Sim P h0 w0 be oe H st h a w){t e sz:Nat}{x:Operand}{B p:Option Operand}{i k:Nat}(L:o.op = .slice t x B p none)(O:m01 P t=some e)(N:B6 P e=some sz)
  (M:rdO st x = .own i k) (c:W0k i (B.map (rdO st)) (p.map (rdO st)) st h K):o.wp P a w (Nx P h0 w0 st be oe K a o.dst) Q:=by
 have F:=d.rdO x
 rw[M]at F
 obtain⟨T,C,S,an,xs,q⟩:=R06 M
 unfold W0k at c
 split at c
 rotate_left
 ·exact c.elim
 rename_i al m ap z
 simp only[q]at c
 obtain⟨⟨R,E⟩,I⟩:=c
 have ae:B=none:=by simp_all
 subst ae
 have J:f05 a (xs.length:Int) p m:=by
  cases p with
  |none=>simp at z
  |some y =>
   have g:=d.rdO y
   simp only[Option.map_some,Option.some.injEq]at z
   rw[z]at g
   exact⟨al,g⟩
 have A:=d.own i _ _ _ _ _ _ q
 have b:=F.own_cur q
 have aq:∀ v,v=oe i->v.ownBlock=(oe i).ownBlock:=λv ai=>by rw[ai]
 have am:∃ v,(∀ f:Next->Hp->Prop,f (.value v) H->wpS P (execOp a.eval o) H f)/\v.ownBlock=(oe i).ownBlock/\v06 h H v T C an (xs.take m.toNat):=by
  have G:∀ y∈xs.take m.toNat,y.length=C/\∀ v∈y,v.oneCell'=true:=λy ak=>A.1 y (List.mem_of_mem_take ak)
  rcases A.2 with⟨j,s,u⟩|⟨g,cap,cur,j,s,u,W,X,Y,Z⟩
  ·rw[j]at b
   subst s
   have af:m=0:=by simp at E;omega
   subst af
   refine⟨_,exec_slice L O N b (l:=0) rfl J (by omega) (by omega) (by simp) (Nat.le_refl _),?_,G,.inl ⟨by simp,by simp,u⟩⟩
   grind
  ·rw[j]at b
   refine⟨.slice (some ⟨g,0,none⟩) m.toNat cap,λf I=>exec_slice L O N b (l:=0) rfl J (by omega) R E W f ?_,by rw[j];rfl,G,.inr ⟨g,cap,cur,?_,s,u,?_,X,Y,?_⟩⟩
   ·grind[Int.toNat,Addr.add]
   ·have:(xs.take m.toNat).length=m.toNat:=by simp;omega
    rw[this]
   ·simp;omega
   ·have ad:(xs.take m.toNat).length=m.toNat:=by simp;omega
    rw[ad]
    have U:(xs.take m.toNat).flatten=xs.flatten.take (m.toNat*C):=U08 xs _ (λx b=>(A.1 x b).1)
    rw[U,←Z,List.take_take]
    congr 1
    rw[Nat.min_eq_left (Nat.mul_le_mul_right _ (by omega))]
 obtain⟨v,aj,ab,aa⟩:=am
 obtain⟨ar,D,au,ah,⟨rfl,rfl⟩,ag⟩:=v00 _ _ _ d.mv.vis (aj (λn D=>n = .value v/\D=H) ⟨rfl,rfl⟩)
 obtain⟨ao,V⟩:=d.updOwn (s1:=k+1) (by_:=S) q (Nat.le_succ _) (λe=>absurd e (Nat.succ_ne_self k)) ag (λ_ _ _=>rfl) aa (λg ac => .inl (by rw[←ab];exact ac))
 refine t8 ah ⟨_,_,h,v,_,_,_,I,rfl,ao,?_,V⟩
 refine⟨k+1,?_,Nat.le_refl _,λ_=>by simp⟩
 simp_all[stamp,D7,Z01]
theorem exec_cutStr{t:TypeId}{x:Operand}{e d:Option Operand}{b:ByteArray}{l m:Int}(n:o.op = .slice t x e d none)(p:P.underlying t=some .string)
  (q:a.eval x = .string b) (j:f05 a 0 e l) (k:f05 a b.size d m) (f:0<=l) (g:l<=m) (h:m<=(b.size:Int)) :
  ∀ c:Next->Hp->Prop,c (.value (.string (b.extract l.toNat m.toNat))) H->wpS P (execOp a.eval o) H c:=by
 intro c i
 unfold execOp;rw[n]
 refine z8 _ _ _ ?_
 simp only[Instr.sliceAt,M2,C6 p,Instr.slice,q,Option.map_none,Option.isSome_none,Bool.false_eq_true,if_false,U2]
 rw[r0e j k f g h (Nat.le_refl _)]
 exact i
theorem exec_index{t:TypeId}{x i:Operand}{b:ByteArray}{k:IntKind}{j:Int}{c:UInt8}(l:o.op = .index t x i)(m:P.underlying t=some .string)(n:a.eval x = .string b)(g:a.eval i = .int k j)
  (e:0<=j) (f:b[j.toNat]?=some c):∀ d:Next->Hp->Prop,d (.value (.int .u8 c.toNat)) H->wpS P (execOp a.eval o) H d:=by
 intro d h
 unfold execOp;rw[l]
 refine z8 _ _ _ ?_
 simp only[Instr.index,n,g,asIntOf,M2,U2,C6 m,e,if_true,f]
 exact h
theorem exec_quo{t j:TypeId}{x y:Operand}{b c:Int}(g:o.op = .binOp .quo t x y j)(h:a.eval x = .int .i64 b)(i:a.eval y = .int .i64 c)(f:c≠0):
  ∀ d:Next->Hp->Prop,d (.value (.int .i64 (IntKind.i64.wrap (b.tdiv c)))) H->wpS P (execOp a.eval o) H d:=by
 intro d e
 unfold execOp;rw[g]
 refine z8 _ _ _ ?_
 simp only[h,i,eqGuard,M2,Bool.not_false,if_true,U2,binOp,Go.Op.intDiv,if_neg f,ne_eq,not_true_eq_false,if_false]
 exact e
theorem exec_rem{t j:TypeId}{x y:Operand}{b c:Int}(g:o.op = .binOp .rem t x y j)(h:a.eval x = .int .i64 b)(i:a.eval y = .int .i64 c)(f:c≠0):
  ∀ d:Next->Hp->Prop,d (.value (.int .i64 (b.tmod c))) H->wpS P (execOp a.eval o) H d:=by
 intro d e
 unfold execOp;rw[g]
 refine z8 _ _ _ ?_
 simp only[h,i,eqGuard,M2,Bool.not_false,if_true,U2,binOp,Go.Op.intDiv,if_neg f,ne_eq,not_true_eq_false,if_false]
 exact e
theorem R0o{t j:TypeId}{x y:Operand}{b c:Int}(g:o.op = .binOp .shl t x y j)(h:a.eval x = .int .i64 b)(i:a.eval y = .int .i64 c)(k:0<=c):
  ∀ d:Next->Hp->Prop,d (.value (.int .i64 (IntKind.i64.wrap (b*2 ^ min c.toNat 64)))) H->wpS P (execOp a.eval o) H d:=by
 intro d e
 unfold execOp;rw[g]
 refine z8 _ _ _ ?_
 have f : ¬ c<0:=by omega
 simp only[h,i,eqGuard,M2,Bool.not_false,if_true,U2,binOp,Go.Op.shift,if_neg f,IntKind.bits]
 exact e
theorem S0o{t j:TypeId}{x y:Operand}{b c:Int}(g:o.op = .binOp .shr t x y j)(h:a.eval x = .int .i64 b)(i:a.eval y = .int .i64 c)(k:0<=c):
  ∀ d:Next->Hp->Prop,d (.value (.int .i64 (b.fdiv (2 ^ min c.toNat 64)))) H->wpS P (execOp a.eval o) H d:=by
 intro d e
 unfold execOp;rw[g]
 refine z8 _ _ _ ?_
 have f : ¬ c<0:=by omega
 simp only[h,i,eqGuard,M2,Bool.not_false,if_true,U2,binOp,Go.Op.shift,if_neg f,IntKind.bits]
 exact e
theorem exec_cat{t j:TypeId}{x y:Operand}{b c:ByteArray}(g:o.op = .binOp .add t x y j)(h:a.eval x = .string b)(i:a.eval y = .string c)(k:b.size+c.size<=9223372036854775807):
  ∀ d:Next->Hp->Prop,d (.value (.string (b++c))) H->wpS P (execOp a.eval o) H d:=by
 intro d e
 unfold execOp;rw[g]
 refine z8 _ _ _ ?_
 have f : ¬ (((b.size+c.size:Nat):Int)>IntKind.i64.max):=by
  have:IntKind.i64.max=9223372036854775807:=by decide
  rw[this];omega
 simp only[h,i,eqGuard,M2,Bool.not_false,if_true,U2,binOp,Go.Op.stringOp,if_neg f]
 exact e
end
end Go.H
namespace Go.H
set_option linter.unusedVariables false
set_option linter.unusedSimpArgs false
section
variable {P:Program} {h0:Hp} {w0:World} {be:Nat->Nat} {oe:Nat->Value} {H:Hp} {st:St} {h:Hp} {a:Act} {w:World} {o:Oper} {K:AV->St->Hp->Prop} {Q:Exit->Act->World->Prop}
theorem X0c:∀(a c r:List Value) (k:Nat),k+a.length<=c.length->D3 (c++r) k a=D3 c k a++r
 | [],c,r,k,_=>rfl
 |n::a,c,r,k,b=>by
  simp only[List.length_cons]at b
  simp only[D3]
  rw[List.set_append_left _ _ (by omega),X0c a _ r (k+1) (by simp;omega)]
theorem J0a:∀(a x l:List Value) (k:Nat),D3 (x++l) (x.length+k) a=x++D3 l k a
 | [],x,l,k=>rfl
 |n::a,x,l,k=>by
  simp only[D3]
  rw[List.set_append_right _ _ (by omega),Nat.add_sub_cancel_left,Nat.add_assoc,J0a a x _ (k+1)]
theorem a08{sz:Nat}(a:List Value)(k:Nat):∀(xs:List (List Value)) (i:Nat) (c:List Value),(∀ x∈xs,x.length=sz)->xs[i]?=some c->k+a.length<=c.length ->
  (xs.set i (D3 c k a)).flatten=D3 xs.flatten (i*sz+k) a
 | [],i,c,_,h,_=>by simp at h
 |x::xs,0,c,d,h,b=>by
  simp at h;subst h
  simp only[List.set_cons_zero,List.flatten_cons,Nat.zero_mul,Nat.zero_add]
  rw[X0c a x _ k b]
 |x::xs,i+1,c,d,h,b=>by
  simp at h
  have f:=d x mS
  simp only[List.set_cons_succ,List.flatten_cons]
  rw[a08 a k xs i c (λy e=>d y (mC _ e)) h b]
  rw[show(i+1)*sz+k=x.length+(i*sz+k) from by grind,J0a]
theorem E05:∀(a cs:List Value) (off N:Nat),(D3 cs off a).take N=D3 (cs.take N) off a
 | [],cs,off,N=>rfl
 |n::a,cs,off,N=>by
  simp only[D3]
  rw[E05 a _ (off+1) N,List.take_set]
theorem s0e:∀(a cs:List Value) (off:Nat) (v:Value),v∈D3 cs off a->v∈cs∨v∈a
 | [],cs,off,v,h => .inl h
 |n::a,cs,off,v,h=>by
  rcases s0e a _ (off+1) v h with h|h
  all_goals grind
theorem X0h(F:Sim P h0 w0 be oe H st h a w){t:TypeId}{p x:Operand}{i O:Nat}{idx:Int}{sz k:Nat}(ak:o.op = .store t p x)(am:rdO st p = .oel i O idx sz k)
  (ad:rfy (rdO st x) st h λv st h=>match nth st.ow i,B6 P t with
   |some ⟨z,.live e d by_ nn xs⟩,some n=>match H07 v.cells.toList n,U04 v.cells.toList,Nat.beq z O,Nat.beq d sz with
    |true,true,true,true=>∃ c,xs[idx.toNat]?=some c/\x0n c k v.cells.toList λq =>
      K (.val undef) { st with ow:=I00 st.ow i ⟨z,.live e d by_ nn (xs.set idx.toNat q)⟩ } h
    |_,_,_,_=>False
   |_,_=>False):o.wp P a w (Nx P h0 w0 st be oe K a o.dst) Q:=by
 have J:=F.rdO p
 rw[am]at J
 obtain⟨az,L,f,s1,I⟩:=s03 F (F.rdO x) ad
 have S:=J.grow I
 split at f
 rotate_left
 ·exact f.elim
 rename_i z e d by_ nn xs n C ao
 split at f
 rotate_left
 ·exact f.elim
 rename_i ah al X Y
 have ap:=Nat.eq_of_beq_eq_true X
 have aq:=Nat.eq_of_beq_eq_true Y
 subst ap;subst aq
 obtain⟨c,s,j⟩:=f
 unfold x0n at j
 split at j
 rotate_left
 ·exact j.elim
 rename_i B
 have B:=Nat.le_of_ble_eq_true B
 have ai:=E03 _ _ ah
 have N:=t04 _ al
 obtain⟨g,ax,q,u,D⟩:=S.oel_cur C
 have l:=s1.own i _ _ _ _ _ _ C
 rcases l.2 with⟨m,_⟩|⟨R,cap,cur,m,af,ag,M,ab,ac,ar⟩
 ·rw[m]at u;cases u
 rw[m]at u;cases u
 have Z:=(List.getElem?_eq_some_iff.1 s)
 have aa:c.length=d:=(l.1 c (List.mem_of_getElem? s)).1
 have V:idx.toNat*d+k+n<=cur.toList.length:=by
  have:(idx.toNat+1)*d<=q*d:=Nat.mul_le_mul_right _ (Nat.le_trans Z.1 M)
  grind
 have av:=U06 (H:=H) (P:=P) (a:=a) (cur:=cur.toList) ak ao D ai N (by simpa using ag) V
 obtain⟨ay,G,aA,an,⟨rfl,rfl⟩,aj⟩:=v00 _ _ _ s1.mv.vis (av (λn G=>n = .skip/\G=_) ⟨rfl,rfl⟩)
 rw[x06]at j
 have U:v06 L (H.set g (.cells (D3 cur.toList (idx.toNat*d+k) (a.eval x).cells.toList).toArray e (0,0))) (oe i) e d nn (xs.set idx.toNat (D3 c k (a.eval x).cells.toList)):=by
  refine⟨λy E=>?_,.inr ⟨g,q,_,by simpa using m,af,Hp.set_same _ _ _,by simpa using M,ab,by simp[j9,ac],?_⟩⟩
  ·rcases List.mem_or_eq_of_mem_set E with E|rfl
   ·exact l.1 y E
   ·refine⟨by rw[j9,aa],λv au=>?_⟩
    rcases s0e _ _ _ _ au with A|A
    ·exact(l.1 c (List.mem_of_getElem? s)).2 v A
    ·exact N v A
  ·rw[a08 (sz:=d) _ _ xs idx.toNat c (λx D=>(l.1 x D).1) s B,←ar]
   simp only[List.length_set]
   rw[E05]
 obtain⟨aw,T⟩:=s1.updOwn (s1:=z) (by_:=by_) C (Nat.le_refl _) (λ_=>rfl) aj (λb W _=>Hp.set_other _ _ (λe=>W (by rw[m,e];rfl))) U (λR ae => .inl ae)
 exact F0a an ⟨_,_,L,_,_,_,_,j,rfl,aw,rfl,I.trans T⟩
theorem Y0h(c:Sim P h0 w0 be oe H st h a w){t:TypeId}{p x:Operand}{sl:Value}{idx:Int}{sz k:Nat}{v:Value}(B:o.op = .store t p x)(C:rdO st p = .hel sl idx sz k)
    (G:rdO st x = .val v) (E:B6 P t=some 1)
    (y : ∃ b of n d cur ty, (sl = .slice (some ⟨b, of, none⟩) n d ∧ 0 ≤ idx ∧ h b = some (.cells cur ty (0, 0)) ∧ of + (idx.toNat * sz + k) < cur.size ∧ j04 v) ∧
            K (.val undef) st (h.set b (.cells (cur.setIfInBounds (of+(idx.toNat*sz+k)) v) ty (0,0)))):o.wp P a w (Nx P h0 w0 st be oe K a o.dst) Q:=by
  have f:=c.rdO p
  rw[C]at f
  have g:a.eval x=v:=by have:=c.rdO x;rw[G]at this;exact this
  obtain⟨b,off,n,d,cur,ty,⟨m,_,u,M,N⟩,z⟩:=y
  obtain⟨J,T,R,L,e,q⟩:=f
  rw[m]at e;cases e
  have j:v.cells = #[v]:=by cases v<;>simp_all [j04,Value.cells]
  have O:v.oneCell'=true:=by cases v<;>simp_all [j04,Value.oneCell']
  have F:=U06 (H:=h) (P:=P) (a:=a) (cur:=cur.toList) B E q (by rw[g,j];rfl) (by grind) (by simpa using u) (by simp;omega)
  obtain⟨S,i,U,D,⟨rfl,rfl⟩,A⟩:=v00 _ _ _ (z09 c) (F (λn i=>n = .skip/\i=_) ⟨rfl,rfl⟩)
  obtain⟨I,l⟩:=c.moved A
  have s:(D3 cur.toList (off+(idx.toNat*sz+k)) (a.eval x).cells.toList).toArray=cur.setIfInBounds (off+(idx.toNat*sz+k)) v:=by
    rw[g,j]
    apply Array.ext'
    simp[D3]
  rw[s]at l
  exact F0a D ⟨_,_,_,_,_,_,_,z,rfl,l,rfl,a7.refl _ _ _⟩
theorem C09(d:Sim P h0 w0 be oe H st h a w){t:TypeId}{p x:Operand}{sl:Value}{idx:Int}{sz k n:Nat}{new:List Value}(z:o.op = .store t p x)(A:rdO st p = .hel sl idx sz k)
  (i:(a.eval x).cells.toList=new) (C:B6 P t=some n) (u:H07 new n=true) (J:U04 new=true)
  (s:p06 h sl idx (idx.toNat*sz+k) new λc=>K (.val undef) st c):o.wp P a w (Nx P h0 w0 st be oe K a o.dst) Q:=by
 have f:=d.rdO p
 rw[A]at f
 obtain⟨b,off,M,G,cur,ty,⟨l,_,q,L⟩,g⟩:=s
 obtain⟨F,R,N,I,e,m⟩:=f
 rw[l]at e;cases e
 have v:=E03 _ _ u
 have D:=U06 (H:=h) (P:=P) (a:=a) (cur:=cur.toList) z C m (by rw[i];exact v) (by grind[t04]) (by simpa using q) (by simp;omega)
 obtain⟨O,c,S,B,⟨rfl,rfl⟩,y⟩:=v00 _ _ _ (z09 d) (D (λn c=>n = .skip/\c=_) ⟨rfl,rfl⟩)
 obtain⟨E,j⟩:=d.moved y
 rw[x06]at g
 rw[i]at j
 exact F0a B ⟨_,_,_,_,_,_,_,g,rfl,j,rfl,a7.refl _ _ _⟩
theorem D09:∀(c:List Field),o06 P c=true->∃ b,c.mapM (λf:Field=>(P.info? f.type).map λi=>(f.offset,i.size))=some b /\
  ∀(k:Nat) (f:Field) (n:Nat),c[k]?=some f->B6 P f.type=some n->b[k]?=some (f.offset,n)
 | [],_=>⟨[],rfl,by simp⟩
 |f::r,h=>by
  simp only[o06]at h
  split at h
  ·rename_i m a
   obtain⟨b,d,e⟩:=D09 r h
   unfold B6 at a
   split at a
   ·rename_i i j
    cases a
    refine⟨(f.offset,i.size)::b,by simp_all,λk g n l o=>?_⟩
    grind[B6]
   ·cases a
  ·cases h
theorem K0a{d:Array Field}{m:List (Nat×Nat)}(h:∀(k:Nat) (f:Field) (n:Nat),d.toList[k]?=some f->B6 P f.type=some n->m[k]?=some (f.offset,n)){rd:Operand->AV}
  (j:∀ x cs,r01 (rd x)=some cs->D2 st oe cs (a.eval x).cells.toList):∀(l:List (Nat×Operand)) {cs:List S5} {vs:List Value} {K:List S5->Prop},D2 st oe cs vs->P07 P d rd l cs K ->
  ∃ cs' c,K cs'/\D2 st oe cs' c/\Instr.fill (m.toArray[·]?) vs.toArray (l.map λp=>(p.1,a.eval p.2))=some c.toArray
 | [],cs,vs,K,g,b=>⟨cs,vs,b,g,rfl⟩
 |(i,x)::r,cs,vs,K,g,b=>by
  simp only[P07]at b
  split at b
  rotate_left
  ·exact b.elim
  rename_i f new hf t
  split at b
  rotate_left
  ·exact b.elim
  rename_i n v
  split at b
  rotate_left
  ·exact b.elim
  rename_i s q
  have D:=E03 _ _ s
  have C:=Nat.le_of_ble_eq_true q
  have e:=j x new t
  have u:=h i f n (by simpa using hf) v
  have B:=g.length
  have E:=e.length
  obtain⟨cs',c,y,z,F⟩:=K0a h j r (g.splice e) b
  refine⟨cs',c,y,z,?_⟩
  have w:(a.eval x).cells.size=n:=by grind
  simp only[List.map_cons,Instr.fill,List.getElem?_toArray,u,w,ne_eq,not_true_eq_false,decide_false,Bool.false_or,decide_eq_true_eq]
  rw[if_neg (by simp;omega)]
  have o:=i0j (a.eval x) f.offset vs.toArray
  have A:((a.eval x).cells.zipIdx.foldl (λcs (p:Value×Nat)=>cs.setIfInBounds (f.offset+p.2) p.1) vs.toArray)=(D3 vs f.offset (a.eval x).cells.toList).toArray:=by
   rw[←o]
  grind
theorem j0j(C:Sim P h0 w0 be oe H st h a w){t:TypeId}{c:Array (Nat×Operand)}{b:Array Field}{z:Value}{rd:Operand->AV}{K':AV->Prop}(u:o.op = .build t c)(y:P.underlying t=some (.struct b))
  (l:y01 P t=some z) (g:o06 P b.toList=true) (k:∀ x cs,r01 (rd x)=some cs->D2 st oe cs (a.eval x).cells.toList)
  (j:P07 P b rd c.toList (vals z.cells.toList) λcs=>K' (.agg cs)) :
  ∃ av v,K' av/\I2 st be oe av v/\∀ w:World,(execOp a.eval o).run P w = .ok (.value v) w:=by
 obtain⟨B,p,f⟩:=D09 b.toList g
 obtain⟨cs',e,m,n,A⟩:=K0a (st:=st) (oe:=oe) (a:=a) f k c.toList (D2.vals st oe z.cells.toList) j
 have d:=l
 unfold y01 at d
 split at d
 rotate_left
 ·cases d
 rename_i i s
 have q:P.built t (c.map λx=>(x.1,a.eval x.2)).toList=some e.toArray:=by
  unfold Program.built
  simp_all
 refine⟨_,.agg e.toArray,m,⟨e,rfl,n⟩,λw=>?_⟩
 simp_all[execOp,Sem.run_bind,run_build,Result.andThen_ok,Sem.run_pure]
theorem i0g(c:Sim P h0 w0 be oe H st h a w){x:Operand}{cs:List S5}(b:O07 (rdO st x)=some cs):∃ vs:List Value,a.eval x = .agg vs.toArray/\D2 st oe cs vs:=by
 have g:=c.rdO x
 cases hr:rdO st x with
 |val v =>
  rw[hr]at b g
  cases v<;>simp only[O07,Option.some.injEq]at b<;>first|(subst b;exact⟨_,by rw[show a.eval x=_ from g],D2.vals _ _ _⟩)|cases b
 |agg cs' =>
  rw[hr]at b g
  simp only[O07,Option.some.injEq]at b
  subst b
  exact g
 |_=>rw[hr]at b;cases b
theorem T0o(m:Sim P h0 w0 be oe H st h a w){t:TypeId}{x:Operand}{k:Nat}{cs:List S5}{l:Array Field}{f:Field}(u:o.op = .field t x k)(q:O07 (rdO st x)=some cs)
  (z:P.underlying t=some (.struct l)) (hf:l[k]?=some f) (b:T04 P f.type cs f.offset λav=>K av st h):o.wp P a w (Nx P h0 w0 st be oe K a o.dst) Q:=by
 obtain⟨vs,C,g⟩:=i0g m q
 unfold T04 at b
 have fin:∀(av:AV) (v:Value),K av st h->I2 st be oe av v->(∀ d:Value->Hp->Prop,d v H->wpS P (part f.type vs.toArray f.offset) H d)->o.wp P a w (Nx P h0 w0 st be oe K a o.dst) Q:=by
  intro av v i s B
  refine w8 m (λd y=>?_) s i
  unfold execOp;rw[u]
  refine z8 _ _ _ ?_
  grind[Instr.field,M2,C6,asAgg,U2]
 split at b
 ·rename_i e
  split at b
  ·rename_i n j
   split at b
   ·refine fin _ (.agg ((vs.drop f.offset).take n).toArray) b ⟨_,rfl,(g.drop _).take _⟩ λd i=>?_
    simp only[part,M2,S08 e,if_true,a02 j,U2]
    grind
   ·exact b.elim
  ·exact b.elim
 ·rename_i e
  split at b
  ·rename_i c j
   obtain⟨v,A,p⟩:=g.nth j
   refine fin _ v b (I2.ofCell p) λd i=>?_
   simp only[part,M2,S08 e,Bool.false_eq_true,if_false]
   grind[U2]
  ·exact b.elim
 ·exact b.elim
theorem L0a{t:TypeId}{e:TypeId}{x:Operand}{as:Array Operand}{b:Array TypeId}{d:Option Addr}{n c:Nat}(g:o.op = .call { callee := .builtin .len,args:=as,argTypes:=b })(f:as = #[x])(i:b = #[t])
  (h:m01 P t=some e) (j:a.eval x = .slice d n c) (w:World):(execOp a.eval o).run P w = .ok (.value (.int .i64 n)) w:=by
 subst f;subst i
 unfold execOp;rw[g]
 simp only[resolve,invoke,builtin,Builtin.len_,Sem.run_bind,Sem.run_pure,Result.andThen_ok,List.map_toArray,List.map_cons,List.map_nil,j,List.getElem?_toArray,List.getElem?_cons_zero,run_underlying (G9 h),goInt]
end
end Go.H
namespace Go.H
set_option linter.unusedVariables false
set_option linter.unusedSimpArgs false
section
variable {P:Program} {h0:Hp} {w0:World} {be:Nat->Nat} {oe:Nat->Value} {H:Hp} {st:St} {h:Hp} {a:Act} {w:World} {o:Oper} {K:AV->St->Hp->Prop} {Q:Exit->Act->World->Prop}
theorem Q0b(d:Sim P h0 w0 be oe H st h a w){av:AV}{v:Value}(c:∀ w:World,(execOp a.eval o).run P w = .ok (.value v) w)(g:I2 st be oe av v)(b:K av st h):o.wp P a w (Nx P h0 w0 st be oe K a o.dst) Q :=
 t8 (c w) ⟨av,st,h,v,be,oe,H,b,rfl,d,g,a7.refl _ _ _⟩
set_option maxHeartbeats 1000000 in
theorem d00(q:Sim P h0 w0 be oe H st h a w)(d:Z8 P o st h K):o.wp P a w (Nx P h0 w0 st be oe K a o.dst) Q:=by
 cases ho:o.op with
 |move x=>simp only[Z8,ho]at d;exact v0m q (.inl ho) d
 |assign x=>simp only[Z8,ho]at d;exact v0m q (.inr ho) d
 |box t x =>
  simp only[Z8,ho]at d
  grind[P0r]
 |alloc t =>
  simp only[Z8,ho]at d
  grind[Q0o]
 |fieldAddr t x k=>simp only[Z8,ho]at d;exact R0h q ho d
 |indexAddr t x i=>simp only[Z8,ho]at d;exact W0h q ho d
 |load t x =>
  simp only[Z8,ho]at d
  grind[f0j,g0j,Nat.eq_of_beq_eq_true,h0j,S9]
 |store t p x =>
  simp only[Z8,ho]at d
  split at d
  ·rename_i i off A
   split at d
   ·rename_i cs ty new n J U F
    split at d
    ·rename_i E u;exact S0h q ho A J U F E u d
    ·exact d.elim
   ·exact d.elim
  ·rename_i i ag idx sz k A
   exact X0h q ho A d
  ·rename_i sl idx sz k A
   split at d
   ·rename_i v s
    split at d
    ·rename_i F;exact Y0h q ho A s F d
    ·rename_i n _ F
     split at d
     ·rename_i E u
      exact C09 q ho A (by have:=q.rdO x;rw[s]at this;rw[show a.eval x=v from this]) F E u d
     ·exact d.elim
    ·exact d.elim
   ·rename_i cs s
    split at d
    ·rename_i n new F I
     split at d
     ·rename_i E u
      refine C09 q ho A ?_ F E u d
      have g:=q.rdO x
      rw[s]at g
      obtain⟨vs,ak,al⟩:=g
      rw[ak,X07 I al]
      rfl
     ·exact d.elim
    ·exact d.elim
   ·exact d.elim
  grind[S9]
 |build t aE =>
  simp only[Z8,ho]at d
  split at d
  ·rename_i aR z S V
   split at d
   ·rename_i T
    obtain⟨av,v,ay,az,aA⟩:=j0j (K':=λav=>K av st h) q ho S V T (λx cs U=>T06 q U) d
    exact Q0b q aA az ay
   ·exact d.elim
  ·exact d.elim
 |buildSlice t n aE =>
  simp only[Z8,ho]at d
  split at d
  ·rename_i e R
   split at d
   ·rename_i sz by_ z F W V
    split at d
    ·rename_i J Y E;exact g0g q ho R F V J Y d
    ·exact d.elim
   ·exact d.elim
  ·exact d.elim
 |makeSlice t l c =>
  simp only[Z8,ho]at d
  split at d
  ·rename_i e R
   split at d
   ·rename_i sz by_ z aY a3 aX a2 F W V E U
    split at d
    all_goals grind[V0h]
   ·exact d.elim
  ·exact d.elim
 |field t x k =>
  simp only[Z8,ho]at d
  grind[T0o]
 |slice t x aZ ad aB =>
  cases aB with
  |some m=>simp only[Z8,ho]at d;exact K00 q d
  |none =>
   simp only[Z8,ho]at d
   split at d
   ·grind[F0n]
   ·grind[E0n]
   ·rename_i b A
    split at d
    ·rename_i S
     unfold D0o at d
     split at d
     ·rename_i l m E Y
      have C:a.eval x = .string b:=by have:=q.rdO x;rw[A]at this;exact this
      obtain⟨⟨u,N,am⟩,D⟩:=d
      exact w8 q (av := .val _) (exec_cutStr ho S C (W06 q E) (W06 q Y) u N am) rfl D
     ·exact d.elim
    ·exact d.elim
   ·exact d.elim
 |index t x i =>
  simp only[Z8,ho]at d
  split at d
  ·rename_i b k j s ad S
   have C:a.eval x = .string b:=by have:=q.rdO x;rw[s]at this;exact this
   have gi:a.eval i = .int k j:=by have:=q.rdO i;rw[ad]at this;exact this
   obtain⟨c,⟨u,N⟩,D⟩:=d
   exact w8 q (av := .val _) (exec_index ho S C gi u N) rfl D
  grind[S9]
 |binOp aD t x y aH =>
  cases aD with
  |add =>
   simp only[Z8,ho]at d
   split at d
   ·rename_i b c s B
    have C:a.eval x = .string b:=by have:=q.rdO x;rw[s]at this;exact this
    have G:a.eval y = .string c:=by have:=q.rdO y;rw[B]at this;exact this
    exact w8 q (av := .val _) (exec_cat ho C G d.1) rfl d.2
   grind[S9]
  |quo =>
   simp only[Z8,ho]at d
   split at d
   ·rename_i b c s B
    have C:a.eval x = .int .i64 b:=by have:=q.rdO x;rw[s]at this;exact this
    have G:a.eval y = .int .i64 c:=by have:=q.rdO y;rw[B]at this;exact this
    exact w8 q (av := .val _) (exec_quo ho C G d.1) rfl d.2
   grind[S9]
  |rem =>
   simp only[Z8,ho]at d
   split at d
   ·rename_i b c s B
    have C:a.eval x = .int .i64 b:=by have:=q.rdO x;rw[s]at this;exact this
    have G:a.eval y = .int .i64 c:=by have:=q.rdO y;rw[B]at this;exact this
    exact w8 q (av := .val _) (exec_rem ho C G d.1) rfl d.2
   grind[S9]
  |shl =>
   simp only[Z8,ho]at d
   split at d
   ·rename_i b c s B
    have C:a.eval x = .int .i64 b:=by have:=q.rdO x;rw[s]at this;exact this
    have G:a.eval y = .int .i64 c:=by have:=q.rdO y;rw[B]at this;exact this
    exact w8 q (av := .val _) (R0o ho C G d.1) rfl d.2
   grind[S9]
  |shr =>
   simp only[Z8,ho]at d
   split at d
   ·rename_i b c s B
    have C:a.eval x = .int .i64 b:=by have:=q.rdO x;rw[s]at this;exact this
    have G:a.eval y = .int .i64 c:=by have:=q.rdO y;rw[B]at this;exact this
    exact w8 q (av := .val _) (S0o ho C G d.1) rfl d.2
   grind[S9]
  |eql =>
   simp only[Z8,ho]at d
   split at d
   ·rename_i xs aN s B
    obtain⟨b,u,D⟩:=d
    exact Q0b q (av := .val _) (u _ (O7 s (q.rdO x)) (O7 B (q.rdO y))) rfl D
   ·rename_i aO a1 a0 s B
    obtain⟨b,u,D⟩:=d
    exact Q0b q (av := .val _) (u _ (O7 s (q.rdO x)) (O7 B (q.rdO y))) rfl D
   grind[K00]
  |neq =>
   simp only[Z8,ho]at d
   split at d
   ·rename_i xs aN s B
    obtain⟨b,u,D⟩:=d
    exact Q0b q (av := .val _) (u _ (O7 s (q.rdO x)) (O7 B (q.rdO y))) rfl D
   grind[K00]
  |_=>simp only[Z8,ho]at d;exact K00 q d
 |convert aJ aL x =>
  simp only[Z8,ho]at d
  split at d
  ·rename_i i k A
   split at d
   ·rename_i ag aQ sz by_ nn xs e J aq ar
    split at d
    ·rename_i au
     obtain⟨M,L,D⟩:=d
     obtain⟨aj,aG,ah,aC,aM,Z⟩:=R06 A
     have g:=q.rdO x
     rw[A]at g
     have s:=g.own_cur Z
     have O:=q.own i _ _ _ _ _ _ J
     have aF:(execOp a.eval o).run P w = .ok (.value (.string (strOfNums M))) w:=by
      unfold execOp
      rw[ho]
      rcases O.2 with⟨I,aw,_⟩|⟨aa,cap,cur,I,_,an,aS,aT,aU,ac⟩
      ·rw[aw]at L
       have ao:M = []:=by simp_all
       subst ao
       rw[I]at s
       simp only[s,Sem.run_bind,run_convert_bytes_nil w aJ e aq au 0 0 aL ar,Result.andThen_ok,Sem.run_pure]
       rfl
      ·rw[I]at s
       have E:M.length=xs.length:=by rw[L];simp
       have aV:∀ j,j<xs.length->w.cell? ⟨aa,0+j,none⟩=some (.int .u8 (M.getD j 0)):=λj X=>by
        have ap:sz=1:=by
         have:=(O.1 _ (List.getElem_mem X)).1
         grind
        subst ap
        have hf:xs.flatten=M.map (Value.int .u8):=by
         rw[L]
         clear L E X J O ac D
         induction M with
         |nil=>rfl
         |cons n r ax=>simp[ax]
        have aW:=P0o q _ _ an
        have N:=congrArg (λl:List Value=>l[j]?) (ac.trans hf)
        simp only[List.getElem?_take,Nat.mul_one,if_pos X,List.getElem?_map,Array.getElem?_toList]at N
        simp_all[World.cell?,Nat.zero_add,if_neg,List.getD_eq_getElem?_getD,List.getElem?_eq_getElem]
       grind[Sem.run_bind,run_convert_bytes_arg,Result.andThen_ok,Sem.run_pure]
     exact t8 aF ⟨_,_,_,_,_,_,_,D,rfl,q,rfl,a7.refl _ _ _⟩
    ·exact d.elim
   grind[K00]
  grind[K00]
 |call c =>
  obtain⟨ai,as,aK⟩:=c
  cases ai with
  |builtin b =>
   cases b with
   |len =>
    simp only[Z8,ho]at d
    split at d
    ·rename_i x t T ae
     have ab:as = #[x]:=by apply Array.ext';simpa using T
     have af:aK = #[t]:=by apply Array.ext';simpa using ae
     split at d
     ·rename_i i k A
      split at d
      ·rename_i ag e sz by_ nn xs aP J R
       obtain⟨aj,aG,ah,aC,aM,Z⟩:=R06 A
       have g:=q.rdO x
       rw[A]at g
       have s:=g.own_cur Z
       have O:=q.own i _ _ _ _ _ _ J
       rcases O.2 with⟨I,L,_⟩|⟨aa,cap,cur,I,_⟩
       ·rw[I]at s
        refine Q0b q (av := .val _) (L0a ho ab af R s) ?_ d
        rw[L];rfl
       ·rw[I]at s
        exact Q0b q (av := .val _) (L0a ho ab af R s) rfl d
      ·exact d.elim
     grind[S9]
    ·exact d.elim
   |append =>
    simp only[Z8,ho]at d
    split at d
    ·rename_i x y t aH T ae
     split at d
     ·rename_i W
      have:=Nat.eq_of_beq_eq_true W
      subst this
      exact C0n q ho (by grind) (by grind) d
     ·exact d.elim
    ·exact d.elim
   |_=>simp only[Z8,ho]at d;exact K00 q d
  |value f=>simp only[Z8,ho]at d;exact K00 q d
  |invoke r m=>simp only[Z8,ho]at d;exact K00 q d
 |_=>simp only[Z8,ho]at d;exact K00 q d
end
end Go.H
