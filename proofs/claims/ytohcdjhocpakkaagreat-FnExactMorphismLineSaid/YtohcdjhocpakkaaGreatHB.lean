/- The library of the walks, part HB: plain laws over the model. -/
import Derived.Test.YtohcdjhocpakkaaGreatH3
import Derived.Laws.Tables
namespace Go.H
set_option linter.unusedVariables false
theorem G04{a:Type}:∀(l:List a) (k:Nat),nth l k=l[k]?
 | [],k=>by simp[nth]
 |x::r,0=>by simp[nth]
 |x::r,k+1=>by simp[nth,G04 r k]
theorem d0a{a:Type}:∀(l:List a) (k:Nat) (x:a),w00 l k x=l.set k x
 | [],k,x=>by simp[w00]
 |b::r,0,x=>by simp[w00]
 |b::r,k+1,x=>by simp[w00,d0a r k x]
theorem r7{a:Type}(l:List a)(k:Nat)(x:a)(b:k<l.length)(j:Nat):nth (w00 l k x) j=if j=k then some x else nth l j:=by
 rw[G04,G04,d0a,List.getElem?_set]
 grind
theorem I01{a:Type}{l:List a}{k:Nat}{x:a}(h:nth l k=some x):k<l.length:=by
 grind[G04,List.getElem?_eq_some_iff]
theorem v02{a:Type}(l:List a)(x:a)(j:Nat):nth (l ++ [x]) j=if j=l.length then some x else nth l j:=by
 rw[G04,G04,List.getElem?_append]
 grind
theorem h05{a:Type}(l:List a)(k:Nat)(x:a):(w00 l k x).length=l.length:=by rw[d0a];simp
def stamp(st:St)(i:Nat):Option Nat:=match nth st.ow i with
 |some o=>some o.stamp
 |none=>none
def H0d(st:St)(oe:Nat->Value):A5->Value->Prop
 | .val v,x=>x=v
 | .own i k,x=>∃ s,stamp st i=some s/\k<=s/\(k=s->x=oe i)
def Z1(st:St)(oe:Nat->Value):List A5->List Value->Prop
 | [],[]=>True
 |c::cs,v::vs=>H0d st oe c v/\Z1 st oe cs vs
 |_,_=>False
def A2(st:St)(be:Nat->Nat)(oe:Nat->Value):AV->Value->Prop
 | .val v,x=>x=v
 | .own i k,x=>∃ s,stamp st i=some s/\k<=s/\(k=s->x=oe i)
 | .box i off,x=>i<st.bx.length/\x=ptr (be i) off
 | .hel s idx sz k,x=>∃ b o n c,s = .slice (some ⟨b,o,none⟩) n c/\x=ptr b (o+(idx.toNat*sz+k))
 | .oel i a idx sz k,x=>∃ s,stamp st i=some s/\a<=s/\(a=s->∃ g n c,oe i = .slice (some ⟨g,0,none⟩) n c/\x=ptr g (idx.toNat*sz+k))
 | .agg cs,x=>∃ vs,x = .agg vs.toArray/\Z1 st oe cs vs
 | .dead,_=>True
structure J6 (st:St) (be:Nat->Nat) (oe:Nat->Value) (st':St) (be':Nat->Nat) (oe':Nat->Value):Prop where
 bl:st.bx.length<=st'.bx.length
 be:∀ i,i<st.bx.length->be' i=be i
 sm:∀ i s,stamp st i=some s->∃ s',stamp st' i=some s'/\s<=s'/\(s'=s->oe' i=oe i)
theorem J6.refl(st:St)(be:Nat->Nat)(oe:Nat->Value):J6 st be oe st be oe :=
 ⟨Nat.le_refl _,λ_ _=>rfl,λi s h=>⟨s,h,Nat.le_refl _,λ_=>rfl⟩⟩
theorem H0d.grow{st st':St}{be be':Nat->Nat}{oe oe':Nat->Value}(g:J6 st be oe st' be' oe'){c:A5}{x:Value}(h:H0d st oe c x):H0d st' oe' c x:=by
 cases c with
 |val v=>exact h
 |own i k =>
  obtain⟨s,a,b,f⟩:=h
  obtain⟨d,g1,g2,g3⟩:=g.sm i s a
  exact⟨d,g1,Nat.le_trans b g2,λe=>by grind⟩
theorem Z1.grow{st st':St}{be be':Nat->Nat}{oe oe':Nat->Value}(g:J6 st be oe st' be' oe'):∀ {cs:List A5} {vs:List Value},Z1 st oe cs vs->Z1 st' oe' cs vs
 | [],[],_=>trivial
 |_::_,_::_,h=>⟨h.1.grow g,Z1.grow g h.2⟩
 | [],_::_,h=>h.elim
 |_::_,[],h=>h.elim
theorem A2.grow{st st':St}{be be':Nat->Nat}{oe oe':Nat->Value}(g:J6 st be oe st' be' oe'){av:AV}{x:Value}(h:A2 st be oe av x):A2 st' be' oe' av x:=by
 cases av with
 |val v=>exact h
 |own i k =>
  obtain⟨s,a,b,d⟩:=h
  obtain⟨c,g1,g2,g3⟩:=g.sm i s a
  exact⟨c,g1,Nat.le_trans b g2,λe=>by grind⟩
 |box i off=>exact⟨Nat.lt_of_lt_of_le h.1 g.bl,by rw[g.be i h.1];exact h.2⟩
 |hel s idx sz k=>exact h
 |oel i f idx sz k =>
  obtain⟨s,a,b,d⟩:=h
  obtain⟨c,g1,g2,g3⟩:=g.sm i s a
  exact⟨c,g1,Nat.le_trans b g2,λe=>by grind⟩
 |agg cs=>obtain⟨vs,a,b⟩:=h;exact⟨vs,a,b.grow g⟩
 |dead=>trivial
theorem Z1.length{st:St}{oe:Nat->Value}:∀ {cs:List A5} {vs:List Value},Z1 st oe cs vs->cs.length=vs.length
 | [],[],_=>rfl
 |_::_,_::_,h=>by simp[Z1.length h.2]
 | [],_::_,h=>h.elim
 |_::_,[],h=>h.elim
theorem Z1.vals(st:St)(oe:Nat->Value):∀(vs:List Value),Z1 st oe (vals vs) vs
 | []=>trivial
 |_::r=>⟨rfl,Z1.vals st oe r⟩
theorem Z1.nth{st:St}{oe:Nat->Value}:∀ {cs:List A5} {vs:List Value} {k:Nat} {c:A5},Z1 st oe cs vs->nth cs k=some c->∃ v,vs[k]?=some v/\H0d st oe c v
 | [],_,k,c,_,h=>by simp[H.nth]at h
 |d::cs,b::vs,0,c,h,a=>by simp[H.nth]at a;subst a;exact⟨b,by simp,h.1⟩
 |d::cs,b::vs,k+1,c,h,a=>by
  simp[H.nth]at a
  obtain⟨v,f,g⟩:=Z1.nth h.2 a
  exact⟨v,by simpa using f,g⟩
 |_::_,[],_,_,h,_=>h.elim
theorem Z1.drop{st:St}{oe:Nat->Value}:∀ {cs:List A5} {vs:List Value} (k:Nat),Z1 st oe cs vs->Z1 st oe (cs.drop k) (vs.drop k)
 |cs,vs,0,h=>by simpa using h
 | [],[],k+1,h=>by simpa using h
 |_::cs,_::vs,k+1,h=>by simpa using Z1.drop k h.2
 | [],_::_,_+1,h=>h.elim
 |_::_,[],_+1,h=>h.elim
theorem Z1.take{st:St}{oe:Nat->Value}:∀ {cs:List A5} {vs:List Value} (k:Nat),Z1 st oe cs vs->Z1 st oe (cs.take k) (vs.take k)
 |cs,vs,0,h=>by simp[Z1]
 | [],[],k+1,h=>by simp[Z1]
 |_::cs,_::vs,k+1,h=>by simpa [Z1] using ⟨h.1,Z1.take k h.2⟩
 | [],_::_,_+1,h=>h.elim
 |_::_,[],_+1,h=>h.elim
theorem Z1.upd{st:St}{oe:Nat->Value}:∀ {cs:List A5} {vs:List Value} {k:Nat} {c:A5} {v:Value},Z1 st oe cs vs->H0d st oe c v->Z1 st oe (w00 cs k c) (vs.set k v)
 | [],[],k,c,v,h,a=>by simp[w00,Z1]
 |_::cs,_::vs,0,c,v,h,a=>⟨a,h.2⟩
 |_::cs,_::vs,k+1,c,v,h,a=>⟨h.1,Z1.upd h.2 a⟩
 | [],_::_,_,_,_,h,_=>h.elim
 |_::_,[],_,_,_,h,_=>h.elim
def U2:List Value->Nat->List Value->List Value
 |cs,_,[]=>cs
 |cs,off,x::r=>U2 (cs.set off x) (off+1) r
theorem Z1.splice{st:St}{oe:Nat->Value}:∀ {new:List A5} {a:List Value} {cs:List A5} {vs:List Value} {off:Nat},Z1 st oe cs vs->Z1 st oe new a->Z1 st oe (splice cs off new) (U2 vs off a)
 | [],[],cs,vs,off,h,_=>h
 |c::new,v::a,cs,vs,off,h,b=>by
  simp only[H.splice,U2]
  exact Z1.splice (h.upd b.1) b.2
 | [],_::_,_,_,_,_,h=>h.elim
 |_::_,[],_,_,_,_,h=>h.elim
theorem H8:∀(a vs:List Value) (off:Nat),(U2 vs off a).length=vs.length
 | [],vs,off=>rfl
 |n::a,vs,off=>by simp[U2,H8 a]
def X05(h H:Hp)(v:Value)(e:TypeId)(sz:Nat)(nn:Bool)(xs:List (List Value)):Prop :=
  (∀ x∈xs,x.length=sz/\∀ v∈x,v.oneCell'=true) /\
  ((v = .slice none 0 0/\xs = []/\nn=false) ∨
   ∃ g cap cur,v = .slice (some ⟨g,0,none⟩) xs.length cap/\h g=none/\H g=some (.cells cur e (0,0)) /\
     xs.length<=cap/\cap<=maxLen/\cur.size=cap*sz/\cur.toList.take (xs.length*sz)=xs.flatten)
structure Sim (P:Program) (h0:Hp) (w0:World) (be:Nat->Nat) (oe:Nat->Value) (H:Hp) (st:St) (h:Hp) (a:Act) (w:World):Prop where
 mv:T2 h0 w0 H w
 sub:∀ b o,h b=some o->H b=some o
 box:∀ i cs ty,nth st.bx i=some (.live cs ty)->h (be i)=none/\∃ vs,Z1 st oe cs vs/\H (be i)=some (.cells vs.toArray ty (0,0))
 pub:∀ i b,nth st.bx i=some (.publ b)->be i=b
 own:∀ i s e sz by_ nn xs,nth st.ow i=some ⟨s,.live e sz by_ nn xs⟩->X05 h H (oe i) e sz nn xs
 frz:∀ i s v,nth st.ow i=some ⟨s,.frozen v⟩->oe i=v
 bb:∀ i j cs ty cs' ty',nth st.bx i=some (.live cs ty)->nth st.bx j=some (.live cs' ty')->be i=be j->i=j
 oo:∀ i j s e sz by_ nn xs s' e' sz' by' nn' xs' g,nth st.ow i=some ⟨s,.live e sz by_ nn xs⟩->nth st.ow j=some ⟨s',.live e' sz' by' nn' xs'⟩ ->
  (oe i).ownBlock=some g->(oe j).ownBlock=some g->i=j
 bo:∀ i cs ty j s e sz by_ nn xs,nth st.bx i=some (.live cs ty)->nth st.ow j=some ⟨s,.live e sz by_ nn xs⟩->(oe j).ownBlock≠some (be i)
 dfr:a.defers = []
 siz:a.tmps.size=st.n
 fr:∀ s,A2 st be oe (j3 st.fr s) (a.tmps.getD s undef)
section
variable {P:Program} {h0:Hp} {w0:World} {be:Nat->Nat} {oe:Nat->Value} {H:Hp} {st:St} {h:Hp} {a:Act} {w:World}
theorem X05.block{h H:Hp}{v:Value}{e sz:Nat}{nn:Bool}{xs:List (List Value)}(o:X05 h H v e sz nn xs){g:Nat}(d:v.ownBlock=some g):
  h g=none/\∃ cap cur,v = .slice (some ⟨g,0,none⟩) xs.length cap/\H g=some (.cells cur e (0,0)):=by
 rcases o.2 with⟨rfl,_⟩|⟨a,cap,cur,rfl,b,c,_⟩
 all_goals grind[Value.ownBlock]
theorem X05.keep{h b H a:Hp}{v:Value}{e sz:Nat}{nn:Bool}{xs:List (List Value)}(o:X05 h H v e sz nn xs)
  (d:∀ g,v.ownBlock=some g->a g=H g/\b g=none):X05 b a v e sz nn xs:=by
 refine⟨o.1,?_⟩
 rcases o.2 with f|⟨g,cap,cur,rfl,k,c,r⟩
 ·exact .inl f
 ·obtain⟨i,j⟩:=d g rfl
  exact .inr ⟨g,cap,cur,rfl,j,by rw[i];exact c,r⟩
theorem K0o(s:Sim P h0 w0 be oe H st h a w):Vis H w:=s.mv.vis
theorem C07(s:Sim P h0 w0 be oe H st h a w):Vis h w:=λb o c=>s.mv.vis b o (s.sub b o c)
theorem Sim.moved(s:Sim P h0 w0 be oe H st h a w){j:Hp}{t:World}(m:T2 h w j t):∃ d,Sim P h0 w0 be oe d st j a t:=by
 let d:Hp:=λb=>match j b with
  |some o=>some o
  |none=>match h b with
   |some _=>none
   |none=>H b
 have D:∀ b,h b=none->H b≠none->d b=H b/\j b=none:=by
  intro b c l
  have q:b<w.heap.size:=s.mv.vis.lt l
  have C:j b=none:=m.none_of q c
  grind
 have z:T2 H w d t:=by
  refine⟨m.os,m.tape,m.output,m.size,?_,?_,?_,m.fz,m.dn⟩
  ·intro b c l
   have:h b=none:=by
    cases hc:h b with
    |none=>rfl
    |some o=>rw[s.sub b o hc]at l;cases l
   exact m.keep b c this
  ·intro b o f
   simp only[d]at f
   split at f
   ·rename_i x p;cases f;exact m.vis b _ p
   ·split at f
    ·cases f
    ·rename_i p c
     have q:b<w.heap.size:=s.mv.vis.lt (by rw[f];simp)
     rw[m.keep b q c]
     exact s.mv.vis b o f
  ·intro b c
   simp only[d]at c
   split at c
   ·rename_i x p
    rcases m.fresh b (by simp[p])with k|k
    ·left
     cases hc:h b with
     |none=>exact absurd hc k
     |some o=>rw[s.sub b o hc];simp
    ·exact .inr k
   grind
 refine⟨d,⟨s.mv.trans z,?_,?_,s.pub,?_,s.frz,s.bb,s.oo,s.bo,s.dfr,s.siz,s.fr⟩⟩
 ·grind
 ·intro i cs ty n
  obtain⟨k,vs,A,v⟩:=s.box i cs ty n
  grind
 ·intro i u e sz by_ nn xs n
  refine(s.own i u e sz by_ nn xs n).keep λg y=>?_
  obtain⟨k,cap,cur,_,v⟩:=(s.own i u e sz by_ nn xs n).block y
  grind
theorem U3(d:Nat)(av:AV)(r:List (Nat×AV))(s:Nat):j3 ((d,av)::r) s=if d=s then av else j3 r s:=by
 grind[j3,Nat.beq,Nat.eq_of_beq_eq_true,Nat.ne_of_beq_eq_false]
theorem Sim.put(s:Sim P h0 w0 be oe H st h a w){d:Nat}{av:AV}{v:Value}(j:d<st.n)(k:A2 st be oe av v):
  Sim P h0 w0 be oe H { st with fr:=(d,av)::st.fr } h (a.put (some d) v) w:=by
 have b:J6 st be oe { st with fr:=(d,av)::st.fr } be oe:=⟨Nat.le_refl _,λ_ _=>rfl,λi s h=>⟨s,h,Nat.le_refl _,λ_=>rfl⟩⟩
 refine⟨s.mv,s.sub,λi cs ty l=>?_,s.pub,s.own,s.frz,s.bb,s.oo,s.bo,s.dfr,by simp[Act.put,s.siz],?_⟩
 ·obtain⟨c,vs,f,g⟩:=s.box i cs ty l
  exact⟨c,vs,f.grow b,g⟩
 intro t
 refine A2.grow b ?_
 rw[U3]
 by_cases e:d=t
 ·subst e
  rw[if_pos rfl]
  have:(a.put (some d) v).tmps.getD d undef=v:=by simp[Act.put,s.siz,j]
  rw[this]
  exact k
 ·rw[if_neg e]
  have:(a.put (some d) v).tmps.getD t undef=a.tmps.getD t undef:=by simp[Act.put,Array.getElem?_setIfInBounds_ne e]
  rw[this]
  exact s.fr t
theorem Sim.newBox(s:Sim P h0 w0 be oe H st h a w){cs:List A5}{vs:List Value}{t:TypeId}{b:Nat}{E:World}(z:Z1 st oe cs vs)(y:H b=none)
  (m:T2 H w (H.set b (.cells vs.toArray t (0,0))) E) :
  let be':=λj=>if j=st.bx.length then b else be j
  let st':St := { st with bx:=st.bx ++ [.live cs t] }
  Sim P h0 w0 be' oe (H.set b (.cells vs.toArray t (0,0))) st' h a E/\J6 st be oe st' be' oe:=by
 intro be' st'
 have L:h b=none:=by
  cases n:h b with
  |none=>rfl
  |some o=>rw[s.sub b o n]at y;cases y
 have l:J6 st be oe st' be' oe:=by
  refine⟨by simp[st'],λi c=>?_,λi s N=>⟨s,N,Nat.le_refl _,λ_=>rfl⟩⟩
  grind
 have M:∀ x,H x≠none->x≠b:=λx p e=>by subst e;exact p y
 have q:∀ i cs ty,nth st.bx i=some (.live cs ty)->be' i=be i:=λi cs ty c=>by simp[be',Nat.ne_of_lt (I01 c)]
 have k:∀ i x,nth st'.bx i=some x->(i=st.bx.length/\x = .live cs t)∨(i≠st.bx.length/\nth st.bx i=some x):=by
  grind[v02]
 have R:∀ i cs ty,nth st.bx i=some (.live cs ty)->be i≠b:=λi cs ty c=>by
  obtain⟨_,vs,_,v⟩:=s.box i cs ty c
  grind
 have S:∀ i f e sz by_ nn xs g,nth st.ow i=some ⟨f,.live e sz by_ nn xs⟩->(oe i).ownBlock=some g->g≠b:=λi f e sz by_ nn xs g c z=>by
  obtain⟨_,_,_,_,v⟩:=(s.own i f e sz by_ nn xs c).block z
  grind
 refine⟨⟨s.mv.trans m,?_,?_,?_,?_,s.frz,?_,s.oo,?_,s.dfr,s.siz,λt=>(s.fr t).grow l⟩,l⟩
 ·intro x o p
  rw[Hp.set_other _ _ (M x (by rw[s.sub x o p];simp))]
  exact s.sub x o p
 ·intro i cs' ty c
  rcases k i _ c with⟨rfl,e⟩|⟨e,d⟩
  ·cases e
   exact⟨by simp[be',L],vs,z.grow l,by simp[be',Hp.set]⟩
  ·obtain⟨C,Q,J,v⟩:=s.box i cs' ty d
   rw[q i cs' ty d]
   exact⟨C,Q,J.grow l,by grind[Hp.set_other]⟩
 ·intro i F c
  rcases k i _ c with⟨_,e⟩|⟨e,d⟩
  ·cases e
  ·simp[be',e,s.pub i F d]
 ·intro i f e sz by_ nn xs c
  refine(s.own i f e sz by_ nn xs c).keep λg K=>?_
  obtain⟨C,cap,cur,_,v⟩:=(s.own i f e sz by_ nn xs c).block K
  grind[Hp.set_other]
 ·intro i j G O T U c A e
  rcases k i _ c with⟨rfl,u⟩|⟨u,d⟩<;>rcases k j _ A with⟨rfl,I⟩|⟨I,D⟩
  ·rfl
  ·grind
  ·grind
  ·rw[q i _ _ d,q j _ _ D]at e;exact s.bb i j _ _ _ _ d D e
 ·intro i G O j f e sz by_ nn xs c A n
  rcases k i _ c with⟨rfl,u⟩|⟨u,d⟩
  ·grind
  ·rw[q i _ _ d]at n;exact s.bo i _ _ j _ _ _ _ _ _ d A n
theorem Sim.updBox(s:Sim P h0 w0 be oe H st h a w){i:Nat}{z cs:List A5}{vs:List Value}{t:TypeId}{D:World}(d:nth st.bx i=some (.live z t))
  (J:Z1 st oe cs vs) (m:T2 H w (H.set (be i) (.cells vs.toArray t (0,0))) D) :
  Sim P h0 w0 be oe (H.set (be i) (.cells vs.toArray t (0,0))) { st with bx:=w00 st.bx i (.live cs t) } h a D/\J6 st be oe { st with bx:=w00 st.bx i (.live cs t) } be oe:=by
 have l:J6 st be oe { st with bx:=w00 st.bx i (.live cs t) } be oe :=
  ⟨by simp[h05],λ_ _=>rfl,λi s L=>⟨s,L,Nat.le_refl _,λ_=>rfl⟩⟩
 have K:=(s.box i z t d).1
 have f:∀ j x,nth (w00 st.bx i (.live cs t)) j=some x->(j=i/\x = .live cs t)∨(j≠i/\nth st.bx j=some x):=by
  grind[r7,I01]
 refine⟨⟨s.mv.trans m,?_,?_,?_,?_,s.frz,?_,s.oo,?_,s.dfr,s.siz,λt=>(s.fr t).grow l⟩,l⟩
 ·intro x o k
  have:x≠be i:=λe=>by grind
  rw[Hp.set_other _ _ this];exact s.sub x o k
 ·intro j cs' ty c
  rcases f j _ c with⟨rfl,e⟩|⟨e,n⟩
  ·cases e;exact⟨K,vs,J.grow l,by simp[Hp.set]⟩
  ·obtain⟨v,O,G,I⟩:=s.box j cs' ty n
   have:be j≠be i:=λq=>e (s.bb j i _ _ _ _ n d q)
   exact⟨v,O,G.grow l,by grind[Hp.set_other]⟩
 ·intro j b c
  rcases f j _ c with⟨_,e⟩|⟨e,n⟩
  ·cases e
  ·exact s.pub j b n
 ·intro j y e sz by_ nn xs c
  refine(s.own j y e sz by_ nn xs c).keep λg A=>?_
  obtain⟨v,cap,cur,_,I⟩:=(s.own j y e sz by_ nn xs c).block A
  exact⟨Hp.set_other _ _ (λq=>by subst q;exact s.bo i _ _ j _ _ _ _ _ _ d c A),v⟩
 ·intro x Q E N R S k M e
  rcases f x _ k with⟨rfl,u⟩|⟨u,p⟩<;>rcases f Q _ M with⟨rfl,F⟩|⟨F,C⟩
  ·rfl
  ·exact s.bb _ _ _ _ _ _ d C e
  ·exact s.bb _ _ _ _ _ _ p d e
  ·exact s.bb _ _ _ _ _ _ p C e
 ·intro x E N j y e sz by_ nn xs k c
  rcases f x _ k with⟨rfl,u⟩|⟨u,p⟩
  ·exact s.bo _ _ _ j _ _ _ _ _ _ d c
  ·exact s.bo _ _ _ j _ _ _ _ _ _ p c
end
section
variable {P:Program} {h0:Hp} {w0:World} {be:Nat->Nat} {oe:Nat->Value} {H:Hp} {st:St} {h:Hp} {a:Act} {w:World}
theorem T0k(st:St)(o:Own)(i s:Nat)(a:stamp st i=some s):stamp { st with ow:=st.ow ++ [o] } i=some s:=by
 unfold stamp at *
 have b:i<st.ow.length:=by
  cases hn:nth st.ow i with
  |none=>rw[hn]at a;cases a
  |some x=>exact I01 hn
 simp_all[v02,Nat.ne_of_lt]
theorem Sim.newOwn(s:Sim P h0 w0 be oe H st h a w){v:Value}{e sz by_:Nat}{nn:Bool}{xs:List (List Value)}{n:Hp}{R:World}
  (I:∀ b o,H b=some o->n b=some o) (m:T2 H w n R) (Y:X05 h n v e sz nn xs) (X:∀ g,v.ownBlock=some g->H g=none) :
  let oe':=λj=>if j=st.ow.length then v else oe j
  let st':St := { st with ow:=st.ow ++ [⟨0,.live e sz by_ nn xs⟩] }
  Sim P h0 w0 be oe' n st' h a R/\J6 st be oe st' be oe':=by
 intro oe' st'
 have F:J6 st be oe st' be oe':=by
  refine⟨Nat.le_refl _,λ_ _=>rfl,λi s A=>⟨s,T0k st _ i s A,Nat.le_refl _,λ_=>?_⟩⟩
  have W:i<st.ow.length:=by
   unfold stamp at A
   cases hn:nth st.ow i with
   |none=>rw[hn]at A;cases A
   |some x=>exact I01 hn
  grind
 have p:∀ i x,nth st'.ow i=some x->(i=st.ow.length/\x=⟨0,.live e sz by_ nn xs⟩)∨(i≠st.ow.length/\nth st.ow i=some x):=by
  grind[v02]
 have Z:∀ b,H b≠none->n b=H b:=by
  intro b J
  cases f:H b with
  |none=>exact absurd f J
  |some o=>exact I b o f
 refine⟨⟨s.mv.trans m,λb o J=>I b o (s.sub b o J),?_,s.pub,?_,?_,s.bb,?_,?_,s.dfr,s.siz,λt=>(s.fr t).grow F⟩,F⟩
 ·intro i cs ty c
  obtain⟨G,vs,S,z⟩:=s.box i cs ty c
  exact⟨G,vs,S.grow F,I _ _ z⟩
 ·intro i Q y D u C E c
  rcases p i _ c with⟨rfl,d⟩|⟨d,l⟩
  ·grind
  ·simp only[oe',if_neg d]
   refine(s.own i _ _ _ _ _ _ l).keep λg K=>?_
   obtain⟨G,cap,cur,_,z⟩:=(s.own i _ _ _ _ _ _ l).block K
   grind
 ·intro i Q U c
  rcases p i _ c with⟨rfl,d⟩|⟨d,l⟩
  ·cases d
  ·simp only[oe',if_neg d];exact s.frz i Q U l
 ·intro i j s1 y D u C E s2 d ab V aa ac g c L gi O
  have hv:∀ k s1 y D u C E,nth st.ow k=some ⟨s1,.live y D u C E⟩->(oe k).ownBlock=some g->v.ownBlock≠some g:=λk _ _ _ _ _ _ T K f=>by
   obtain⟨G,cap,cur,_,z⟩:=(s.own k _ _ _ _ _ _ T).block K
   grind
  rcases p i _ c with⟨rfl,N⟩|⟨N,l⟩<;>rcases p j _ L with⟨rfl,q⟩|⟨q,M⟩
  ·rfl
  ·grind
  ·grind
  ·simp only[oe',if_neg N]at gi;simp only[oe',if_neg q]at O;exact s.oo i j _ _ _ _ _ _ _ _ _ _ _ _ g l M gi O
 ·intro i cs ty j s1 y D u C E c L f
  rcases p j _ L with⟨rfl,q⟩|⟨q,M⟩
  ·simp only[oe',if_pos rfl]at f
   obtain⟨_,vs,_,z⟩:=s.box i cs ty c
   grind
  ·simp only[oe',if_neg q]at f;exact s.bo i cs ty j _ _ _ _ _ _ c M f
theorem Sim.updOwn(s:Sim P h0 w0 be oe H st h a w){i L V af U:Nat}{ae:Bool}{ah:List (List Value)}(J:nth st.ow i=some ⟨L,.live V af U ae ah⟩)
  {v:Value} {s1 e sz by_:Nat} {nn:Bool} {xs:List (List Value)} {I:Hp} {S:World} (ao:L<=s1) (hv:s1=L->v=oe i)
  (m:T2 H w I S) (am:∀ b,(oe i).ownBlock≠some b->H b≠none->I b=H b) (an:X05 h I v e sz nn xs)
  (Q:∀ g,v.ownBlock=some g->(oe i).ownBlock=some g∨H g=none) :
  let oe':=λj=>if j=i then v else oe j
  let st':St := { st with ow:=w00 st.ow i ⟨s1,.live e sz by_ nn xs⟩ }
  Sim P h0 w0 be oe' I st' h a S/\J6 st be oe st' be oe':=by
 intro oe' st'
 have X:=I01 J
 have K:J6 st be oe st' be oe':=by
  refine⟨Nat.le_refl _,λ_ _=>rfl,λj t Z=>?_⟩
  unfold stamp at Z ⊢
  simp only[st',r7 _ _ _ X]
  grind
 have A:∀ j x,nth st'.ow j=some x->(j=i/\x=⟨s1,.live e sz by_ nn xs⟩)∨(j≠i/\nth st.ow j=some x):=by
  grind[r7]
 have al:∀ g,(oe i).ownBlock=some g->h g=none:=λg q=>((s.own i _ _ _ _ _ _ J).block q).1
 have aq:∀ j s1 C F z E G g,j≠i->nth st.ow j=some ⟨s1,.live C F z E G⟩->(oe j).ownBlock=some g->(oe i).ownBlock≠some g/\v.ownBlock≠some g:=by
  intro j s1 C F z E G g Y l q
  have d:(oe i).ownBlock≠some g:=λf=>Y (s.oo j i _ _ _ _ _ _ _ _ _ _ _ _ g l J q f)
  refine⟨d,λf=>?_⟩
  rcases Q g f with c|c
  ·exact d c
  ·obtain⟨_,cap,cur,_,p⟩:=(s.own j _ _ _ _ _ _ l).block q
   rw[c]at p;cases p
 have ai:∀ k cs ty,nth st.bx k=some (.live cs ty)->(oe i).ownBlock≠some (be k)/\v.ownBlock≠some (be k):=by
  intro k cs ty y
  have d:=s.bo k cs ty i _ _ _ _ _ _ y J
  refine⟨d,λf=>?_⟩
  rcases Q _ f with c|c
  ·exact d c
  ·obtain⟨_,vs,_,p⟩:=s.box k cs ty y
   rw[c]at p;cases p
 refine⟨⟨s.mv.trans m,?_,?_,s.pub,?_,?_,s.bb,?_,?_,s.dfr,s.siz,λt=>(s.fr t).grow K⟩,K⟩
 ·intro b o W
  have ak:=s.sub b o W
  grind
 ·intro k cs ty y
  obtain⟨d,vs,c,p⟩:=s.box k cs ty y
  exact⟨d,vs,c.grow K,by grind⟩
 ·intro j R C F z E G l
  rcases A j _ l with⟨rfl,n⟩|⟨n,u⟩
  ·grind
  ·simp only[oe',if_neg n]
   refine(s.own j _ _ _ _ _ _ u).keep λg q=>?_
   obtain⟨d,cap,cur,_,p⟩:=(s.own j _ _ _ _ _ _ u).block q
   grind
 ·intro j R ag l
  rcases A j _ l with⟨rfl,n⟩|⟨n,u⟩
  ·cases n
  ·simp only[oe',if_neg n];exact s.frz j R ag u
 ·intro x T s1 C F z E G s2 n ar aj ap au g aa ac N O
  rcases A x _ aa with⟨rfl,M⟩|⟨M,ab⟩<;>rcases A T _ ac with⟨rfl,D⟩|⟨D,ad⟩
  ·rfl
  ·grind
  ·grind
  ·simp only[oe',if_neg M]at N;simp only[oe',if_neg D]at O;exact s.oo x T _ _ _ _ _ _ _ _ _ _ _ _ g ab ad N O
 ·intro k cs ty j s1 C F z E G y l f
  rcases A j _ l with⟨rfl,D⟩|⟨D,u⟩
  ·grind
  ·simp only[oe',if_neg D]at f;exact s.bo k cs ty j _ _ _ _ _ _ y u f
theorem Sim.freeze(s:Sim P h0 w0 be oe H st h a w){i l e sz by_:Nat}{nn:Bool}{xs:List (List Value)}(u:nth st.ow i=some ⟨l,.live e sz by_ nn xs⟩):
  ∃ d,V0 h d (oe i) e sz nn xs/\Sim P h0 w0 be oe H { st with ow:=w00 st.ow i ⟨l,.frozen (oe i)⟩ } d a w /\
   J6 st be oe { st with ow:=w00 st.ow i ⟨l,.frozen (oe i)⟩ } be oe:=by
 have V:=I01 u
 have A:=s.own i _ _ _ _ _ _ u
 have q:J6 st be oe { st with ow:=w00 st.ow i ⟨l,.frozen (oe i)⟩ } be oe:=by
  refine⟨Nat.le_refl _,λ_ _=>rfl,λj t Y=>⟨t,?_,Nat.le_refl _,λ_=>rfl⟩⟩
  unfold stamp at Y ⊢
  simp only[r7 _ _ _ V]
  grind
 have m:∀ j x,nth (w00 st.ow i ⟨l,.frozen (oe i)⟩) j=some x->(j=i/\x=⟨l,.frozen (oe i)⟩)∨(j≠i/\nth st.ow j=some x):=by
  grind[r7]
 have L:∀ d,(∀ b,(oe i).ownBlock≠some b->d b=h b)->(∀ b o,d b=some o->H b=some o) ->
   Sim P h0 w0 be oe H { st with ow:=w00 st.ow i ⟨l,.frozen (oe i)⟩ } d a w:=by
  intro d K X
  refine⟨s.mv,X,?_,s.pub,?_,?_,s.bb,?_,?_,s.dfr,s.siz,λt=>(s.fr t).grow q⟩
  ·intro k cs ty v
   obtain⟨y,vs,G,U⟩:=s.box k cs ty v
   exact⟨by rw[K _ (s.bo k cs ty i _ _ _ _ _ _ v u)];exact y,vs,G.grow q,U⟩
  ·intro j N E O D M Q p
   rcases m j _ p with⟨rfl,c⟩|⟨c,f⟩
   ·cases c
   ·refine(s.own j _ _ _ _ _ _ f).keep λg J=>⟨rfl,?_⟩
    rw[K g (λz=>c (s.oo j i _ _ _ _ _ _ _ _ _ _ _ _ g f u J z))]
    exact((s.own j _ _ _ _ _ _ f).block J).1
  ·intro j N ac p
   rcases m j _ p with⟨rfl,c⟩|⟨c,f⟩
   ·cases c;rfl
   ·exact s.frz j N ac f
  ·intro x R s1 E O D M Q s2 c af ad ae ag g C aa S T
   rcases m x _ C with⟨rfl,F⟩|⟨F,Z⟩<;>rcases m R _ aa with⟨rfl,n⟩|⟨n,ab⟩
   ·rfl
   ·cases F
   ·cases n
   ·exact s.oo x R _ _ _ _ _ _ _ _ _ _ _ _ g Z ab S T
  ·intro k cs ty j s1 E O D M Q v p z
   rcases m j _ p with⟨rfl,n⟩|⟨n,f⟩
   ·cases n
   ·exact s.bo k cs ty j _ _ _ _ _ _ v f z
 rcases A.2 with⟨hv,C,W⟩|⟨g,cap,cur,hv,y,G,r⟩
 ·exact⟨h,⟨A.1,.inl ⟨hv,C,W,rfl⟩⟩,L h (λ_ _=>rfl) s.sub,q⟩
 ·refine⟨h.set g (.cells cur e (0,0)),⟨A.1,.inr ⟨g,cap,cur,hv,y,rfl,r⟩⟩,L _ ?_ ?_,q⟩
  ·grind[Hp.set_other,Value.ownBlock]
  ·intro b o I
   by_cases e':b=g
   ·grind[Hp.set]
   ·rw[Hp.set_other _ _ e']at I;exact s.sub b o I
theorem Sim.publ(s:Sim P h0 w0 be oe H st h a w){i:Nat}{cs:List A5}{ty:TypeId}(m:nth st.bx i=some (.live cs ty)){vs:List Value}
  (T:H (be i)=some (.cells vs.toArray ty (0,0))) :
  h (be i)=none/\Sim P h0 w0 be oe H { st with bx:=w00 st.bx i (.publ (be i)) } (h.set (be i) (.cells vs.toArray ty (0,0))) a w /\
   J6 st be oe { st with bx:=w00 st.bx i (.publ (be i)) } be oe:=by
 have U:=I01 m
 have G:=(s.box i cs ty m).1
 have p:J6 st be oe { st with bx:=w00 st.bx i (.publ (be i)) } be oe :=
  ⟨by simp[h05],λ_ _=>rfl,λj t I=>⟨t,I,Nat.le_refl _,λ_=>rfl⟩⟩
 have d:∀ j x,nth (w00 st.bx i (.publ (be i))) j=some x->(j=i/\x = .publ (be i))∨(j≠i/\nth st.bx j=some x):=by
  grind[r7]
 refine⟨G,⟨s.mv,?_,?_,?_,?_,s.frz,?_,s.oo,?_,s.dfr,s.siz,λt=>(s.fr t).grow p⟩,p⟩
 ·intro b o z
  by_cases f:b=be i
  ·grind[Hp.set]
  ·rw[Hp.set_other _ _ f]at z;exact s.sub b o z
 ·intro k cs' M q
  rcases d k _ q with⟨rfl,e⟩|⟨e,n⟩
  ·cases e
  ·obtain⟨D,O,E,F⟩:=s.box k cs' M n
   exact⟨by rw[Hp.set_other _ _ (λf=>e (s.bb k i _ _ _ _ n m f))];exact D,O,E.grow p,F⟩
 ·intro k b q
  rcases d k _ q with⟨rfl,e⟩|⟨e,n⟩
  ·cases e;rfl
  ·exact s.pub k b n
 ·intro j L c W R V Y l
  refine(s.own j _ _ _ _ _ _ l).keep λg A=>⟨rfl,?_⟩
  rw[Hp.set_other _ _ (λf=>by subst f;exact s.bo i cs ty j _ _ _ _ _ _ m l A)]
  exact((s.own j _ _ _ _ _ _ l).block A).1
 ·intro x Q C N S X u J e
  rcases d x _ u with⟨_,c⟩|⟨c,v⟩
  ·cases c
  rcases d Q _ J with⟨_,y⟩|⟨y,K⟩
  ·cases y
  exact s.bb _ _ _ _ _ _ v K e
 ·intro x C N j L e sz by_ nn xs u l
  rcases d x _ u with⟨_,c⟩|⟨c,v⟩
  ·cases c
  ·exact s.bo _ _ _ j _ _ _ _ _ _ v l
theorem Sim.rdA(s:Sim P h0 w0 be oe H st h a w){av:AV}{x:Value}(g:A2 st be oe av x):A2 st be oe (rdA st av) x:=by
 cases av with
 |own i k =>
  simp only[Go.H.rdA]
  split
  ·rename_i m o c
   split
   ·rename_i j
    have l:=Nat.eq_of_beq_eq_true j
    split
    ·exact g
    ·rename_i v
     obtain⟨t,n,_,d⟩:=g
     have:t=m:=by grind[stamp]
     subst this
     have:=d l.symm
     rw[s.frz i _ v c]at this
     exact this
   ·trivial
  ·trivial
 |box i off =>
  simp only[Go.H.rdA]
  split
  ·exact g
  ·rename_i b c
   have:=g.2
   rw[s.pub i b c]at this
   exact this
  ·trivial
 |oel i k idx sz f =>
  simp only[Go.H.rdA]
  split
  ·split
   ·exact g
   ·trivial
  ·trivial
 |_=>exact g
theorem Sim.rdO(s:Sim P h0 w0 be oe H st h a w)(x:Operand):A2 st be oe (rdO st x) (a.eval x):=by
 cases x with
 |tmp t=>exact s.rdA (s.fr t)
 |const v=>rfl
 |global g=>trivial
 |func f=>rfl
theorem y06{st:St}{av:AV}{i k:Nat}(h:Go.H.rdA st av = .own i k):∃ e sz by_ nn xs,nth st.ow i=some ⟨k,.live e sz by_ nn xs⟩:=by
 cases av with
 |own j l =>
  grind[Go.H.rdA,Nat.eq_of_beq_eq_true]
 |box j off=>simp only[Go.H.rdA]at h;split at h<;>cases h
 |oel j l idx sz f=>simp only[Go.H.rdA]at h;split at h<;>(try split at h)<;>cases h
 |_=>cases h
theorem z06{st:St}{x:Operand}{i k:Nat}(h:Go.H.rdO st x = .own i k):∃ e sz by_ nn xs,nth st.ow i=some ⟨k,.live e sz by_ nn xs⟩:=by
 cases x with
 |tmp t=>exact y06 h
 |_=>cases h
theorem s0h{st:St}{av:AV}{i k:Nat}{idx:Int}{sz f:Nat}(h:Go.H.rdA st av = .oel i k idx sz f):∃ e a by_ nn xs,nth st.ow i=some ⟨k,.live e a by_ nn xs⟩:=by
 cases av with
 |own j l=>simp only[Go.H.rdA]at h;split at h<;>(try split at h)<;>(try split at h)<;>cases h
 |box j off=>simp only[Go.H.rdA]at h;split at h<;>cases h
 |oel j l idx sz f =>
  grind[Go.H.rdA,Nat.eq_of_beq_eq_true]
 |_=>cases h
theorem t0h{st:St}{x:Operand}{i k:Nat}{idx:Int}{sz f:Nat}(h:Go.H.rdO st x = .oel i k idx sz f):∃ e a by_ nn xs,nth st.ow i=some ⟨k,.live e a by_ nn xs⟩:=by
 cases x with
 |tmp t=>exact s0h h
 |_=>cases h
theorem A2.own_cur{st:St}{be:Nat->Nat}{oe:Nat->Value}{i k:Nat}{x:Value}{o:OSt}(g:A2 st be oe (.own i k) x)(c:nth st.ow i=some ⟨k,o⟩):x=oe i:=by
 obtain⟨s,a,_,b⟩:=g
 grind[stamp]
theorem A2.oel_cur{st:St}{be:Nat->Nat}{oe:Nat->Value}{i k:Nat}{idx:Int}{sz f:Nat}{x:Value}{o:OSt}(g:A2 st be oe (.oel i k idx sz f) x)(d:nth st.ow i=some ⟨k,o⟩):
  ∃ g n c,oe i = .slice (some ⟨g,0,none⟩) n c/\x=ptr g (idx.toNat*sz+f):=by
 obtain⟨s,a,_,b⟩:=g
 grind[stamp]
theorem D07{st:St}:∀ {cs:List A5} {vs a:List Value},v0d cs=some vs->Z1 st oe cs a->a=vs
 | [],vs,[],h,_=>by cases h;rfl
 | [],vs,_::_,h,g=>g.elim
 | .val v::r,vs,[],h,g=>g.elim
 | .val v::r,vs,w::a,h,g=>by
  simp only[v0d]at h
  split at h
  ·rename_i c b
   cases h
   obtain⟨g1,g2⟩:=g
   rw[D07 b g2,show w=v from g1]
  ·cases h
 | .own i k::r,vs,a,h,g=>by cases h
theorem B5{st:St}{av:AV}{v x:Value}(h:B04 av=some v)(g:A2 st be oe av x):x=v:=by
 cases av with
 |val u=>cases h;exact g
 |agg cs =>
  simp only[B04]at h
  split at h
  ·rename_i vs hv
   cases h
   obtain⟨a,rfl,g2⟩:=g
   rw[D07 hv g2]
  ·cases h
 |_=>cases h
end
theorem J2{P:Program}{i g:Type}(s:Sem i)(f:i->Sem g):∀(h:Hp) (K:g->Hp->Prop),wpS P (s >>= f) h K=wpS P s h (λx d=>wpS P (f x) d K):=by
 change ∀(h:Hp) (K:g->Hp->Prop),wpS P (s.bind f) h K=wpS P s h (λx d=>wpS P (f x) d K)
 induction s with
 |pure a=>intro h K;rfl
 |load m a k b=>grind[Sem.bind,wpS]
 |store m a v k b=>intro h K;simp only[Sem.bind,wpS,b]
 |new o k b=>grind[Sem.bind,wpS]
 |shape r k b=>grind[Sem.bind,wpS]
 |freeze a n k b=>intro h K;rfl
 |frozen a k b=>grind[Sem.bind,wpS]
 |getObj r k b=>grind[Sem.bind,wpS]
 |setObj r o k b=>grind[Sem.bind,wpS]
 |choose q k b=>grind[Sem.bind,wpS]
 |sys c k b=>intro h K;rfl
 |program k b=>grind[Sem.bind,wpS]
 |mark m k b=>grind[Sem.bind,wpS]
 |halt x=>intro h K;rfl
theorem Q2{P:Program}{a:Type}(x:a)(h:Hp)(K:a->Hp->Prop):wpS P (pure x) h K=K x h:=rfl
theorem V0l{P:Program}{d:Type}(s:Sem d){x:d}(b:evP P s=some x):∀ w:World,s.run P w = .ok x w:=by
 induction s with
 |pure a=>simp_all[evP,Option.some.injEq]
 |program k c=>intro w;exact c _ b w
 |mark m k c=>intro w;exact c b w
 |_=>simp[evP]at b
theorem e0a(ρ:Operand->Value):∀ l:List Operand,l0h ρ l=l.map ρ
 | []=>rfl
 |x::r=>by simp only[l0h,List.map_cons,e0a ρ r]
theorem W0l:∀ a b:List Value,t0o a b=a++b
 | [],b=>rfl
 |x::r,b=>by simp only[t0o,List.cons_append,W0l r b]
theorem Y05:∀ l:List Operand,r07 l=l.map fun | .const _=>true|_=>false
 | []=>rfl
 | .const _::r=>by simp only[r07,List.map_cons,Y05 r]
 | .tmp _::r=>by simp only[r07,List.map_cons,Y05 r]
 | .global _::r=>by simp only[r07,List.map_cons,Y05 r]
 | .func _::r=>by simp only[r07,List.map_cons,Y05 r]
theorem f0a(ρ:Operand->Value)(o:Oper):N0f ρ o=execOp ρ o:=by
 unfold N0f
 split
 ·rename_i c a
  obtain⟨i,as,j⟩:=c
  split
  ·rename_i b g
   simp only at g
   subst g
   unfold execOp
   rw[a]
   simp only[resolve,e0a,Y05]
   rw[show(List.map ρ as.toList).toArray=as.map ρ from by apply Array.ext';simp]
   have h:∀ f:Operand->Bool,(List.map f as.toList).toArray=as.map f:=λf=>by apply Array.ext';simp
   rw[h]
   rfl
  ·rfl
 ·rename_i fn first d a
  unfold execOp
  rw[a]
  simp only[e0a]
  rw[show(List.map ρ first.toList).toArray=first.map ρ from by apply Array.ext';simp,show(List.map ρ d.toList).toArray=d.map ρ from by apply Array.ext';simp]
 ·rfl
theorem p08{P:Program}{ρ:Operand->Value}{o:Oper}{f:FuncId}{l:List Value}(a:q07 ρ o=some (f,l))(b:okF P f=true)(w:World):(execOp ρ o).run P w = .ok (.enter f l.toArray) w:=by
 unfold q07 at a
 split at a
 ·rename_i c i
  obtain⟨j,as,n⟩:=c
  split at a
  ·rename_i x d
   simp only at d
   subst d
   split at a
   ·rename_i m first k hv
    cases a
    unfold okF at b
    split at b
    ·rename_i fn hf
     split at b
     ·rename_i bd g
      split at b
      ·cases b
      ·rename_i h
       unfold execOp
       rw[i]
       simp only[resolve,hv,Deferred.ofValue,Sem.run_bind,Sem.run_pure,Result.andThen_ok,invoke,callFunc,program,Sem.run,hf,h,g,Bool.false_eq_true,if_false,Option.isNone_some]
       simp_all[W0l,e0a]
     ·cases b
    ·cases b
   ·cases a
  ·cases a
 ·cases a
section
variable {P:Program} {h0:Hp} {w0:World} {be:Nat->Nat} {oe:Nat->Value} {H:Hp} {st:St} {h:Hp} {a:Act} {w:World}
theorem J6.trans{st h j:St}{be a b:Nat->Nat}{oe d f:Nat->Value}(g:J6 st be oe h a d)(k:J6 h a d j b f):J6 st be oe j b f:=by
 refine⟨Nat.le_trans g.bl k.bl,λi c=>?_,λi s m=>?_⟩
 ·rw[k.be i (Nat.lt_of_lt_of_le c g.bl),g.be i c]
 ·obtain⟨s1,l,n,o⟩:=g.sm i s m
  obtain⟨s2,p,q,t⟩:=k.sm i s1 l
  grind
theorem g0a(s:Sim P h0 w0 be oe H st h a w){i k:Nat}{x:Value}(g:∃ t,stamp st i=some t/\k<=t/\(k=t->x=oe i)){K:Value->St->Hp->Prop}
  (b:k0h i k st h K):∃ st' c,K x st' c/\Sim P h0 w0 be oe H st' c a w/\J6 st be oe st' be oe/\st'.bx=st.bx:=by
 unfold k0h at b
 obtain⟨t,g1,_,g3⟩:=g
 split at b
 ·rename_i m e sz by_ nn xs j
  split at b
  ·rename_i d
   have f:=Nat.eq_of_beq_eq_true d
   have l:t=m:=by grind[stamp]
   have n:x=oe i:=g3 (by rw[l,f])
   obtain⟨c,o,f2,f3⟩:=s.freeze j
   rw[n]
   exact⟨_,c,b _ _ o,f2,f3,rfl⟩
  ·exact b.elim
 ·rename_i m v j
  split at b
  ·rename_i d
   have f:=Nat.eq_of_beq_eq_true d
   have l:t=m:=by grind[stamp]
   have n:x=v:=by rw[g3 (by rw[l,f]),s.frz i _ v j]
   grind[J6.refl]
  ·exact b.elim
 ·exact b.elim
theorem U02:∀(cs:List A5) {st:St} {h:Hp} {vs:List Value} {K:List Value->St->Hp->Prop},Sim P h0 w0 be oe H st h a w->Z1 st oe cs vs->p07 cs st h K ->
  ∃ st' c,K vs st' c/\Sim P h0 w0 be oe H st' c a w/\J6 st be oe st' be oe/\st'.bx=st.bx
 | [],st,h,[],K,s,_,b=>⟨st,h,b,s,J6.refl _ _ _,rfl⟩
 | .val v::r,st,h,x::vs,K,s,g,b=>by
  have n:x=v:=g.1
  subst n
  obtain⟨st',c,q,t⟩:=U02 r s g.2 b
  grind
 | .own i k::r,st,h,x::vs,K,s,g,b=>by
  obtain⟨u,p,d,s1,g1,l⟩:=g0a s g.1 b
  obtain⟨o,j,f,s2,g2,m⟩:=U02 r s1 (g.2.grow g1) d
  exact⟨o,j,f,s2,g1.trans g2,m.trans l⟩
 | [],_,_,_::_,_,_,g,_=>g.elim
 |_::_,_,_,[],_,_,g,_=>g.elim
theorem J02(s:Sim P h0 w0 be oe H st h a w){av:AV}{x:Value}(g:A2 st be oe av x){K:Value->St->Hp->Prop}(c:rfy av st h K):
  ∃ st' d,K x st' d/\Sim P h0 w0 be oe H st' d a w/\J6 st be oe st' be oe:=by
 cases av with
 |val v=>have j:x=v:=g;subst j;exact⟨st,h,c,s,J6.refl _ _ _⟩
 |own i k=>obtain⟨st',d,q,t,u,_⟩:=g0a s g c;grind
 |box i off =>
  have j:=g.2
  simp only[rfy,s0o]at c
  split at c
  ·rename_i cells ty f
   obtain⟨E,vs,l,o⟩:=s.box i cells ty f
   obtain⟨C,D,m,s1,g1,n⟩:=U02 cells s l c
   have p:nth C.bx i=some (.live cells ty):=by rw[n];exact f
   obtain⟨y,z,A⟩:=s1.publ p o
   rw[j]
   exact⟨_,_,m (be i) y,z,g1.trans A⟩
  ·rename_i b f
   rw[j,s.pub i b f]
   grind[J6.refl]
  ·exact c.elim
 |agg cs =>
  obtain⟨vs,rfl,l⟩:=g
  obtain⟨st',d,q,t,u,_⟩:=U02 cs s l c
  grind
 |_=>exact c.elim
theorem f02:∀(l:List Operand) {st:St} {h:Hp} {K:List (Nat×Value)->St->Hp->Prop},Sim P h0 w0 be oe H st h a w->j0b l st h K ->
  ∃ vs st' m,K vs st' m/\Sim P h0 w0 be oe H st' m a w/\J6 st be oe st' be oe/\(∀ p∈vs,p.2=a.eval (.tmp p.1))/\(∀ x∈l,(∃ t v,x = .tmp t/\(t,v)∈vs)∨(∀ o,rho o x=a.eval x))
 | [],st,h,K,s,b=>⟨[],st,h,b,s,J6.refl _ _ _,by simp,by simp⟩
 | .tmp t::r,st,h,K,s,b=>by
  obtain⟨u,q,n,s1,g1⟩:=J02 s (s.rdO (.tmp t)) b
  obtain⟨vs,i,g,d,s2,g2,j,k⟩:=f02 r s1 n
  refine⟨_,i,g,d,s2,g1.trans g2,?_,?_⟩
  all_goals grind
 | .const v::r,st,h,K,s,b=>by
  obtain⟨vs,i,g,d,s2,g2,j,k⟩:=f02 r s b
  refine⟨vs,i,g,d,s2,g2,j,λx c=>?_⟩
  rcases List.mem_cons.1 c with rfl|c
  ·exact .inr λ_=>rfl
  ·exact k x c
 | .func f::r,st,h,K,s,b=>by
  obtain⟨vs,i,g,d,s2,g2,j,k⟩:=f02 r s b
  refine⟨vs,i,g,d,s2,g2,j,λx c=>?_⟩
  rcases List.mem_cons.1 c with rfl|c
  ·exact .inr λ_=>rfl
  ·exact k x c
 | .global _::_,_,_,_,_,b=>b.elim
theorem u0b:∀(vs:List (Nat×Value)) (t:Nat) (a:Value),(∀ p∈vs,p.1=t->p.2=a)->(∃ v,(t,v)∈vs)->N0l vs t=a
 | [],t,a,_,h=>by grind
 |(k,v)::r,t,a,b,h=>by
  simp only[N0l]
  split
  ·simp_all
  ·rename_i d
   refine u0b r t a (λp c=>b p (mC _ c)) ?_
   grind[absurd,Nat.ne_of_beq_eq_false]
theorem q08{o:Oper}{vs:List (Nat×Value)}(c:T09 o.op=false)(d:∀ p∈vs,p.2=a.eval (.tmp p.1))
  (f:∀ x∈o.op.operands.toList,(∃ t v,x = .tmp t/\(t,v)∈vs)∨(∀ k,rho k x=a.eval x)):execOp (rho vs) o=execOp a.eval o:=by
 refine execOp_congr o (λcs b g=>by rw[g]at c;cases c) λx j=>?_
 rcases f x (by simpa using j)with⟨t,v,rfl,h⟩|hf
 ·exact u0b vs t _ (λp i e=>by rw[d p i,e]) ⟨v,h⟩
 ·exact hf vs
def Nx(P:Program)(h0:Hp)(w0:World)(h:St)(f:Nat->Nat)(g:Nat->Value)(K:AV->St->Hp->Prop)(a:Act)(d:Option Tmp):Act->World->Prop:=λc i =>
 ∃ av st' b v be oe H,K av st' b/\c=a.put d v/\Sim P h0 w0 be oe H st' b a i/\A2 st' be oe av v/\J6 h f g st' be oe
theorem B7{o:Oper}{next:Act->World->Prop}{Q:Exit->Act->World->Prop}{v:Value}{b:World}(d:(execOp a.eval o).run P w = .ok (.value v) b)
  (c:next (a.put o.dst v) b):o.wp P a w next Q:=by
 unfold Oper.wp;rw[d];exact c
theorem r08{o:Oper}{next:Act->World->Prop}{Q:Exit->Act->World->Prop}{w':World}(hr:(execOp a.eval o).run P w = .ok .skip w')
  (hn:next (a.put o.dst undef) w'):o.wp P a w next Q:=by
 unfold Oper.wp;rw[hr];exact hn
theorem H04{o:Oper}{vs:List (Nat×Value)}(f:∀ p∈vs,p.2=a.eval (.tmp p.1))
  (g:∀ x∈o.op.operands.toList,(∃ t v,x = .tmp t/\(t,v)∈vs)∨(∀ l,rho l x=a.eval x)):q07 (rho vs) o=q07 a.eval o:=by
 have k:∀ x∈o.op.operands.toList,rho vs x=a.eval x:=λx d=>by
  rcases g x d with⟨t,v,rfl,i⟩|hf
  ·exact u0b vs t _ (λp j e=>by rw[f p j,e]) ⟨v,i⟩
  ·exact hf vs
 unfold q07
 split
 ·rename_i c m
  split
  ·rename_i x d
   have h:∀ b,b=x∨b∈c.args.toList->b∈o.op.operands.toList:=λb n=>by
    grind[Op.operands,Call.operands]
   rw[k x (h x (.inl rfl))]
   have:l0h (rho vs) c.args.toList=l0h a.eval c.args.toList:=by
    grind[e0a,List.map_congr_left]
   rw[this]
  ·rfl
 ·rfl
theorem I8(s:Sim P h0 w0 be oe H st h a w){o:Oper}{K:AV->St->Hp->Prop}{Q:Exit->Act->World->Prop}(c:Q05 P o st h K):o.wp P a w (Nx P h0 w0 st be oe K a o.dst) Q:=by
 unfold Q05 at c
 split at c
 ·exact c.elim
 rename_i D
 obtain⟨vs,i,F,b,s1,d,p,q⟩:=f02 _ s c
 rw[f0a,q08 D p q,H04 p q]at b
 split at b
 ·rename_i f l x
  split at b
  ·rename_i C
   unfold Oper.wp
   rw[p08 x C,Oper.upon_enter]
   refine(b.run w (C07 s1)).mono ?_
   rintro e I ⟨v,u,rfl,y,A⟩
   obtain⟨t,E⟩:=s1.moved A
   exact⟨.val v,i,u,v,be,oe,t,y,rfl,E,rfl,d⟩
  ·exact b.elim
 ·obtain⟨n,k,G,m,g,z⟩:=B9 _ _ _ (C07 s1) b
  obtain⟨j,s2⟩:=s1.moved z
  cases n with
  |value v=>exact B7 m ⟨.val v,i,k,v,be,oe,j,g,rfl,s2,rfl,d⟩
  |skip=>exact r08 m ⟨.val undef,i,k,undef,be,oe,j,g,rfl,s2,rfl,d⟩
  |_=>exact g.elim
theorem Sim.still(s:Sim P h0 w0 be oe H st h a w){hf:Hp}{d:World}(f:∀ b o,hf b=some o->H b=some o)(m:T2 hf w hf d):Sim P h0 w0 be oe H st h a d:=by
 refine⟨s.mv.trans ⟨m.os,m.tape,m.output,m.size,?_,?_,λb c => .inl c,m.fz,m.dn⟩,s.sub,s.box,s.pub,s.own,s.frz,s.bb,s.oo,s.bo,s.dfr,s.siz,s.fr⟩
 ·intro b c i
  refine m.keep b c ?_
  cases hc:hf b with
  |none=>rfl
  |some o=>grind
 ·intro b o c
  cases hc:hf b with
  |some g =>
   have:=f b g hc
   rw[this]at c;cases c
   exact m.vis b _ hc
  |none=>rw[m.keep b (s.mv.vis.lt (by rw[c];simp)) hc];exact s.mv.vis b o c
theorem N0i(s:Sim P h0 w0 be oe H st h a w){o:Oper}{K:AV->St->Hp->Prop}{Q:Exit->Act->World->Prop}(c:u0o P o st h K):o.wp P a w (Nx P h0 w0 st be oe K a o.dst) Q:=by
 unfold u0o at c
 split at c
 ·exact c.elim
 rename_i q
 obtain⟨vs,t,n,b,s1,_,k,m⟩:=f02 _ s c
 rw[H04 k m]at b
 split at b
 ·rename_i f l d
  split at b
  ·rename_i j
   unfold Oper.wp
   rw[p08 d j,Oper.upon_enter]
   refine(b.run w (C07 s1)).mono ?_
   rintro e u ⟨v,p,rfl,⟨rfl,g⟩,i⟩
   exact⟨.val v,st,h,v,be,oe,H,g,rfl,s.still s1.sub i,rfl,J6.refl _ _ _⟩
  ·exact b.elim
 ·exact b.elim
theorem x00(s:Sim P h0 w0 be oe H st h a w){o:Oper}{K:AV->St->Hp->Prop}{Q:Exit->Act->World->Prop}(b:E0k P o st h K):o.wp P a w (Nx P h0 w0 st be oe K a o.dst) Q:=by
 unfold E0k at b
 split at b
 ·rcases b with b|b
  ·exact I8 s b
  ·exact N0i s b
 ·exact I8 s b
theorem k09(s:Sim P h0 w0 be oe H st h a w){o:Oper}{K:AV->St->Hp->Prop}{Q:Exit->Act->World->Prop}(c:w0o P o st h K):o.wp P a w (Nx P h0 w0 st be oe K a o.dst) Q:=by
 unfold w0o at c
 split at c
 ·exact c.elim
 rename_i z
 obtain⟨vs,p,A,b,s1,g,l,m⟩:=f02 _ s c
 rw[H04 l m]at b
 split at b
 ·exact b.elim
 obtain⟨v,u,q,j⟩:=b
 have f:=q (λn t=>(n = .value v∨n = .skip/\v=undef)/\t=u) ⟨⟨.inl rfl,rfl⟩,λe=>⟨.inr ⟨rfl,e⟩,rfl⟩⟩
 rw[f0a,q08 z l m]at f
 obtain⟨n,i,C,k,⟨y,rfl⟩,x⟩:=B9 _ _ _ (C07 s1) f
 obtain⟨d,s2⟩:=s1.moved x
 rcases y with rfl|⟨rfl,rfl⟩
 ·exact B7 k ⟨.val v,p,i,v,be,oe,d,j,rfl,s2,rfl,g⟩
 ·exact r08 k ⟨.val undef,p,i,undef,be,oe,d,j,rfl,s2,rfl,g⟩
end
section
variable {P:Program}
theorem K5{t:TypeId}{d:TypeDesc}(a:P.underlying t=some d)(h:Hp)(K:TypeDesc->Hp->Prop):wpS P (underlying t) h K=K d h:=by
 grind[underlying,program,J2,wpS,Q2]
theorem h0a{t:TypeId}{i:TypeInfo}(a:P.info? t=some i)(h:Hp)(K:TypeInfo->Hp->Prop):wpS P (typeInfo t) h K=K i h:=by
 grind[typeInfo,program,J2,wpS,Q2]
theorem Y00{t:TypeId}{n:Nat}(a:I5 P t=some n)(h:Hp)(K:Nat->Hp->Prop):wpS P (sizeOf t) h K=K n h:=by
 grind[I5,sizeOf,J2,h0a,Q2]
theorem i0a{t:TypeId}{z:Value}(a:F00 P t=some z)(h:Hp)(K:Value->Hp->Prop):wpS P (zeroValue t) h K=K z h:=by
 grind[F00,zeroValue,J2,h0a,Q2]
theorem s08{t:TypeId}{b:Bool}(a:i0h P t=some b)(h:Hp)(K:Bool->Hp->Prop):wpS P (isAgg t) h K=K b h:=by
 unfold i0h at a
 grind[isAgg,J2,K5,Q2,absurd]
theorem i05{H:Hp}{b o:Nat}:∀(vs:List Value) (i:Nat) (acc:Array Value) (K:Array Value->Hp->Prop),(∀ j v,vs[j]?=some v->Hp.cell H b (o+i+j)=some v) ->
  K (acc++vs.toArray) H->wpS P (loadCellsFrom ⟨b,o,none⟩ i vs.length acc) H K
 | [],i,acc,K,_,c=>by grind[loadCellsFrom,Q2]
 |v::vs,i,acc,K,a,c=>by
  have h0:=a 0 v (by simp)
  simp only[loadCellsFrom,List.length_cons,J2,load,wpS]
  have d:(⟨b,o,none⟩:Addr).add i=⟨b,o+i,none⟩:=by unfold Addr.add;split<;>simp_all
  rw[d]
  refine⟨v,⟨rfl,by simpa using h0⟩,i05 vs (i+1) (acc.push v) K ?_ ?_⟩
  ·intro j u f
   have:=a (j+1) u (by simpa using f)
   grind
  ·simpa using c
theorem B02{a:Type}:∀(l:List a) (n:Nat),w06 l n=true->l.length=n
 | [],0,_=>rfl
 |_::r,k+1,h=>by simp[B02 r k h]
 | [],_+1,h=>by cases h
 |_::_,0,h=>by cases h
variable {h0:Hp} {w0:World} {be:Nat->Nat} {oe:Nat->Value} {H:Hp} {st:St} {h:Hp} {a:Act} {w:World}
theorem A2.ofCell{st:St}{be:Nat->Nat}{oe:Nat->Value}{c:A5}{v:Value}(g:H0d st oe c v):A2 st be oe (ofCell c) v:=by
 cases c with
 |val u=>exact g
 |own i k=>exact g
theorem load_row{t:TypeId}{cs:List A5}{vs:List Value}{off:Nat}{K:AV->Prop}{b o:Nat}(a:z04 P t cs off K)(g:Z1 st oe cs vs)
  (s:∀ j v,vs[j]?=some v->Hp.cell H b (o+j)=some v):∃ av v,K av/\A2 st be oe av v/\∀ d:Value->Hp->Prop,d v H->wpS P (loadVar t ⟨b,o+off,none⟩) H d:=by
 unfold z04 at a
 split at a
 ·rename_i f
  split at a
  ·rename_i n h
   split at a
   ·rename_i p
    have q:=B02 _ _ p
    have i:=(g.drop off).take n
    refine⟨_,.agg ((vs.drop off).take n).toArray,a,⟨_,rfl,i⟩,λd m=>?_⟩
    have w:((vs.drop off).take n).length=n:=by rw[←i.length,q]
    simp only[loadVar,J2,s08 f,if_true,Y00 h,loadCells]
    have:=i05 (P:=P) (H:=H) (b:=b) (o:=o+off) ((vs.drop off).take n) 0 #[] (λx l=>wpS P (pure (Value.agg x)) l d) (λj v u=>by
     grind) (by grind[Q2])
    grind
   ·exact a.elim
  ·exact a.elim
 ·rename_i f
  split at a
  ·rename_i c h
   obtain⟨v,hv,k⟩:=g.nth h
   refine⟨_,v,a,A2.ofCell k,λd m=>?_⟩
   simp only[loadVar,J2,s08 f,Bool.false_eq_true,if_false,load,wpS]
   grind
  ·exact a.elim
 ·exact a.elim
theorem Hp.set_set(h:Hp)(b:Nat)(x y:Obj):(h.set b x).set b y=h.set b y:=by
 funext k;simp only[Hp.set];split<;>rfl
theorem i0s{v:Value}(h:v.oneCell'=true):T02 v:=by cases v<;>simp_all [Value.oneCell',T02]
theorem I04{b:Nat}{t:TypeId}:∀(a:List Value) (cur:List Value) (off i:Nat) (K:Unit->Hp->Prop) (H:Hp),H b=some (.cells cur.toArray t (0,0)) ->
  off+i+a.length<=cur.length->(∀ v∈a,v.oneCell'=true)->K () (H.set b (.cells (U2 cur (off+i) a).toArray t (0,0)))->wpS P (storeCells ⟨b,off,none⟩ a i) H K
 | [],cur,off,i,K,H,f,_,_,c=>by
  have:H.set b (.cells cur.toArray t (0,0))=H:=by
   grind[Hp.set]
  simp only[U2,this]at c
  exact c
 |n::a,cur,off,i,K,H,f,h,d,c=>by
  simp only[storeCells,J2,store,wpS]
  have g:(⟨b,off,none⟩:Addr).add i=⟨b,off+i,none⟩:=by unfold Addr.add;split<;>simp_all
  rw[g]
  simp only[List.length_cons]at h
  refine⟨cur.toArray,t,(0,0),⟨f,rfl,by simp;omega,by simp,i0s (d n mS)⟩,?_⟩
  refine I04 (t:=t) a (cur.set (off+i) n) off (i+1) K _ (by simp[Hp.set]) (by simp;omega) (λv hv=>d v (mC _ hv)) ?_
  grind[Hp.set_set,U2,Nat.add_assoc]
theorem s04:∀(a cs:List Value) (off:Nat),splice cs off a=U2 cs off a
 | [],cs,off=>rfl
 |n::a,cs,off=>by simp only[splice,U2,d0a,s04 a]
theorem I0d(s:Sim P h0 w0 be oe H st h a w){i k:Nat}{e sz by_:Nat}{nn:Bool}{xs:List (List Value)}(d:nth st.ow i=some ⟨k,.live e sz by_ nn xs⟩):∃ x n c,oe i = .slice x n c:=by
 rcases(s.own i _ _ _ _ _ _ d).2 with⟨b,_⟩|⟨g,cap,cur,b,_⟩
 all_goals grind
theorem j04(s:Sim P h0 w0 be oe H st h a w){x:Operand}{cs:List A5}(b:V9 (rdO st x)=some cs):Z1 st oe cs (a.eval x).cells.toList:=by
 have g:=s.rdO x
 cases hr:rdO st x with
 |val v =>
  rw[hr]at b g
  have hv:a.eval x=v:=g
  rw[hv]
  cases v<;>simp only[V9,Option.some.injEq]at b<;>first|(subst b;first|exact Z1.vals _ _ _|exact⟨rfl,trivial⟩)|cases b
 |own i k =>
  rw[hr]at b g
  obtain⟨e,sz,by_,nn,xs,d⟩:=z06 hr
  simp only[V9,Option.some.injEq]at b
  subst b
  have f:a.eval x=oe i:=g.own_cur d
  obtain⟨m,n,c,j⟩:=I0d s d
  rw[f,j]
  rw[f,j]at g
  exact⟨g,trivial⟩
 |agg cs' =>
  rw[hr]at b g
  simp only[V9,Option.some.injEq]at b
  subst b
  obtain⟨vs,hv,l⟩:=g
  rw[hv]
  exact l
 |_=>rw[hr]at b;cases b
theorem k04(s:Sim P h0 w0 be oe H st h a w):∀(cs:List A5) (vs:List Value),f05 st cs=true->Z1 st oe cs vs->∀ v∈vs,v.oneCell'=true
 | [],[],_,_,v,hv=>by cases hv
 | .val u::r,x::vs,b,g,v,hv=>by
  simp only[f05]at b
  split at b
  ·rename_i f
   rcases List.mem_cons.1 hv with rfl|hv
   ·have:v=u:=g.1
    rw[this];exact f
   ·exact k04 s r vs b g.2 v hv
  ·cases b
 | .own i k::r,x::vs,b,g,v,hv=>by
  have d:A2 st be oe (rdA st (.own i k)) x:=s.rdA (av := .own i k) g.1
  simp only[f05]at b
  split at b
  ·rename_i j l m
   rcases List.mem_cons.1 hv with rfl|hv
   ·rw[m]at d
    obtain⟨e,sz,by_,nn,xs,o⟩:=y06 m
    obtain⟨t,n,c,q⟩:=I0d s o
    rw[d.own_cur o,q];rfl
   ·exact k04 s r vs b g.2 v hv
  ·rename_i u p
   split at b
   ·rename_i f
    rcases List.mem_cons.1 hv with rfl|hv
    ·rw[p]at d
     have:v=u:=d
     rw[this];exact f
    ·exact k04 s r vs b g.2 v hv
   ·cases b
  ·cases b
 | [],_::_,_,g,_,_=>g.elim
 |_::_,[],_,g,_,_=>g.elim
theorem I03:∀(vs:List Value),A04 vs=true->∀ v∈vs,v.oneCell'=true
 | [],_,v,hv=>by cases hv
 |x::r,a,v,hv=>by
  simp only[A04]at a
  split at a
  ·rename_i b
   rcases List.mem_cons.1 hv with rfl|hv
   ·exact b
   ·exact I03 r a v hv
  ·cases a
end
section
variable {P:Program} {h0:Hp} {w0:World} {be:Nat->Nat} {oe:Nat->Value} {H:Hp} {st:St} {h:Hp} {a:Act} {w:World} {o:Oper} {K:AV->St->Hp->Prop} {Q:Exit->Act->World->Prop}
theorem u01(b o n:Nat):(⟨b,o,none⟩:Addr).add n=⟨b,o+n,none⟩:=by unfold Addr.add;split<;>simp_all
theorem F6(s:Sim P h0 w0 be oe H st h a w){av:AV}{v:Value}(k:∀ c:Next->Hp->Prop,c (.value v) H->wpS P (execOp a.eval o) H c)(g:A2 st be oe av v)(f:K av st h):
  o.wp P a w (Nx P h0 w0 st be oe K a o.dst) Q:=by
 obtain⟨n,b,m,j,⟨rfl,rfl⟩,i⟩:=B9 _ _ _ s.mv.vis (k (λn b=>n = .value v/\b=H) ⟨rfl,rfl⟩)
 have l:Sim P h0 w0 be oe b st h a m:=s.still (hf:=b) (λ_ _ d=>d) i
 exact B7 j ⟨av,st,h,v,be,oe,b,f,rfl,l,g,J6.refl _ _ _⟩
theorem P7{P:Program}(s:Sem Value)(H:Hp)(a:Next->Hp->Prop)(h:wpS P s H (λv H=>a (.value v) H)):wpS P (do pure (Next.value (←s))) H a:=by
 rw[J2];exact h
theorem j0s{P:Program}(s:Sem Unit)(H:Hp)(a:Next->Hp->Prop)(h:wpS P s H (λ_ H=>a .skip H)):wpS P (do s;pure Next.skip) H a:=by
 rw[J2];exact h
theorem X0l(s:Sim P h0 w0 be oe H st h a w){x:Operand}(c:o.op = .move x∨o.op = .assign x)(b:match rdO st x with | .dead=>False|a=>K a st h):o.wp P a w (Nx P h0 w0 st be oe K a o.dst) Q:=by
 have d:K (rdO st x) st h:=by
  revert b;cases rdO st x<;>intro b<;>first|exact b|exact b.elim
 refine F6 s (v:=a.eval x) (λg f=>?_) (s.rdO x) d
 unfold execOp
 rcases c with c|c<;>rw[c]<;>exact f
theorem k0s(s:Sim P h0 w0 be oe H st h a w){t:TypeId}{x:Operand}(m:o.op = .box t x){cs:List A5}(l:V9 (rdO st x)=some cs)
  (f:newBox st cs t λav st=>K av st h):o.wp P a w (Nx P h0 w0 st be oe K a o.dst) Q:=by
 have g:=j04 s l
 have q:wpS P (execOp a.eval o) H (λn d=>∃ b,H b=none/\n = .value (ptr b 0)/\d=H.set b (.cells (a.eval x).cells t (0,0))):=by
  unfold execOp;rw[m]
  refine P7 _ _ _ ?_
  simp only[Instr.box,newVar,newRow,newObj,J2,Q2,wpS]
  exact λb c=>⟨b,c,rfl,rfl⟩
 obtain⟨n,d,v,p,⟨b,c,rfl,rfl⟩,i⟩:=B9 _ _ _ s.mv.vis q
 have k:(a.eval x).cells=(a.eval x).cells.toList.toArray:=by simp
 rw[k]at i
 rw[l0b]at f
 obtain⟨u,j⟩:=s.newBox g c i
 exact B7 p ⟨_,_,h,_,_,_,_,f,rfl,u,⟨by simp,by simp⟩,j⟩
theorem L0o(s:Sim P h0 w0 be oe H st h a w){t:TypeId}(k:o.op = .alloc t){z:Value}(p:F00 P t=some z)
  (f:newBox st (vals z.cells.toList) t λav st=>K av st h):o.wp P a w (Nx P h0 w0 st be oe K a o.dst) Q:=by
 have m:wpS P (execOp a.eval o) H (λn d=>∃ b,H b=none/\n = .value (ptr b 0)/\d=H.set b (.cells z.cells t (0,0))):=by
  unfold execOp;rw[k]
  refine P7 _ _ _ ?_
  simp only[Instr.alloc,newVar,newRow,newObj,J2,i0a p,Q2,wpS]
  exact λb c=>⟨b,c,rfl,rfl⟩
 obtain⟨n,d,u,l,⟨b,c,rfl,rfl⟩,g⟩:=B9 _ _ _ s.mv.vis m
 have j:z.cells=z.cells.toList.toArray:=by simp
 rw[j]at g
 rw[l0b]at f
 obtain⟨q,i⟩:=s.newBox (Z1.vals st oe _) c g
 exact B7 l ⟨_,_,h,_,_,_,_,f,rfl,q,⟨by simp,by simp⟩,i⟩
theorem T0f{t:TypeId}{k a:Nat}(c:j0h P t k=some a):∃ b f n,P.underlying t=some (.struct b)/\b[k]?=some f/\I5 P f.type=some (n+1)/\f.offset=a:=by
 grind[j0h]
theorem m0n{t:TypeId}{j:Int}{b:Nat}(a:r0o P t j=some b):∃ n e sz,P.underlying t=some (.array n e)/\I5 P e=some (sz+1)/\0<=j/\j<(n:Int)/\b=j.toNat*(sz+1):=by
 unfold r0o at a
 split at a
 ·rename_i n e m f
  split at a
  ·rename_i sz d c
   cases a
   refine⟨n,e,sz,f,d,Int.natCast_nonneg m,?_,rfl⟩
   have:m<n:=by simpa [Nat.blt_eq] using c
   exact Int.ofNat_lt.2 this
  ·cases a
 ·cases a
theorem A06{t:TypeId}{x i:Operand}{k:IntKind}{j:Int}{d b off:Nat}(m:o.op = .indexAddr t x i)(q:r0o P t j=some d)(u:a.eval x=ptr b off)(h:a.eval i = .int k j):
  ∀ c:Next->Hp->Prop,c (.value (ptr b (off+d))) H->wpS P (execOp a.eval o) H c:=by
 intro c l
 obtain⟨n,e,sz,s,p,f,g,rfl⟩:=m0n q
 unfold execOp;rw[m]
 refine P7 _ _ _ ?_
 simp only[Instr.indexAt,u,h,asIntOf,J2,Q2,K5 s,f,g,and_self,if_true,Y00 p,u01,ptr,Instr.sureAddr]
 exact l
theorem exec_fieldAddr{t:TypeId}{x:Operand}{k d b off:Nat}(i:o.op = .fieldAddr t x k)(j:j0h P t k=some d)(m:a.eval x=ptr b off):
  ∀ c:Next->Hp->Prop,c (.value (ptr b (off+d))) H->wpS P (execOp a.eval o) H c:=by
 intro c g
 obtain⟨p,f,n,l,hf,h,rfl⟩:=T0f j
 unfold execOp;rw[i]
 refine P7 _ _ _ ?_
 simp only[Instr.fieldAt,J2,K5 l,hf,m,ptr,Instr.sureAddr,Q2,fieldPlace,Y00 h,Nat.add_one_ne_zero,if_false,u01]
 exact g
theorem u0h(s:Sim P h0 w0 be oe H st h a w){t:TypeId}{x:Operand}{k:Nat}(p:o.op = .fieldAddr t x k)
  (m:match rdO st x,j0h P t k with
  | .box i off,some d=>K (.box i (off+d)) st h
  | .hel s i sz k,some d=>K (.hel s i sz (k+d)) st h
  | .oel i s j sz k,some d=>K (.oel i s j sz (k+d)) st h
  | .val (.pointer (some ⟨b,off,none⟩)),some d=>K (.val (ptr b (off+d))) st h
  |_,_=>False):o.wp P a w (Nx P h0 w0 st be oe K a o.dst) Q:=by
 have g:=s.rdO x
 split at m
 ·rename_i i off d f l
  rw[f]at g
  exact F6 s (av := .box i (off+d)) (exec_fieldAddr p l g.2) ⟨g.1,rfl⟩ m
 ·rename_i sl i sz v d f l
  rw[f]at g
  obtain⟨b,A,n,c,q,u⟩:=g
  refine F6 s (av := .hel sl i sz (v+d)) (exec_fieldAddr p l u) ⟨b,A,n,c,q,?_⟩ m
  simp[Nat.add_assoc]
 ·rename_i i C j sz v d f l
  rw[f]at g
  obtain⟨e,E,by_,nn,xs,z⟩:=t0h f
  obtain⟨y,n,c,q,u⟩:=g.oel_cur z
  obtain⟨D,g1,g2,g3⟩:=g
  refine F6 s (av := .oel i C j sz (v+d)) (exec_fieldAddr p l u) ⟨D,g1,g2,λ_=>⟨y,n,c,q,by simp[Nat.add_assoc]⟩⟩ m
 ·rename_i b off d f l
  rw[f]at g
  exact F6 s (av := .val (ptr b (off+d))) (exec_fieldAddr (b:=b) (off:=off) p l g) rfl m
 ·exact m.elim
theorem g9{t e:TypeId}(a:V00 P t=some e):P.underlying t=some (.slice e):=by
 grind[V00]
theorem exec_indexAddr{t e:TypeId}{x i:Operand}{k:IntKind}{j:Int}{sz b off n c:Nat}(m:o.op = .indexAddr t x i)(q:V00 P t=some e)(p:I5 P e=some sz)
  (u:a.eval x = .slice (some ⟨b,off,none⟩) n c) (h:a.eval i = .int k j) (f:0<=j) (g:j<(n:Int)) :
  ∀ d:Next->Hp->Prop,d (.value (ptr b (off+j.toNat*sz))) H->wpS P (execOp a.eval o) H d:=by
 intro d l
 have s:=g9 q
 unfold execOp;rw[m]
 refine P7 _ _ _ ?_
 simp only[Instr.indexAt,u,h,asIntOf,J2,Q2,K5 s,f,g,and_self,if_true,Y00 p,u01]
 exact l
theorem O0i(s:Sim P h0 w0 be oe H st h a w){t:TypeId}{x:Operand}{i off:Nat}{cs:List A5}{ty:TypeId}(m:o.op = .load t x)(n:rdO st x = .box i off)
  (l:nth st.bx i=some (.live cs ty)) (f:z04 P t cs off λav=>K av st h):o.wp P a w (Nx P h0 w0 st be oe K a o.dst) Q:=by
 have g:=s.rdO x
 rw[n]at g
 obtain⟨y,vs,c,d⟩:=s.box i cs ty l
 obtain⟨av,v,p,q,A⟩:=load_row (H:=H) (b:=be i) (o:=0) (be:=be) f c (λj v k=>by simp[Hp.cell,d,k])
 refine F6 s (λu z=>?_) q p
 unfold execOp;rw[m]
 refine P7 _ _ _ ?_
 rw[g.2]
 grind[Instr.loadAt,ptr,Instr.sureAddr,J2,Q2]
theorem P0i(s:Sim P h0 w0 be oe H st h a w){t:TypeId}{x:Operand}{sl:Value}{idx:Int}{sz k:Nat}{c:List Value}(u:o.op = .load t x)(z:rdO st x = .hel sl idx sz k)
  (l:N4 h sl sz idx c) (p:z04 P t (vals c) k λav=>K av st h):o.wp P a w (Nx P h0 w0 st be oe K a o.dst) Q:=by
 have g:=s.rdO x
 rw[z]at g
 obtain⟨b,D,n,G,f,i⟩:=g
 obtain⟨_,_,F,N,M,I,d,m⟩:=l
 rw[f]at d;cases d
 obtain⟨av,v,A,C,L⟩:=load_row (H:=H) (b:=b) (o:=D+idx.toNat*sz) (be:=be) p (Z1.vals st oe c) (λj v q=>by
  have:=m j v q
  unfold Hp.cell at this ⊢
  split at this
  ·rename_i y;rw[s.sub _ _ y];exact this
  ·cases this)
 refine F6 s (λE J=>?_) C A
 unfold execOp;rw[u]
 refine P7 _ _ _ ?_
 rw[i]
 simp only[Instr.loadAt,ptr,Instr.sureAddr,J2,Q2]
 grind
theorem J03{sz:Nat}:∀(xs:List (List Value)) (i:Nat) (c:List Value),(∀ x∈xs,x.length=sz)->xs[i]?=some c->∀ j v,c[j]?=some v->xs.flatten[i*sz+j]?=some v
 | [],i,c,_,h,j,v,hv=>by simp at h
 |x::xs,0,c,a,h,j,v,hv=>by
  grind
 |x::xs,i+1,c,a,h,j,v,hv=>by
  simp at h
  have f:=a x mS
  have:=J03 xs i c (λd b=>a d (mC _ b)) h j v hv
  grind
theorem X05.cells{h H:Hp}{v:Value}{e sz:Nat}{nn:Bool}{xs:List (List Value)}(b:X05 h H v e sz nn xs){g n c:Nat}(hv:v = .slice (some ⟨g,0,none⟩) n c):
  ∀ j u,xs.flatten[j]?=some u->Hp.cell H g j=some u:=by
 intro j u i
 rcases b.2 with⟨a,_⟩|⟨d,cap,cur,a,_,f,_,_,_,k⟩
 all_goals grind[Hp.cell]
theorem Q0i(s:Sim P h0 w0 be oe H st h a w){t:TypeId}{x:Operand}{i F:Nat}{idx:Int}{sz k:Nat}{G e by_:Nat}{nn:Bool}{xs:List (List Value)}{c:List Value}
  (A:o.op = .load t x) (f:rdO st x = .oel i F idx sz k) (y:nth st.ow i=some ⟨G,.live e sz by_ nn xs⟩)
  (p:xs[idx.toNat]?=some c) (q:z04 P t (vals c) k λav=>K av st h):o.wp P a w (Nx P h0 w0 st be oe K a o.dst) Q:=by
 have g:=s.rdO x
 rw[f]at g
 obtain⟨M,T,J,S,U,z⟩:=t0h f
 obtain⟨m,n,L,l,N⟩:=g.oel_cur z
 have d:=s.own i _ _ _ _ _ _ y
 obtain⟨av,v,D,E,R⟩:=load_row (H:=H) (b:=m) (o:=idx.toNat*sz) (be:=be) q (Z1.vals st oe c) (λj v u =>
  d.cells l _ _ (J03 xs _ c (λx C=>(d.1 x C).1) p j v u))
 refine F6 s (λI O=>?_) E D
 unfold execOp;rw[A]
 refine P7 _ _ _ ?_
 grind[Instr.loadAt,ptr,Instr.sureAddr,J2,Q2]
theorem B06{t:TypeId}{p x:Operand}{b off n:Nat}{cur:List Value}{ty:TypeId}(f:o.op = .store t p x)(h:I5 P t=some n)(g:a.eval p=ptr b off)
  (d:(a.eval x).cells.toList.length=n) (j:∀ v∈(a.eval x).cells.toList,v.oneCell'=true) (k:H b=some (.cells cur.toArray ty (0,0))) (l:off+n<=cur.length) :
  ∀ c:Next->Hp->Prop,c .skip (H.set b (.cells (U2 cur off (a.eval x).cells.toList).toArray ty (0,0)))->wpS P (execOp a.eval o) H c:=by
 intro c m
 unfold execOp;rw[f]
 refine j0s _ _ _ ?_
 rw[g]
 have i:(a.eval x).cells.size=n:=by simpa using d
 simp only[Instr.storeAt,ptr,Instr.sureAddr,J2,Q2,storeVar,Y00 h,i,ne_eq,not_true_eq_false,if_false]
 grind[I04]
theorem v0h(s:Sim P h0 w0 be oe H st h a w){t:TypeId}{p x:Operand}{i off n:Nat}{cs new:List A5}{ty:TypeId}(C:o.op = .store t p x)(D:rdO st p = .box i off)
  (k:nth st.bx i=some (.live cs ty)) (v:V9 (rdO st x)=some new) (F:I5 P t=some n) (y:w06 new n=true) (m:f05 st new=true)
  (b:h0n cs off new λcs=>K (.val undef) { st with bx:=w00 st.bx i (.live cs ty) } h):o.wp P a w (Nx P h0 w0 st be oe K a o.dst) Q:=by
 have g:=s.rdO p
 rw[D]at g
 have c:=j04 s v
 have q:=k04 s _ _ m c
 have z:=B02 _ _ y
 obtain⟨L,vs,f,u⟩:=s.box i cs ty k
 unfold h0n at b
 split at b
 ·rename_i j
  have j:=Nat.le_of_ble_eq_true j
  have I:(a.eval x).cells.toList.length=n:=by rw[←c.length,z]
  have G:=B06 (H:=H) (P:=P) (a:=a) C F g.2 I q u (by rw[←f.length];omega)
  obtain⟨M,d,N,E,⟨rfl,rfl⟩,A⟩:=B9 _ _ _ s.mv.vis (G (λn d=>n = .skip/\d=_) ⟨rfl,rfl⟩)
  obtain⟨J,l⟩:=s.updBox k (f.splice c) A
  exact r08 E ⟨_,_,h,_,_,_,_,b,rfl,J,rfl,l⟩
 ·exact b.elim
end
section
variable {P:Program} {h0:Hp} {w0:World} {be:Nat->Nat} {oe:Nat->Value} {H:Hp} {st:St} {h:Hp} {a:Act} {w:World} {o:Oper} {K:AV->St->Hp->Prop} {Q:Exit->Act->World->Prop}
theorem J01{sz:Nat}:∀(xs:List (List Value)),(∀ x∈xs,x.length=sz)->xs.flatten.length=xs.length*sz
 | [],_=>by simp
 |x::xs,a=>by
  have:=J01 xs (λc b=>a c (mC _ b))
  grind
def Y0l(w:World)(d:Value)(sz:Nat)(a:List (List Value)):Prop :=
 (∀ x∈a,x.length=sz/\∀ v∈x,v.oneCell'=true) /\
 ((∃ b c,d = .slice (some b) a.length c/\∀ j u,a.flatten[j]?=some u->w.cell? (b.add j)=some u)∨(∃ c,d = .slice none 0 c/\a = []))
theorem T2.newD{H:Hp}{w:World}(hv:Vis H w)(x:Obj)(a:G0q x=true):T2 H w (H.set w.heap.size x) (w.drew.alloc x) :=
 (T2.drawn hv (w.drawn+1) (Nat.le_succ _)).trans (T2.new (w:=w.drew) hv x a)
theorem w02{H:Hp}{w:World}(hv:Vis H w):H w.heap.size=none:=by
 cases hc:H w.heap.size with
 |none=>rfl
 |some x=>exact absurd (hv.lt (b:=w.heap.size) (by simp[hc])) (Nat.lt_irrefl _)
theorem J0d{h H:Hp}(k:∀ b o,h b=some o->H b=some o){g:Nat}(j:H g=none){e sz cap:Nat}{nn:Bool}{xs:List (List Value)}{cur:Array Value}
  (a:∀ x∈xs,x.length=sz/\∀ v∈x,v.oneCell'=true) (c:xs.length<=cap) (d:cap<=maxLen) (f:cur.size=cap*sz) (i:cur.toList.take (xs.length*sz)=xs.flatten) :
  X05 h (H.set g (.cells cur e (0,0))) (.slice (some ⟨g,0,none⟩) xs.length cap) e sz nn xs:=by
 refine⟨a,.inr ⟨g,cap,cur,rfl,?_,by simp[Hp.set],c,d,f,i⟩⟩
 cases hc:h g with
 |none=>rfl
 |some o=>grind
theorem s0c{t e ty sz by_:Nat}{i:TypeInfo}{z:Value}(m:P.underlying t=some (.slice e))(l:P.info? e=some i)(S:i.zero=some z)(am:i.size=sz)(ap:0<sz)
  (Y:i.bytes=by_) (X:0<by_) (an:z.cells.size=sz) {v:Value} {nn:Bool} {xs:List (List Value)} (q:X05 h H v e sz nn xs) (hv:Vis H w) (al:∀ b o,h b=some o->H b=some o)
  {V:Value} {a:List (List Value)} (G:Y0l w V sz a) (O:u07 (xs.length+a.length) by_) :
  ∃ A U C,(Builtin.append_ #[t,t] ty #[v,V]).run P w = .ok A U/\T2 H w C U/\X05 h C A e sz (nn || G03 a) (xs++a) /\
   (∀ b,v.ownBlock≠some b->H b≠none->C b=H b)/\(∀ g,A.ownBlock=some g->v.ownBlock=some g∨H g=none)/\(a = []->A=v):=by
 subst am
 subst Y
 have ai:xs.length+a.length<=140737488355328:=Nat.le_trans (Nat.le_mul_of_pos_right _ X) O
 have ah:((xs.length+a.length:Nat):Int)<=9223372036854775807:=by omega
 have J:∀ x∈xs++a,x.length=i.size/\∀ v∈x,v.oneCell'=true:=λx d=>by
  rcases List.mem_append.1 d with d|d
  ·exact q.1 x d
  ·exact G.1 x d
 have K:=J01 xs (λx d=>(q.1 x d).1)
 have p:=J01 a (λx d=>(G.1 x d).1)
 have ak:∀ u∈a.flatten,u.oneCell'=true:=λu ar=>by
  grind[List.mem_flatten]
 have Z:∀ f,grownCap w (xs.length+a.length) f e<=maxLen:=λf=>grownCap_le_maxLen w _ f e (by unfold maxLen;omega)
 have grown:∀ f,X05 h (H.set w.heap.size (.cells (xs.flatten.toArray++a.flatten.toArray++Builtin.zeroCells z.cells (grownCap w (xs.length+a.length) f e-(xs.length+a.length))) e (0,0)))
   (.slice (some ⟨w.heap.size,0,none⟩) (xs++a).length (grownCap w (xs.length+a.length) f e)) e i.size (nn || G03 a) (xs++a):=λf=>by
  have ae:=grownCap_ge w (xs.length+a.length) f e
  refine J0d al (w02 hv) J (by simpa using ae) (Z f) ?_ ?_
  ·simp only[Array.size_append,List.size_toArray,K,p,size_zeroCells,an,←Nat.add_mul]
   congr 1;omega
  ·simp only[Array.toList_append,List.flatten_append,List.append_assoc,List.length_append]
   rw[←List.append_assoc,List.take_append_of_le_length (by grind),List.take_of_length_le (by grind)]
 have Q:a = []->X05 h H v e i.size (nn || G03 a) (xs++a):=λF=>by grind[G03]
 have T:∀(x:Obj) b,v.ownBlock≠some b->H b≠none->(H.set w.heap.size x) b=H b:=λx b _ ao=>Hp.set_other _ _ (λe=>by grind[w02])
 rcases G.2 with⟨D,c,rfl,E⟩|⟨c,rfl,I⟩
 ·rcases q.2 with⟨rfl,rfl,rfl⟩|⟨g,cap,cur,rfl,ad,M,N,aa,ab,aq⟩
  ·by_cases hm:a.length=0
   ·have I:a = []:=List.eq_nil_of_length_eq_zero hm
    refine⟨_,w,H,?_,T2.refl hv,Q I,λ_ _ _=>rfl,λg y => .inl y,λ_=>rfl⟩
    simp[Builtin.append_,run_underlying m,sizeOf,typeInfo,l,Builtin.lenOf,Builtin.firstCells,loadCells,loadCellsFrom,hm]
   ·have s:=run_append_nil (P:=P) w t ty e i z m l S D a.length c a.flatten p E (by omega) (by simp at ai;omega) (by grind[u07])
    have n:=grown 0
    simp only[List.length_nil,Nat.zero_add,List.nil_append,List.flatten_nil]at n
    simp only[Array.empty_append]at n
    refine⟨_,_,_,s,T2.newD hv _ rfl,by simpa using n,T _,λg y => .inr ?_,λe=>by grind⟩
    grind[Value.ownBlock,w02]
  ·have aj:∀ j u,xs.flatten[j]?=some u->w.cell? ((⟨g,0,none⟩:Addr).add j)=some u:=λj u af=>by
    rw[u01,Nat.zero_add]
    refine P05 hv rfl ?_
    exact q.cells rfl j u af
   by_cases hroom:xs.length+a.length<=cap
   ·have R:=hv _ _ M
    have ac:xs.length*i.size+a.flatten.length<=cur.size:=by rw[p,ab,←Nat.add_mul];exact Nat.mul_le_mul_right _ hroom
    have s:=run_append_room (P:=P) w t ty e i m l g xs.length cap cur R D a.length c a.flatten p E ak hroom ac
    refine⟨_,_,H.set g (.cells (cur.toList.take (xs.length*i.size)++a.flatten++cur.toList.drop (xs.length*i.size+a.flatten.length)).toArray e (0,0)),s,
     T2.upd hv M (λ_=>rfl) rfl rfl rfl (by simp) (setRow_heap w g cur _ e _ R) (λk ag=>setRow_other w g k _ ag),?_,?_,λW L => .inl L,λF=>by simp[F]⟩
    ·refine⟨J,.inr ⟨g,cap,_,by simp,ad,Hp.set_same _ _ _,by simpa using hroom,aa,?_,?_⟩⟩
     ·grind
     grind[List.flatten_append,List.length_append,Nat.add_mul,List.take_of_length_le]
    grind[Hp.set_other,Value.ownBlock]
   ·have s:=run_append_grow (P:=P) w t ty e i z m l S ⟨g,0,none⟩ xs.length cap xs.flatten K aj D a.length c a.flatten p E (by omega) ah (growslice_fits (by omega) O)
    have n:=grown cap
    refine⟨_,_,_,s,T2.newD hv _ rfl,by simpa using n,T _,λW L => .inr ?_,λF=>by grind⟩
    grind[Value.ownBlock,w02]
 ·refine⟨v,w,H,?_,T2.refl hv,Q I,λ_ _ _=>rfl,λg y => .inl y,λ_=>rfl⟩
  rcases q.2 with⟨rfl,_⟩|⟨g,cap,cur,rfl,_,_,N,_⟩
  ·simp[Builtin.append_,run_underlying m,sizeOf,typeInfo,l,Builtin.lenOf,Builtin.firstCells]
  ·simp[Builtin.append_,run_underlying m,sizeOf,typeInfo,l,Builtin.lenOf,Builtin.firstCells,N,storeCells]
theorem T08(b:Nat):∀(vs:List Value) (o:Nat) (w:World) (cur:Array Value) (ty:TypeId) (a:Nat×Nat),w.heap[b]?=some (.cells cur ty a)->(w.setCells b o vs).heap[b]?=some (.cells (U2 cur.toList o vs).toArray ty a)
 | [],o,w,cur,ty,a,h=>by simp_all[World.setCells,U2]
 |v::r,o,w,cur,ty,a,h=>by
  have c:(w.setCell ⟨b,o,none⟩ v).heap[b]?=some (.cells (cur.setIfInBounds o v) ty a):=by simp[World.setCell,Array.getElem?_modify,h]
  have:=T08 b r (o+1) _ _ _ _ c
  simp_all[World.setCells,U2]
theorem E07(b:Nat):∀(vs:List Value) (o:Nat) (w:World) (k:Nat),k≠b->(w.setCells b o vs).heap[k]?=w.heap[k]?
 | [],o,w,k,h=>rfl
 |v::r,o,w,k,h=>by
  rw[World.setCells,E07 b r (o+1) _ k h]
  simp only[World.setCell,Array.getElem?_modify]
  rw[if_neg (λe=>h e.symm)]
theorem t0c(b:Nat):∀(vs:List Value) (o:Nat) (w:World),(w.setCells b o vs).drawn=w.drawn
 | [],o,w=>rfl
 |v::r,o,w=>by
  rw[World.setCells,t0c b r (o+1)]
  unfold World.setCell
  split<;>rfl
theorem U08(b:Nat):∀(vs:List Value) (o:Nat) (w:World),(w.setCells b o vs).os=w.os/\(w.setCells b o vs).tape=w.tape/\(w.setCells b o vs).output=w.output/\(w.setCells b o vs).heap.size=w.heap.size
 | [],o,w=>⟨rfl,rfl,rfl,rfl⟩
 |v::r,o,w=>by
  obtain⟨a,c,d,f⟩:=U08 b r (o+1) (w.setCell ⟨b,o,none⟩ v)
  grind[World.setCells,World.setCell]
theorem F07:∀(a vs:List Value) (off j:Nat),off+a.length<=vs.length->(U2 vs off a)[j]?=if off<=j/\j<off+a.length then a[j-off]? else vs[j]?
 | [],vs,off,j,h=>by
  simp only[U2,List.length_nil,Nat.add_zero]
  rw[if_neg (by omega)]
 |n::a,vs,off,j,h=>by
  simp only[List.length_cons]at h
  rw[U2,F07 a _ (off+1) j (by simp;omega)]
  grind
theorem w0h{t e ty sz by_:Nat}{i:TypeInfo}{z:Value}(F:P.underlying t=some (.slice e))(D:P.info? e=some i)(an:i.zero=some z)(aj:i.size=sz)(az:0<sz)
  (X:i.bytes=by_) (W:0<by_) (ao:z.cells.size=sz) {g o n c:Nat} {xs:List (List Value)} (V:i0n h sz (.slice (some ⟨g,o,none⟩) n c) xs) (hv:Vis h w)
  {T:Value} {a:List (List Value)} (q:Y0l w T sz a) (Q:u07 (xs.length+a.length) by_) :
  ∃ R S I,(Builtin.append_ #[t,t] ty #[.slice (some ⟨g,o,none⟩) n c,T]).run P w = .ok R S/\T2 h w I S/\x0o h I sz g R (xs++a):=by
 subst aj
 subst X
 have ay:xs.length+a.length<=140737488355328:=Nat.le_trans (Nat.le_mul_of_pos_right _ W) Q
 have ad:((xs.length+a.length:Nat):Int)<=9223372036854775807:=by omega
 obtain⟨y,aw,aA,av,cur,l,U,O,L,M,p,C⟩:=V
 cases U
 have J:∀ x∈xs++a,x.length=i.size/\∀ v∈x,v.oneCell'=true:=λx f=>by
  rcases List.mem_append.1 f with f|f
  ·exact y x f
  ·exact q.1 x f
 have N:=J01 xs (λx f=>(y x f).1)
 have m:=J01 a (λx f=>(q.1 x f).1)
 have ag:∀ u∈a.flatten,u.oneCell'=true:=λu ak=>by
  obtain⟨x,f,al⟩:=List.mem_flatten.1 ak
  exact(q.1 x f).2 u al
 have ah:a = []->x0o h h i.size g (.slice (some ⟨g,o,none⟩) xs.length c) (xs++a):=λae=>by
  subst ae
  rw[List.append_nil]
  exact⟨⟨y,g,o,c,cur,l,rfl,O,L,M,p,C⟩,g,o,_,c,rfl,.inl rfl,λ_ _=>rfl⟩
 have G:=hv _ _ p
 rcases q.2 with⟨H,s,rfl,K⟩|⟨s,rfl,am⟩
 ·by_cases hroom:xs.length+a.length<=c
  ·have Y:o+xs.length*i.size+a.flatten.length<=cur.size:=by
    have:(xs.length+a.length)*i.size<=c*i.size:=Nat.mul_le_mul_right _ hroom
    rw[Nat.add_mul]at this
    rw[m]
    omega
   have ab:∀ j,j<a.flatten.length->(w.cell? ⟨g,o+xs.length*i.size+j,none⟩).isSome=true:=λj d=>by
    simp only[World.cell?,G]
    simp[show o+xs.length*i.size+j<cur.size by omega]
   have Z:∀ j,j<a.flatten.length->w.frozen? ⟨g,o+xs.length*i.size+j,none⟩=false:=λj d=>by
    rw[c02 (o := .cells cur l (0,0)) G]
    simp[e01]
   have E:=run_append_room_cells (P:=P) w t ty e i F D g o xs.length c H a.length s a.flatten m K ag hroom ab Z
   have ai:=T08 g a.flatten (o+xs.length*i.size) w cur l (0,0) G
   obtain⟨ap,aq,ar,au⟩:=U08 g a.flatten (o+xs.length*i.size) w
   refine⟨_,_,h.set g (.cells (U2 cur.toList (o+xs.length*i.size) a.flatten).toArray l (0,0)),E,
    T2.upd hv p (λ_=>rfl) ap aq ar au ai (λk ac=>E07 _ _ _ _ k ac) (Nat.le_of_eq (t0c _ _ _ _).symm),⟨J,g,o,c,_,l,by rw[List.length_append],by rw[List.length_append];exact hroom,L,?_,Hp.set_same _ _ _,λj u d=>?_⟩,g,o,_,c,rfl,.inl rfl,λb A=>Hp.set_other _ _ A⟩
   ·simpa [H8] using M
   ·rw[List.flatten_append]at d
    rw[List.getElem?_toArray,F07 _ _ _ _ (by simpa using Y)]
    by_cases hlt:j<xs.flatten.length
    ·rw[List.getElem?_append_left hlt]at d
     rw[if_neg (by omega),Array.getElem?_toList]
     exact C j u d
    ·rw[List.getElem?_append_right (by omega)]at d
     have ax:=(List.getElem?_eq_some_iff.1 d).1
     rw[if_pos (by omega),show o+j-(o+xs.length*i.size)=j-xs.flatten.length by omega]
     exact d
  ·have af:∀ j u,xs.flatten[j]?=some u->w.cell? ((⟨g,o,none⟩:Addr).add j)=some u:=λj u d=>by
    rw[u01]
    refine P05 hv rfl ?_
    simp only[Hp.cell,p]
    exact C j u d
   have E:=run_append_grow (P:=P) w t ty e i z F D an ⟨g,o,none⟩ xs.length c xs.flatten N af H a.length s a.flatten m K (by omega) ad (growslice_fits (by omega) Q)
   have aa:=grownCap_ge w (xs.length+a.length) c e
   refine⟨_,_,_,E,T2.newD hv _ rfl,⟨J,w.heap.size,0,grownCap w (xs.length+a.length) c e,_,e,by rw[List.length_append],by rw[List.length_append];exact aa,grownCap_le_maxLen w _ c e (by unfold maxLen;omega),?_,Hp.set_same _ _ _,λj u d=>?_⟩,w.heap.size,0,_,_,rfl,.inr (w02 hv),λb A=>Hp.set_other _ _ A⟩
   ·simp only[Array.size_append,List.size_toArray,N,m,size_zeroCells,ao,←Nat.add_mul,Nat.zero_add]
    refine Nat.le_of_eq ?_
    congr 1;omega
   ·rw[List.flatten_append]at d
    rw[Nat.zero_add,←Array.getElem?_toList]
    simp only[Array.toList_append]
    rw[List.getElem?_append_left (by simpa using (List.getElem?_eq_some_iff.1 d).1)]
    exact d
 ·refine⟨_,w,h,?_,T2.refl hv,ah am⟩
  simp[Builtin.append_,run_underlying F,sizeOf,typeInfo,D,Builtin.lenOf,Builtin.firstCells,O,storeCells]
theorem x0h{t e ty sz by_:Nat}{i:TypeInfo}{z:Value}(H:P.underlying t=some (.slice e))(E:P.info? e=some i)(J:i.zero=some z)(G:i.size=sz)(_:0<sz)
  (A:i.bytes=by_) (y:0<by_) (K:z.cells.size=sz) (hv:Vis h w)
  {q:Value} {a:List (List Value)} (d:Y0l w q sz a) (m:G03 a=true) (n:u07 a.length by_) :
  ∃ o p g,(Builtin.append_ #[t,t] ty #[.slice none 0 0,q]).run P w = .ok o p/\T2 h w g p/\Z0s h g sz o a:=by
 subst G
 subst A
 have L:a.length<=140737488355328:=Nat.le_trans (Nat.le_mul_of_pos_right _ y) n
 have k:=J01 a (λx I=>(d.1 x I).1)
 rcases d.2 with⟨s,c,rfl,C⟩|⟨c,rfl,f⟩
 ·by_cases hm:a.length=0
  ·have f:a = []:=List.eq_nil_of_length_eq_zero hm
   subst f;cases m
  ·have F:=run_append_nil (P:=P) w t ty e i z H E J s a.length c a.flatten k C (by omega) (by omega) (Nat.le_trans n (by decide))
   have D:=grownCap_ge w a.length 0 e
   refine⟨_,_,_,F,T2.newD hv _ rfl,⟨d.1,w.heap.size,0,grownCap w a.length 0 e,_,e,rfl,D,grownCap_le_maxLen w _ 0 e (by unfold maxLen;omega),?_,Hp.set_same _ _ _,λj u l=>?_⟩,w.heap.size,0,_,_,rfl,w02 hv,λb v=>Hp.set_other _ _ v⟩
   ·simp only[Array.size_append,List.size_toArray,k,size_zeroCells,K,←Nat.add_mul,Nat.zero_add]
    refine Nat.le_of_eq ?_
    congr 1;omega
   ·rw[Nat.zero_add,←Array.getElem?_toList]
    simp only[Array.toList_append]
    rw[List.getElem?_append_left (by simpa using (List.getElem?_eq_some_iff.1 l).1)]
    exact l
 ·subst f;cases m
theorem l09{e sz by_:Nat}{z:Value}(a:I5 P e=some sz)(b:j09 P e=some by_)(c:F00 P e=some z):∃ i,P.info? e=some i/\i.size=sz/\i.bytes=by_/\i.zero=some z:=by
 grind[I5,j09,F00]
theorem J04(s:Sim P h0 w0 be oe H st h a w){sz:Nat}(N:0<sz){b:Operand}{K:List (List Value)->Prop}(d:w0d st h sz (rdO st b) K):∃ f,K f/\Y0l w (a.eval b) sz f:=by
 have g:=s.rdO b
 unfold w0d at d
 split at d
 ·rename_i j k m
  obtain⟨L,R,J,Q,G,p⟩:=z06 m
  rw[m]at g
  simp only[p]at d
  split at d
  ·rename_i A
   have E:=Nat.eq_of_beq_eq_true A
   subst E
   refine⟨G,d,?_⟩
   have q:=s.own j _ _ _ _ _ _ p
   rw[g.own_cur p]
   refine⟨q.1,?_⟩
   rcases q.2 with⟨i,l,_⟩|⟨z,cap,cur,i,l,t,_⟩
   ·grind
   ·refine .inl ⟨⟨z,0,none⟩,cap,i,λj u o=>?_⟩
    rw[u01,Nat.zero_add]
    exact P05 s.mv.vis rfl (q.cells i j u o)
  ·exact d.elim
 ·rename_i v m
  rw[m]at g
  obtain⟨f,D,C⟩:=d
  refine⟨f,C,?_⟩
  have hv:a.eval b=v:=g
  rw[hv]
  obtain⟨i,x,n,c,rfl,rfl,M,l⟩:=D
  refine⟨i,?_⟩
  rcases l with l|⟨y,F,rfl,t⟩
  ·cases x with
   |none =>
    have O:f = []:=by
     cases f with
     |nil=>rfl
     |cons S r =>
      simp_all
    grind
   |some I=>grind
  ·refine .inl ⟨⟨y,F,none⟩,c,rfl,λj u o=>?_⟩
   rw[u01]
   exact P05 (C07 s) rfl (t j u o)
 ·exact d.elim
theorem K02{t:TypeId}{p q:Operand}{as:Array Operand}{b:Array TypeId}(g:o.op = .call { callee := .builtin .append,args:=as,argTypes:=b })(f:as = #[p,q])(i:b = #[t,t])
  {c:Value} {d:World} (h:(Builtin.append_ #[t,t] o.type #[a.eval p,a.eval q]).run P w = .ok c d):(execOp a.eval o).run P w = .ok (.value c) d:=by
 subst f;subst i
 unfold execOp;rw[g]
 simp only[resolve,invoke,builtin,Sem.run_bind,Sem.run_pure,Result.andThen_ok,List.map_toArray,List.map_cons,List.map_nil,h]
theorem n0n(s:Sim P h0 w0 be oe H st h a w){t:TypeId}{p q:Operand}{as:Array Operand}{Y:Array TypeId}(G:o.op = .call { callee := .builtin .append,args:=as,argTypes:=Y })
  (D:as = #[p,q]) (J:Y = #[t,t]) (c:x0d P t p q st h K):o.wp P a w (Nx P h0 w0 st be oe K a o.dst) Q:=by
 unfold x0d at c
 split at c
 rotate_left
 ·exact c.elim
 rename_i e am
 split at c
 rotate_left
 ·exact c.elim
 rename_i sz by_ z ak E an
 split at c
 rotate_left
 ·exact c.elim
 rename_i ao
 obtain⟨i,F,M,N,O⟩:=l09 ak E an
 have I:=g9 am
 have L:z.cells.size=sz+1:=by simpa using B02 _ _ ao
 have g:=s.rdO p
 split at c
 ·rename_i j k y
  obtain⟨au,ax,ar,aw,ay,A⟩:=z06 y
  rw[y]at g
  simp only[A]at c
  split at c
  ·rename_i ad ae av
   have af:=Nat.eq_of_beq_eq_true ad
   have al:=Nat.eq_of_beq_eq_true ae
   subst af
   subst al
   obtain⟨X,⟨u,f⟩,v⟩:=J04 s (Nat.succ_pos sz) c
   have aj:=s.own j _ _ _ _ _ _ A
   obtain⟨l,W,R,d,n,C,U,V,_⟩:=s0c (ty:=o.type) I F O M (Nat.succ_pos _) N (Nat.succ_pos _) L aj s.mv.vis s.sub v u
   obtain⟨x,S⟩:=s.updOwn (s1:=k+1) (by_:=by_+1) A (Nat.le_succ _) (λe=>absurd e (Nat.succ_ne_self k)) n U C V
   rw[←g.own_cur A]at d
   refine B7 (K02 G D J d) ⟨_,_,h,l,_,_,_,f,rfl,x,?_,S⟩
   refine⟨k+1,?_,Nat.le_refl _,λ_=>by simp⟩
   simp[stamp,r7 _ _ _ (I01 A)]
  ·exact c.elim
 ·rename_i y
  rw[y]at g
  rcases c with c|c
  rotate_left
  ·obtain⟨X,⟨⟨ag,u⟩,f⟩,v⟩:=J04 s (Nat.succ_pos sz) c
   obtain⟨l,W,ab,d,n,T⟩:=x0h (ty:=o.type) I F O M (Nat.succ_pos _) N (Nat.succ_pos _) L (C07 s) v ag u
   have m:a.eval p = .slice none 0 0:=g
   rw[←m]at d
   obtain⟨R,x⟩:=s.moved n
   exact B7 (K02 G D J d) ⟨_,_,_,l,_,_,_,f _ _ T,rfl,x,rfl,J6.refl _ _ _⟩
  obtain⟨X,⟨u,f⟩,v⟩:=J04 s (Nat.succ_pos sz) c
  have ai:X05 h H (.slice none 0 0) e (sz+1) false []:=⟨by simp,.inl ⟨rfl,rfl,rfl⟩⟩
  obtain⟨l,W,R,d,n,C,U,V,_⟩:=s0c (ty:=o.type) I F O M (Nat.succ_pos _) N (Nat.succ_pos _) L ai s.mv.vis s.sub v (by simpa using u)
  simp only[Bool.false_or,List.nil_append]at C
  have ah:∀ g,l.ownBlock=some g->H g=none:=λg m=>(V g m).resolve_left (by simp[Value.ownBlock])
  rw[k0b]at f
  obtain⟨x,S⟩:=s.newOwn (by_:=by_+1) (λb o E=>by rw[U b (by simp[Value.ownBlock]) (by rw[E];simp)];exact E) n C ah
  have m:a.eval p = .slice none 0 0:=g
  rw[←m]at d
  refine B7 (K02 G D J d) ⟨_,_,h,l,_,_,_,f,rfl,x,?_,S⟩
  refine⟨0,?_,Nat.le_refl _,λ_=>by simp⟩
  simp[stamp,v02]
 ·rename_i aa aq ap Z y
  rw[y]at g
  obtain⟨X,⟨xs,ac,u,f⟩,v⟩:=J04 s (Nat.succ_pos sz) c
  obtain⟨l,W,ab,d,n,T⟩:=w0h (ty:=o.type) I F O M (Nat.succ_pos _) N (Nat.succ_pos _) L ac (C07 s) v u
  have m:a.eval p = .slice (some ⟨aa,aq,none⟩) ap Z:=g
  rw[←m]at d
  obtain⟨R,x⟩:=s.moved n
  exact B7 (K02 G D J d) ⟨_,_,_,l,_,_,_,f _ _ T,rfl,x,rfl,J6.refl _ _ _⟩
 ·exact c.elim
end
set_option linter.unusedSimpArgs false
section
variable {P:Program} {h0:Hp} {w0:World} {be:Nat->Nat} {oe:Nat->Value} {H:Hp} {st:St} {h:Hp} {a:Act} {w:World} {o:Oper} {K:AV->St->Hp->Prop} {Q:Exit->Act->World->Prop}
theorem C06:∀(a cs:List Value) (off:Nat),off+a.length<=cs.length->U2 cs off a=cs.take off++a++cs.drop (off+a.length)
 | [],cs,off,_=>by simp[U2]
 |n::a,cs,off,c=>by
  simp only[List.length_cons]at c
  rw[U2,C06 a (cs.set off n) (off+1) (by simp;omega)]
  rw[List.take_set,List.drop_set_of_lt (by omega)]
  have b:(cs.take (off+1)).set off n=cs.take off ++ [n]:=by
   rw[List.take_succ_eq_append_getElem (by omega),List.set_append_right _ _ (by simp;omega)]
   have:off-(cs.take off).length=0:=by simp;omega
   rw[this]
   simp
  rw[b]
  simp only[List.length_cons,List.append_assoc,List.cons_append,List.nil_append]
  rw[show off+1+a.length=off+(a.length+1) from by omega]
theorem j0a(off:Nat):∀(l:List Value) (k:Nat) (a:Array Value),((l.zipIdx k).foldl (λcs p=>cs.setIfInBounds (off+p.2) p.1) a).toList=U2 a.toList (off+k) l
 | [],k,a=>rfl
 |x::l,k,a=>by
  simp only[List.zipIdx_cons,List.foldl_cons,U2]
  rw[j0a off l (k+1)]
  simp[Nat.add_assoc]
theorem K0d(v:Value)(off:Nat)(a:Array Value):(v.cells.zipIdx.foldl (λcs (p:Value×Nat)=>cs.setIfInBounds (off+p.2) p.1) a).toList=U2 a.toList off v.cells.toList:=by
 rw[←Array.foldl_toList,Array.toList_zipIdx]
 simp_all[j0a]
def t08(a:Act)(sz:Nat):Nat->List (Nat×Operand)->List (List Value)->Prop
 |_,[],[]=>True
 |i,(j,x)::r,c::cs=>j=i/\c=(a.eval x).cells.toList/\c.length=sz/\(∀ v∈c,v.oneCell'=true)/\t08 a sz (i+1) r cs
 |_,_,_=>False
theorem t08.all{sz:Nat}:∀ {i:Nat} {l:List (Nat×Operand)} {xs:List (List Value)},t08 a sz i l xs->(∀ x∈xs,x.length=sz/\∀ v∈x,v.oneCell'=true)/\l.length=xs.length
 |_,[],[],_=>by simp
 |i,(j,x)::r,c::cs,h=>by
  have d:=t08.all h.2.2.2.2
  refine⟨λf b=>?_,by simp[d.2]⟩
  rcases List.mem_cons.1 b with rfl|b
  ·exact⟨h.2.2.1,h.2.2.2.1⟩
  ·exact d.1 f b
 |_,[],_::_,h=>h.elim
 |_,_::_,[],h=>h.elim
theorem L0d{sz:Nat}:∀(l:List (Nat×Operand)) (xs:List (List Value)) (i:Nat) (b:Array Value),t08 a sz i l xs->(i+l.length)*sz<=b.size ->
  ∃ d,Instr.fill (λi=>some (i*sz,sz)) b (l.map λp=>(p.1,a.eval p.2))=some d/\d.toList=b.toList.take (i*sz)++xs.flatten++b.toList.drop ((i+l.length)*sz)
 | [],[],i,b,_,f=>⟨b,rfl,by simp⟩
 |(j,x)::r,c::cs,i,b,h,f=>by
  obtain⟨rfl,k,m,_,q⟩:=h
  have t:(a.eval x).cells.size=sz:=by rw[←m,k];simp
  have z:j*sz+sz<=b.size:=by
   refine Nat.le_trans ?_ f
   simp only[List.length_cons]
   grind
  have g:=K0d (a.eval x) (j*sz) b
  rw[←k]at g
  have s:=C06 c b.toList (j*sz) (by grind)
  have u:((a.eval x).cells.zipIdx.foldl (λcs (p:Value×Nat)=>cs.setIfInBounds (j*sz+p.2) p.1) b).size=b.size:=by
   grind[Array.length_toList,H8]
  obtain⟨d,y,n⟩:=L0d r cs (j+1) ((a.eval x).cells.zipIdx.foldl (λcs (p:Value×Nat)=>cs.setIfInBounds (j*sz+p.2) p.1) b) q (by
   rw[u];simp only[List.length_cons]at f;grind)
  refine⟨d,?_,?_⟩
  ·simp only[List.map_cons,Instr.fill,t,ne_eq,not_true_eq_false,decide_false,Bool.false_or,decide_eq_true_eq]
   grind
  ·rw[n,g,s,m]
   have v:(b.toList.take (j*sz)++c++b.toList.drop (j*sz+sz)).take ((j+1)*sz)=b.toList.take (j*sz)++c:=by
    rw[List.take_append_of_le_length,List.take_of_length_le]
    all_goals grind
   have w:(b.toList.take (j*sz)++c++b.toList.drop (j*sz+sz)).drop ((j+1+r.length)*sz)=b.toList.drop ((j+(r.length+1))*sz):=by
    have o:(b.toList.take (j*sz)++c).length=j*sz+sz:=by grind
    rw[List.drop_append,List.drop_eq_nil_of_le (by grind),o,List.nil_append,List.drop_drop]
    congr 1
    simp only[Nat.add_mul]
    omega
   grind
 | [],_::_,_,_,h,_=>h.elim
 |_::_,[],_,_,h,_=>h.elim
theorem u0c{sz:Nat}:∀(l:List (Nat×Operand)) (i:Nat) {st:St} {h:Hp} {K:List (List Value)->St->Hp->Prop},Sim P h0 w0 be oe H st h a w->x0i sz i l st h K ->
  ∃ xs st' d,K xs st' d/\Sim P h0 w0 be oe H st' d a w/\J6 st be oe st' be oe/\t08 a sz i l xs
 | [],i,st,h,K,s,b=>⟨[],st,h,b,s,J6.refl _ _ _,trivial⟩
 |(j,x)::r,i,st,h,K,s,b=>by
  simp only[x0i]at b
  split at b
  ·rename_i k
   have m:=Nat.eq_of_beq_eq_true k
   obtain⟨u,t,c,s1,g1⟩:=J02 s (s.rdO x) b
   split at c
   ·rename_i n o
    obtain⟨xs,q,g,f,s2,g2,p⟩:=u0c r (i+1) s1 c
    exact⟨_,q,g,f,s2,g1.trans g2,m.symm,rfl,B02 _ _ n,I03 _ o,p⟩
   ·exact c.elim
  ·exact b.elim
theorem A0f(s:Sim P h0 w0 be oe H st h a w){t n:Nat}{ps:Array (Nat×Operand)}{e sz by_:Nat}{z:Value}(J:o.op = .buildSlice t n ps)(N:V00 P t=some e)(M:I5 P e=some (sz+1))
  (R:F00 P e=some z) (X:Nat.beq n ps.size=true) (E:Nat.ble (n*(sz+1)) 16777216=true)
  (C:x0i (sz+1) 0 ps.toList st h λxs st h=>newOwn st e (sz+1) by_ true xs λav st=>K av st h):o.wp P a w (Nx P h0 w0 st be oe K a o.dst) Q:=by
 obtain⟨xs,Z,y,m,s1,g1,S⟩:=u0c _ _ s C
 obtain⟨A,V⟩:=S.all
 have j:n=xs.length:=by simp_all
 have F:=Nat.le_of_ble_eq_true E
 have O:wpS P (execOp a.eval o) H (λu l=>∃ b c,H b=none/\u = .value (.slice (some ⟨b,0,none⟩) xs.length xs.length)/\l=H.set b (.cells c e (0,0))/\c.toList=xs.flatten/\c.size=xs.length*(sz+1)):=by
  unfold execOp;rw[J]
  refine P7 _ _ _ ?_
  have q:∀ c:Array Value,c.size=xs.length*(sz+1)->∃ d,Instr.fill (λi=>some (i*(sz+1),sz+1)) c (ps.toList.map λp=>(p.1,a.eval p.2))=some d/\d.toList=xs.flatten/\d.size=xs.length*(sz+1):=by
   grind[L0d,Array.length_toList,J01]
  have D : ¬ (n*(sz+1)>2 ^ 24):=Nat.not_lt.2 F
  simp only[Instr.buildSlice,J2,K5 (g9 N),Y00 M,if_neg D,Q2]
  have W:(ps.map λx=>(x.1,a.eval x.2)).toList=ps.toList.map λp=>(p.1,a.eval p.2):=by simp
  by_cases h00:n*(sz+1)=0
  ·simp only[if_pos h00,Q2]
   obtain⟨d,k,f2,f3⟩:=q ((Array.range (n*(sz+1))).map λi=>(#[]:Array Value)[i % (#[]:Array Value).size]!) (by simp[j])
   rw[show(Array.map (λx=>(x.1,a.eval x.2)) ps).toList=ps.toList.map λp=>(p.1,a.eval p.2) from by simp]
   simp only[k,J2,newRow,newObj,wpS,Q2]
   exact λb f=>⟨b,d,f,by rw[j],rfl,f2,f3⟩
  ·simp only[if_neg h00,J2,i0a R,Q2]
   obtain⟨d,k,f2,f3⟩:=q ((Array.range (n*(sz+1))).map λi=>z.cells[i % z.cells.size]!) (by simp[j])
   rw[show(Array.map (λx=>(x.1,a.eval x.2)) ps).toList=ps.toList.map λp=>(p.1,a.eval p.2) from by simp]
   simp only[k,J2,newRow,newObj,wpS,Q2]
   exact λb f=>⟨b,d,f,by rw[j],rfl,f2,f3⟩
 obtain⟨u,l,aa,L,⟨b,c,f,rfl,rfl,f2,f3⟩,I⟩:=B9 _ _ _ s1.mv.vis O
 have G:xs.length<=maxLen:=by
  have:xs.length<=xs.length*(sz+1):=Nat.le_mul_of_pos_right _ (Nat.succ_pos _)
  grind[maxLen]
 rw[k0b]at m
 obtain⟨T,v⟩:=s1.newOwn (nn:=true) (by_:=by_) (λx ab Y=>by grind[Hp.set_other]) I
  (J0d s1.sub f A (Nat.le_refl _) G f3 (by rw[f2,List.take_of_length_le (by grind)])) (λg U=>by grind[Value.ownBlock])
 refine B7 L ⟨_,_,y,_,_,_,_,m,rfl,T,?_,g1.trans v⟩
 refine⟨0,?_,Nat.le_refl _,λ_=>by simp⟩
 simp[stamp,v02]
theorem K04{sz:Nat}(b:List Value)(c:b.length=sz)(d:0<sz):∀(l j:Nat),j<l*sz->(List.replicate l b).flatten[j]?=b[j % sz]?
 |0,j,h=>by simp at h
 |l+1,j,h=>by
  simp only[List.replicate_succ,List.flatten_cons]
  have f:j<l*sz+sz:=by grind
  by_cases hj:j<sz
  ·rw[List.getElem?_append_left (by omega),Nat.mod_eq_of_lt hj]
  ·rw[List.getElem?_append_right (by omega),c,K04 b c d l (j-sz) (by omega),←Nat.mod_eq_sub_mod (a:=j) (by omega)]
theorem o0n{sz:Nat}(z:Value)(b:z.cells.toList.length=sz)(c:0<sz)(l n:Nat)(f:l*sz<=n):(madeCells z.cells n).toList.take (l*sz)=(List.replicate l z.cells.toList).flatten:=by
 have d:z.cells.size=sz:=by simpa using b
 apply List.ext_getElem?
 intro j
 rw[List.getElem?_take]
 by_cases hj:j<l*sz
 ·rw[if_pos hj,K04 _ b c l j hj]
  have a:j % sz<z.cells.size:=by simp_all[Nat.mod_lt]
  simp only[madeCells,d,Array.toList_map,Array.toList_range,List.getElem?_map,List.getElem?_range (show j<n from by omega),Option.map_some,Array.getElem?_toList,Array.getElem?_eq_getElem a]
  congr 1
  simp[a]
 ·rw[if_neg hj]
  simp_all
theorem y0h(s:Sim P h0 w0 be oe H st h a w){t e sz by_:Nat}{l c:Operand}{z:Value}{k j:IntKind}{d b:Int}(Y:o.op = .makeSlice t l c)(O:V00 P t=some e)
  (N:I5 P e=some (sz+1)) (D:j09 P e=some by_) (R:F00 P e=some z) (I:rdO st l = .val (.int k d)) (F:rdO st c = .val (.int j b))
  (S:w06 z.cells.toList (sz+1)=true) (Z:A04 z.cells.toList=true) (E:0<=d/\d<=b/\b*by_<=140737488355328/\b<=9223372036854775807)
  (n:newOwn st e (sz+1) by_ true (List.replicate d.toNat z.cells.toList) λav st=>K av st h):o.wp P a w (Nx P h0 w0 st be oe K a o.dst) Q:=by
 obtain⟨i,G,u,ab,T⟩:=l09 N D R
 have X:a.eval l = .int k d:=by have:=s.rdO l;rw[I]at this;exact this
 have W:a.eval c = .int j b:=by have:=s.rdO c;rw[F]at this;exact this
 obtain⟨v,y,V,A⟩:=E
 have J:=B02 _ _ S
 have aa:=run_make (P:=P) w t e i z (g9 O) G T k j d b v y (by grind) A
 have M:(execOp a.eval o).run P w = .ok (.value (.slice (some ⟨w.heap.size,0,none⟩) d.toNat b.toNat)) (w.alloc (.cells (madeCells z.cells (b.toNat*i.size)) e)):=by
  simp_all[execOp,Sem.run_bind,Result.andThen_ok,Sem.run_pure]
 have L:T2 H w (H.set w.heap.size (.cells (madeCells z.cells (b.toNat*i.size)) e (0,0))) (w.alloc (.cells (madeCells z.cells (b.toNat*i.size)) e)):=T2.new s.mv.vis _ rfl
 have p:(List.replicate d.toNat z.cells.toList).length=d.toNat:=by simp
 have m:=J0d (h:=h) (H:=H) (e:=e) (sz:=sz+1) (nn:=true) (cap:=b.toNat) (xs:=List.replicate d.toNat z.cells.toList) (cur:=madeCells z.cells (b.toNat*i.size)) s.sub (w02 s.mv.vis)
  (λx f=>by grind[I03]) (by simp;omega) (by unfold maxLen;omega) (by rw[size_madeCells,u])
  (by rw[p,u];exact o0n z J (Nat.succ_pos _) _ _ (Nat.mul_le_mul_right _ (by omega)))
 rw[p]at m
 rw[k0b]at n
 obtain⟨U,C⟩:=s.newOwn (by_:=by_) (λx ac f=>by rw[Hp.set_other _ _ (λe=>by subst e;rw[w02 s.mv.vis]at f;cases f)];exact f) L m
  (λg q=>by simp[Value.ownBlock]at q;rw[←q];exact w02 s.mv.vis)
 refine B7 M ⟨_,_,h,_,_,_,_,n,rfl,U,?_,C⟩
 refine⟨0,?_,Nat.le_refl _,λ_=>by simp⟩
 simp[stamp,v02]
end
section
variable {P:Program} {h0:Hp} {w0:World} {be:Nat->Nat} {oe:Nat->Value} {H:Hp} {st:St} {h:Hp} {a:Act} {w:World} {o:Oper} {K:AV->St->Hp->Prop} {Q:Exit->Act->World->Prop}
theorem z0h(s:Sim P h0 w0 be oe H st h a w){t:TypeId}{x i:Operand}(z:o.op = .indexAddr t x i)
  (d:match rdO st i with
  | .val (.int _ j)=>match V00 P t with
   |some e=>match I5 P e with
    |some sz=>match rdO st x with
     | .val (.slice a n c)=>InB (.slice a n c) j/\K (.hel (.slice a n c) j sz 0) st h
     | .own i k=>match nth st.ow i with
      |some ⟨_,.live _ M _ _ xs⟩=>match Nat.beq M sz with
       |true=>(0<=j/\j<(xs.length:Int))/\K (.oel i k j sz 0) st h
       |false=>False
      |_=>False
     |_=>False
    |none=>False
   |none=>match rdO st x,r0o P t j with
    | .box i off,some l=>K (.box i (off+l)) st h
    | .hel s i sz k,some l=>K (.hel s i sz (k+l)) st h
    | .oel i s j sz k,some l=>K (.oel i s j sz (k+l)) st h
    |_,_=>False
  |_=>False):o.wp P a w (Nx P h0 w0 st be oe K a o.dst) Q:=by
 have gi:=s.rdO i
 have f:=s.rdO x
 split at d
 rotate_left
 ·exact d.elim
 rename_i k j R
 rw[R]at gi
 split at d
 rotate_left
 ·split at d
  ·rename_i m off l p y
   rw[p]at f
   exact F6 s (av := .box m (off+l)) (A06 z y f.2 gi) ⟨f.1,rfl⟩ d
  ·rename_i sl m sz G l p y
   rw[p]at f
   obtain⟨b,V,n,c,v,E⟩:=f
   refine F6 s (av := .hel sl m sz (G+l)) (A06 z y E gi) ⟨b,V,n,c,v,?_⟩ d
   simp[Nat.add_assoc]
  ·rename_i m W U sz G l p y
   rw[p]at f
   obtain⟨e,M,by_,nn,xs,q⟩:=t0h p
   obtain⟨N,n,c,v,E⟩:=f.oel_cur q
   obtain⟨Y,g1,g2,g3⟩:=f
   refine F6 s (av := .oel m W U sz (G+l)) (A06 z y E gi) ⟨Y,g1,g2,λ_=>⟨N,n,c,v,by simp[Nat.add_assoc]⟩⟩ d
  ·exact d.elim
 rename_i e J
 split at d
 rotate_left
 ·exact d.elim
 rename_i sz I
 split at d
 ·rename_i Z n c A
  rw[A]at f
  obtain⟨⟨b,off,ad,ab,v,D,u⟩,F⟩:=d
  cases v
  exact F6 s (av := .hel _ j sz 0) (exec_indexAddr z J I f gi D u) ⟨b,off,n,c,rfl,by simp⟩ F
 ·rename_i m L A
  obtain⟨ac,X,aa,ae,xs,q⟩:=z06 A
  rw[A]at f
  simp only[q]at d
  split at d
  ·rename_i O
   have T:=Nat.eq_of_beq_eq_true O
   subst T
   obtain⟨⟨D,u⟩,F⟩:=d
   have S:=s.own m _ _ _ _ _ _ q
   rcases S.2 with⟨_,C,_⟩|⟨g,cap,cur,hv,_⟩
   ·rw[C]at u;simp at u;omega
   ·have C:=f.own_cur q
    rw[hv]at C
    refine F6 s (av := .oel m L j X 0) (exec_indexAddr z J I C gi D u) ⟨L,by simp[stamp,q],Nat.le_refl _,λ_=>⟨g,xs.length,cap,hv,by simp⟩⟩ F
  ·exact d.elim
 ·exact d.elim
theorem u08{sz:Nat}:∀(xs:List (List Value)) (k:Nat),(∀ x∈xs,x.length=sz)->(xs.take k).flatten=xs.flatten.take (k*sz)
 | [],k,_=>by simp
 |x::xs,0,_=>by simp
 |x::xs,k+1,a=>by
  have b:=a x mS
  simp only[List.take_succ_cons,List.flatten_cons]
  rw[u08 xs k (λd c=>a d (mC _ c)),List.take_append (l₁:=x),List.take_of_length_le (l:=x) (by grind),b,Nat.add_mul,Nat.one_mul,Nat.add_sub_cancel]
theorem U0f{sz:Nat}:∀(xs:List (List Value)) (k:Nat),(∀ x∈xs,x.length=sz)->(xs.drop k).flatten=xs.flatten.drop (k*sz)
 | [],k,_=>by simp
 |x::xs,0,_=>by simp
 |x::xs,k+1,a=>by
  have b:=a x mS
  simp only[List.drop_succ_cons,List.flatten_cons]
  rw[U0f xs k (λd c=>a d (mC _ c)),List.drop_append (l₁:=x),List.drop_of_length_le (l:=x) (by grind),b,Nat.add_mul,Nat.one_mul,Nat.add_sub_cancel,List.nil_append]
def L04(a:Act)(d:Int)(x:Option Operand)(l:Int):Prop:=match x with
 |none=>l=d
 |some y=>∃ k,a.eval y = .int k l
theorem D06(s:Sim P h0 w0 be oe H st h a w){d l:Int}{x:Option Operand}(b:g05 d (x.map (rdO st))=some l):L04 a d x l:=by
 cases x with
 |none=>simp only[Option.map_none,g05,Option.some.injEq]at b;exact b.symm
 |some c =>
  have g:=s.rdO c
  simp only[Option.map_some]at b
  cases hr:rdO st c with
  |val v =>
   rw[hr]at b g
   cases v<;>simp only[g05,Option.some.injEq]at b<;>first|(subst b;exact⟨_,g⟩)|cases b
  |_=>rw[hr]at b;cases b
theorem v08{x:Value}{k:IntKind}{i:Int}{b:Nat}{c:BoundsCode}(g:x = .int k i)(d:0<=i)(f:i<=(b:Int))(a:Nat->Hp->Prop):wpS P (Instr.sliceBound x b c) H a=a i.toNat H:=by
 subst g
 simp only[Instr.sliceBound,asIntOf,J2,Q2,d,f,and_self,if_true]
theorem M0d{isS:Bool}{n c:Nat}{g b:Option Operand}{l m:Int}(j:L04 a 0 g l)(d:L04 a n b m)(i:0<=l)(u:l<=m)(v:m<=(n:Int))(w:n<=c)
  (h:Nat×Nat×Nat->Hp->Prop):wpS P (Instr.sliceBounds isS n c (g.map a.eval) (b.map a.eval) none) H h=h (l.toNat,m.toNat,c) H:=by
 have s:l<=(m.toNat:Int):=by omega
 cases g with
 |none =>
  have q:l=0:=j
  subst q
  cases b with
  |none =>
   have o:m=(n:Int):=d
   simp_all[Instr.sliceBounds,Option.map_none,J2,Q2]
  |some t =>
   obtain⟨k,f⟩:=d
   simp only[Instr.sliceBounds,Option.map_none,Option.map_some,J2,Q2,v08 f (by omega) (show m<=(c:Int) by omega)];rfl
 |some x =>
  obtain⟨k,p⟩:=j
  cases b with
  |none =>
   have o:m=(n:Int):=d
   subst o
   simp only[Instr.sliceBounds,Option.map_none,Option.map_some,J2,Q2,v08 p i (show l<=((n:Nat):Int) by omega)];rfl
  |some t =>
   obtain⟨y,f⟩:=d
   simp only[Instr.sliceBounds,Option.map_some,J2,Q2,v08 f (by omega) (show m<=(c:Int) by omega),v08 p i s]
theorem exec_slice{t e sz:Nat}{x:Operand}{g f:Option Operand}{d:Option Addr}{n c:Nat}{l m:Int}(s:o.op = .slice t x g f none)(u:V00 P t=some e)(y:I5 P e=some sz)
  (v:a.eval x = .slice d n c) (k:L04 a 0 g l) (p:L04 a n f m) (h:0<=l) (i:l<=m) (j:m<=(n:Int)) (q:n<=c) :
  ∀ b:Next->Hp->Prop,b (.value (.slice (if c=l.toNat then d else d.map (·.add (l.toNat*sz))) (m.toNat-l.toNat) (c-l.toNat))) H->wpS P (execOp a.eval o) H b:=by
 intro b w
 unfold execOp;rw[s]
 refine P7 _ _ _ ?_
 simp only[Instr.sliceAt,J2,K5 (g9 u),Instr.slice,v,Option.map_none]
 rw[M0d k p h i j q]
 grind[Y00,Q2]
theorem p0n(s:Sim P h0 w0 be oe H st h a w){t e sz:Nat}{x:Operand}{A z:Option Operand}{d:Option Addr}{n c:Nat}(R:o.op = .slice t x A z none)(U:V00 P t=some e)(T:I5 P e=some sz)
  (S:rdO st x = .val (.slice d n c)) (g:I0k sz (.slice d n c) n (A.map (rdO st)) (z.map (rdO st)) st h K):o.wp P a w (Nx P h0 w0 st be oe K a o.dst) Q:=by
 have u:=s.rdO x
 rw[S]at u
 unfold I0k at g
 split at g
 rotate_left
 ·exact g.elim
 rename_i l m J M
 obtain⟨⟨C,D,E⟩,xs,F,I⟩:=g
 obtain⟨f,V,aa,W,q,Z,N,y⟩:=F
 cases q
 have L:((xs.take m.toNat).drop l.toNat).length=m.toNat-l.toNat:=by simp;omega
 have O:SlE h sz (.slice (if c=l.toNat then d else d.map (·.add (l.toNat*sz))) (m.toNat-l.toNat) (c-l.toNat)) ((xs.take m.toNat).drop l.toNat):=by
  refine⟨λp k=>f p (List.mem_of_mem_take (List.mem_of_mem_drop k)),_,_,_,rfl,L.symm,by omega,?_⟩
  rcases y with y|⟨b,off,rfl,G⟩
  ·grind[List.flatten_eq_nil_iff,List.mem_of_mem_take,List.mem_of_mem_drop]
  ·by_cases hcl:c=l.toNat
   ·grind
   ·right
    rw[if_neg hcl]
    refine⟨b,off+l.toNat*sz,by simp[u01],λj v Y=>?_⟩
    have i:=J01 xs (λx i=>(f x i).1)
    rw[Nat.add_assoc]
    refine G _ _ ?_
    have q:(xs.take m.toNat).flatten=xs.flatten.take (m.toNat*sz):=u08 xs _ (λx i=>(f x i).1)
    have X:((xs.take m.toNat).drop l.toNat).flatten=((xs.take m.toNat).flatten).drop (l.toNat*sz):=U0f _ _ (λp k=>(f p (List.mem_of_mem_take k)).1)
    grind
 exact F6 s (av := .val _) (exec_slice R U T u (D06 s J) (D06 s M) C D E N) rfl (I _ O λ_ _ _ e=>by cases e;rfl)
theorem q0n(s:Sim P h0 w0 be oe H st h a w){t e sz:Nat}{x:Operand}{C p:Option Operand}{i k:Nat}(M:o.op = .slice t x C p none)(R:V00 P t=some e)(O:I5 P e=some sz)
  (N:rdO st x = .own i k) (d:G0k i (C.map (rdO st)) (p.map (rdO st)) st h K):o.wp P a w (Nx P h0 w0 st be oe K a o.dst) Q:=by
 have G:=s.rdO x
 rw[N]at G
 obtain⟨U,D,T,an,xs,q⟩:=z06 N
 unfold G0k at d
 split at d
 rotate_left
 ·exact d.elim
 rename_i al m ap z
 simp only[q]at d
 obtain⟨⟨S,F⟩,J⟩:=d
 have af:C=none:=by simp_all
 subst af
 have L:L04 a (xs.length:Int) p m:=by
  cases p with
  |none=>simp at z
  |some c =>
   have g:=s.rdO c
   simp only[Option.map_some,Option.some.injEq]at z
   rw[z]at g
   exact⟨al,g⟩
 have A:=s.own i _ _ _ _ _ _ q
 have b:=G.own_cur q
 have aq:∀ v,v=oe i->v.ownBlock=(oe i).ownBlock:=λv hv=>by rw[hv]
 have am:∃ v,(∀ f:Next->Hp->Prop,f (.value v) H->wpS P (execOp a.eval o) H f)/\v.ownBlock=(oe i).ownBlock/\X05 h H v U D an (xs.take m.toNat):=by
  have I:∀ c∈xs.take m.toNat,c.length=D/\∀ v∈c,v.oneCell'=true:=λc ak=>A.1 c (List.mem_of_mem_take ak)
  rcases A.2 with⟨j,u,y⟩|⟨g,cap,cur,j,u,y,X,Y,Z,aa⟩
  ·rw[j]at b
   subst u
   have ag:m=0:=by simp at F;omega
   subst ag
   refine⟨_,exec_slice M R O b (l:=0) rfl L (by omega) (by omega) (by simp) (Nat.le_refl _),?_,I,.inl ⟨by simp,by simp,y⟩⟩
   grind
  ·rw[j]at b
   refine⟨.slice (some ⟨g,0,none⟩) m.toNat cap,λf J=>exec_slice M R O b (l:=0) rfl L (by omega) S F X f ?_,by rw[j];rfl,I,.inr ⟨g,cap,cur,?_,u,y,?_,Y,Z,?_⟩⟩
   ·grind[Int.toNat,Addr.add]
   ·have:(xs.take m.toNat).length=m.toNat:=by simp;omega
    rw[this]
   ·simp;omega
   ·have ae:(xs.take m.toNat).length=m.toNat:=by simp;omega
    rw[ae]
    have V:(xs.take m.toNat).flatten=xs.flatten.take (m.toNat*D):=u08 xs _ (λx b=>(A.1 x b).1)
    rw[V,←aa,List.take_take]
    congr 1
    rw[Nat.min_eq_left (Nat.mul_le_mul_right _ (by omega))]
 obtain⟨v,aj,ac,ab⟩:=am
 obtain⟨ar,E,au,ai,⟨rfl,rfl⟩,ah⟩:=B9 _ _ _ s.mv.vis (aj (λn E=>n = .value v/\E=H) ⟨rfl,rfl⟩)
 obtain⟨ao,W⟩:=s.updOwn (s1:=k+1) (by_:=T) q (Nat.le_succ _) (λe=>absurd e (Nat.succ_ne_self k)) ah (λ_ _ _=>rfl) ab (λg ad => .inl (by rw[←ac];exact ad))
 refine B7 ai ⟨_,_,h,v,_,_,_,J,rfl,ao,?_,W⟩
 refine⟨k+1,?_,Nat.le_refl _,λ_=>by simp⟩
 simp_all[stamp,r7,I01]
theorem exec_cutStr{t:TypeId}{x:Operand}{f d:Option Operand}{b:ByteArray}{l m:Int}(p:o.op = .slice t x f d none)(q:P.underlying t=some .string)
  (s:a.eval x = .string b) (k:L04 a 0 f l) (n:L04 a b.size d m) (g:0<=l) (h:l<=m) (i:m<=(b.size:Int)) :
  ∀ c:Next->Hp->Prop,c (.value (.string (b.extract l.toNat m.toNat))) H->wpS P (execOp a.eval o) H c:=by
 intro c j
 unfold execOp;rw[p]
 refine P7 _ _ _ ?_
 simp only[Instr.sliceAt,J2,K5 q,Instr.slice,s,Option.map_none,Option.isSome_none,Bool.false_eq_true,if_false,Q2]
 rw[M0d k n g h i (Nat.le_refl _)]
 exact j
theorem exec_index{t:TypeId}{x i:Operand}{b:ByteArray}{k:IntKind}{j:Int}{c:UInt8}(m:o.op = .index t x i)(n:P.underlying t=some .string)(p:a.eval x = .string b)(h:a.eval i = .int k j)
  (f:0<=j) (g:b[j.toNat]?=some c):∀ d:Next->Hp->Prop,d (.value (.int .u8 c.toNat)) H->wpS P (execOp a.eval o) H d:=by
 intro d l
 unfold execOp;rw[m]
 refine P7 _ _ _ ?_
 simp only[Instr.index,p,h,asIntOf,J2,Q2,K5 n,f,if_true,g]
 exact l
theorem exec_quo{t l:TypeId}{x f:Operand}{b c:Int}(i:o.op = .binOp .quo t x f l)(j:a.eval x = .int .i64 b)(k:a.eval f = .int .i64 c)(h:c≠0):
  ∀ d:Next->Hp->Prop,d (.value (.int .i64 (IntKind.i64.wrap (b.tdiv c)))) H->wpS P (execOp a.eval o) H d:=by
 intro d g
 unfold execOp;rw[i]
 refine P7 _ _ _ ?_
 simp only[j,k,eqGuard,J2,Bool.not_false,if_true,Q2,binOp,Go.Op.intDiv,if_neg h,ne_eq,not_true_eq_false,if_false]
 exact g
theorem exec_rem{t l:TypeId}{x f:Operand}{b c:Int}(i:o.op = .binOp .rem t x f l)(j:a.eval x = .int .i64 b)(k:a.eval f = .int .i64 c)(h:c≠0):
  ∀ d:Next->Hp->Prop,d (.value (.int .i64 (b.tmod c))) H->wpS P (execOp a.eval o) H d:=by
 intro d g
 unfold execOp;rw[i]
 refine P7 _ _ _ ?_
 simp only[j,k,eqGuard,J2,Bool.not_false,if_true,Q2,binOp,Go.Op.intDiv,if_neg h,ne_eq,not_true_eq_false,if_false]
 exact g
theorem M0o{t l:TypeId}{x f:Operand}{b c:Int}(i:o.op = .binOp .shl t x f l)(j:a.eval x = .int .i64 b)(k:a.eval f = .int .i64 c)(m:0<=c):
  ∀ d:Next->Hp->Prop,d (.value (.int .i64 (IntKind.i64.wrap (b*2 ^ min c.toNat 64)))) H->wpS P (execOp a.eval o) H d:=by
 intro d g
 unfold execOp;rw[i]
 refine P7 _ _ _ ?_
 have h : ¬ c<0:=by omega
 simp only[j,k,eqGuard,J2,Bool.not_false,if_true,Q2,binOp,Go.Op.shift,if_neg h,IntKind.bits]
 exact g
theorem N0o{t l:TypeId}{x f:Operand}{b c:Int}(i:o.op = .binOp .shr t x f l)(j:a.eval x = .int .i64 b)(k:a.eval f = .int .i64 c)(m:0<=c):
  ∀ d:Next->Hp->Prop,d (.value (.int .i64 (b.fdiv (2 ^ min c.toNat 64)))) H->wpS P (execOp a.eval o) H d:=by
 intro d g
 unfold execOp;rw[i]
 refine P7 _ _ _ ?_
 have h : ¬ c<0:=by omega
 simp only[j,k,eqGuard,J2,Bool.not_false,if_true,Q2,binOp,Go.Op.shift,if_neg h,IntKind.bits]
 exact g
theorem exec_cat{t l:TypeId}{x f:Operand}{b c:ByteArray}(i:o.op = .binOp .add t x f l)(j:a.eval x = .string b)(k:a.eval f = .string c)(m:b.size+c.size<=9223372036854775807):
  ∀ d:Next->Hp->Prop,d (.value (.string (b++c))) H->wpS P (execOp a.eval o) H d:=by
 intro d g
 unfold execOp;rw[i]
 refine P7 _ _ _ ?_
 have h : ¬ (((b.size+c.size:Nat):Int)>IntKind.i64.max):=by
  have:IntKind.i64.max=9223372036854775807:=by decide
  rw[this];omega
 simp only[j,k,eqGuard,J2,Bool.not_false,if_true,Q2,binOp,Go.Op.stringOp,if_neg h]
 exact g
end
section
variable {P:Program} {h0:Hp} {w0:World} {be:Nat->Nat} {oe:Nat->Value} {H:Hp} {st:St} {h:Hp} {a:Act} {w:World} {o:Oper} {K:AV->St->Hp->Prop} {Q:Exit->Act->World->Prop}
theorem v0c:∀(a c r:List Value) (k:Nat),k+a.length<=c.length->U2 (c++r) k a=U2 c k a++r
 | [],c,r,k,_=>rfl
 |n::a,c,r,k,b=>by
  simp only[List.length_cons]at b
  simp only[U2]
  rw[List.set_append_left _ _ (by omega),v0c a _ r (k+1) (by simp;omega)]
theorem k0a:∀(a x l:List Value) (k:Nat),U2 (x++l) (x.length+k) a=x++U2 l k a
 | [],x,l,k=>rfl
 |n::a,x,l,k=>by
  simp only[U2]
  rw[List.set_append_right _ _ (by omega),Nat.add_sub_cancel_left,Nat.add_assoc,k0a a x _ (k+1)]
theorem G07{sz:Nat}(a:List Value)(k:Nat):∀(xs:List (List Value)) (i:Nat) (c:List Value),(∀ x∈xs,x.length=sz)->xs[i]?=some c->k+a.length<=c.length ->
  (xs.set i (U2 c k a)).flatten=U2 xs.flatten (i*sz+k) a
 | [],i,c,_,h,_=>by simp at h
 |x::xs,0,c,d,h,b=>by
  simp at h;subst h
  simp only[List.set_cons_zero,List.flatten_cons,Nat.zero_mul,Nat.zero_add]
  rw[v0c a x _ k b]
 |x::xs,i+1,c,d,h,b=>by
  simp at h
  have j:=d x mS
  simp only[List.set_cons_succ,List.flatten_cons]
  rw[G07 a k xs i c (λg f=>d g (mC _ f)) h b]
  rw[show(i+1)*sz+k=x.length+(i*sz+k) from by grind,k0a]
theorem j05:∀(b cs:List Value) (off a:Nat),(U2 cs off b).take a=U2 (cs.take a) off b
 | [],cs,off,a=>rfl
 |n::b,cs,off,a=>by
  simp only[U2]
  rw[j05 b _ (off+1) a,List.take_set]
theorem N0d:∀(a cs:List Value) (off:Nat) (v:Value),v∈U2 cs off a->v∈cs∨v∈a
 | [],cs,off,v,h => .inl h
 |n::a,cs,off,v,h=>by
  rcases N0d a _ (off+1) v h with h|h
  all_goals grind
theorem A0h(s:Sim P h0 w0 be oe H st h a w){t:TypeId}{p x:Operand}{i M:Nat}{idx:Int}{sz k:Nat}(ai:o.op = .store t p x)(ak:rdO st p = .oel i M idx sz k)
  (ab:rfy (rdO st x) st h λv st h=>match nth st.ow i,I5 P t with
   |some ⟨y,.live e d by_ nn xs⟩,some n=>match w06 v.cells.toList n,A04 v.cells.toList,Nat.beq y M,Nat.beq d sz with
    |true,true,true,true=>∃ c,xs[idx.toNat]?=some c/\h0n c k v.cells.toList λm =>
      K (.val undef) { st with ow:=w00 st.ow i ⟨y,.live e d by_ nn (xs.set idx.toNat m)⟩ } h
    |_,_,_,_=>False
   |_,_=>False):o.wp P a w (Nx P h0 w0 st be oe K a o.dst) Q:=by
 have G:=s.rdO p
 rw[ak]at G
 obtain⟨ay,I,f,s1,g1⟩:=J02 s (s.rdO x) ab
 have O:=G.grow g1
 split at f
 rotate_left
 ·exact f.elim
 rename_i y e d by_ nn xs n C am
 split at f
 rotate_left
 ·exact f.elim
 rename_i af aj V W
 have an:=Nat.eq_of_beq_eq_true V
 have ao:=Nat.eq_of_beq_eq_true W
 subst an;subst ao
 obtain⟨c,q,j⟩:=f
 unfold h0n at j
 split at j
 rotate_left
 ·exact j.elim
 rename_i A
 have A:=Nat.le_of_ble_eq_true A
 have ag:=B02 _ _ af
 have L:=I03 _ aj
 obtain⟨g,aw,m,u,D⟩:=O.oel_cur C
 have l:=s1.own i _ _ _ _ _ _ C
 rcases l.2 with⟨hv,_⟩|⟨N,cap,cur,hv,ad,ae,J,Z,aa,ap⟩
 ·rw[hv]at u;cases u
 rw[hv]at u;cases u
 have X:=(List.getElem?_eq_some_iff.1 q)
 have Y:c.length=d:=(l.1 c (List.mem_of_getElem? q)).1
 have T:idx.toNat*d+k+n<=cur.toList.length:=by
  have:(idx.toNat+1)*d<=m*d:=Nat.mul_le_mul_right _ (Nat.le_trans X.1 J)
  grind
 have ar:=B06 (H:=H) (P:=P) (a:=a) (cur:=cur.toList) ai am D ag L (by simpa using ae) T
 obtain⟨ax,F,az,al,⟨rfl,rfl⟩,ah⟩:=B9 _ _ _ s1.mv.vis (ar (λn F=>n = .skip/\F=_) ⟨rfl,rfl⟩)
 rw[s04]at j
 have S:X05 I (H.set g (.cells (U2 cur.toList (idx.toNat*d+k) (a.eval x).cells.toList).toArray e (0,0))) (oe i) e d nn (xs.set idx.toNat (U2 c k (a.eval x).cells.toList)):=by
  refine⟨λav E=>?_,.inr ⟨g,m,_,by simpa using hv,ad,Hp.set_same _ _ _,by simpa using J,Z,by simp[H8,aa],?_⟩⟩
  ·rcases List.mem_or_eq_of_mem_set E with E|rfl
   ·exact l.1 av E
   ·refine⟨by rw[H8,Y],λv aq=>?_⟩
    rcases N0d _ _ _ _ aq with z|z
    ·exact(l.1 c (List.mem_of_getElem? q)).2 v z
    ·exact L v z
  ·rw[G07 (sz:=d) _ _ xs idx.toNat c (λx D=>(l.1 x D).1) q A,←ap]
   simp only[List.length_set]
   rw[j05]
 obtain⟨au,R⟩:=s1.updOwn (s1:=y) (by_:=by_) C (Nat.le_refl _) (λ_=>rfl) ah (λb U _=>Hp.set_other _ _ (λe=>U (by rw[hv,e];rfl))) S (λN ac => .inl ac)
 exact r08 al ⟨_,_,I,_,_,_,_,j,rfl,au,rfl,g1.trans R⟩
theorem B0h(s:Sim P h0 w0 be oe H st h a w){t:TypeId}{p x:Operand}{sl:Value}{idx:Int}{sz k:Nat}{v:Value}(D:o.op = .store t p x)(E:rdO st p = .hel sl idx sz k)
    (J:rdO st x = .val v) (G:I5 P t=some 1)
    (z : ∃ b of n c cur ty, (sl = .slice (some ⟨b, of, none⟩) n c ∧ 0 ≤ idx ∧ h b = some (.cells cur ty (0, 0)) ∧ of + (idx.toNat * sz + k) < cur.size ∧ T02 v) ∧
            K (.val undef) st (h.set b (.cells (cur.setIfInBounds (of+(idx.toNat*sz+k)) v) ty (0,0)))):o.wp P a w (Nx P h0 w0 st be oe K a o.dst) Q:=by
  have f:=s.rdO p
  rw[E]at f
  have g:a.eval x=v:=by have:=s.rdO x;rw[J]at this;exact this
  obtain⟨b,off,n,c,cur,ty,⟨m,_,y,O,R⟩,A⟩:=z
  obtain⟨M,V,T,N,d,q⟩:=f
  rw[m]at d;cases d
  have j:v.cells = #[v]:=by cases v<;>simp_all [T02,Value.cells]
  have S:v.oneCell'=true:=by cases v<;>simp_all [T02,Value.oneCell']
  have I:=B06 (H:=h) (P:=P) (a:=a) (cur:=cur.toList) D G q (by rw[g,j];rfl) (by grind) (by simpa using y) (by simp;omega)
  obtain⟨U,i,W,F,⟨rfl,rfl⟩,C⟩:=B9 _ _ _ (C07 s) (I (λn i=>n = .skip/\i=_) ⟨rfl,rfl⟩)
  obtain⟨L,l⟩:=s.moved C
  have u:(U2 cur.toList (off+(idx.toNat*sz+k)) (a.eval x).cells.toList).toArray=cur.setIfInBounds (off+(idx.toNat*sz+k)) v:=by
    rw[g,j]
    apply Array.ext'
    simp[U2]
  rw[u]at l
  exact r08 F ⟨_,_,_,_,_,_,_,A,rfl,l,rfl,J6.refl _ _ _⟩
theorem V08(s:Sim P h0 w0 be oe H st h a w){t:TypeId}{p x:Operand}{sl:Value}{idx:Int}{sz k n:Nat}{new:List Value}(A:o.op = .store t p x)(C:rdO st p = .hel sl idx sz k)
  (i:(a.eval x).cells.toList=new) (E:I5 P t=some n) (v:w06 new n=true) (M:A04 new=true)
  (u:r04 h sl idx (idx.toNat*sz+k) new λc=>K (.val undef) st c):o.wp P a w (Nx P h0 w0 st be oe K a o.dst) Q:=by
 have f:=s.rdO p
 rw[C]at f
 obtain⟨b,off,O,J,cur,ty,⟨l,_,q,N⟩,g⟩:=u
 obtain⟨I,T,R,L,d,m⟩:=f
 rw[l]at d;cases d
 have y:=B02 _ _ v
 have F:=B06 (H:=h) (P:=P) (a:=a) (cur:=cur.toList) A E m (by rw[i];exact y) (by grind[I03]) (by simpa using q) (by simp;omega)
 obtain⟨S,c,U,D,⟨rfl,rfl⟩,z⟩:=B9 _ _ _ (C07 s) (F (λn c=>n = .skip/\c=_) ⟨rfl,rfl⟩)
 obtain⟨G,j⟩:=s.moved z
 rw[s04]at g
 rw[i]at j
 exact r08 D ⟨_,_,_,_,_,_,_,g,rfl,j,rfl,J6.refl _ _ _⟩
theorem W08:∀(c:List Field),R05 P c=true->∃ b,c.mapM (λf:Field=>(P.info? f.type).map λi=>(f.offset,i.size))=some b /\
  ∀(k:Nat) (f:Field) (n:Nat),c[k]?=some f->I5 P f.type=some n->b[k]?=some (f.offset,n)
 | [],_=>⟨[],rfl,by simp⟩
 |f::r,h=>by
  simp only[R05]at h
  split at h
  ·rename_i m a
   obtain⟨b,d,j⟩:=W08 r h
   unfold I5 at a
   split at a
   ·rename_i i l
    cases a
    refine⟨(f.offset,i.size)::b,by simp_all,λk g n o p=>?_⟩
    grind[I5]
   ·cases a
  ·cases h
theorem l0a{d:Array Field}{o:List (Nat×Nat)}(j:∀(k:Nat) (f:Field) (n:Nat),d.toList[k]?=some f->I5 P f.type=some n->o[k]?=some (f.offset,n)){rd:Operand->AV}
  (m:∀ x cs,V9 (rd x)=some cs->Z1 st oe cs (a.eval x).cells.toList):∀(l:List (Nat×Operand)) {cs:List A5} {vs:List Value} {K:List A5->Prop},Z1 st oe cs vs->t07 P d rd l cs K ->
  ∃ cs' c,K cs'/\Z1 st oe cs' c/\Instr.fill (o.toArray[·]?) vs.toArray (l.map λp=>(p.1,a.eval p.2))=some c.toArray
 | [],cs,vs,K,g,b=>⟨cs,vs,b,g,rfl⟩
 |(i,x)::r,cs,vs,K,g,b=>by
  simp only[t07]at b
  split at b
  rotate_left
  ·exact b.elim
  rename_i f new hf u
  split at b
  rotate_left
  ·exact b.elim
  rename_i n w
  split at b
  rotate_left
  ·exact b.elim
  rename_i t s
  have F:=B02 _ _ t
  have E:=Nat.le_of_ble_eq_true s
  have h:=m x new u
  have v:=j i f n (by simpa using hf) w
  have D:=g.length
  have G:=h.length
  obtain⟨cs',c,z,A,H⟩:=l0a j m r (g.splice h) b
  refine⟨cs',c,z,A,?_⟩
  have y:(a.eval x).cells.size=n:=by grind
  simp only[List.map_cons,Instr.fill,List.getElem?_toArray,v,y,ne_eq,not_true_eq_false,decide_false,Bool.false_or,decide_eq_true_eq]
  rw[if_neg (by simp;omega)]
  have q:=K0d (a.eval x) f.offset vs.toArray
  have C:((a.eval x).cells.zipIdx.foldl (λcs (p:Value×Nat)=>cs.setIfInBounds (f.offset+p.2) p.1) vs.toArray)=(U2 vs f.offset (a.eval x).cells.toList).toArray:=by
   rw[←q]
  grind
theorem R0i(s:Sim P h0 w0 be oe H st h a w){t:TypeId}{ps:Array (Nat×Operand)}{b:Array Field}{z:Value}{rd:Operand->AV}{K':AV->Prop}(y:o.op = .build t ps)(A:P.underlying t=some (.struct b))
  (l:F00 P t=some z) (g:R05 P b.toList=true) (k:∀ x cs,V9 (rd x)=some cs->Z1 st oe cs (a.eval x).cells.toList)
  (j:t07 P b rd ps.toList (vals z.cells.toList) λcs=>K' (.agg cs)) :
  ∃ av v,K' av/\A2 st be oe av v/\∀ w:World,(execOp a.eval o).run P w = .ok (.value v) w:=by
 obtain⟨D,p,f⟩:=W08 b.toList g
 obtain⟨cs',d,m,n,C⟩:=l0a (st:=st) (oe:=oe) (a:=a) f k ps.toList (Z1.vals st oe z.cells.toList) j
 have c:=l
 unfold F00 at c
 split at c
 rotate_left
 ·cases c
 rename_i i u
 have q:P.built t (ps.map λx=>(x.1,a.eval x.2)).toList=some d.toArray:=by
  unfold Program.built
  simp_all
 refine⟨_,.agg d.toArray,m,⟨d,rfl,n⟩,λw=>?_⟩
 simp_all[execOp,Sem.run_bind,run_build,Result.andThen_ok,Sem.run_pure]
theorem X08{sz:Nat}{rd:Operand->AV}
  (h:∀ x cs,V9 (rd x)=some cs->Z1 st oe cs (a.eval x).cells.toList):∀(l:List (Nat×Operand)) {cs:List A5} {vs:List Value} {K:List A5->Prop},Z1 st oe cs vs->U09 sz rd l cs K ->
  ∃ cs' d,K cs'/\Z1 st oe cs' d/\Instr.fill (λi=>some (i*sz,sz)) vs.toArray (l.map λp=>(p.1,a.eval p.2))=some d.toArray
 | [],cs,vs,K,g,b=>⟨cs,vs,b,g,rfl⟩
 |(i,x)::r,cs,vs,K,g,b=>by
  simp only[U09]at b
  split at b
  rotate_left
  ·exact b.elim
  rename_i new s
  split at b
  rotate_left
  ·exact b.elim
  rename_i o n
  have q:=B02 _ _ o
  have A:=Nat.le_of_ble_eq_true n
  have f:=h x new s
  have z:=g.length
  have u:=f.length
  obtain⟨cs',d,v,w,y⟩:=X08 h r (g.splice f) b
  refine⟨cs',d,v,w,?_⟩
  have t:(a.eval x).cells.size=sz:=by rw[←q,u];simp
  simp only[List.map_cons,Instr.fill,t,ne_eq,not_true_eq_false,decide_false,Bool.false_or,decide_eq_true_eq]
  rw[if_neg (by simp;omega)]
  have k:=K0d (a.eval x) (i*sz) vs.toArray
  have m:((a.eval x).cells.zipIdx.foldl (λcs (p:Value×Nat)=>cs.setIfInBounds (i*sz+p.2) p.1) vs.toArray)=(U2 vs (i*sz) (a.eval x).cells.toList).toArray:=by
   rw[←k]
  rw[show((a.eval x).cells.zipIdx.foldl (λcs (x:Value×Nat)=>match x with|(c,j)=>cs.setIfInBounds (i*sz+j) c) vs.toArray)=(U2 vs (i*sz) (a.eval x).cells.toList).toArray from m]
  simpa using y
theorem S0i(s:Sim P h0 w0 be oe H st h a w){t e:TypeId}{n sz:Nat}{ps:Array (Nat×Operand)}{z:Value}{rd:Operand->AV}{K':AV->Prop}(l:o.op = .build t ps)(q:P.underlying t=some (.array n e))
  (u:F00 P t=some z) (b:I5 P e=some sz) (m:∀ x cs,V9 (rd x)=some cs->Z1 st oe cs (a.eval x).cells.toList)
  (g:U09 sz rd ps.toList (vals z.cells.toList) λcs=>K' (.agg cs)) :
  ∃ av v,K' av/\A2 st be oe av v/\∀ w:World,(execOp a.eval o).run P w = .ok (.value v) w:=by
 obtain⟨cs',d,y,A,C⟩:=X08 (st:=st) (oe:=oe) (a:=a) m ps.toList (Z1.vals st oe z.cells.toList) g
 have c:=u
 unfold F00 at c
 split at c
 rotate_left
 ·cases c
 rename_i i j
 unfold I5 at b
 split at b
 rotate_left
 ·cases b
 rename_i D k
 cases b
 have f:P.built t (ps.map λx=>(x.1,a.eval x.2)).toList=some d.toArray:=by
  unfold Program.built
  simp only[j,q,c,k]
  rw[show(Array.map (λx=>(x.1,a.eval x.2)) ps).toList=ps.toList.map λp=>(p.1,a.eval p.2) from by simp]
  simpa using C
 refine⟨_,.agg d.toArray,y,⟨d,rfl,A⟩,λw=>?_⟩
 unfold execOp;rw[l]
 simp only[Sem.run_bind,run_build w t _ _ f,Result.andThen_ok,Sem.run_pure]
theorem B0f(s:Sim P h0 w0 be oe H st h a w){x:Operand}{cs:List A5}(b:s07 (rdO st x)=some cs):∃ vs:List Value,a.eval x = .agg vs.toArray/\Z1 st oe cs vs:=by
 have g:=s.rdO x
 cases hr:rdO st x with
 |val v =>
  rw[hr]at b g
  cases v<;>simp only[s07,Option.some.injEq]at b<;>first|(subst b;exact⟨_,by rw[show a.eval x=_ from g],Z1.vals _ _ _⟩)|cases b
 |agg cs' =>
  rw[hr]at b g
  simp only[s07,Option.some.injEq]at b
  subst b
  exact g
 |_=>rw[hr]at b;cases b
theorem O0o(s:Sim P h0 w0 be oe H st h a w){t:TypeId}{x:Operand}{k:Nat}{cs:List A5}{m:Array Field}{f:Field}(y:o.op = .field t x k)(q:s07 (rdO st x)=some cs)
  (A:P.underlying t=some (.struct m)) (hf:m[k]?=some f) (b:z04 P f.type cs f.offset λav=>K av st h):o.wp P a w (Nx P h0 w0 st be oe K a o.dst) Q:=by
 obtain⟨vs,D,g⟩:=B0f s q
 unfold z04 at b
 have fin:∀(av:AV) (v:Value),K av st h->A2 st be oe av v->(∀ d:Value->Hp->Prop,d v H->wpS P (part f.type vs.toArray f.offset) H d)->o.wp P a w (Nx P h0 w0 st be oe K a o.dst) Q:=by
  intro av v j u C
  refine F6 s (λd z=>?_) u j
  unfold execOp;rw[y]
  refine P7 _ _ _ ?_
  grind[Instr.field,J2,K5,asAgg,Q2]
 split at b
 ·rename_i i
  split at b
  ·rename_i n l
   split at b
   ·refine fin _ (.agg ((vs.drop f.offset).take n).toArray) b ⟨_,rfl,(g.drop _).take _⟩ λd j=>?_
    simp only[part,J2,s08 i,if_true,Y00 l,Q2]
    grind
   ·exact b.elim
  ·exact b.elim
 ·rename_i i
  split at b
  ·rename_i c l
   obtain⟨v,hv,p⟩:=g.nth l
   refine fin _ v b (A2.ofCell p) λd j=>?_
   simp only[part,J2,s08 i,Bool.false_eq_true,if_false]
   grind[Q2]
  ·exact b.elim
 ·exact b.elim
theorem m0a{t:TypeId}{e:TypeId}{x:Operand}{as:Array Operand}{b:Array TypeId}{d:Option Addr}{n c:Nat}(g:o.op = .call { callee := .builtin .len,args:=as,argTypes:=b })(f:as = #[x])(i:b = #[t])
  (h:V00 P t=some e) (j:a.eval x = .slice d n c) (w:World):(execOp a.eval o).run P w = .ok (.value (.int .i64 n)) w:=by
 subst f;subst i
 unfold execOp;rw[g]
 simp only[resolve,invoke,builtin,Builtin.len_,Sem.run_bind,Sem.run_pure,Result.andThen_ok,List.map_toArray,List.map_cons,List.map_nil,j,List.getElem?_toArray,List.getElem?_cons_zero,run_underlying (g9 h),goInt]
end
section
variable {P:Program} {h0:Hp} {w0:World} {be:Nat->Nat} {oe:Nat->Value} {H:Hp} {st:St} {h:Hp} {a:Act} {w:World} {o:Oper} {K:AV->St->Hp->Prop} {Q:Exit->Act->World->Prop}
theorem H07(s:Sim P h0 w0 be oe H st h a w){av:AV}{v:Value}(c:∀ w:World,(execOp a.eval o).run P w = .ok (.value v) w)(g:A2 st be oe av v)(b:K av st h):o.wp P a w (Nx P h0 w0 st be oe K a o.dst) Q :=
 B7 (c w) ⟨av,st,h,v,be,oe,H,b,rfl,s,g,J6.refl _ _ _⟩
set_option maxHeartbeats 1000000 in
theorem J9(s:Sim P h0 w0 be oe H st h a w)(d:R7 P o st h K):o.wp P a w (Nx P h0 w0 st be oe K a o.dst) Q:=by
 cases ho:o.op with
 |move x=>simp only[R7,ho]at d;exact X0l s (.inl ho) d
 |assign x=>simp only[R7,ho]at d;exact X0l s (.inr ho) d
 |box t x =>
  simp only[R7,ho]at d
  split at d
  ·rename_i cs E;exact k0s s ho E d
  ·exact d.elim
 |alloc t =>
  simp only[R7,ho]at d
  split at d
  ·rename_i z O;exact L0o s ho O d
  ·exact d.elim
 |fieldAddr t x k=>simp only[R7,ho]at d;exact u0h s ho d
 |indexAddr t x i=>simp only[R7,ho]at d;exact z0h s ho d
 |load t x =>
  simp only[R7,ho]at d
  split at d
  ·rename_i i off u
   split at d
   ·rename_i cs ty J;exact O0i s ho u J d
   ·exact d.elim
  ·rename_i sl idx sz k u
   obtain⟨c,E,y⟩:=d
   exact P0i s ho u E y
  ·rename_i i ag idx sz k u
   split at d
   ·rename_i ba e bb by_ nn xs J
    split at d
    ·rename_i U
     have ab:=Nat.eq_of_beq_eq_true U
     subst ab
     obtain⟨c,E,y⟩:=d
     exact Q0i s ho u J E y
    ·exact d.elim
   ·exact d.elim
  ·exact I8 s d
 |store t p x =>
  simp only[R7,ho]at d
  split at d
  ·rename_i i off u
   split at d
   ·rename_i cs ty new n J E C
    split at d
    ·rename_i I A;exact v0h s ho u J E C I A d
    ·exact d.elim
   ·exact d.elim
  ·rename_i i ag idx sz k u
   exact A0h s ho u d
  ·rename_i sl idx sz k u
   split at d
   ·rename_i v q
    split at d
    ·rename_i C;exact B0h s ho u q C d
    ·rename_i n _ C
     split at d
     ·rename_i I A
      exact V08 s ho u (by have:=s.rdO x;rw[q]at this;rw[show a.eval x=v from this]) C I A d
     ·exact d.elim
    ·exact d.elim
   ·rename_i cs q
    split at d
    ·rename_i n new C hv
     split at d
     ·rename_i I A
      refine V08 s ho u ?_ C I A d
      have g:=s.rdO x
      rw[q]at g
      obtain⟨vs,g1,g2⟩:=g
      rw[g1,D07 hv g2]
      rfl
     ·exact d.elim
    ·exact d.elim
   ·exact d.elim
  ·exact I8 s d
 |build t ps =>
  simp only[R7,ho]at d
  split at d
  ·rename_i ax z N O
   split at d
   ·rename_i V
    obtain⟨av,v,ad,ae,af⟩:=R0i (K':=λav=>K av st h) s ho N O V (λx cs E=>j04 s E) d
    exact H07 s af ae ad
   ·exact d.elim
  ·rename_i n e z N O
   split at d
   ·rename_i sz C
    obtain⟨av,v,ad,ae,af⟩:=S0i (K':=λav=>K av st h) s ho N O C (λx cs E=>j04 s E) d
    exact H07 s af ae ad
   ·exact d.elim
  ·exact d.elim
 |buildSlice t n ps =>
  simp only[R7,ho]at d
  split at d
  ·rename_i e L
   split at d
   ·rename_i sz by_ z C U O
    split at d
    ·rename_i J Z I;exact A0f s ho L C O J Z d
    ·exact d.elim
   ·exact d.elim
  ·exact d.elim
 |makeSlice t l c =>
  simp only[R7,ho]at d
  split at d
  ·rename_i e L
   split at d
   ·rename_i sz by_ z a1 a4 a0 a3 C U O I E
    split at d
    ·rename_i aF aC;exact y0h s ho L C U O I E aF aC d.1 d.2
    ·exact d.elim
   ·exact d.elim
  ·exact d.elim
 |field t x k =>
  simp only[R7,ho]at d
  split at d
  ·rename_i cs ax E N
   split at d
   ·rename_i f hf;exact O0o s ho E N hf d
   ·exact d.elim
  ·exact d.elim
 |slice t x a2 aj aJ =>
  cases aJ with
  |some m=>simp only[R7,ho]at d;exact x00 s d
  |none =>
   simp only[R7,ho]at d
   split at d
   ·rename_i i k u
    split at d
    ·rename_i e L
     split at d
     ·rename_i sz C;exact q0n s ho L C u d
     ·exact d.elim
    ·exact d.elim
   ·rename_i aU n c u
    split at d
    ·rename_i e L
     split at d
     ·rename_i sz C;exact p0n s ho L C u d
     ·exact d.elim
    ·exact d.elim
   ·rename_i b u
    split at d
    ·rename_i N
     unfold y0o at d
     split at d
     ·rename_i l m I Z
      have G:a.eval x = .string b:=by have:=s.rdO x;rw[u]at this;exact this
      obtain⟨⟨A,T,ay⟩,y⟩:=d
      exact F6 s (av := .val _) (exec_cutStr ho N G (D06 s I) (D06 s Z) A T ay) rfl y
     ·exact d.elim
    ·exact d.elim
   ·exact d.elim
 |index t x i =>
  simp only[R7,ho]at d
  split at d
  ·rename_i b k j q aj N
   have G:a.eval x = .string b:=by have:=s.rdO x;rw[q]at this;exact this
   have gi:a.eval i = .int k j:=by have:=s.rdO i;rw[aj]at this;exact this
   obtain⟨c,⟨A,T⟩,y⟩:=d
   exact F6 s (av := .val _) (exec_index ho N G gi A T) rfl y
  ·exact I8 s d
 |binOp aM t x F aP =>
  cases aM with
  |add =>
   simp only[R7,ho]at d
   split at d
   ·rename_i b c q D
    have G:a.eval x = .string b:=by have:=s.rdO x;rw[q]at this;exact this
    have M:a.eval F = .string c:=by have:=s.rdO F;rw[D]at this;exact this
    exact F6 s (av := .val _) (exec_cat ho G M d.1) rfl d.2
   ·exact I8 s d
  |quo =>
   simp only[R7,ho]at d
   split at d
   ·rename_i b c q D
    have G:a.eval x = .int .i64 b:=by have:=s.rdO x;rw[q]at this;exact this
    have M:a.eval F = .int .i64 c:=by have:=s.rdO F;rw[D]at this;exact this
    exact F6 s (av := .val _) (exec_quo ho G M d.1) rfl d.2
   ·exact I8 s d
  |rem =>
   simp only[R7,ho]at d
   split at d
   ·rename_i b c q D
    have G:a.eval x = .int .i64 b:=by have:=s.rdO x;rw[q]at this;exact this
    have M:a.eval F = .int .i64 c:=by have:=s.rdO F;rw[D]at this;exact this
    exact F6 s (av := .val _) (exec_rem ho G M d.1) rfl d.2
   ·exact I8 s d
  |shl =>
   simp only[R7,ho]at d
   split at d
   ·rename_i b c q D
    have G:a.eval x = .int .i64 b:=by have:=s.rdO x;rw[q]at this;exact this
    have M:a.eval F = .int .i64 c:=by have:=s.rdO F;rw[D]at this;exact this
    exact F6 s (av := .val _) (M0o ho G M d.1) rfl d.2
   ·exact I8 s d
  |shr =>
   simp only[R7,ho]at d
   split at d
   ·rename_i b c q D
    have G:a.eval x = .int .i64 b:=by have:=s.rdO x;rw[q]at this;exact this
    have M:a.eval F = .int .i64 c:=by have:=s.rdO F;rw[D]at this;exact this
    exact F6 s (av := .val _) (N0o ho G M d.1) rfl d.2
   ·exact I8 s d
  |eql =>
   simp only[R7,ho]at d
   split at d
   ·rename_i xs aS q D
    obtain⟨b,A,y⟩:=d
    exact H07 s (av := .val _) (A _ (B5 q (s.rdO x)) (B5 D (s.rdO F))) rfl y
   ·rename_i aq aK aH q D
    obtain⟨b,A,y⟩:=d
    exact H07 s (av := .val _) (A _ (B5 q (s.rdO x)) (B5 D (s.rdO F))) rfl y
   ·exact x00 s d
  |neq =>
   simp only[R7,ho]at d
   split at d
   ·rename_i xs aS q D
    obtain⟨b,A,y⟩:=d
    exact H07 s (av := .val _) (A _ (B5 q (s.rdO x)) (B5 D (s.rdO F))) rfl y
   ·rename_i aq aK aH q D
    obtain⟨b,A,y⟩:=d
    exact H07 s (av := .val _) (A _ (B5 q (s.rdO x)) (B5 D (s.rdO F))) rfl y
   ·exact x00 s d
  |_=>simp only[R7,ho]at d;exact x00 s d
 |convert ao ap x =>
  simp only[R7,ho]at d
  split at d
  ·rename_i i k u
   split at d
   ·rename_i ag aW sz by_ nn xs e J al am
    split at d
    ·rename_i an
     obtain⟨R,S,y⟩:=d
     obtain⟨aw,aO,ar,aL,aR,aa⟩:=z06 u
     have g:=s.rdO x
     rw[u]at g
     have q:=g.own_cur aa
     have W:=s.own i _ _ _ _ _ _ J
     have aN:(execOp a.eval o).run P w = .ok (.value (.string (strOfNums R))) w:=by
      unfold execOp
      rw[ho]
      rcases W.2 with⟨hv,aE,_⟩|⟨X,cap,cur,hv,_,az,aX,aY,aZ,ai⟩
      ·rw[aE]at S
       have aB:R = []:=by cases R with
        |nil=>rfl
        |cons n r=>cases S
       subst aB
       rw[hv]at q
       simp only[q,Sem.run_bind,run_convert_bytes_nil w ao e al an 0 0 ap am,Result.andThen_ok,Sem.run_pure]
       rfl
      ·rw[hv]at q
       have I:R.length=xs.length:=by rw[S];simp
       have aA:∀ j,j<xs.length->w.cell? ⟨X,0+j,none⟩=some (.int .u8 (R.getD j 0)):=λj Y=>by
        have ab:sz=1:=by
         have:=(W.1 _ (List.getElem_mem Y)).1
         rw[←this]
         simp only[S,List.getElem_map]
         rfl
        subst ab
        have hf:xs.flatten=R.map (Value.int .u8):=by
         rw[S]
         clear S I Y J W ai y
         induction R with
         |nil=>rfl
         |cons n r aG=>simp[aG]
        have aD:=K0o s _ _ az
        have T:=congrArg (λl:List Value=>l[j]?) (ai.trans hf)
        simp only[List.getElem?_take,Nat.mul_one,if_pos Y,List.getElem?_map,Array.getElem?_toList]at T
        simp only[World.cell?,aD,Nat.zero_add]
        rw[if_neg (by simp),T]
        simp[List.getD_eq_getElem?_getD,List.getElem?_eq_getElem (show j<R.length by omega)]
       simp only[q,Sem.run_bind,run_convert_bytes_arg w ao e al an X 0 xs.length cap R I aA ap am,Result.andThen_ok,Sem.run_pure]
     exact B7 aN ⟨_,_,_,_,_,_,_,y,rfl,s,rfl,J6.refl _ _ _⟩
    ·exact d.elim
   ·exact x00 s d
  ·exact x00 s d
 |call c =>
  obtain⟨au,as,aQ⟩:=c
  cases au with
  |builtin b =>
   cases b with
   |len =>
    simp only[R7,ho]at d
    split at d
    ·rename_i x t V ac
     have ah:as = #[x]:=by apply Array.ext';simpa using V
     have ak:aQ = #[t]:=by apply Array.ext';simpa using ac
     split at d
     ·rename_i i k u
      split at d
      ·rename_i ag e sz by_ nn xs aV J L
       obtain⟨aw,aO,ar,aL,aR,aa⟩:=z06 u
       have g:=s.rdO x
       rw[u]at g
       have q:=g.own_cur aa
       have W:=s.own i _ _ _ _ _ _ J
       rcases W.2 with⟨hv,S,_⟩|⟨X,cap,cur,hv,_⟩
       ·rw[hv]at q
        refine H07 s (av := .val _) (m0a ho ah ak L q) ?_ d
        rw[S];rfl
       ·rw[hv]at q
        exact H07 s (av := .val _) (m0a ho ah ak L q) rfl d
      ·exact d.elim
     ·exact I8 s d
    ·exact d.elim
   |append =>
    simp only[R7,ho]at d
    split at d
    ·rename_i x F t aP V ac
     split at d
     ·rename_i U
      have:=Nat.eq_of_beq_eq_true U
      subst this
      exact n0n s ho (by apply Array.ext';simpa using V) (by apply Array.ext';simpa using ac) d
     ·exact d.elim
    ·exact d.elim
   |_=>simp only[R7,ho]at d;exact x00 s d
  |value f=>simp only[R7,ho]at d;exact x00 s d
  |invoke r m=>simp only[R7,ho]at d;exact x00 s d
 |lookup _ _ _ _=>simp only[R7,ho]at d;exact k09 s d
 |mapUpdate _ _ _ _=>simp only[R7,ho]at d;exact k09 s d
 |insert _ _ _ _=>simp only[R7,ho]at d;exact k09 s d
 |_=>simp only[R7,ho]at d;exact x00 s d
end
end Go.H
