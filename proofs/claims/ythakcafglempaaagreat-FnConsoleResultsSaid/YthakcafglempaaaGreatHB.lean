/- The library of the walks, part HB: plain laws over the model. -/
import Derived.Test.YthakcafglempaaaGreatH3
import Derived.Laws.Tables
namespace Go.H
set_option linter.all false
theorem n08{a:Type}:∀(l:List a) (k:Nat),nth l k=l[k]?
 | [],k=>by simp[nth]
 |x::r,0=>by simp[nth]
 |x::r,k+1=>by simp[nth,n08 r k]
theorem S0e{a:Type}:∀(l:List a) (k:Nat) (x:a),F02 l k x=l.set k x
 | [],k,x=>by simp[F02]
 |y::r,0,x=>by simp[F02]
 |y::r,k+1,x=>by simp[F02,S0e r k x]
theorem n9{a:Type}(l:List a)(k:Nat)(x:a)(b:k<l.length)(j:Nat):nth (F02 l k x) j=if j=k then some x else nth l j:=by rw[n08,n08,S0e,List.getElem?_set];grind
theorem o04{a:Type}{l:List a}{k:Nat}{x:a}(h:nth l k=some x):k<l.length:=by grind[n08,List.getElem?_eq_some_iff]
theorem Y04{a:Type}(l:List a)(x:a)(j:Nat):nth (l ++ [x]) j=if j=l.length then some x else nth l j:=by rw[n08,n08,List.getElem?_append];grind
theorem Z08{a:Type}(l:List a)(k:Nat)(x:a):(F02 l k x).length=l.length:=by rw[S0e];simp
def stamp(st:St)(i:Nat):Option Nat:=match nth st.ow i with
 |some o=>some o.stamp
 |none=>none
def P0i(st:St)(oe:Nat->Value):S6->Value->Prop
 | .val v,x=>x=v
 | .own i k,x=>∃ s,stamp st i=some s/\k<=s/\(k=s->x=oe i)
def C2(st:St)(oe:Nat->Value):List S6->List Value->Prop
 | [],[]=>True
 |c::cs,v::vs=>P0i st oe c v/\C2 st oe cs vs
 |_,_=>False
def J2(st:St)(be:Nat->Nat)(oe:Nat->Value):AV->Value->Prop
 | .val v,x=>x=v
 | .own i k,x=>∃ a,stamp st i=some a/\k<=a/\(k=a->x=oe i)
 | .box i off,x=>i<st.bx.length/\x=ptr (be i) off
 | .hel a idx sz k,x=>∃ b o n c,a = .slice (some ⟨b,o,none⟩) n c/\x=ptr b (o+(idx.toNat*sz+k))
 | .oel i d idx sz k,x=>∃ a,stamp st i=some a/\d<=a/\(d=a->∃ g n c,oe i = .slice (some ⟨g,0,none⟩) n c/\x=ptr g (idx.toNat*sz+k))
 | .agg cs,x=>∃ vs,x = .agg vs.toArray/\C2 st oe cs vs
 | .dead,_=>True
structure I8 (st:St) (be:Nat->Nat) (oe:Nat->Value) (st':St) (be':Nat->Nat) (oe':Nat->Value):Prop where
 bl:st.bx.length<=st'.bx.length
 be:∀ i,i<st.bx.length->be' i=be i
 sm:∀ i s,stamp st i=some s->∃ s',stamp st' i=some s'/\s<=s'/\(s'=s->oe' i=oe i)
theorem I8.refl(st:St)(be:Nat->Nat)(oe:Nat->Value):I8 st be oe st be oe :=
 ⟨Nat.le_refl _,λ_ _=>rfl,λi s h=>⟨s,h,Nat.le_refl _,λ_=>rfl⟩⟩
theorem P0i.grow{st st':St}{be be':Nat->Nat}{oe oe':Nat->Value}(g:I8 st be oe st' be' oe'){c:S6}{x:Value}(h:P0i st oe c x):P0i st' oe' c x:=by
 cases c with
 |val v=>exact h
 |own i k =>obtain⟨j,d,f,n⟩:=h;obtain⟨l,a,b,m⟩:=g.sm i j d;exact⟨l,a,Nat.le_trans f b,λe=>oG⟩
theorem C2.grow{st st':St}{be be':Nat->Nat}{oe oe':Nat->Value}(g:I8 st be oe st' be' oe'):∀ {cs:List S6} {vs:List Value},C2 st oe cs vs->C2 st' oe' cs vs
 | [],[],_=>trivial
 |_::_,_::_,h=>⟨h.1.grow g,C2.grow g h.2⟩
 | [],_::_,h=>h.elim
 |_::_,[],h=>h.elim
theorem J2.grow{st st':St}{be be':Nat->Nat}{oe oe':Nat->Value}(g:I8 st be oe st' be' oe'){av:AV}{x:Value}(h:J2 st be oe av x):J2 st' be' oe' av x:=by
 cases av with
 |val v=>exact h
 |own i k =>obtain⟨c,a,b,m⟩:=h;obtain⟨j,d,f,l⟩:=g.sm i c a;exact⟨j,d,Nat.le_trans b f,λe=>oG⟩
 |box i off=>exact⟨Nat.lt_of_lt_of_le h.1 g.bl,by rw[g.be i h.1];exact h.2⟩
 |hel c idx sz k=>exact h
 |oel i n idx sz k =>obtain⟨c,a,b,m⟩:=h;obtain⟨j,d,f,l⟩:=g.sm i c a;exact⟨j,d,Nat.le_trans b f,λe=>oG⟩
 |agg cs=>obtain⟨vs,a,b⟩:=h;exact⟨vs,a,b.grow g⟩
 |dead=>trivial
theorem C2.length{st:St}{oe:Nat->Value}:∀ {cs:List S6} {vs:List Value},C2 st oe cs vs->cs.length=vs.length
 | [],[],_=>rfl
 |_::_,_::_,h=>by simp[C2.length h.2]
 | [],_::_,h=>h.elim
 |_::_,[],h=>h.elim
theorem C2.vals(st:St)(oe:Nat->Value):∀(vs:List Value),C2 st oe (vals vs) vs
 | []=>trivial
 |_::r=>⟨rfl,C2.vals st oe r⟩
theorem C2.nth{st:St}{oe:Nat->Value}:∀ {cs:List S6} {vs:List Value} {k:Nat} {c:S6},C2 st oe cs vs->nth cs k=some c->∃ v,vs[k]?=some v/\P0i st oe c v
 | [],_,k,c,_,h=>by simp[H.nth]at h
 |d::cs,b::vs,0,c,h,a=>by simp[H.nth]at a;subst a;exact⟨b,oS,h.1⟩
 |d::cs,b::vs,k+1,c,h,a=>by simp[H.nth]at a;obtain⟨v,e,f⟩:=C2.nth h.2 a;exact⟨v,by simpa using e,f⟩
 |_::_,[],_,_,h,_=>h.elim
theorem C2.drop{st:St}{oe:Nat->Value}:∀ {cs:List S6} {vs:List Value} (k:Nat),C2 st oe cs vs->C2 st oe (cs.drop k) (vs.drop k)
 |cs,vs,0,h=>by simpa using h
 | [],[],k+1,h=>by simpa using h
 |_::cs,_::vs,k+1,h=>by simpa using C2.drop k h.2
 | [],_::_,_+1,h=>h.elim
 |_::_,[],_+1,h=>h.elim
theorem C2.take{st:St}{oe:Nat->Value}:∀ {cs:List S6} {vs:List Value} (k:Nat),C2 st oe cs vs->C2 st oe (cs.take k) (vs.take k)
 |cs,vs,0,h=>by simp[C2]
 | [],[],k+1,h=>by simp[C2]
 |_::cs,_::vs,k+1,h=>by simpa [C2] using ⟨h.1,C2.take k h.2⟩
 | [],_::_,_+1,h=>h.elim
 |_::_,[],_+1,h=>h.elim
theorem C2.upd{st:St}{oe:Nat->Value}:∀ {cs:List S6} {vs:List Value} {k:Nat} {c:S6} {v:Value},C2 st oe cs vs->P0i st oe c v->C2 st oe (F02 cs k c) (vs.set k v)
 | [],[],k,c,v,h,a=>by simp[F02,C2]
 |_::cs,_::vs,0,c,v,h,a=>⟨a,h.2⟩
 |_::cs,_::vs,k+1,c,v,h,a=>⟨h.1,C2.upd h.2 a⟩
 | [],_::_,_,_,_,h,_=>h.elim
 |_::_,[],_,_,_,h,_=>h.elim
def M3:List Value->Nat->List Value->List Value
 |cs,_,[]=>cs
 |cs,off,x::r=>M3 (cs.set off x) (off+1) r
theorem C2.splice{st:St}{oe:Nat->Value}:∀ {new:List S6} {a:List Value} {cs:List S6} {vs:List Value} {off:Nat},C2 st oe cs vs->C2 st oe new a->C2 st oe (splice cs off new) (M3 vs off a)
 | [],[],cs,vs,off,h,_=>h
 |c::new,v::a,cs,vs,off,h,b=>by simp only[H.splice,M3];exact C2.splice (h.upd b.1) b.2
 | [],_::_,_,_,_,_,h=>h.elim
 |_::_,[],_,_,_,_,h=>h.elim
theorem b01:∀(a vs:List Value) (off:Nat),(M3 vs off a).length=vs.length
 | [],vs,off=>rfl
 |n::a,vs,off=>by simp[M3,b01 a]
def O09(h H:Hp)(v:Value)(e:TypeId)(sz:Nat)(nn:Bool)(xs:LV):Prop :=
  (∀ x∈xs,x.length=sz/\∀ v∈x,v.oneCell'=true) /\
  ((v = .slice none 0 0/\xs = []/\nn=false) ∨
   ∃ g cap cur,v = .slice (some ⟨g,0,none⟩) xs.length cap/\h g=none/\H g=some (.cells cur e (0,0)) /\
     xs.length<=cap/\cap<=maxLen/\cur.size=cap*sz/\cur.toList.take (xs.length*sz)=xs.flatten)
structure Sim (P:Program) (h0:Hp) (w0:World) (be:Nat->Nat) (oe:Nat->Value) (H:Hp) (st:St) (h:Hp) (a:Act) (w:World):Prop where
 mv:T2 h0 w0 H w
 sub:∀ b o,h b=some o->H b=some o
 box:∀ i cs ty,nth st.bx i=some (.live cs ty)->h (be i)=none/\∃ vs,C2 st oe cs vs/\H (be i)=some (.cells vs.toArray ty (0,0))
 pub:∀ i b,nth st.bx i=some (.publ b)->be i=b
 own:∀ i s e sz by_ nn xs,nth st.ow i=some ⟨s,.live e sz by_ nn xs⟩->O09 h H (oe i) e sz nn xs
 frz:∀ i s v,nth st.ow i=some ⟨s,.frozen v⟩->oe i=v
 bb:∀ i j cs ty cs' ty',nth st.bx i=some (.live cs ty)->nth st.bx j=some (.live cs' ty')->be i=be j->i=j
 oo:∀ i j s e sz by_ nn xs s' e' sz' by' nn' xs' g,nth st.ow i=some ⟨s,.live e sz by_ nn xs⟩->nth st.ow j=some ⟨s',.live e' sz' by' nn' xs'⟩ ->
  (oe i).ownBlock=some g->(oe j).ownBlock=some g->i=j
 bo:∀ i cs ty j s e sz by_ nn xs,nth st.bx i=some (.live cs ty)->nth st.ow j=some ⟨s,.live e sz by_ nn xs⟩->(oe j).ownBlock≠some (be i)
 dfr:a.defers = []
 siz:a.tmps.size=st.n
 fr:∀ s,J2 st be oe (L3 st.fr s) (a.tmps.getD s undef)
section
variable {P:Program} {h0:Hp} {w0:World} {be:Nat->Nat} {oe:Nat->Value} {H:Hp} {st:St} {h:Hp} {a:Act} {w:World}
theorem O09.block{h H:Hp}{v:Value}{e sz:Nat}{nn:Bool}{xs:LV}(o:O09 h H v e sz nn xs){g:Nat}(d:v.ownBlock=some g): h g=none/\∃ cap cur,v = .slice (some ⟨g,0,none⟩) xs.length cap/\H g=some (.cells cur e (0,0)):=by rcases o.2 with⟨rfl,_⟩|⟨a,cap,cur,rfl,b,c,_⟩;all_goals grind[Value.ownBlock]
theorem O09.keep{h h' H a:Hp}{v:Value}{e sz:Nat}{nn:Bool}{xs:LV}(o:O09 h H v e sz nn xs) (c:∀ g,v.ownBlock=some g->a g=H g/\h' g=none):O09 h' a v e sz nn xs:=by
 refine⟨o.1,?_⟩;rcases o.2 with d|⟨g,cap,cur,rfl,j,b,r⟩;·exact .inl d
 obtain⟨f,i⟩:=c g rfl;exact .inr ⟨g,cap,cur,rfl,i,by rw[f];exact b,r⟩
theorem h0v(s:Sim P h0 w0 be oe H st h a w):Vis H w:=s.mv.vis
theorem z0b(c:Sim P h0 w0 be oe H st h a w):Vis h w:=λb o d=>c.mv.vis b o (c.sub b o d)
theorem Sim.moved(c:Sim P h0 w0 be oe H st h a w){h':Hp}{s:World}(m:T2 h w h' s):∃ f,Sim P h0 w0 be oe f st h' a s:=by
 let f:Hp:=λb=>match h' b with
  |some o=>some o
  |none=>match h b with
   |some _=>none
   |none=>H b
 have C:∀ b,h b=none->H b≠none->f b=H b/\h' b=none:=by intro b d l;have q:b<w.heap.size:=c.mv.vis.lt l;have A:h' b=none:=m.none_of q d;grind
 have y:T2 H w f s:=by
  refine⟨m.os,m.tape,m.output,m.size,?_,?_,?_,m.fz,m.dn⟩
  ·intro b d l;have:h b=none:=by
    cases hc:h b with
    |none=>rfl
    |some o=>rw[c.sub b o hc]at l;cases l
   exact m.keep b d this
  ·intro b o j;simp only[f]at j;split at j;·rename_i x p;cases j;exact m.vis b _ p
   split at j;·cases j
   rename_i p d;have q:b<w.heap.size:=c.mv.vis.lt (by rw[j];simp);rw[m.keep b q d];exact c.mv.vis b o j
  intro b d;simp only[f]at d;split at d
  ·rename_i x p;rcases m.fresh b (by simp[p])with k|k
   ·left;cases hc:h b with
    |none=>exact absurd hc k
    |some o=>rw[c.sub b o hc];simp
   exact .inr k
  grind
 refine⟨f,⟨c.mv.trans y,?_,?_,c.pub,?_,c.frz,c.bb,c.oo,c.bo,c.dfr,c.siz,c.fr⟩⟩;·grind
 ·intro i cs ty n;obtain⟨k,vs,z,u⟩:=c.box i cs ty n;grind
 intro i t e sz by_ nn xs n;refine(c.own i t e sz by_ nn xs n).keep λg v=>?_;obtain⟨k,cap,cur,_,u⟩:=(c.own i t e sz by_ nn xs n).block v;grind
theorem F4(d:Nat)(av:AV)(r:List (Nat×AV))(s:Nat):L3 ((d,av)::r) s=if d=s then av else L3 r s:=by grind[L3,Nat.beq,Nat.eq_of_beq_eq_true,Nat.ne_of_beq_eq_false]
theorem Sim.put(b:Sim P h0 w0 be oe H st h a w){d:Nat}{av:AV}{v:Value}(k:d<st.n)(l:J2 st be oe av v): Sim P h0 w0 be oe H { st with fr:=(d,av)::st.fr } h (a.put (some d) v) w:=by
 have c:I8 st be oe { st with fr:=(d,av)::st.fr } be oe:=⟨Nat.le_refl _,λ_ _=>rfl,λi b h=>⟨b,h,Nat.le_refl _,λ_=>rfl⟩⟩;refine⟨b.mv,b.sub,λi cs ty m=>?_,b.pub,b.own,b.frz,b.bb,b.oo,b.bo,b.dfr,by simp[Act.put,b.siz],?_⟩;·obtain⟨f,vs,g,j⟩:=b.box i cs ty m;exact⟨f,vs,g.grow c,j⟩
 intro t;refine J2.grow c ?_;rw[F4];by_cases e:d=t
 ·subst e;rw[if_pos rfl];have:(a.put (some d) v).tmps.getD d undef=v:=by simp[Act.put,b.siz,k]
  rw[this];exact l
 rw[if_neg e];have:(a.put (some d) v).tmps.getD t undef=a.tmps.getD t undef:=by simp[Act.put,Array.getElem?_setIfInBounds_ne e]
 rw[this];exact b.fr t
theorem Sim.newBox(c:Sim P h0 w0 be oe H st h a w){cs:List S6}{vs:List Value}{t:TypeId}{b:Nat}{E:World}(z:C2 st oe cs vs)(y:H b=none)
  (m:T2 H w (H.set b (.cells vs.toArray t (0,0))) E) :
  let be':=λj=>if j=st.bx.length then b else be j
  let st':St := { st with bx:=st.bx ++ [.live cs t] }
  Sim P h0 w0 be' oe (H.set b (.cells vs.toArray t (0,0))) st' h a E/\I8 st be oe st' be' oe:=by
 intro be' st'
 have L:h b=none:=by
  cases p:h b with
  |none=>rfl
  |some o=>rw[c.sub b o p]at y;cases y
 have n:I8 st be oe st' be' oe:=by
  refine⟨by simp[st'],λi d=>?_,λi c N=>⟨c,N,Nat.le_refl _,λ_=>rfl⟩⟩
  grind
 have M:∀ x,H x≠none->x≠b:=λx q e=>by subst e;exact q y
 have s:∀ i cs ty,nth st.bx i=some (.live cs ty)->be' i=be i:=λi cs ty d=>by simp[be',Nat.ne_of_lt (o04 d)]
 have l:∀ i x,nth st'.bx i=some x->(i=st.bx.length/\x = .live cs t)∨(i≠st.bx.length/\nth st.bx i=some x):=by
  grind[Y04]
 have R:∀ i cs ty,nth st.bx i=some (.live cs ty)->be i≠b:=λi cs ty d=>by
  obtain⟨_,vs,_,v⟩:=c.box i cs ty d
  grind
 have S:∀ i k e sz by_ nn xs g,nth st.ow i=some ⟨k,.live e sz by_ nn xs⟩->(oe i).ownBlock=some g->g≠b:=λi k e sz by_ nn xs g d z=>by
  obtain⟨_,_,_,_,v⟩:=(c.own i k e sz by_ nn xs d).block z
  grind
 refine⟨⟨c.mv.trans m,?_,?_,?_,?_,c.frz,?_,c.oo,?_,c.dfr,c.siz,λt=>(c.fr t).grow n⟩,n⟩
 ·intro x o q
  rw[Hp.set_other _ _ (M x (by rw[c.sub x o q];simp))]
  exact c.sub x o q
 ·intro i cs' ty d
  rcases l i _ d with⟨rfl,e⟩|⟨e,f⟩
  ·cases e
   exact⟨by simp[be',L],vs,z.grow n,by simp[be',Hp.set]⟩
  ·obtain⟨C,Q,J,v⟩:=c.box i cs' ty f
   rw[s i cs' ty f]
   exact⟨C,Q,J.grow n,by grind[Hp.set_other]⟩
 ·intro i F d
  rcases l i _ d with⟨_,e⟩|⟨e,f⟩
  ·cases e
  ·simp[be',e,c.pub i F f]
 ·intro i k e sz by_ nn xs d
  refine(c.own i k e sz by_ nn xs d).keep λg K=>?_
  obtain⟨C,cap,cur,_,v⟩:=(c.own i k e sz by_ nn xs d).block K
  grind[Hp.set_other]
 ·intro i j G O T U d A e
  rcases l i _ d with⟨rfl,u⟩|⟨u,f⟩<;>rcases l j _ A with⟨rfl,I⟩|⟨I,D⟩
  ·rfl
  ·grind
  ·grind
  ·rw[s i _ _ f,s j _ _ D]at e;exact c.bb i j _ _ _ _ f D e
 ·intro i G O j k e sz by_ nn xs d A p
  rcases l i _ d with⟨rfl,u⟩|⟨u,f⟩
  ·grind
  ·rw[s i _ _ f]at p;exact c.bo i _ _ j _ _ _ _ _ _ f A p
theorem Sim.updBox(c:Sim P h0 w0 be oe H st h a w){i:Nat}{A cs:List S6}{vs:List Value}{t:TypeId}{E:World}(f:nth st.bx i=some (.live A t)) (K:C2 st oe cs vs) (m:T2 H w (H.set (be i) (.cells vs.toArray t (0,0))) E) : Sim P h0 w0 be oe (H.set (be i) (.cells vs.toArray t (0,0))) { st with bx:=F02 st.bx i (.live cs t) } h a E/\I8 st be oe { st with bx:=F02 st.bx i (.live cs t) } be oe:=by
 have n:I8 st be oe { st with bx:=F02 st.bx i (.live cs t) } be oe :=
  ⟨by simp[Z08],λ_ _=>rfl,λi c M=>⟨c,M,Nat.le_refl _,λ_=>rfl⟩⟩
 have L:=(c.box i A t f).1;have k:∀ j x,nth (F02 st.bx i (.live cs t)) j=some x->(j=i/\x = .live cs t)∨(j≠i/\nth st.bx j=some x):=by grind[n9,o04]
 refine⟨⟨c.mv.trans m,?_,?_,?_,?_,c.frz,?_,c.oo,?_,c.dfr,c.siz,λt=>(c.fr t).grow n⟩,n⟩;·intro x o l;have:x≠be i:=λe=>oG;rw[Hp.set_other _ _ this];exact c.sub x o l
 ·intro j cs' ty d;rcases k j _ d with⟨rfl,e⟩|⟨e,p⟩;·cases e;exact⟨L,vs,K.grow n,by simp[Hp.set]⟩
  obtain⟨v,Q,I,J⟩:=c.box j cs' ty p;have:be j≠be i:=λs=>e (c.bb j i _ _ _ _ p f s);exact⟨v,Q,I.grow n,by grind[Hp.set_other]⟩
 ·intro j b d;rcases k j _ d with⟨_,e⟩|⟨e,p⟩;·cases e
  exact c.pub j b p
 ·intro j z e sz by_ nn xs d;refine(c.own j z e sz by_ nn xs d).keep λg C=>?_;obtain⟨v,cap,cur,_,J⟩:=(c.own j z e sz by_ nn xs d).block C;exact⟨Hp.set_other _ _ (λs=>by subst s;exact c.bo i _ _ j _ _ _ _ _ _ f d C),v⟩
 ·intro x y F O R S l N e;rcases k x _ l with⟨rfl,u⟩|⟨u,q⟩<;>rcases k y _ N with⟨rfl,G⟩|⟨G,D⟩;·rfl
  ·exact c.bb _ _ _ _ _ _ f D e
  ·exact c.bb _ _ _ _ _ _ q f e
  exact c.bb _ _ _ _ _ _ q D e
 intro x F O j z e sz by_ nn xs l d;rcases k x _ l with⟨rfl,u⟩|⟨u,q⟩;·exact c.bo _ _ _ j _ _ _ _ _ _ f d
 exact c.bo _ _ _ j _ _ _ _ _ _ q d
end
section
variable {P:Program} {h0:Hp} {w0:World} {be:Nat->Nat} {oe:Nat->Value} {H:Hp} {st:St} {h:Hp} {a:Act} {w:World}
theorem V0q(st:St)(o:Own)(i b:Nat)(a:stamp st i=some b):stamp { st with ow:=st.ow ++ [o] } i=some b:=by
 unfold stamp at *;have c:i<st.ow.length:=by
  cases hn:nth st.ow i with
  |none=>rw[hn]at a;cases a
  |some x=>exact o04 hn
 simp_all[Y04,Nat.ne_of_lt]
theorem Sim.newOwn(c:Sim P h0 w0 be oe H st h a w){v:Value}{e sz by_:Nat}{nn:Bool}{xs:LV}{p:Hp}{R:World}
  (I:∀ b o,H b=some o->p b=some o) (m:T2 H w p R) (Y:O09 h p v e sz nn xs) (X:∀ g,v.ownBlock=some g->H g=none) :
  let oe':=λj=>if j=st.ow.length then v else oe j
  let st':St := { st with ow:=st.ow ++ [⟨0,.live e sz by_ nn xs⟩] }
  Sim P h0 w0 be oe' p st' h a R/\I8 st be oe st' be oe':=by
 intro oe' st'
 have F:I8 st be oe st' be oe':=by
  refine⟨Nat.le_refl _,λ_ _=>rfl,λi c A=>⟨c,V0q st _ i c A,Nat.le_refl _,λ_=>?_⟩⟩
  have W:i<st.ow.length:=by
   unfold stamp at A
   cases hn:nth st.ow i with
   |none=>rw[hn]at A;cases A
   |some x=>exact o04 hn
  grind
 have q:∀ i x,nth st'.ow i=some x->(i=st.ow.length/\x=⟨0,.live e sz by_ nn xs⟩)∨(i≠st.ow.length/\nth st.ow i=some x):=by
  grind[Y04]
 have aa:∀ b,H b≠none->p b=H b:=by
  intro b J
  cases l:H b with
  |none=>exact absurd l J
  |some o=>exact I b o l
 refine⟨⟨c.mv.trans m,λb o J=>I b o (c.sub b o J),?_,c.pub,?_,?_,c.bb,?_,?_,c.dfr,c.siz,λt=>(c.fr t).grow F⟩,F⟩
 ·intro i cs ty d
  obtain⟨G,vs,S,z⟩:=c.box i cs ty d
  exact⟨G,vs,S.grow F,I _ _ z⟩
 ·intro i Q y D u C E d
  rcases q i _ d with⟨rfl,f⟩|⟨f,n⟩
  ·grind
  ·simp only[oe',if_neg f]
   refine(c.own i _ _ _ _ _ _ n).keep λg K=>?_
   obtain⟨G,cap,cur,_,z⟩:=(c.own i _ _ _ _ _ _ n).block K
   grind
 ·intro i Q U d
  rcases q i _ d with⟨rfl,f⟩|⟨f,n⟩
  ·cases f
  ·simp only[oe',if_neg f];exact c.frz i Q U n
 ·intro i j s1 y D u C E s2 f ab V nn2 ac g d L gi O
  have Z:∀ k s1 y D u C E,nth st.ow k=some ⟨s1,.live y D u C E⟩->(oe k).ownBlock=some g->v.ownBlock≠some g:=λk _ _ _ _ _ _ T K l=>by
   obtain⟨G,cap,cur,_,z⟩:=(c.own k _ _ _ _ _ _ T).block K
   grind
  rcases q i _ d with⟨rfl,N⟩|⟨N,n⟩<;>rcases q j _ L with⟨rfl,s⟩|⟨s,M⟩
  ·rfl
  ·grind
  ·grind
  ·simp only[oe',if_neg N]at gi;simp only[oe',if_neg s]at O;exact c.oo i j _ _ _ _ _ _ _ _ _ _ _ _ g n M gi O
 ·intro i cs ty j s1 y D u C E d L l
  rcases q j _ L with⟨rfl,s⟩|⟨s,M⟩
  ·simp only[oe',if_pos rfl]at l
   obtain⟨_,vs,_,z⟩:=c.box i cs ty d
   grind
  ·simp only[oe',if_neg s]at l;exact c.bo i cs ty j _ _ _ _ _ _ d M l
theorem Sim.updOwn(c:Sim P h0 w0 be oe H st h a w){i M V af U:Nat}{ae:Bool}{ah:LV}(K:nth st.ow i=some ⟨M,.live V af U ae ah⟩)
  {v:Value} {s1 e sz by_:Nat} {nn:Bool} {xs:LV} {J:Hp} {T:World} (ao:M<=s1) (ap:s1=M->v=oe i)
  (m:T2 H w J T) (am:∀ b,(oe i).ownBlock≠some b->H b≠none->J b=H b) (an:O09 h J v e sz nn xs)
  (R:∀ g,v.ownBlock=some g->(oe i).ownBlock=some g∨H g=none) :
  let oe':=λj=>if j=i then v else oe j
  let st':St := { st with ow:=F02 st.ow i ⟨s1,.live e sz by_ nn xs⟩ }
  Sim P h0 w0 be oe' J st' h a T/\I8 st be oe st' be oe':=by
 intro oe' st'
 have X:=o04 K
 have L:I8 st be oe st' be oe':=by
  refine⟨Nat.le_refl _,λ_ _=>rfl,λj t Z=>?_⟩
  unfold stamp at Z ⊢
  simp only[st',n9 _ _ _ X]
  grind
 have C:∀ j x,nth st'.ow j=some x->(j=i/\x=⟨s1,.live e sz by_ nn xs⟩)∨(j≠i/\nth st.ow j=some x):=by
  grind[n9]
 have al:∀ g,(oe i).ownBlock=some g->h g=none:=λg s=>((c.own i _ _ _ _ _ _ K).block s).1
 have aq:∀ j s1 D G A F I g,j≠i->nth st.ow j=some ⟨s1,.live D G A F I⟩->(oe j).ownBlock=some g->(oe i).ownBlock≠some g/\v.ownBlock≠some g:=by
  intro j s1 D G A F I g Y n s
  have f:(oe i).ownBlock≠some g:=λl=>Y (c.oo j i _ _ _ _ _ _ _ _ _ _ _ _ g n K s l)
  refine⟨f,λl=>?_⟩
  rcases R g l with d|d
  ·exact f d
  ·obtain⟨_,cap,cur,_,q⟩:=(c.own j _ _ _ _ _ _ n).block s
   rw[d]at q;cases q
 have ai:∀ k cs ty,nth st.bx k=some (.live cs ty)->(oe i).ownBlock≠some (be k)/\v.ownBlock≠some (be k):=by
  intro k cs ty z
  have f:=c.bo k cs ty i _ _ _ _ _ _ z K
  refine⟨f,λl=>?_⟩
  rcases R _ l with d|d
  ·exact f d
  ·obtain⟨_,vs,_,q⟩:=c.box k cs ty z
   rw[d]at q;cases q
 refine⟨⟨c.mv.trans m,?_,?_,c.pub,?_,?_,c.bb,?_,?_,c.dfr,c.siz,λt=>(c.fr t).grow L⟩,L⟩
 ·intro b o W
  have ak:=c.sub b o W
  grind
 ·intro k cs ty z
  obtain⟨f,vs,d,q⟩:=c.box k cs ty z
  exact⟨f,vs,d.grow L,oG⟩
 ·intro j S D G A F I n
  rcases C j _ n with⟨rfl,p⟩|⟨p,u⟩
  ·grind
  ·simp only[oe',if_neg p]
   refine(c.own j _ _ _ _ _ _ u).keep λg s=>?_
   obtain⟨f,cap,cur,_,q⟩:=(c.own j _ _ _ _ _ _ u).block s
   grind
 ·intro j S ag n
  rcases C j _ n with⟨rfl,p⟩|⟨p,u⟩
  ·cases p
  ·simp only[oe',if_neg p];exact c.frz j S ag u
 ·intro x y s1 D G A F I s2 p ar aj nn2 au g aa ac O Q
  rcases C x _ aa with⟨rfl,N⟩|⟨N,ab⟩<;>rcases C y _ ac with⟨rfl,E⟩|⟨E,ad⟩
  ·rfl
  ·grind
  ·grind
  ·simp only[oe',if_neg N]at O;simp only[oe',if_neg E]at Q;exact c.oo x y _ _ _ _ _ _ _ _ _ _ _ _ g ab ad O Q
 ·intro k cs ty j s1 D G A F I z n l
  rcases C j _ n with⟨rfl,E⟩|⟨E,u⟩
  ·grind
  ·simp only[oe',if_neg E]at l;exact c.bo k cs ty j _ _ _ _ _ _ z u l
theorem Sim.freeze(c:Sim P h0 w0 be oe H st h a w){i l e sz by_:Nat}{nn:Bool}{xs:LV}(s:nth st.ow i=some ⟨l,.live e sz by_ nn xs⟩): ∃ h',Y0 h h' (oe i) e sz nn xs/\Sim P h0 w0 be oe H { st with ow:=F02 st.ow i ⟨l,.frozen (oe i)⟩ } h' a w /\ I8 st be oe { st with ow:=F02 st.ow i ⟨l,.frozen (oe i)⟩ } be oe:=by
 have V:=o04 s;have A:=c.own i _ _ _ _ _ _ s;have q:I8 st be oe { st with ow:=F02 st.ow i ⟨l,.frozen (oe i)⟩ } be oe:=by refine⟨Nat.le_refl _,λ_ _=>rfl,λj t Y=>⟨t,?_,Nat.le_refl _,λ_=>rfl⟩⟩;unfold stamp at Y ⊢;simp only[n9 _ _ _ V];grind
 have m:∀ j x,nth (F02 st.ow i ⟨l,.frozen (oe i)⟩) j=some x->(j=i/\x=⟨l,.frozen (oe i)⟩)∨(j≠i/\nth st.ow j=some x):=by grind[n9]
 have M:∀ h',(∀ b,(oe i).ownBlock≠some b->h' b=h b)->(∀ b o,h' b=some o->H b=some o) ->
   Sim P h0 w0 be oe H { st with ow:=F02 st.ow i ⟨l,.frozen (oe i)⟩ } h' a w:=by
  intro h' L X
  refine⟨c.mv,X,?_,c.pub,?_,?_,c.bb,?_,?_,c.dfr,c.siz,λt=>(c.fr t).grow q⟩
  ·intro k cs ty u
   obtain⟨v,vs,I,U⟩:=c.box k cs ty u
   exact⟨by rw[L _ (c.bo k cs ty i _ _ _ _ _ _ u s)];exact v,vs,I.grow q,U⟩
  ·intro j O F Q E N R p
   rcases m j _ p with⟨rfl,d⟩|⟨d,f⟩
   ·cases d
   ·refine(c.own j _ _ _ _ _ _ f).keep λg K=>⟨rfl,?_⟩
    rw[L g (λz=>d (c.oo j i _ _ _ _ _ _ _ _ _ _ _ _ g f s K z))]
    exact((c.own j _ _ _ _ _ _ f).block K).1
  ·intro j O ac p
   rcases m j _ p with⟨rfl,d⟩|⟨d,f⟩
   ·cases d;rfl
   ·exact c.frz j O ac f
  ·intro x y s1 F Q E N R s2 d ae ad nn2 af g D aa S T
   rcases m x _ D with⟨rfl,G⟩|⟨G,Z⟩<;>rcases m y _ aa with⟨rfl,n⟩|⟨n,ab⟩
   ·rfl
   ·cases G
   ·cases n
   ·exact c.oo x y _ _ _ _ _ _ _ _ _ _ _ _ g Z ab S T
  ·intro k cs ty j s1 F Q E N R u p z
   rcases m j _ p with⟨rfl,n⟩|⟨n,f⟩
   ·cases n
   ·exact c.bo k cs ty j _ _ _ _ _ _ u f z
 rcases A.2 with⟨C,D,W⟩|⟨g,cap,cur,C,v,I,r⟩;·exact⟨h,⟨A.1,.inl ⟨C,D,W,rfl⟩⟩,M h (λ_ _=>rfl) c.sub,q⟩
 refine⟨h.set g (.cells cur e (0,0)),⟨A.1,.inr ⟨g,cap,cur,C,v,rfl,r⟩⟩,M _ ?_ ?_,q⟩;·grind[Hp.set_other,Value.ownBlock]
 intro b o J;by_cases e':b=g;·grind[Hp.set]
 rw[Hp.set_other _ _ e']at J;exact c.sub b o J
theorem Sim.publ(c:Sim P h0 w0 be oe H st h a w){i:Nat}{cs:List S6}{ty:TypeId}(n:nth st.bx i=some (.live cs ty)){vs:List Value} (T:H (be i)=some (.cells vs.toArray ty (0,0))) : h (be i)=none/\Sim P h0 w0 be oe H { st with bx:=F02 st.bx i (.publ (be i)) } (h.set (be i) (.cells vs.toArray ty (0,0))) a w /\ I8 st be oe { st with bx:=F02 st.bx i (.publ (be i)) } be oe:=by
 have U:=o04 n;have I:=(c.box i cs ty n).1;have q:I8 st be oe { st with bx:=F02 st.bx i (.publ (be i)) } be oe :=
  ⟨by simp[Z08],λ_ _=>rfl,λj t J=>⟨t,J,Nat.le_refl _,λ_=>rfl⟩⟩
 have f:∀ j x,nth (F02 st.bx i (.publ (be i))) j=some x->(j=i/\x = .publ (be i))∨(j≠i/\nth st.bx j=some x):=by grind[n9]
 refine⟨I,⟨c.mv,?_,?_,?_,?_,c.frz,?_,c.oo,?_,c.dfr,c.siz,λt=>(c.fr t).grow q⟩,q⟩
 ·intro b o A;by_cases l:b=be i;·grind[Hp.set]
  rw[Hp.set_other _ _ l]at A;exact c.sub b o A
 ·intro k cs' N s;rcases f k _ s with⟨rfl,e⟩|⟨e,p⟩;·cases e
  obtain⟨E,Q,F,G⟩:=c.box k cs' N p;exact⟨by rw[Hp.set_other _ _ (λl=>e (c.bb k i _ _ _ _ p n l))];exact E,Q,F.grow q,G⟩
 ·intro k b s;rcases f k _ s with⟨rfl,e⟩|⟨e,p⟩;·cases e;rfl
  exact c.pub k b p
 ·intro j M d W R V Y m;refine(c.own j _ _ _ _ _ _ m).keep λg C=>⟨rfl,?_⟩;rw[Hp.set_other _ _ (λl=>by subst l;exact c.bo i cs ty j _ _ _ _ _ _ n m C)];exact((c.own j _ _ _ _ _ _ m).block C).1
 ·intro x y D O S X u K e;rcases f x _ u with⟨_,d⟩|⟨d,v⟩;·cases d
  rcases f y _ K with⟨_,z⟩|⟨z,L⟩;·cases z
  exact c.bb _ _ _ _ _ _ v L e
 intro x D O j M e sz by_ nn xs u m;rcases f x _ u with⟨_,d⟩|⟨d,v⟩;·cases d
 exact c.bo _ _ _ j _ _ _ _ _ _ v m
theorem Sim.rdA(d:Sim P h0 w0 be oe H st h a w){av:AV}{x:Value}(g:J2 st be oe av x):J2 st be oe (rdA st av) x:=by
 cases av with
 |own i k =>
  simp only[Go.H.rdA];split
  ·rename_i m o c;split
   ·rename_i j;have l:=Nat.eq_of_beq_eq_true j;split;·exact g
    rename_i v;obtain⟨t,n,_,e⟩:=g;have:t=m:=by grind[stamp]
    subst this;have:=e l.symm;rw[d.frz i _ v c]at this;exact this
   trivial
  trivial
 |box i off =>
  simp only[Go.H.rdA];split;·exact g
  ·rename_i b c;have:=g.2;rw[d.pub i b c]at this;exact this
  trivial
 |oel i k idx sz f =>
  simp only[Go.H.rdA];split
  ·split;·exact g
   trivial
  trivial
 |_=>exact g
theorem Sim.rdO(s:Sim P h0 w0 be oe H st h a w)(x:Operand):J2 st be oe (rdO st x) (a.eval x):=by
 cases x with
 |tmp t=>exact s.rdA (s.fr t)
 |const v=>rfl
 |global g=>trivial
 |func f=>rfl
theorem v0a{st:St}{av:AV}{i k:Nat}(h:Go.H.rdA st av = .own i k):∃ e sz by_ nn xs,nth st.ow i=some ⟨k,.live e sz by_ nn xs⟩:=by
 cases av with
 |own j l =>grind[Go.H.rdA,Nat.eq_of_beq_eq_true]
 |box j off=>simp only[Go.H.rdA]at h;split at h<;>cases h
 |oel j l idx sz f=>simp only[Go.H.rdA]at h;split at h<;>(try split at h)<;>cases h
 |_=>cases h
theorem w0a{st:St}{x:Operand}{i k:Nat}(h:Go.H.rdO st x = .own i k):∃ e sz by_ nn xs,nth st.ow i=some ⟨k,.live e sz by_ nn xs⟩:=by
 cases x with
 |tmp t=>exact v0a h
 |_=>cases h
theorem U0m{st:St}{av:AV}{i k:Nat}{idx:Int}{sz f:Nat}(h:Go.H.rdA st av = .oel i k idx sz f):∃ e a by_ nn xs,nth st.ow i=some ⟨k,.live e a by_ nn xs⟩:=by
 cases av with
 |own j l=>simp only[Go.H.rdA]at h;split at h<;>(try split at h)<;>(try split at h)<;>cases h
 |box j off=>simp only[Go.H.rdA]at h;split at h<;>cases h
 |oel j l idx sz f =>grind[Go.H.rdA,Nat.eq_of_beq_eq_true]
 |_=>cases h
theorem V0m{st:St}{x:Operand}{i k:Nat}{idx:Int}{sz f:Nat}(h:Go.H.rdO st x = .oel i k idx sz f):∃ e a by_ nn xs,nth st.ow i=some ⟨k,.live e a by_ nn xs⟩:=by
 cases x with
 |tmp t=>exact U0m h
 |_=>cases h
theorem J2.own_cur{st:St}{be:Nat->Nat}{oe:Nat->Value}{i k:Nat}{x:Value}{o:OSt}(g:J2 st be oe (.own i k) x)(c:nth st.ow i=some ⟨k,o⟩):x=oe i:=by obtain⟨d,a,_,b⟩:=g;grind[stamp]
theorem J2.oel_cur{st:St}{be:Nat->Nat}{oe:Nat->Value}{i k:Nat}{idx:Int}{sz f:Nat}{x:Value}{o:OSt}(g:J2 st be oe (.oel i k idx sz f) x)(d:nth st.ow i=some ⟨k,o⟩): ∃ g n c,oe i = .slice (some ⟨g,0,none⟩) n c/\x=ptr g (idx.toNat*sz+f):=by obtain⟨e,a,_,b⟩:=g;grind[stamp]
theorem A0b{st:St}:∀ {cs:List S6} {vs ws:List Value},H0i cs=some vs->C2 st oe cs ws->ws=vs
 | [],vs,[],h,_=>by cases h;rfl
 | [],vs,_::_,h,g=>g.elim
 | .val v::r,vs,[],h,g=>g.elim
 | .val v::r,vs,w::ws,h,g=>by
  simp only[H0i]at h;split at h;·rename_i d c;cases h;obtain⟨a,b⟩:=g;rw[A0b c b,show w=v from a]
  cases h
 | .own i k::r,vs,ws,h,g=>by cases h
theorem T6{st:St}{av:AV}{v x:Value}(h:j08 av=some v)(g:J2 st be oe av x):x=v:=by
 cases av with
 |val u=>cases h;exact g
 |agg cs =>
  simp only[j08]at h;split at h;·rename_i vs b;cases h;obtain⟨ws,rfl,a⟩:=g;rw[A0b b a]
  cases h
 |_=>cases h
end
theorem N2{P:Program}{g e:Type}(d:Sem g)(f:g->Sem e):∀(h:Hp) (K:e->Hp->Prop),wpS P (d >>= f) h K=wpS P d h (λx h'=>wpS P (f x) h' K):=by
 change ∀(h:Hp) (K:e->Hp->Prop),wpS P (d.bind f) h K=wpS P d h (λx h'=>wpS P (f x) h' K);induction d with
 |pure a=>intro h K;rfl
 |load m a k b=>grind[Sem.bind,wpS]
 |store m a v k b=>intro h K;simp only[Sem.bind,wpS,b]
 |new o k b=>grind[Sem.bind,wpS]
 |shape r k b=>grind[Sem.bind,wpS]
 |freeze a n k b=>intro h K;rfl
 |frozen a k b=>grind[Sem.bind,wpS]
 |getObj r k b=>grind[Sem.bind,wpS]
 |setObj r o k b=>grind[Sem.bind,wpS]
 |choose q k b=>grind[Sem.bind,wpS]
 |sys c k b=>intro h K;rfl
 |program k b=>grind[Sem.bind,wpS]
 |mark m k b=>grind[Sem.bind,wpS]
 |halt x=>intro h K;rfl
theorem D3{P:Program}{a:Type}(x:a)(h:Hp)(K:a->Hp->Prop):wpS P (pure x) h K=K x h:=rfl
theorem Z0r{P:Program}{e:Type}(d:Sem e){x:e}(b:evP P d=some x):∀ w:World,d.run P w = .ok x w:=by
 induction d with
 |pure a=>simp_all[evP,Option.some.injEq]
 |program k c=>intro w;exact c _ b w
 |mark m k c=>intro w;exact c b w
 |_=>simp[evP]at b
theorem T0e(a:Operand->Value):∀ l:List Operand,N0m a l=l.map a
 | []=>rfl
 |x::r=>by simp only[N0m,List.map_cons,T0e a r]
theorem a0s:∀ a b:List Value,Q0u a b=a++b
 | [],b=>rfl
 |x::r,b=>by simp only[Q0u,List.cons_append,a0s r b]
theorem P09:∀ l:List Operand,n0b l=l.map fun | .const _=>true|_=>false
 | []=>rfl
 | .const _::r=>by simp only[n0b,List.map_cons,P09 r]
 | .tmp _::r=>by simp only[n0b,List.map_cons,P09 r]
 | .global _::r=>by simp only[n0b,List.map_cons,P09 r]
 | .func _::r=>by simp only[n0b,List.map_cons,P09 r]
theorem U0e(a:Operand->Value)(o:Oper):n0l a o=execOp a o:=by
 unfold n0l;split
 ·rename_i c d;obtain⟨i,as,j⟩:=c;split
  ·rename_i b g;simp only at g;subst g;unfold execOp;rw[d];simp only[resolve,T0e,P09];rw[show(List.map a as.toList).toArray=as.map a from by apply Array.ext';simp];have h:∀ f:Operand->Bool,(List.map f as.toList).toArray=as.map f:=λf=>by apply Array.ext';simp
   rw[h];rfl
  rfl
 ·rename_i fn first e d
  unfold execOp;rw[d];simp only[T0e];rw[show(List.map a first.toList).toArray=first.map a from by apply Array.ext';simp,show(List.map a e.toList).toArray=e.map a from by apply Array.ext';simp]
 rfl
theorem E0c{P:Program}{e:Operand->Value}{o:Oper}{f:FuncId}{l:List Value}(a:m0b e o=some (f,l))(b:okF P f=true)(w:World):(execOp e o).run P w = .ok (.enter f l.toArray) w:=by
 unfold m0b at a;split at a
 ·rename_i c i;obtain⟨m,as,q⟩:=c;split at a
  ·rename_i x d;simp only at d;subst d;split at a
   ·rename_i p first n j
    cases a;unfold okF at b;split at b
    ·rename_i fn hf;split at b
     ·rename_i k g;split at b;·cases b
      rename_i h;unfold execOp;rw[i];simp only[resolve,j,Deferred.ofValue,Sem.run_bind,Sem.run_pure,Result.andThen_ok,invoke,callFunc,program,Sem.run,hf,h,g,Bool.false_eq_true,if_false,Option.isNone_some];simp_all[a0s,T0e]
     cases b
    cases b
   cases a
  cases a
 cases a
section
variable {P:Program} {h0:Hp} {w0:World} {be:Nat->Nat} {oe:Nat->Value} {H:Hp} {st:St} {h:Hp} {a:Act} {w:World}
theorem I8.trans{st f h:St}{be a b:Nat->Nat}{oe d e:Nat->Value}(g:I8 st be oe f a d)(k:I8 f a d h b e):I8 st be oe h b e:=by
 refine⟨Nat.le_trans g.bl k.bl,λi c=>?_,λi m l=>?_⟩;·rw[k.be i (Nat.lt_of_lt_of_le c g.bl),g.be i c]
 obtain⟨s1,j,n,o⟩:=g.sm i m l;obtain⟨s2,p,q,s⟩:=k.sm i s1 j;grind
theorem V0e(o:Sim P h0 w0 be oe H st h a w){i k:Nat}{x:Value}(g:∃ t,stamp st i=some t/\k<=t/\(k=t->x=oe i)){K:Value->St->Hp->Prop} (b:M0m i k st h K):∃ st' h',K x st' h'/\Sim P h0 w0 be oe H st' h' a w/\I8 st be oe st' be oe/\st'.bx=st.bx:=by
 unfold M0m at b;obtain⟨t,q,_,m⟩:=g;split at b
 ·rename_i l e sz by_ nn xs f;split at b
  ·rename_i c;have d:=Nat.eq_of_beq_eq_true c;have j:t=l:=by grind[stamp]
   have n:x=oe i:=m (by rw[j,d]);obtain⟨h',p,f2,f3⟩:=o.freeze f;rw[n];exact⟨_,h',b _ _ p,f2,f3,rfl⟩
  exact b.elim
 ·rename_i l v f;split at b
  ·rename_i c;have d:=Nat.eq_of_beq_eq_true c;have j:t=l:=by grind[stamp]
   have n:x=v:=by rw[m (by rw[j,d]),o.frz i _ v f]
   grind[I8.refl]
  exact b.elim
 exact b.elim
theorem b06:∀(cs:List S6) {st:St} {h:Hp} {vs:List Value} {K:List Value->St->Hp->Prop},Sim P h0 w0 be oe H st h a w->C2 st oe cs vs->l0b cs st h K -> ∃ st' h',K vs st' h'/\Sim P h0 w0 be oe H st' h' a w/\I8 st be oe st' be oe/\st'.bx=st.bx
 | [],st,h,[],K,c,_,b=>⟨st,h,b,c,I8.refl _ _ _,rfl⟩
 | .val v::r,st,h,x::vs,K,c,g,b=>by have o:x=v:=g.1;subst o;obtain⟨st',h',s,t⟩:=b06 r c g.2 b;grind
 | .own i k::r,st,h,x::vs,K,c,g,b=>by obtain⟨u,q,e,s1,d,m⟩:=V0e c g.1 b;obtain⟨p,l,f,s2,j,n⟩:=b06 r s1 (g.2.grow d) e;exact⟨p,l,f,s2,d.trans j,n.trans m⟩
 | [],_,_,_::_,_,_,g,_=>g.elim
 |_::_,_,_,[],_,_,g,_=>g.elim
theorem I05(d:Sim P h0 w0 be oe H st h a w){av:AV}{x:Value}(g:J2 st be oe av x){K:Value->St->Hp->Prop}(c:rfy av st h K): ∃ st' h',K x st' h'/\Sim P h0 w0 be oe H st' h' a w/\I8 st be oe st' be oe:=by
 cases av with
 |val v=>have f:x=v:=g;subst f;exact⟨st,h,c,d,I8.refl _ _ _⟩
 |own i k=>obtain⟨st',h',q,s,t,_⟩:=V0e d g c;grind
 |box i off =>
  have f:=g.2;simp only[rfy,P0u]at c;split at c
  ·rename_i cells ty e;obtain⟨C,vs,j,o⟩:=d.box i cells ty e;obtain⟨z,A,l,s1,n,m⟩:=b06 cells d j c;have p:nth z.bx i=some (.live cells ty):=by rw[m];exact e
   obtain⟨u,p2,y⟩:=s1.publ p o;rw[f];exact⟨_,_,l (be i) u,p2,n.trans y⟩
  ·rename_i b e;rw[f,d.pub i b e];grind[I8.refl]
  exact c.elim
 |agg cs =>obtain⟨vs,rfl,j⟩:=g;obtain⟨st',h',q,s,t,_⟩:=b06 cs d j c;grind
 |_=>exact c.elim
theorem J04:∀(l:List Operand) {st:St} {h:Hp} {K:List (Nat×Value)->St->Hp->Prop},Sim P h0 w0 be oe H st h a w->l0g l st h K -> ∃ vs st' h',K vs st' h'/\Sim P h0 w0 be oe H st' h' a w/\I8 st be oe st' be oe/\(∀ p∈vs,p.2=a.eval (.tmp p.1))/\(∀ x∈l,(∃ t v,x = .tmp t/\(t,v)∈vs)∨(∀ ws,rho ws x=a.eval x))
 | [],st,h,K,c,b=>⟨[],st,h,b,c,I8.refl _ _ _,oS,oS⟩
 | .tmp t::r,st,h,K,c,b=>by obtain⟨s,q,n,s1,o⟩:=I05 c (c.rdO (.tmp t)) b;obtain⟨vs,j,i,e,s2,g,k,m⟩:=J04 r s1 n;refine⟨_,j,i,e,s2,o.trans g,?_,?_⟩;all_goals grind
 | .const v::r,st,h,K,c,b=>by
  obtain⟨vs,j,i,e,s2,g,k,m⟩:=J04 r c b;refine⟨vs,j,i,e,s2,g,k,λx d=>?_⟩;rcases List.mem_cons.1 d with rfl|d;·exact .inr λ_=>rfl
  exact m x d
 | .func f::r,st,h,K,c,b=>by
  obtain⟨vs,j,i,e,s2,g,k,m⟩:=J04 r c b;refine⟨vs,j,i,e,s2,g,k,λx d=>?_⟩;rcases List.mem_cons.1 d with rfl|d;·exact .inr λ_=>rfl
  exact m x d
 | .global _::_,_,_,_,_,b=>b.elim
theorem x0g:∀(vs:List (Nat×Value)) (t:Nat) (y:Value),(∀ p∈vs,p.1=t->p.2=y)->(∃ v,(t,v)∈vs)->S0r vs t=y
 | [],t,y,_,h=>oG
 |(k,v)::r,t,y,a,h=>by
  simp only[S0r];split;·simp_all
  rename_i c;refine x0g r t y (λp b=>a p (mC _ b)) ?_;grind[absurd,Nat.ne_of_beq_eq_false]
theorem F0c{o:Oper}{vs:List (Nat×Value)}(c:I0e o.op=false)(d:∀ p∈vs,p.2=a.eval (.tmp p.1)) (f:∀ x∈o.op.operands.toList,(∃ t v,x = .tmp t/\(t,v)∈vs)∨(∀ ws,rho ws x=a.eval x)):execOp (rho vs) o=execOp a.eval o:=by
 refine execOp_congr o (λcs b g=>by rw[g]at c;cases c) λx j=>?_;rcases f x (by simpa using j)with⟨t,v,rfl,h⟩|hf;·exact x0g vs t _ (λp i e=>by rw[d p i,e]) ⟨v,h⟩
 exact hf vs
def Nx(P:Program)(h0:Hp)(w0:World)(f:St)(c:Nat->Nat)(e:Nat->Value)(K:AV->St->Hp->Prop)(a:Act)(d:Option Tmp):Act->World->Prop:=λb g =>
 ∃ av st' h' v be oe H,K av st' h'/\b=a.put d v/\Sim P h0 w0 be oe H st' h' a g/\J2 st' be oe av v/\I8 f c e st' be oe
theorem G9{o:Oper}{next:Act->World->Prop}{Q:Exit->Act->World->Prop}{v:Value}{b:World}(d:(execOp a.eval o).run P w = .ok (.value v) b) (c:next (a.put o.dst v) b):o.wp P a w next Q:=by unfold Oper.wp;rw[d];exact c
theorem G0c{o:Oper}{next:Act->World->Prop}{Q:Exit->Act->World->Prop}{w':World}(hr:(execOp a.eval o).run P w = .ok .skip w') (hn:next (a.put o.dst undef) w'):o.wp P a w next Q:=by unfold Oper.wp;rw[hr];exact hn
theorem o08{o:Oper}{vs:List (Nat×Value)}(d:∀ p∈vs,p.2=a.eval (.tmp p.1)) (f:∀ x∈o.op.operands.toList,(∃ t v,x = .tmp t/\(t,v)∈vs)∨(∀ ws,rho ws x=a.eval x)):m0b (rho vs) o=m0b a.eval o:=by
 have j:∀ x∈o.op.operands.toList,rho vs x=a.eval x:=λx b=>by
  rcases f x b with⟨t,v,rfl,h⟩|hf;·exact x0g vs t _ (λp i e=>by rw[d p i,e]) ⟨v,h⟩
  exact hf vs
 unfold m0b;split
 ·rename_i c k;split
  ·rename_i x b;have g:∀ y,y=x∨y∈c.args.toList->y∈o.op.operands.toList:=λy l=>by grind[Op.operands,Call.operands]
   rw[j x (g x (.inl rfl))];have:N0m (rho vs) c.args.toList=N0m a.eval c.args.toList:=by grind[T0e,List.map_congr_left]
   rw[this]
  rfl
 rfl
theorem c01(D:Sim P h0 w0 be oe H st h a w){o:Oper}{K:AV->St->Hp->Prop}{Q:Exit->Act->World->Prop}(c:F09 P o st h K):o.wp P a w (Nx P h0 w0 st be oe K a o.dst) Q:=by
 unfold F09 at c;split at c;·exact c.elim
 rename_i C;obtain⟨vs,i,F,b,s1,d,p,q⟩:=J04 _ D c;rw[U0e,F0c C p q,o08 p q]at b;split at b
 ·rename_i f l u;split at b;·rename_i A;unfold Oper.wp;rw[E0c u A,Oper.upon_enter];refine(b.run w (z0b s1)).mono ?_;rintro e I ⟨v,t,rfl,x,z⟩;obtain⟨s,E⟩:=s1.moved z;exact⟨.val v,i,t,v,be,oe,s,x,rfl,E,rfl,d⟩
  exact b.elim
 obtain⟨n,k,G,m,g,y⟩:=P01 _ _ _ (z0b s1) b;obtain⟨j,s2⟩:=s1.moved y;cases n with
 |value v=>exact G9 m ⟨.val v,i,k,v,be,oe,j,g,rfl,s2,rfl,d⟩
 |skip=>exact G0c m ⟨.val undef,i,k,undef,be,oe,j,g,rfl,s2,rfl,d⟩
 |_=>exact g.elim
theorem Sim.still(c:Sim P h0 w0 be oe H st h a w){hf:Hp}{e:World}(f:∀ b o,hf b=some o->H b=some o)(m:T2 hf w hf e):Sim P h0 w0 be oe H st h a e:=by
 refine⟨c.mv.trans ⟨m.os,m.tape,m.output,m.size,?_,?_,λb d => .inl d,m.fz,m.dn⟩,c.sub,c.box,c.pub,c.own,c.frz,c.bb,c.oo,c.bo,c.dfr,c.siz,c.fr⟩
 ·intro b d i;refine m.keep b d ?_;cases hc:hf b with
  |none=>rfl
  |some o=>grind
 intro b o d;cases hc:hf b with
 |some g =>have:=f b g hc;rw[this]at d;cases d;exact m.vis b _ hc
 |none=>rw[m.keep b (c.mv.vis.lt (by rw[d];simp)) hc];exact c.mv.vis b o d
theorem u0o(d:Sim P h0 w0 be oe H st h a w){o:Oper}{K:AV->St->Hp->Prop}{Q:Exit->Act->World->Prop}(c:R0u P o st h K):o.wp P a w (Nx P h0 w0 st be oe K a o.dst) Q:=by
 unfold R0u at c;split at c;·exact c.elim
 rename_i s;obtain⟨vs,t,p,b,s1,_,m,n⟩:=J04 _ d c;rw[o08 m n]at b;split at b
 ·rename_i f l g;split at b;·rename_i k;unfold Oper.wp;rw[E0c g k,Oper.upon_enter];refine(b.run w (z0b s1)).mono ?_;rintro e u ⟨v,q,rfl,⟨rfl,i⟩,j⟩;exact⟨.val v,st,h,v,be,oe,H,i,rfl,d.still s1.sub j,rfl,I8.refl _ _ _⟩
  exact b.elim
 exact b.elim
theorem G02(c:Sim P h0 w0 be oe H st h a w){o:Oper}{K:AV->St->Hp->Prop}{Q:Exit->Act->World->Prop}(b:F0q P o st h K):o.wp P a w (Nx P h0 w0 st be oe K a o.dst) Q:=by
 unfold F0q at b;split at b
 ·rcases b with b|b;·exact c01 c b
  exact u0o c b
 exact c01 c b
theorem W0d(y:Sim P h0 w0 be oe H st h a w){o:Oper}{K:AV->St->Hp->Prop}{Q:Exit->Act->World->Prop}(c:T0u P o st h K):o.wp P a w (Nx P h0 w0 st be oe K a o.dst) Q:=by
 unfold T0u at c;split at c;·exact c.elim
 rename_i x;obtain⟨vs,p,z,b,s1,g,l,m⟩:=J04 _ y c;rw[o08 l m]at b;split at b;·exact b.elim
 obtain⟨v,s,q,j⟩:=b;have f:=q (λn h'=>(n = .value v∨n = .skip/\v=undef)/\h'=s) ⟨⟨.inl rfl,rfl⟩,λe=>⟨.inr ⟨rfl,e⟩,rfl⟩⟩;rw[U0e,F0c x l m]at f;obtain⟨n,i,A,k,⟨u,rfl⟩,t⟩:=P01 _ _ _ (z0b s1) f;obtain⟨d,s2⟩:=s1.moved t;rcases u with rfl|⟨rfl,rfl⟩;·exact G9 k ⟨.val v,p,i,v,be,oe,d,j,rfl,s2,rfl,g⟩
 exact G0c k ⟨.val undef,p,i,undef,be,oe,d,j,rfl,s2,rfl,g⟩
end
section
variable {P:Program}
theorem r7{t:TypeId}{d:TypeDesc}(a:P.underlying t=some d)(h:Hp)(K:TypeDesc->Hp->Prop):wpS P (underlying t) h K=K d h:=by grind[underlying,program,N2,wpS,D3]
theorem W0e{t:TypeId}{i:TypeInfo}(a:P.info? t=some i)(h:Hp)(K:TypeInfo->Hp->Prop):wpS P (typeInfo t) h K=K i h:=by grind[typeInfo,program,N2,wpS,D3]
theorem v03{t:TypeId}{n:Nat}(a:o7 P t=some n)(h:Hp)(K:Nat->Hp->Prop):wpS P (sizeOf t) h K=K n h:=by grind[o7,sizeOf,N2,W0e,D3]
theorem X0e{t:TypeId}{z:Value}(a:Q02 P t=some z)(h:Hp)(K:Value->Hp->Prop):wpS P (zeroValue t) h K=K z h:=by grind[Q02,zeroValue,N2,W0e,D3]
theorem H0c{t:TypeId}{b:Bool}(a:K0m P t=some b)(h:Hp)(K:Bool->Hp->Prop):wpS P (isAgg t) h K=K b h:=by unfold K0m at a;grind[isAgg,N2,r7,D3,absurd]
theorem a09{H:Hp}{b o:Nat}:∀(vs:List Value) (i:Nat) (acc:Array Value) (K:Array Value->Hp->Prop),(∀ j v,vs[j]?=some v->Hp.cell H b (o+i+j)=some v) -> K (acc++vs.toArray) H->wpS P (loadCellsFrom ⟨b,o,none⟩ i vs.length acc) H K
 | [],i,acc,K,_,c=>by grind[loadCellsFrom,D3]
 |v::vs,i,acc,K,a,c=>by
  have h0:=a 0 v oS;simp only[loadCellsFrom,List.length_cons,N2,load,wpS];have d:(⟨b,o,none⟩:Addr).add i=⟨b,o+i,none⟩:=by unfold Addr.add;split<;>simp_all
  rw[d];refine⟨v,⟨rfl,by simpa using h0⟩,a09 vs (i+1) (acc.push v) K ?_ ?_⟩;·intro j u e;have:=a (j+1) u (by simpa using e);grind
  simpa using c
theorem o05{a:Type}:∀(l:List a) (n:Nat),u0a l n=true->l.length=n
 | [],0,_=>rfl
 |_::r,k+1,h=>by simp[o05 r k h]
 | [],_+1,h=>by cases h
 |_::_,0,h=>by cases h
variable {h0:Hp} {w0:World} {be:Nat->Nat} {oe:Nat->Value} {H:Hp} {st:St} {h:Hp} {a:Act} {w:World}
theorem J2.ofCell{st:St}{be:Nat->Nat}{oe:Nat->Value}{c:S6}{v:Value}(g:P0i st oe c v):J2 st be oe (ofCell c) v:=by
 cases c with
 |val u=>exact g
 |own i k=>exact g
theorem load_row{t:TypeId}{cs:List S6}{vs:List Value}{off:Nat}{K:AV->Prop}{b o:Nat}(a:h08 P t cs off K)(g:C2 st oe cs vs) (p:∀ j v,vs[j]?=some v->Hp.cell H b (o+j)=some v):∃ av v,K av/\J2 st be oe av v/\∀ d:Value->Hp->Prop,d v H->wpS P (loadVar t ⟨b,o+off,none⟩) H d:=by
 unfold h08 at a;split at a
 ·rename_i e;split at a
  ·rename_i n f;split at a
   ·rename_i l;have m:=o05 _ _ l;have h:=(g.drop off).take n;refine⟨_,.agg ((vs.drop off).take n).toArray,a,⟨_,rfl,h⟩,λd k=>?_⟩;have s:((vs.drop off).take n).length=n:=by rw[←h.length,m]
    simp only[loadVar,N2,H0c e,if_true,v03 f,loadCells];have:=a09 (P:=P) (H:=H) (b:=b) (o:=o+off) ((vs.drop off).take n) 0 #[] (λx h'=>wpS P (pure (Value.agg x)) h' d) (λj v q=>by grind) (by grind[D3]);grind
   exact a.elim
  exact a.elim
 ·rename_i e;split at a;·rename_i c f;obtain⟨v,u,i⟩:=g.nth f;refine⟨_,v,a,J2.ofCell i,λd k=>?_⟩;simp only[loadVar,N2,H0c e,Bool.false_eq_true,if_false,load,wpS];grind
  exact a.elim
 exact a.elim
theorem Hp.set_set(h:Hp)(b:Nat)(x y:Obj):(h.set b x).set b y=h.set b y:=by funext k;simp only[Hp.set];split<;>rfl
theorem Y0y{v:Value}(h:v.oneCell'=true):T06 v:=by cases v<;>simp_all [Value.oneCell',T06]
theorem p08{b:Nat}{t:TypeId}:∀(a:List Value) (cur:List Value) (off i:Nat) (K:Unit->Hp->Prop) (H:Hp),H b=some (.cells cur.toArray t (0,0)) -> off+i+a.length<=cur.length->(∀ v∈a,v.oneCell'=true)->K () (H.set b (.cells (M3 cur (off+i) a).toArray t (0,0)))->wpS P (storeCells ⟨b,off,none⟩ a i) H K
 | [],cur,off,i,K,H,e,_,_,c=>by
  have:H.set b (.cells cur.toArray t (0,0))=H:=by grind[Hp.set]
  simp only[M3,this]at c;exact c
 |n::a,cur,off,i,K,H,e,g,d,c=>by
  simp only[storeCells,N2,store,wpS];have f:(⟨b,off,none⟩:Addr).add i=⟨b,off+i,none⟩:=by unfold Addr.add;split<;>simp_all
  rw[f];simp only[List.length_cons]at g;refine⟨cur.toArray,t,(0,0),⟨e,rfl,by simp;omega,oS,Y0y (d n mS)⟩,?_⟩;refine p08 (t:=t) a (cur.set (off+i) n) off (i+1) K _ (by simp[Hp.set]) (by simp;omega) (λv h=>d v (mC _ h)) ?_;grind[Hp.set_set,M3,Nat.add_assoc]
theorem Q09:∀(a cs:List Value) (off:Nat),splice cs off a=M3 cs off a
 | [],cs,off=>rfl
 |n::a,cs,off=>by simp only[splice,M3,S0e,Q09 a]
theorem Q0i(f:Sim P h0 w0 be oe H st h a w){i k:Nat}{e sz by_:Nat}{nn:Bool}{xs:LV}(d:nth st.ow i=some ⟨k,.live e sz by_ nn xs⟩):∃ x n c,oe i = .slice x n c:=by rcases(f.own i _ _ _ _ _ _ d).2 with⟨b,_⟩|⟨g,cap,cur,b,_⟩;all_goals grind
theorem N07(m:Sim P h0 w0 be oe H st h a w){x:Operand}{cs:List S6}(b:m02 (rdO st x)=some cs):C2 st oe cs (a.eval x).cells.toList:=by
 have g:=m.rdO x;cases hr:rdO st x with
 |val v =>rw[hr]at b g;have d:a.eval x=v:=g;rw[d];cases v<;>simp only[m02,Option.some.injEq]at b<;>first|(subst b;first|exact C2.vals _ _ _|exact⟨rfl,trivial⟩)|cases b
 |own i k =>rw[hr]at b g;obtain⟨e,sz,by_,nn,xs,f⟩:=w0a hr;simp only[m02,Option.some.injEq]at b;subst b;have j:a.eval x=oe i:=g.own_cur f;obtain⟨y,n,c,l⟩:=Q0i m f;rw[j,l];rw[j,l]at g;exact⟨g,trivial⟩
 |agg cs' =>rw[hr]at b g;simp only[m02,Option.some.injEq]at b;subst b;obtain⟨vs,d,o⟩:=g;rw[d];exact o
 |_=>rw[hr]at b;cases b
theorem O07(f:Sim P h0 w0 be oe H st h a w):∀(cs:List S6) (vs:List Value),W08 st cs=true->C2 st oe cs vs->∀ v∈vs,v.oneCell'=true
 | [],[],_,_,v,d=>by cases d
 | .val u::r,x::vs,b,g,v,d=>by
  simp only[W08]at b;split at b
  ·rename_i o;rcases List.mem_cons.1 d with rfl|d;·have:v=u:=g.1;rw[this];exact o
   exact O07 f r vs b g.2 v d
  cases b
 | .own i k::r,x::vs,b,g,v,d=>by
  have m:J2 st be oe (rdA st (.own i k)) x:=f.rdA (av := .own i k) g.1;simp only[W08]at b;split at b
  ·rename_i j l p;rcases List.mem_cons.1 d with rfl|d;·rw[p]at m;obtain⟨e,sz,by_,nn,xs,q⟩:=v0a p;obtain⟨y,n,c,t⟩:=Q0i f q;rw[m.own_cur q,t];rfl
   exact O07 f r vs b g.2 v d
  ·rename_i u s;split at b
   ·rename_i o;rcases List.mem_cons.1 d with rfl|d;·rw[s]at m;have:v=u:=m;rw[this];exact o
    exact O07 f r vs b g.2 v d
   cases b
  cases b
 | [],_::_,_,g,_,_=>g.elim
 |_::_,[],_,g,_,_=>g.elim
theorem a07:∀(vs:List Value),i08 vs=true->∀ v∈vs,v.oneCell'=true
 | [],_,v,a=>by cases a
 |x::r,b,v,a=>by
  simp only[i08]at b;split at b
  ·rename_i c;rcases List.mem_cons.1 a with rfl|a;·exact c
   exact a07 r b v a
  cases b
end
section
variable {P:Program} {h0:Hp} {w0:World} {be:Nat->Nat} {oe:Nat->Value} {H:Hp} {st:St} {h:Hp} {a:Act} {w:World} {o:Oper} {K:AV->St->Hp->Prop} {Q:Exit->Act->World->Prop}
theorem Z03(b o n:Nat):(⟨b,o,none⟩:Addr).add n=⟨b,o+n,none⟩:=by unfold Addr.add;split<;>simp_all
theorem G8(d:Sim P h0 w0 be oe H st h a w){av:AV}{v:Value}(k:∀ c:Next->Hp->Prop,c (.value v) H->wpS P (execOp a.eval o) H c)(g:J2 st be oe av v)(f:K av st h): o.wp P a w (Nx P h0 w0 st be oe K a o.dst) Q:=by obtain⟨n,b,m,j,⟨rfl,rfl⟩,i⟩:=P01 _ _ _ d.mv.vis (k (λn b=>n = .value v/\b=H) ⟨rfl,rfl⟩);have l:Sim P h0 w0 be oe b st h a m:=d.still (hf:=b) (λ_ _ e=>e) i;exact G9 j ⟨av,st,h,v,be,oe,b,f,rfl,l,g,I8.refl _ _ _⟩
theorem f00{P:Program}(b:Sem Value)(H:Hp)(a:Next->Hp->Prop)(h:wpS P b H (λv H=>a (.value v) H)):wpS P (do pure (Next.value (←b))) H a:=by rw[N2];exact h
theorem Z0y{P:Program}(b:Sem Unit)(H:Hp)(a:Next->Hp->Prop)(h:wpS P b H (λ_ H=>a .skip H)):wpS P (do b;pure Next.skip) H a:=by rw[N2];exact h
theorem b0s(d:Sim P h0 w0 be oe H st h a w){x:Operand}(c:o.op = .move x∨o.op = .assign x)(b:match rdO st x with | .dead=>False|a=>K a st h):o.wp P a w (Nx P h0 w0 st be oe K a o.dst) Q:=by
 have e:K (rdO st x) st h:=by revert b;cases rdO st x<;>intro b<;>first|exact b|exact b.elim
 refine G8 d (v:=a.eval x) (λg f=>?_) (d.rdO x) e;unfold execOp;rcases c with c|c<;>rw[c]<;>exact f
theorem a0z(d:Sim P h0 w0 be oe H st h a w){t:TypeId}{x:Operand}(m:o.op = .box t x){cs:List S6}(l:m02 (rdO st x)=some cs) (f:newBox st cs t λav st=>K av st h):o.wp P a w (Nx P h0 w0 st be oe K a o.dst) Q:=by
 have g:=N07 d l;have q:wpS P (execOp a.eval o) H (λn e=>∃ b,H b=none/\n = .value (ptr b 0)/\e=H.set b (.cells (a.eval x).cells t (0,0))):=by unfold execOp;rw[m];refine f00 _ _ _ ?_;simp only[Instr.box,newVar,newRow,newObj,N2,D3,wpS];exact λb c=>⟨b,c,rfl,rfl⟩
 obtain⟨n,e,u,p,⟨b,c,rfl,rfl⟩,i⟩:=P01 _ _ _ d.mv.vis q;have k:(a.eval x).cells=(a.eval x).cells.toList.toArray:=oS;rw[k]at i;rw[n0g]at f;obtain⟨s,j⟩:=d.newBox g c i;exact G9 p ⟨_,_,h,_,_,_,_,f,rfl,s,⟨oS,oS⟩,j⟩
theorem i0v(g:Sim P h0 w0 be oe H st h a w){t:TypeId}(k:o.op = .alloc t){z:Value}(p:Q02 P t=some z) (e:newBox st (vals z.cells.toList) t λav st=>K av st h):o.wp P a w (Nx P h0 w0 st be oe K a o.dst) Q:=by
 have m:wpS P (execOp a.eval o) H (λn d=>∃ b,H b=none/\n = .value (ptr b 0)/\d=H.set b (.cells z.cells t (0,0))):=by unfold execOp;rw[k];refine f00 _ _ _ ?_;simp only[Instr.alloc,newVar,newRow,newObj,N2,X0e p,D3,wpS];exact λb c=>⟨b,c,rfl,rfl⟩
 obtain⟨n,d,s,l,⟨b,c,rfl,rfl⟩,f⟩:=P01 _ _ _ g.mv.vis m;have j:z.cells=z.cells.toList.toArray:=oS;rw[j]at f;rw[n0g]at e;obtain⟨q,i⟩:=g.newBox (C2.vals st oe _) c f;exact G9 l ⟨_,_,h,_,_,_,_,e,rfl,q,⟨oS,oS⟩,i⟩
theorem r0l{t:TypeId}{k a:Nat}(c:L0m P t k=some a):∃ b f n,P.underlying t=some (.struct b)/\b[k]?=some f/\o7 P f.type=some (n+1)/\f.offset=a:=by grind[L0m]
theorem G0t{t:TypeId}{j:Int}{b:Nat}(a:O0u P t j=some b):∃ n e sz,P.underlying t=some (.array n e)/\o7 P e=some (sz+1)/\0<=j/\j<(n:Int)/\b=j.toNat*(sz+1):=by
 unfold O0u at a;split at a
 ·rename_i n e m f;split at a
  ·rename_i sz d c;cases a;refine⟨n,e,sz,f,d,Int.natCast_nonneg m,?_,rfl⟩;have:m<n:=by simpa [Nat.blt_eq] using c
   exact Int.ofNat_lt.2 this
  cases a
 cases a
theorem x0a{t:TypeId}{x i:Operand}{k:IntKind}{j:Int}{d b off:Nat}(m:o.op = .indexAddr t x i)(q:O0u P t j=some d)(u:a.eval x=ptr b off)(h:a.eval i = .int k j): ∀ c:Next->Hp->Prop,c (.value (ptr b (off+d))) H->wpS P (execOp a.eval o) H c:=by intro c l;obtain⟨n,e,sz,s,p,f,g,rfl⟩:=G0t q;unfold execOp;rw[m];refine f00 _ _ _ ?_;simp only[Instr.indexAt,u,h,asIntOf,N2,D3,r7 s,f,g,and_self,if_true,v03 p,Z03,ptr,Instr.sureAddr];exact l
theorem exec_fieldAddr{t:TypeId}{x:Operand}{k d b off:Nat}(h:o.op = .fieldAddr t x k)(i:L0m P t k=some d)(l:a.eval x=ptr b off): ∀ c:Next->Hp->Prop,c (.value (ptr b (off+d))) H->wpS P (execOp a.eval o) H c:=by intro c e;obtain⟨m,f,n,j,hf,g,rfl⟩:=r0l i;unfold execOp;rw[h];refine f00 _ _ _ ?_;simp only[Instr.fieldAt,N2,r7 j,hf,l,ptr,Instr.sureAddr,D3,fieldPlace,v03 g,Nat.add_one_ne_zero,if_false,Z03];exact e
theorem W0m(f:Sim P h0 w0 be oe H st h a w){t:TypeId}{x:Operand}{k:Nat}(q:o.op = .fieldAddr t x k)
  (p:match rdO st x,L0m P t k with
  | .box i off,some d=>K (.box i (off+d)) st h
  | .hel f i sz k,some d=>K (.hel f i sz (k+d)) st h
  | .oel i f j sz k,some d=>K (.oel i f j sz (k+d)) st h
  | .val (.pointer (some ⟨b,off,none⟩)),some d=>K (.val (ptr b (off+d))) st h
  |_,_=>False):o.wp P a w (Nx P h0 w0 st be oe K a o.dst) Q:=by
 have g:=f.rdO x
 split at p
 ·rename_i i off d l m
  rw[l]at g
  exact G8 f (av := .box i (off+d)) (exec_fieldAddr q m g.2) ⟨g.1,rfl⟩ p
 ·rename_i sl i sz v d l m
  rw[l]at g
  obtain⟨b,D,n,c,s,u⟩:=g
  refine G8 f (av := .hel sl i sz (v+d)) (exec_fieldAddr q m u) ⟨b,D,n,c,s,?_⟩ p
  simp[Nat.add_assoc]
 ·rename_i i E j sz v d l m
  rw[l]at g
  obtain⟨e,I,by_,nn,xs,C⟩:=V0m l
  obtain⟨A,n,c,s,u⟩:=g.oel_cur C
  obtain⟨F,y,z,G⟩:=g
  refine G8 f (av := .oel i E j sz (v+d)) (exec_fieldAddr q m u) ⟨F,y,z,λ_=>⟨A,n,c,s,by simp[Nat.add_assoc]⟩⟩ p
 ·rename_i b off d l m
  rw[l]at g
  exact G8 f (av := .val (ptr b (off+d))) (exec_fieldAddr (b:=b) (off:=off) q m g) rfl p
 ·exact p.elim
theorem z01{t e:TypeId}(a:q03 P t=some e):P.underlying t=some (.slice e):=by grind[q03]
theorem exec_indexAddr{t e:TypeId}{x i:Operand}{k:IntKind}{j:Int}{sz b off n c:Nat}(m:o.op = .indexAddr t x i)(q:q03 P t=some e)(p:o7 P e=some sz) (u:a.eval x = .slice (some ⟨b,off,none⟩) n c) (h:a.eval i = .int k j) (f:0<=j) (g:j<(n:Int)) : ∀ d:Next->Hp->Prop,d (.value (ptr b (off+j.toNat*sz))) H->wpS P (execOp a.eval o) H d:=by intro d l;have s:=z01 q;unfold execOp;rw[m];refine f00 _ _ _ ?_;simp only[Instr.indexAt,u,h,asIntOf,N2,D3,r7 s,f,g,and_self,if_true,v03 p,Z03];exact l
theorem v0o(c:Sim P h0 w0 be oe H st h a w){t:TypeId}{x:Operand}{i off:Nat}{cs:List S6}{ty:TypeId}(m:o.op = .load t x)(n:rdO st x = .box i off) (l:nth st.bx i=some (.live cs ty)) (f:h08 P t cs off λav=>K av st h):o.wp P a w (Nx P h0 w0 st be oe K a o.dst) Q:=by have g:=c.rdO x;rw[n]at g;obtain⟨u,vs,d,e⟩:=c.box i cs ty l;obtain⟨av,v,p,q,z⟩:=load_row (H:=H) (b:=be i) (o:=0) (be:=be) f d (λj v k=>by simp[Hp.cell,e,k]);refine G8 c (λs y=>?_) q p;unfold execOp;rw[m];refine f00 _ _ _ ?_;rw[g.2];grind[Instr.loadAt,ptr,Instr.sureAddr,N2,D3]
theorem w0o(d:Sim P h0 w0 be oe H st h a w){t:TypeId}{x:Operand}{sl:Value}{idx:Int}{sz k:Nat}{c:List Value}(s:o.op = .load t x)(y:rdO st x = .hel sl idx sz k) (l:T7 h sl sz idx c) (p:h08 P t (vals c) k λav=>K av st h):o.wp P a w (Nx P h0 w0 st be oe K a o.dst) Q:=by
 have g:=d.rdO x;rw[y]at g;obtain⟨b,C,n,F,f,i⟩:=g;obtain⟨_,_,E,M,L,G,e,m⟩:=l;rw[f]at e;cases e;obtain⟨av,v,z,A,J⟩:=load_row (H:=H) (b:=b) (o:=C+idx.toNat*sz) (be:=be) p (C2.vals st oe c) (λj v q=>by
  have:=m j v q;unfold Hp.cell at this ⊢;split at this;·rename_i u;rw[d.sub _ _ u];exact this
  cases this)
 refine G8 d (λD I=>?_) A z;unfold execOp;rw[s];refine f00 _ _ _ ?_;rw[i];simp only[Instr.loadAt,ptr,Instr.sureAddr,N2,D3];grind
theorem b07{sz:Nat}:∀(xs:LV) (i:Nat) (c:List Value),(∀ x∈xs,x.length=sz)->xs[i]?=some c->∀ j v,c[j]?=some v->xs.flatten[i*sz+j]?=some v
 | [],i,c,_,h,j,v,b=>by simp at h
 |x::xs,0,c,a,h,j,v,b=>by grind
 |x::xs,i+1,c,a,h,j,v,b=>by simp at h;have e:=a x mS;have:=b07 xs i c (λy d=>a y (mC _ d)) h j v b;grind
theorem O09.cells{h H:Hp}{v:Value}{e sz:Nat}{nn:Bool}{xs:LV}(b:O09 h H v e sz nn xs){g n c:Nat}(l:v = .slice (some ⟨g,0,none⟩) n c): ∀ j u,xs.flatten[j]?=some u->Hp.cell H g j=some u:=by intro j u i;rcases b.2 with⟨a,_⟩|⟨d,cap,cur,a,_,f,_,_,_,k⟩;all_goals grind[Hp.cell]
theorem x0o(d:Sim P h0 w0 be oe H st h a w){t:TypeId}{x:Operand}{i F:Nat}{idx:Int}{sz k:Nat}{G e by_:Nat}{nn:Bool}{xs:LV}{c:List Value} (A:o.op = .load t x) (l:rdO st x = .oel i F idx sz k) (y:nth st.ow i=some ⟨G,.live e sz by_ nn xs⟩) (q:xs[idx.toNat]?=some c) (s:h08 P t (vals c) k λav=>K av st h):o.wp P a w (Nx P h0 w0 st be oe K a o.dst) Q:=by
 have g:=d.rdO x;rw[l]at g;obtain⟨M,T,J,S,U,z⟩:=V0m l;obtain⟨p,n,L,m,N⟩:=g.oel_cur z;have f:=d.own i _ _ _ _ _ _ y;obtain⟨av,v,D,E,R⟩:=load_row (H:=H) (b:=p) (o:=idx.toNat*sz) (be:=be) s (C2.vals st oe c) (λj v u =>
  f.cells m _ _ (b07 xs _ c (λx C=>(f.1 x C).1) q j v u))
 refine G8 d (λI O=>?_) E D;unfold execOp;rw[A];refine f00 _ _ _ ?_;grind[Instr.loadAt,ptr,Instr.sureAddr,N2,D3]
theorem y0a{t:TypeId}{p x:Operand}{b off n:Nat}{cur:List Value}{ty:TypeId}(e:o.op = .store t p x)(g:o7 P t=some n)(f:a.eval p=ptr b off) (d:(a.eval x).cells.toList.length=n) (i:∀ v∈(a.eval x).cells.toList,v.oneCell'=true) (j:H b=some (.cells cur.toArray ty (0,0))) (k:off+n<=cur.length) : ∀ c:Next->Hp->Prop,c .skip (H.set b (.cells (M3 cur off (a.eval x).cells.toList).toArray ty (0,0)))->wpS P (execOp a.eval o) H c:=by
 intro c l;unfold execOp;rw[e];refine Z0y _ _ _ ?_;rw[f];have h:(a.eval x).cells.size=n:=by simpa using d
 simp only[Instr.storeAt,ptr,Instr.sureAddr,N2,D3,storeVar,v03 g,h,ne_eq,not_true_eq_false,if_false];grind[p08]
theorem X0m(b:Sim P h0 w0 be oe H st h a w){t:TypeId}{p x:Operand}{i off n:Nat}{cs new:List S6}{ty:TypeId}(A:o.op = .store t p x)(C:rdO st p = .box i off) (k:nth st.bx i=some (.live cs ty)) (u:m02 (rdO st x)=some new) (E:o7 P t=some n) (v:u0a new n=true) (m:W08 st new=true) (c:C0t cs off new λcs=>K (.val undef) { st with bx:=F02 st.bx i (.live cs ty) } h):o.wp P a w (Nx P h0 w0 st be oe K a o.dst) Q:=by
 have g:=b.rdO p;rw[C]at g;have d:=N07 b u;have q:=O07 b _ _ m d;have y:=o05 _ _ v;obtain⟨J,vs,f,s⟩:=b.box i cs ty k;unfold C0t at c;split at c
 ·rename_i j;have j:=Nat.le_of_ble_eq_true j;have G:(a.eval x).cells.toList.length=n:=by rw[←d.length,y]
  have F:=y0a (H:=H) (P:=P) (a:=a) A E g.2 G q s (by rw[←f.length];omega);obtain⟨L,e,M,D,⟨rfl,rfl⟩,z⟩:=P01 _ _ _ b.mv.vis (F (λn e=>n = .skip/\e=_) ⟨rfl,rfl⟩);obtain⟨I,l⟩:=b.updBox k (f.splice d) z;exact G0c D ⟨_,_,h,_,_,_,_,c,rfl,I,rfl,l⟩
 exact c.elim
end
section
variable {P:Program} {h0:Hp} {w0:World} {be:Nat->Nat} {oe:Nat->Value} {H:Hp} {st:St} {h:Hp} {a:Act} {w:World} {o:Oper} {K:AV->St->Hp->Prop} {Q:Exit->Act->World->Prop}
theorem S02{sz:Nat}:∀(xs:LV),(∀ x∈xs,x.length=sz)->xs.flatten.length=xs.length*sz
 | [],_=>oS
 |x::xs,a=>by have:=S02 xs (λy b=>a y (mC _ b));grind
def c0s(w:World)(y:Value)(sz:Nat)(a:LV):Prop :=
 (∀ x∈a,x.length=sz/\∀ v∈x,v.oneCell'=true) /\
 ((∃ b c,y = .slice (some b) a.length c/\∀ j u,a.flatten[j]?=some u->w.cell? (b.add j)=some u)∨(∃ c,y = .slice none 0 c/\a = []))
theorem T2.newD{H:Hp}{w:World}(a:Vis H w)(x:Obj)(b:a0x x=true):T2 H w (H.set w.heap.size x) (w.drew.alloc x) :=
 (T2.drawn a (w.drawn+1) (Nat.le_succ _)).trans (T2.new (w:=w.drew) a x b)
theorem Z04{H:Hp}{w:World}(a:Vis H w):H w.heap.size=none:=by
 cases hc:H w.heap.size with
 |none=>rfl
 |some x=>exact absurd (a.lt (b:=w.heap.size) (by simp[hc])) (Nat.lt_irrefl _)
theorem R0i{h H:Hp}(k:∀ b o,h b=some o->H b=some o){g:Nat}(j:H g=none){e sz cap:Nat}{nn:Bool}{xs:LV}{cur:Array Value} (a:∀ x∈xs,x.length=sz/\∀ v∈x,v.oneCell'=true) (c:xs.length<=cap) (d:cap<=maxLen) (f:cur.size=cap*sz) (i:cur.toList.take (xs.length*sz)=xs.flatten) : O09 h (H.set g (.cells cur e (0,0))) (.slice (some ⟨g,0,none⟩) xs.length cap) e sz nn xs:=by
 refine⟨a,.inr ⟨g,cap,cur,rfl,?_,by simp[Hp.set],c,d,f,i⟩⟩;cases hc:h g with
 |none=>rfl
 |some o=>grind
theorem t0h{t e ty sz by_:Nat}{i:TypeInfo}{z:Value}(n:P.underlying t=some (.slice e))(m:P.info? e=some i)(U:i.zero=some z)(an:i.size=sz)(aq:0<sz) (Z:i.bytes=by_) (Y:0<by_) (ao:z.cells.size=sz) {v:Value} {nn:Bool} {xs:LV} (s:O09 h H v e sz nn xs) (l:Vis H w) (am:∀ b o,h b=some o->H b=some o) {y:Value} {a:LV} (J:c0s w y sz a) (R:H09 (xs.length+a.length) by_) : ∃ D W E,(Builtin.append_ #[t,t] ty #[v,y]).run P w = .ok D W/\T2 H w E W/\O09 h E D e sz (nn || Z06 a) (xs++a) /\ (∀ b,v.ownBlock≠some b->H b≠none->E b=H b)/\(∀ g,D.ownBlock=some g->v.ownBlock=some g∨H g=none)/\(a = []->D=v):=by
 subst an;subst Z;have aj:xs.length+a.length<=140737488355328:=Nat.le_trans (Nat.le_mul_of_pos_right _ Y) R;have ai:((xs.length+a.length:Nat):Int)<=9223372036854775807:=oM;have L:∀ x∈xs++a,x.length=i.size/\∀ v∈x,v.oneCell'=true:=λx d=>by
  rcases List.mem_append.1 d with d|d;·exact s.1 x d
  exact J.1 x d
 have M:=S02 xs (λx d=>(s.1 x d).1);have q:=S02 a (λx d=>(J.1 x d).1);have al:∀ u∈a.flatten,u.oneCell'=true:=λu au=>by grind[List.mem_flatten]
 have aa:∀ f,grownCap w (xs.length+a.length) f e<=maxLen:=λf=>grownCap_le_maxLen w _ f e (by unfold maxLen;omega);have grown:∀ f,O09 h (H.set w.heap.size (.cells (xs.flatten.toArray++a.flatten.toArray++Builtin.zeroCells z.cells (grownCap w (xs.length+a.length) f e-(xs.length+a.length))) e (0,0)))
   (.slice (some ⟨w.heap.size,0,none⟩) (xs++a).length (grownCap w (xs.length+a.length) f e)) e i.size (nn || Z06 a) (xs++a):=λf=>by
  have af:=grownCap_ge w (xs.length+a.length) f e
  refine R0i am (Z04 l) L (by simpa using af) (aa f) ?_ ?_
  ·simp only[Array.size_append,List.size_toArray,M,q,size_zeroCells,ao,←Nat.add_mul]
   congr 1;omega
  ·simp only[Array.toList_append,List.flatten_append,List.append_assoc,List.length_append]
   rw[←List.append_assoc,List.take_append_of_le_length oG,List.take_of_length_le oG]
 have S:a = []->O09 h H v e i.size (nn || Z06 a) (xs++a):=λI=>by grind[Z06]
 have V:∀(x:Obj) b,v.ownBlock≠some b->H b≠none->(H.set w.heap.size x) b=H b:=λx b _ ap=>Hp.set_other _ _ (λe=>by grind[Z04]);rcases J.2 with⟨F,c,rfl,G⟩|⟨c,rfl,K⟩
 ·rcases s.2 with⟨rfl,rfl,rfl⟩|⟨g,cap,cur,rfl,ae,O,Q,ab,ac,ar⟩
  ·by_cases hm:a.length=0;·have K:a = []:=List.eq_nil_of_length_eq_zero hm;refine⟨_,w,H,?_,T2.refl l,S K,λ_ _ _=>rfl,λg C => .inl C,λ_=>rfl⟩;simp[Builtin.append_,run_underlying n,sizeOf,typeInfo,m,Builtin.lenOf,Builtin.firstCells,loadCells,loadCellsFrom,hm]
   have A:=run_append_nil (P:=P) w t ty e i z n m U F a.length c a.flatten q G oM (by simp at aj;omega) (by grind[H09]);have p:=grown 0;simp only[List.length_nil,Nat.zero_add,List.nil_append,List.flatten_nil]at p;simp only[Array.empty_append]at p;refine⟨_,_,_,A,T2.newD l _ rfl,by simpa using p,V _,λg C => .inr ?_,λe=>oG⟩;grind[Value.ownBlock,Z04]
  have ak:∀ j u,xs.flatten[j]?=some u->w.cell? ((⟨g,0,none⟩:Addr).add j)=some u:=λj u ag=>by rw[Z03,Nat.zero_add];refine E09 l rfl ?_;exact s.cells rfl j u ag
  by_cases hroom:xs.length+a.length<=cap
  ·have T:=l _ _ O;have ad:xs.length*i.size+a.flatten.length<=cur.size:=by rw[q,ac,←Nat.add_mul];exact Nat.mul_le_mul_right _ hroom
   have A:=run_append_room (P:=P) w t ty e i n m g xs.length cap cur T F a.length c a.flatten q G al hroom ad;refine⟨_,_,H.set g (.cells (cur.toList.take (xs.length*i.size)++a.flatten++cur.toList.drop (xs.length*i.size+a.flatten.length)).toArray e (0,0)),A,
    T2.upd l O (λ_=>rfl) rfl rfl rfl oS (setRow_heap w g cur _ e _ T) (λk ah=>setRow_other w g k _ ah),?_,?_,λX N => .inl N,λI=>by simp[I]⟩
   ·refine⟨L,.inr ⟨g,cap,_,oS,ae,Hp.set_same _ _ _,by simpa using hroom,ab,?_,?_⟩⟩;·grind
    grind[List.flatten_append,List.length_append,Nat.add_mul,List.take_of_length_le]
   grind[Hp.set_other,Value.ownBlock]
  have A:=run_append_grow (P:=P) w t ty e i z n m U ⟨g,0,none⟩ xs.length cap xs.flatten M ak F a.length c a.flatten q G oM ai (growslice_fits oM R);have p:=grown cap;refine⟨_,_,_,A,T2.newD l _ rfl,by simpa using p,V _,λX N => .inr ?_,λI=>oG⟩;grind[Value.ownBlock,Z04]
 refine⟨v,w,H,?_,T2.refl l,S K,λ_ _ _=>rfl,λg C => .inl C,λ_=>rfl⟩;rcases s.2 with⟨rfl,_⟩|⟨g,cap,cur,rfl,_,_,Q,_⟩;·simp[Builtin.append_,run_underlying n,sizeOf,typeInfo,m,Builtin.lenOf,Builtin.firstCells]
 simp[Builtin.append_,run_underlying n,sizeOf,typeInfo,m,Builtin.lenOf,Builtin.firstCells,Q,storeCells]
theorem A0d(b:Nat):∀(vs:List Value) (o:Nat) (w:World) (cur:Array Value) (ty:TypeId) (a:Nat×Nat),w.heap[b]?=some (.cells cur ty a)->(w.setCells b o vs).heap[b]?=some (.cells (M3 cur.toList o vs).toArray ty a)
 | [],o,w,cur,ty,a,h=>by simp_all[World.setCells,M3]
 |v::r,o,w,cur,ty,a,h=>by
  have c:(w.setCell ⟨b,o,none⟩ v).heap[b]?=some (.cells (cur.setIfInBounds o v) ty a):=by simp[World.setCell,Array.getElem?_modify,h]
  have:=A0d b r (o+1) _ _ _ _ c;simp_all[World.setCells,M3]
theorem B0b(b:Nat):∀(vs:List Value) (o:Nat) (w:World) (k:Nat),k≠b->(w.setCells b o vs).heap[k]?=w.heap[k]?
 | [],o,w,k,h=>rfl
 |v::r,o,w,k,h=>by rw[World.setCells,B0b b r (o+1) _ k h];simp only[World.setCell,Array.getElem?_modify];rw[if_neg (λe=>h e.symm)]
theorem u0h(b:Nat):∀(vs:List Value) (o:Nat) (w:World),(w.setCells b o vs).drawn=w.drawn
 | [],o,w=>rfl
 |v::r,o,w=>by rw[World.setCells,u0h b r (o+1)];unfold World.setCell;split<;>rfl
theorem B0d(b:Nat):∀(vs:List Value) (o:Nat) (w:World),(w.setCells b o vs).os=w.os/\(w.setCells b o vs).tape=w.tape/\(w.setCells b o vs).output=w.output/\(w.setCells b o vs).heap.size=w.heap.size
 | [],o,w=>⟨rfl,rfl,rfl,rfl⟩
 |v::r,o,w=>by obtain⟨a,c,d,e⟩:=B0d b r (o+1) (w.setCell ⟨b,o,none⟩ v);grind[World.setCells,World.setCell]
theorem C0b:∀(a vs:List Value) (off j:Nat),off+a.length<=vs.length->(M3 vs off a)[j]?=if off<=j/\j<off+a.length then a[j-off]? else vs[j]?
 | [],vs,off,j,h=>by simp only[M3,List.length_nil,Nat.add_zero];rw[if_neg oM]
 |n::a,vs,off,j,h=>by simp only[List.length_cons]at h;rw[M3,C0b a _ (off+1) j (by simp;omega)];grind
theorem Y0m{t e ty sz by_:Nat}{i:TypeInfo}{z:Value}(H:P.underlying t=some (.slice e))(F:P.info? e=some i)(an:i.zero=some z)(aj:i.size=sz)(az:0<sz) (X:i.bytes=by_) (W:0<by_) (ao:z.cells.size=sz) {g o n c:Nat} {xs:LV} (V:H0q h sz (.slice (some ⟨g,o,none⟩) n c) xs) (l:Vis h w) {y:Value} {a:LV} (s:c0s w y sz a) (R:H09 (xs.length+a.length) by_) : ∃ S T h',(Builtin.append_ #[t,t] ty #[.slice (some ⟨g,o,none⟩) n c,y]).run P w = .ok S T/\T2 h w h' T/\f0o h h' sz g S (xs++a):=by
 subst aj;subst X;have ay:xs.length+a.length<=140737488355328:=Nat.le_trans (Nat.le_mul_of_pos_right _ W) R;have ad:((xs.length+a.length:Nat):Int)<=9223372036854775807:=oM;obtain⟨C,aw,aA,av,cur,m,U,Q,M,N,q,E⟩:=V;cases U;have K:∀ x∈xs++a,x.length=i.size/\∀ v∈x,v.oneCell'=true:=λx f=>by
  rcases List.mem_append.1 f with f|f;·exact C x f
  exact s.1 x f
 have O:=S02 xs (λx f=>(C x f).1);have p:=S02 a (λx f=>(s.1 x f).1);have ag:∀ u∈a.flatten,u.oneCell'=true:=λu ak=>by obtain⟨x,f,al⟩:=List.mem_flatten.1 ak;exact(s.1 x f).2 u al
 have ah:a = []->f0o h h i.size g (.slice (some ⟨g,o,none⟩) xs.length c) (xs++a):=λae=>by subst ae;rw[List.append_nil];exact⟨⟨C,g,o,c,cur,m,rfl,Q,M,N,q,E⟩,g,o,_,c,rfl,.inl rfl,λ_ _=>rfl⟩
 have I:=l _ _ q;rcases s.2 with⟨J,A,rfl,L⟩|⟨A,rfl,am⟩
 ·by_cases hroom:xs.length+a.length<=c
  ·have Y:o+xs.length*i.size+a.flatten.length<=cur.size:=by have:(xs.length+a.length)*i.size<=c*i.size:=Nat.mul_le_mul_right _ hroom;rw[Nat.add_mul]at this;rw[p];omega
   have ab:∀ j,j<a.flatten.length->(w.cell? ⟨g,o+xs.length*i.size+j,none⟩).isSome=true:=λj d=>by simp only[World.cell?,I];simp[show o+xs.length*i.size+j<cur.size by omega]
   have Z:∀ j,j<a.flatten.length->w.frozen? ⟨g,o+xs.length*i.size+j,none⟩=false:=λj d=>by rw[G04 (o := .cells cur m (0,0)) I];simp[H03]
   have G:=run_append_room_cells (P:=P) w t ty e i H F g o xs.length c J a.length A a.flatten p L ag hroom ab Z;have ai:=A0d g a.flatten (o+xs.length*i.size) w cur m (0,0) I;obtain⟨ap,aq,ar,au⟩:=B0d g a.flatten (o+xs.length*i.size) w;refine⟨_,_,h.set g (.cells (M3 cur.toList (o+xs.length*i.size) a.flatten).toArray m (0,0)),G,
    T2.upd l q (λ_=>rfl) ap aq ar au ai (λk ac=>B0b _ _ _ _ k ac) (Nat.le_of_eq (u0h _ _ _ _).symm),⟨K,g,o,c,_,m,by rw[List.length_append],by rw[List.length_append];exact hroom,M,?_,Hp.set_same _ _ _,λj u d=>?_⟩,g,o,_,c,rfl,.inl rfl,λb D=>Hp.set_other _ _ D⟩
   ·simpa [b01] using N
   rw[List.flatten_append]at d;rw[List.getElem?_toArray,C0b _ _ _ _ (by simpa using Y)];by_cases hlt:j<xs.flatten.length;·rw[List.getElem?_append_left hlt]at d;rw[if_neg oM,Array.getElem?_toList];exact E j u d
   rw[List.getElem?_append_right oM]at d;have ax:=(List.getElem?_eq_some_iff.1 d).1;rw[if_pos oM,show o+j-(o+xs.length*i.size)=j-xs.flatten.length by omega];exact d
  have af:∀ j u,xs.flatten[j]?=some u->w.cell? ((⟨g,o,none⟩:Addr).add j)=some u:=λj u d=>by rw[Z03];refine E09 l rfl ?_;simp only[Hp.cell,q];exact E j u d
  have G:=run_append_grow (P:=P) w t ty e i z H F an ⟨g,o,none⟩ xs.length c xs.flatten O af J a.length A a.flatten p L oM ad (growslice_fits oM R);have aa:=grownCap_ge w (xs.length+a.length) c e;refine⟨_,_,_,G,T2.newD l _ rfl,⟨K,w.heap.size,0,grownCap w (xs.length+a.length) c e,_,e,by rw[List.length_append],by rw[List.length_append];exact aa,grownCap_le_maxLen w _ c e (by unfold maxLen;omega),?_,Hp.set_same _ _ _,λj u d=>?_⟩,w.heap.size,0,_,_,rfl,.inr (Z04 l),λb D=>Hp.set_other _ _ D⟩;·simp only[Array.size_append,List.size_toArray,O,p,size_zeroCells,ao,←Nat.add_mul,Nat.zero_add];refine Nat.le_of_eq ?_;congr 1;omega
  rw[List.flatten_append]at d;rw[Nat.zero_add,←Array.getElem?_toList];simp only[Array.toList_append];rw[List.getElem?_append_left (by simpa using (List.getElem?_eq_some_iff.1 d).1)];exact d
 refine⟨_,w,h,?_,T2.refl l,ah am⟩;simp[Builtin.append_,run_underlying H,sizeOf,typeInfo,F,Builtin.lenOf,Builtin.firstCells,Q,storeCells]
theorem Z0m{t e ty sz by_:Nat}{i:TypeInfo}{z:Value}(H:P.underlying t=some (.slice e))(E:P.info? e=some i)(J:i.zero=some z)(G:i.size=sz)(_:0<sz) (A:i.bytes=by_) (v:0<by_) (K:z.cells.size=sz) (n:Vis h w) {y:Value} {a:LV} (d:c0s w y sz a) (l:Z06 a=true) (m:H09 a.length by_) : ∃ o p h',(Builtin.append_ #[t,t] ty #[.slice none 0 0,y]).run P w = .ok o p/\T2 h w h' p/\D0t h h' sz o a:=by
 subst G;subst A;have L:a.length<=140737488355328:=Nat.le_trans (Nat.le_mul_of_pos_right _ v) m;have g:=S02 a (λx I=>(d.1 x I).1);rcases d.2 with⟨q,c,rfl,C⟩|⟨c,rfl,f⟩
 ·by_cases hm:a.length=0;·have f:a = []:=List.eq_nil_of_length_eq_zero hm;subst f;cases l
  have F:=run_append_nil (P:=P) w t ty e i z H E J q a.length c a.flatten g C oM oM (Nat.le_trans m oD);have D:=grownCap_ge w a.length 0 e;refine⟨_,_,_,F,T2.newD n _ rfl,⟨d.1,w.heap.size,0,grownCap w a.length 0 e,_,e,rfl,D,grownCap_le_maxLen w _ 0 e (by unfold maxLen;omega),?_,Hp.set_same _ _ _,λj u k=>?_⟩,w.heap.size,0,_,_,rfl,Z04 n,λb s=>Hp.set_other _ _ s⟩;·simp only[Array.size_append,List.size_toArray,g,size_zeroCells,K,←Nat.add_mul,Nat.zero_add];refine Nat.le_of_eq ?_;congr 1;omega
  rw[Nat.zero_add,←Array.getElem?_toList];simp only[Array.toList_append];rw[List.getElem?_append_left (by simpa using (List.getElem?_eq_some_iff.1 k).1)];exact k
 subst f;cases l
theorem X0d{e sz by_:Nat}{z:Value}(a:o7 P e=some sz)(b:U0d P e=some by_)(c:Q02 P e=some z):∃ i,P.info? e=some i/\i.size=sz/\i.bytes=by_/\i.zero=some z:=by grind[o7,U0d,Q02]
theorem q08(m:Sim P h0 w0 be oe H st h a w){sz:Nat}(O:0<sz){b:Operand}{K:LV->Prop}(d:I0i st h sz (rdO st b) K):∃ e,K e/\c0s w (a.eval b) sz e:=by
 have g:=m.rdO b;unfold I0i at d;split at d
 ·rename_i j k l;obtain⟨M,S,L,R,I,p⟩:=w0a l;rw[l]at g;simp only[p]at d;split at d
  ·rename_i A;have E:=Nat.eq_of_beq_eq_true A;subst E;refine⟨I,d,?_⟩;have q:=m.own j _ _ _ _ _ _ p;rw[g.own_cur p];refine⟨q.1,?_⟩;rcases q.2 with⟨f,i,_⟩|⟨z,cap,cur,f,i,s,_⟩;·grind
   refine .inl ⟨⟨z,0,none⟩,cap,f,λj u o=>?_⟩;rw[Z03,Nat.zero_add];exact E09 m.mv.vis rfl (q.cells f j u o)
  exact d.elim
 ·rename_i v l;rw[l]at g;obtain⟨e,D,C⟩:=d;refine⟨e,C,?_⟩;have F:a.eval b=v:=g;rw[F];obtain⟨f,x,n,c,rfl,rfl,N,i⟩:=D;refine⟨f,?_⟩;rcases i with i|⟨t,G,rfl,s⟩
  ·cases x with
   |none =>
    have Q:e = []:=by
     cases e with
     |nil=>rfl
     |cons y r =>simp_all
    grind
   |some J=>grind
  refine .inl ⟨⟨t,G,none⟩,c,rfl,λj u o=>?_⟩;rw[Z03];exact E09 (z0b m) rfl (s j u o)
 exact d.elim
theorem J05{t:TypeId}{p q:Operand}{as:Array Operand}{b:Array TypeId}(f:o.op = .call { callee := .builtin .append,args:=as,argTypes:=b })(e:as = #[p,q])(h:b = #[t,t]) {c:Value} {d:World} (g:(Builtin.append_ #[t,t] o.type #[a.eval p,a.eval q]).run P w = .ok c d):(execOp a.eval o).run P w = .ok (.value c) d:=by subst e;subst h;unfold execOp;rw[f];simp only[resolve,invoke,builtin,Sem.run_bind,Sem.run_pure,Result.andThen_ok,List.map_toArray,List.map_cons,List.map_nil,g]
theorem H0t(d:Sim P h0 w0 be oe H st h a w){t:TypeId}{p q:Operand}{as:Array Operand}{Y:Array TypeId}(G:o.op = .call { callee := .builtin .append,args:=as,argTypes:=Y }) (D:as = #[p,q]) (J:Y = #[t,t]) (c:J0i P t p q st h K):o.wp P a w (Nx P h0 w0 st be oe K a o.dst) Q:=by
 unfold J0i at c;split at c;rotate_left;·exact c.elim
 rename_i e al;split at c;rotate_left;·exact c.elim
 rename_i sz by_ z aj E am;split at c;rotate_left;·exact c.elim
 rename_i an;obtain⟨i,F,M,N,O⟩:=X0d aj E am;have I:=z01 al;have L:z.cells.size=sz+1:=by simpa using o05 _ _ an
 have g:=d.rdO p;split at c
 ·rename_i j k y;obtain⟨ar,aw,aq,av,ax,A⟩:=w0a y;rw[y]at g;simp only[A]at c;split at c;·rename_i ac ad au;have ae:=Nat.eq_of_beq_eq_true ac;have ak:=Nat.eq_of_beq_eq_true ad;subst ae;subst ak;obtain⟨X,⟨u,l⟩,v⟩:=q08 d (Nat.succ_pos sz) c;have ai:=d.own j _ _ _ _ _ _ A;obtain⟨m,W,R,f,s,C,U,V,_⟩:=t0h (ty:=o.type) I F O M (Nat.succ_pos _) N (Nat.succ_pos _) L ai d.mv.vis d.sub v u;obtain⟨x,S⟩:=d.updOwn (s1:=k+1) (by_:=by_+1) A (Nat.le_succ _) (λe=>absurd e (Nat.succ_ne_self k)) s U C V;rw[←g.own_cur A]at f;refine G9 (J05 G D J f) ⟨_,_,h,m,_,_,_,l,rfl,x,?_,S⟩;refine⟨k+1,?_,Nat.le_refl _,λ_=>oS⟩;simp[stamp,n9 _ _ _ (o04 A)]
  exact c.elim
 ·rename_i y;rw[y]at g;rcases c with c|c;rotate_left;·obtain⟨X,⟨⟨af,u⟩,l⟩,v⟩:=q08 d (Nat.succ_pos sz) c;obtain⟨m,W,h',f,s,T⟩:=Z0m (ty:=o.type) I F O M (Nat.succ_pos _) N (Nat.succ_pos _) L (z0b d) v af u;have n:a.eval p = .slice none 0 0:=g;rw[←n]at f;obtain⟨R,x⟩:=d.moved s;exact G9 (J05 G D J f) ⟨_,_,_,m,_,_,_,l _ _ T,rfl,x,rfl,I8.refl _ _ _⟩
  obtain⟨X,⟨u,l⟩,v⟩:=q08 d (Nat.succ_pos sz) c;have ah:O09 h H (.slice none 0 0) e (sz+1) false []:=⟨oS,.inl ⟨rfl,rfl,rfl⟩⟩;obtain⟨m,W,R,f,s,C,U,V,_⟩:=t0h (ty:=o.type) I F O M (Nat.succ_pos _) N (Nat.succ_pos _) L ah d.mv.vis d.sub v (by simpa using u);simp only[Bool.false_or,List.nil_append]at C;have ag:∀ g,m.ownBlock=some g->H g=none:=λg n=>(V g n).resolve_left (by simp[Value.ownBlock]);rw[m0g]at l;obtain⟨x,S⟩:=d.newOwn (by_:=by_+1) (λb o E=>by rw[U b (by simp[Value.ownBlock]) (by rw[E];simp)];exact E) s C ag;have n:a.eval p = .slice none 0 0:=g;rw[←n]at f;refine G9 (J05 G D J f) ⟨_,_,h,m,_,_,_,l,rfl,x,?_,S⟩;refine⟨0,?_,Nat.le_refl _,λ_=>oS⟩;simp[stamp,Y04]
 ·rename_i aa ap ao Z y;rw[y]at g;obtain⟨X,⟨xs,ab,u,l⟩,v⟩:=q08 d (Nat.succ_pos sz) c;obtain⟨m,W,h',f,s,T⟩:=Y0m (ty:=o.type) I F O M (Nat.succ_pos _) N (Nat.succ_pos _) L ab (z0b d) v u;have n:a.eval p = .slice (some ⟨aa,ap,none⟩) ao Z:=g;rw[←n]at f;obtain⟨R,x⟩:=d.moved s;exact G9 (J05 G D J f) ⟨_,_,_,m,_,_,_,l _ _ T,rfl,x,rfl,I8.refl _ _ _⟩
 exact c.elim
end
section
variable {P:Program} {h0:Hp} {w0:World} {be:Nat->Nat} {oe:Nat->Value} {H:Hp} {st:St} {h:Hp} {a:Act} {w:World} {o:Oper} {K:AV->St->Hp->Prop} {Q:Exit->Act->World->Prop}
theorem z0a:∀(a cs:List Value) (off:Nat),off+a.length<=cs.length->M3 cs off a=cs.take off++a++cs.drop (off+a.length)
 | [],cs,off,_=>by simp[M3]
 |n::a,cs,off,c=>by
  simp only[List.length_cons]at c;rw[M3,z0a a (cs.set off n) (off+1) (by simp;omega)];rw[List.take_set,List.drop_set_of_lt oM];have b:(cs.take (off+1)).set off n=cs.take off ++ [n]:=by
   rw[List.take_succ_eq_append_getElem oM,List.set_append_right _ _ (by simp;omega)];have:off-(cs.take off).length=0:=by simp;omega
   rw[this];simp
  rw[b];simp only[List.length_cons,List.append_assoc,List.cons_append,List.nil_append];rw[show off+1+a.length=off+(a.length+1) from oM]
theorem Y0e(off:Nat):∀(l:List Value) (k:Nat) (a:Array Value),((l.zipIdx k).foldl (λcs p=>cs.setIfInBounds (off+p.2) p.1) a).toList=M3 a.toList (off+k) l
 | [],k,a=>rfl
 |x::l,k,a=>by simp only[List.zipIdx_cons,List.foldl_cons,M3];rw[Y0e off l (k+1)];simp[Nat.add_assoc]
theorem S0i(v:Value)(off:Nat)(a:Array Value):(v.cells.zipIdx.foldl (λcs (p:Value×Nat)=>cs.setIfInBounds (off+p.2) p.1) a).toList=M3 a.toList off v.cells.toList:=by rw[←Array.foldl_toList,Array.toList_zipIdx];simp_all[Y0e]
def I0c(a:Act)(sz:Nat):Nat->List (Nat×Operand)->LV->Prop
 |_,[],[]=>True
 |i,(j,x)::r,c::cs=>j=i/\c=(a.eval x).cells.toList/\c.length=sz/\(∀ v∈c,v.oneCell'=true)/\I0c a sz (i+1) r cs
 |_,_,_=>False
theorem I0c.all{sz:Nat}:∀ {i:Nat} {l:List (Nat×Operand)} {xs:LV},I0c a sz i l xs->(∀ x∈xs,x.length=sz/\∀ v∈x,v.oneCell'=true)/\l.length=xs.length
 |_,[],[],_=>oS
 |i,(j,x)::r,c::cs,h=>by
  have d:=I0c.all h.2.2.2.2;refine⟨λy b=>?_,by simp[d.2]⟩;rcases List.mem_cons.1 b with rfl|b;·exact⟨h.2.2.1,h.2.2.2.1⟩
  exact d.1 y b
 |_,[],_::_,h=>h.elim
 |_,_::_,[],h=>h.elim
theorem T0i{sz:Nat}:∀(l:List (Nat×Operand)) (xs:LV) (i:Nat) (b:Array Value),I0c a sz i l xs->(i+l.length)*sz<=b.size -> ∃ d,Instr.fill (λi=>some (i*sz,sz)) b (l.map λp=>(p.1,a.eval p.2))=some d/\d.toList=b.toList.take (i*sz)++xs.flatten++b.toList.drop ((i+l.length)*sz)
 | [],[],i,b,_,e=>⟨b,rfl,oS⟩
 |(j,x)::r,c::cs,i,b,h,e=>by
  obtain⟨rfl,g,k,_,o⟩:=h;have s:(a.eval x).cells.size=sz:=by rw[←k,g];simp
  have y:j*sz+sz<=b.size:=by refine Nat.le_trans ?_ e;simp only[List.length_cons];grind
  have f:=S0i (a.eval x) (j*sz) b;rw[←g]at f;have q:=z0a c b.toList (j*sz) oG;have t:((a.eval x).cells.zipIdx.foldl (λcs (p:Value×Nat)=>cs.setIfInBounds (j*sz+p.2) p.1) b).size=b.size:=by grind[Array.length_toList,b01]
  obtain⟨d,w,m⟩:=T0i r cs (j+1) ((a.eval x).cells.zipIdx.foldl (λcs (p:Value×Nat)=>cs.setIfInBounds (j*sz+p.2) p.1) b) o (by rw[t];simp only[List.length_cons]at e;grind);refine⟨d,?_,?_⟩;·simp only[List.map_cons,Instr.fill,s,ne_eq,not_true_eq_false,decide_false,Bool.false_or,decide_eq_true_eq];grind
  rw[m,f,q,k];have u:(b.toList.take (j*sz)++c++b.toList.drop (j*sz+sz)).take ((j+1)*sz)=b.toList.take (j*sz)++c:=by rw[List.take_append_of_le_length,List.take_of_length_le];all_goals grind
  have v:(b.toList.take (j*sz)++c++b.toList.drop (j*sz+sz)).drop ((j+1+r.length)*sz)=b.toList.drop ((j+(r.length+1))*sz):=by have n:(b.toList.take (j*sz)++c).length=j*sz+sz:=oG;rw[List.drop_append,List.drop_eq_nil_of_le oG,n,List.nil_append,List.drop_drop];congr 1;simp only[Nat.add_mul];omega
  grind
 | [],_::_,_,_,h,_=>h.elim
 |_::_,[],_,_,h,_=>h.elim
theorem v0h{sz:Nat}:∀(l:List (Nat×Operand)) (i:Nat) {st:St} {h:Hp} {K:LV->St->Hp->Prop},Sim P h0 w0 be oe H st h a w->e0o sz i l st h K -> ∃ xs st' h',K xs st' h'/\Sim P h0 w0 be oe H st' h' a w/\I8 st be oe st' be oe/\I0c a sz i l xs
 | [],i,st,h,K,c,b=>⟨[],st,h,b,c,I8.refl _ _ _,trivial⟩
 |(j,x)::r,i,st,h,K,c,b=>by
  simp only[e0o]at b;split at b
  ·rename_i m;have n:=Nat.eq_of_beq_eq_true m;obtain⟨t,s,d,s1,f⟩:=I05 c (c.rdO x) b;split at d;·rename_i o p;obtain⟨xs,q,k,e,s2,g,p2⟩:=v0h r (i+1) s1 d;exact⟨_,q,k,e,s2,f.trans g,n.symm,rfl,o05 _ _ o,a07 _ p,p2⟩
   exact d.elim
  exact b.elim
theorem X0k(V:Sim P h0 w0 be oe H st h a w){t n:Nat}{c:Array (Nat×Operand)}{e sz by_:Nat}{z:Value}(M:o.op = .buildSlice t n c)(R:q03 P t=some e)(O:o7 P e=some (sz+1)) (T:Q02 P e=some z) (aa:Nat.beq n c.size=true) (G:Nat.ble (n*(sz+1)) 16777216=true) (E:e0o (sz+1) 0 c.toList st h λxs st h=>newOwn st e (sz+1) by_ true xs λav st=>K av st h):o.wp P a w (Nx P h0 w0 st be oe K a o.dst) Q:=by
 obtain⟨xs,ac,C,q,s1,v,U⟩:=v0h _ _ V E;obtain⟨D,Y⟩:=U.all;have k:n=xs.length:=by simp_all
 have I:=Nat.le_of_ble_eq_true G;have S:wpS P (execOp a.eval o) H (λu m=>∃ b d,H b=none/\u = .value (.slice (some ⟨b,0,none⟩) xs.length xs.length)/\m=H.set b (.cells d e (0,0))/\d.toList=xs.flatten/\d.size=xs.length*(sz+1)):=by
  unfold execOp;rw[M];refine f00 _ _ _ ?_;have s:∀ d:Array Value,d.size=xs.length*(sz+1)->∃ f,Instr.fill (λi=>some (i*(sz+1),sz+1)) d (c.toList.map λp=>(p.1,a.eval p.2))=some f/\f.toList=xs.flatten/\f.size=xs.length*(sz+1):=by grind[T0i,Array.length_toList,S02]
  have F : ¬ (n*(sz+1)>2 ^ 24):=Nat.not_lt.2 I;simp only[Instr.buildSlice,N2,r7 (z01 R),v03 O,if_neg F,D3];have Z:(c.map λx=>(x.1,a.eval x.2)).toList=c.toList.map λp=>(p.1,a.eval p.2):=oS;by_cases h00:n*(sz+1)=0;·simp only[if_pos h00,D3];obtain⟨f,l,f2,f3⟩:=s ((Array.range (n*(sz+1))).map λi=>(#[]:Array Value)[i % (#[]:Array Value).size]!) (by simp[k]);rw[show(Array.map (λx=>(x.1,a.eval x.2)) c).toList=c.toList.map λp=>(p.1,a.eval p.2) from oS];simp only[l,N2,newRow,newObj,wpS,D3];exact λb j=>⟨b,f,j,by rw[k],rfl,f2,f3⟩
  simp only[if_neg h00,N2,X0e T,D3];obtain⟨f,l,f2,f3⟩:=s ((Array.range (n*(sz+1))).map λi=>z.cells[i % z.cells.size]!) (by simp[k]);rw[show(Array.map (λx=>(x.1,a.eval x.2)) c).toList=c.toList.map λp=>(p.1,a.eval p.2) from oS];simp only[l,N2,newRow,newObj,wpS,D3];exact λb j=>⟨b,f,j,by rw[k],rfl,f2,f3⟩
 obtain⟨u,m,ad,N,⟨b,d,j,rfl,rfl,f2,f3⟩,L⟩:=P01 _ _ _ s1.mv.vis S;have J:xs.length<=maxLen:=by have:xs.length<=xs.length*(sz+1):=Nat.le_mul_of_pos_right _ (Nat.succ_pos _);grind[maxLen]
 rw[m0g]at q;obtain⟨W,A⟩:=s1.newOwn (nn:=true) (by_:=by_) (λx y ab=>by grind[Hp.set_other]) L
  (R0i s1.sub j D (Nat.le_refl _) J f3 (by rw[f2,List.take_of_length_le oG])) (λg X=>by grind[Value.ownBlock])
 refine G9 N ⟨_,_,C,_,_,_,_,q,rfl,W,?_,v.trans A⟩;refine⟨0,?_,Nat.le_refl _,λ_=>oS⟩;simp[stamp,Y04]
theorem r08{sz:Nat}(b:List Value)(c:b.length=sz)(d:0<sz):∀(l j:Nat),j<l*sz->(List.replicate l b).flatten[j]?=b[j % sz]?
 |0,j,h=>by simp at h
 |l+1,j,h=>by
  simp only[List.replicate_succ,List.flatten_cons];have h':j<l*sz+sz:=oG;by_cases hj:j<sz;·rw[List.getElem?_append_left oM,Nat.mod_eq_of_lt hj]
  rw[List.getElem?_append_right oM,c,r08 b c d l (j-sz) oM,←Nat.mod_eq_sub_mod (a:=j) oM]
theorem I0t{sz:Nat}(z:Value)(b:z.cells.toList.length=sz)(c:0<sz)(l n:Nat)(e:l*sz<=n):(madeCells z.cells n).toList.take (l*sz)=(List.replicate l z.cells.toList).flatten:=by
 have d:z.cells.size=sz:=by simpa using b
 apply List.ext_getElem?;intro j;rw[List.getElem?_take];by_cases hj:j<l*sz
 ·rw[if_pos hj,r08 _ b c l j hj];have a:j % sz<z.cells.size:=by simp_all[Nat.mod_lt]
  simp only[madeCells,d,Array.toList_map,Array.toList_range,List.getElem?_map,List.getElem?_range (show j<n from oM),Option.map_some,Array.getElem?_toList,Array.getElem?_eq_getElem a];congr 1;simp[a]
 rw[if_neg hj];simp_all
theorem a0n(d:Sim P h0 w0 be oe H st h a w){t e sz by_:Nat}{l c:Operand}{z:Value}{k j:IntKind}{b nc:Int}(Y:o.op = .makeSlice t l c)(O:q03 P t=some e) (N:o7 P e=some (sz+1)) (D:U0d P e=some by_) (R:Q02 P e=some z) (I:rdO st l = .val (.int k b)) (F:rdO st c = .val (.int j nc)) (S:u0a z.cells.toList (sz+1)=true) (Z:i08 z.cells.toList=true) (E:0<=b/\b<=nc/\nc*by_<=140737488355328/\nc<=9223372036854775807) (n:newOwn st e (sz+1) by_ true (List.replicate b.toNat z.cells.toList) λav st=>K av st h):o.wp P a w (Nx P h0 w0 st be oe K a o.dst) Q:=by
 obtain⟨i,G,s,ab,T⟩:=X0d N D R;have X:a.eval l = .int k b:=by have:=d.rdO l;rw[I]at this;exact this
 have W:a.eval c = .int j nc:=by have:=d.rdO c;rw[F]at this;exact this
 obtain⟨u,v,V,A⟩:=E;have J:=o05 _ _ S;have aa:=run_make (P:=P) w t e i z (z01 O) G T k j b nc u v oG A;have M:(execOp a.eval o).run P w = .ok (.value (.slice (some ⟨w.heap.size,0,none⟩) b.toNat nc.toNat)) (w.alloc (.cells (madeCells z.cells (nc.toNat*i.size)) e)):=by simp_all[execOp,Sem.run_bind,Result.andThen_ok,Sem.run_pure]
 have L:T2 H w (H.set w.heap.size (.cells (madeCells z.cells (nc.toNat*i.size)) e (0,0))) (w.alloc (.cells (madeCells z.cells (nc.toNat*i.size)) e)):=T2.new d.mv.vis _ rfl;have p:(List.replicate b.toNat z.cells.toList).length=b.toNat:=oS;have m:=R0i (h:=h) (H:=H) (e:=e) (sz:=sz+1) (nn:=true) (cap:=nc.toNat) (xs:=List.replicate b.toNat z.cells.toList) (cur:=madeCells z.cells (nc.toNat*i.size)) d.sub (Z04 d.mv.vis)
  (λx f=>by grind[a07]) (by simp;omega) (by unfold maxLen;omega) (by rw[size_madeCells,s])
  (by rw[p,s];exact I0t z J (Nat.succ_pos _) _ _ (Nat.mul_le_mul_right _ oM))
 rw[p]at m;rw[m0g]at n;obtain⟨U,C⟩:=d.newOwn (by_:=by_) (λx y f=>by rw[Hp.set_other _ _ (λe=>by subst e;rw[Z04 d.mv.vis]at f;cases f)];exact f) L m
  (λg q=>by simp[Value.ownBlock]at q;rw[←q];exact Z04 d.mv.vis)
 refine G9 M ⟨_,_,h,_,_,_,_,n,rfl,U,?_,C⟩;refine⟨0,?_,Nat.le_refl _,λ_=>oS⟩;simp[stamp,Y04]
end
section
variable {P:Program} {h0:Hp} {w0:World} {be:Nat->Nat} {oe:Nat->Value} {H:Hp} {st:St} {h:Hp} {a:Act} {w:World} {o:Oper} {K:AV->St->Hp->Prop} {Q:Exit->Act->World->Prop}
theorem b0n(l:Sim P h0 w0 be oe H st h a w){t:TypeId}{x i:Operand}(z:o.op = .indexAddr t x i)
  (d:match rdO st i with
  | .val (.int _ j)=>match q03 P t with
   |some e=>match o7 P e with
    |some sz=>match rdO st x with
     | .val (.slice a n c)=>InB (.slice a n c) j/\K (.hel (.slice a n c) j sz 0) st h
     | .own i k=>match nth st.ow i with
      |some ⟨_,.live _ N _ _ xs⟩=>match Nat.beq N sz with
       |true=>(0<=j/\j<(xs.length:Int))/\K (.oel i k j sz 0) st h
       |false=>False
      |_=>False
     |_=>False
    |none=>False
   |none=>match rdO st x,O0u P t j with
    | .box i off,some m=>K (.box i (off+m)) st h
    | .hel l i sz k,some m=>K (.hel l i sz (k+m)) st h
    | .oel i l j sz k,some m=>K (.oel i l j sz (k+m)) st h
    |_,_=>False
  |_=>False):o.wp P a w (Nx P h0 w0 st be oe K a o.dst) Q:=by
 have gi:=l.rdO i
 have f:=l.rdO x
 split at d
 rotate_left
 ·exact d.elim
 rename_i k j U
 rw[U]at gi
 split at d
 rotate_left
 ·split at d
  ·rename_i p off m q y
   rw[q]at f
   exact G8 l (av := .box p (off+m)) (x0a z y f.2 gi) ⟨f.1,rfl⟩ d
  ·rename_i sl p sz G m q y
   rw[q]at f
   obtain⟨b,Y,n,c,v,E⟩:=f
   refine G8 l (av := .hel sl p sz (G+m)) (x0a z y E gi) ⟨b,Y,n,c,v,?_⟩ d
   simp[Nat.add_assoc]
  ·rename_i p Z X sz G m q y
   rw[q]at f
   obtain⟨e,N,by_,nn,xs,s⟩:=V0m q
   obtain⟨S,n,c,v,E⟩:=f.oel_cur s
   obtain⟨ab,O,R,ag⟩:=f
   refine G8 l (av := .oel p Z X sz (G+m)) (x0a z y E gi) ⟨ab,O,R,λ_=>⟨S,n,c,v,by simp[Nat.add_assoc]⟩⟩ d
  ·exact d.elim
 rename_i e J
 split at d
 rotate_left
 ·exact d.elim
 rename_i sz I
 split at d
 ·rename_i ac n c A
  rw[A]at f
  obtain⟨⟨b,off,ah,ae,v,D,u⟩,F⟩:=d
  cases v
  exact G8 l (av := .hel _ j sz 0) (exec_indexAddr z J I f gi D u) ⟨b,off,n,c,rfl,oS⟩ F
 ·rename_i p M A
  obtain⟨af,aa,ad,ai,xs,s⟩:=w0a A
  rw[A]at f
  simp only[s]at d
  split at d
  ·rename_i T
   have W:=Nat.eq_of_beq_eq_true T
   subst W
   obtain⟨⟨D,u⟩,F⟩:=d
   have V:=l.own p _ _ _ _ _ _ s
   rcases V.2 with⟨_,C,_⟩|⟨g,cap,cur,L,_⟩
   ·rw[C]at u;simp at u;omega
   ·have C:=f.own_cur s
    rw[L]at C
    refine G8 l (av := .oel p M j aa 0) (exec_indexAddr z J I C gi D u) ⟨M,by simp[stamp,s],Nat.le_refl _,λ_=>⟨g,xs.length,cap,L,oS⟩⟩ F
  ·exact d.elim
 ·exact d.elim
theorem J0c{sz:Nat}:∀(xs:LV) (k:Nat),(∀ x∈xs,x.length=sz)->(xs.take k).flatten=xs.flatten.take (k*sz)
 | [],k,_=>oS
 |x::xs,0,_=>oS
 |x::xs,k+1,a=>by have b:=a x mS;simp only[List.take_succ_cons,List.flatten_cons];rw[J0c xs k (λy c=>a y (mC _ c)),List.take_append (l₁:=x),List.take_of_length_le (l:=x) oG,b,Nat.add_mul,Nat.one_mul,Nat.add_sub_cancel]
theorem s0l{sz:Nat}:∀(xs:LV) (k:Nat),(∀ x∈xs,x.length=sz)->(xs.drop k).flatten=xs.flatten.drop (k*sz)
 | [],k,_=>oS
 |x::xs,0,_=>oS
 |x::xs,k+1,a=>by have b:=a x mS;simp only[List.drop_succ_cons,List.flatten_cons];rw[s0l xs k (λy c=>a y (mC _ c)),List.drop_append (l₁:=x),List.drop_of_length_le (l:=x) oG,b,Nat.add_mul,Nat.one_mul,Nat.add_sub_cancel,List.nil_append]
def s08(a:Act)(d:Int)(x:Option Operand)(l:Int):Prop:=match x with
 |none=>l=d
 |some y=>∃ k,a.eval y = .int k l
theorem A0a(c:Sim P h0 w0 be oe H st h a w){d l:Int}{x:Option Operand}(b:X08 d (x.map (rdO st))=some l):s08 a d x l:=by
 cases x with
 |none=>simp only[Option.map_none,X08,Option.some.injEq]at b;exact b.symm
 |some y =>
  have g:=c.rdO y;simp only[Option.map_some]at b;cases hr:rdO st y with
  |val v =>rw[hr]at b g;cases v<;>simp only[X08,Option.some.injEq]at b<;>first|(subst b;exact⟨_,g⟩)|cases b
  |_=>rw[hr]at b;cases b
theorem K0c{x:Value}{k:IntKind}{i:Int}{y:Nat}{b:BoundsCode}(e:x = .int k i)(c:0<=i)(d:i<=(y:Int))(a:Nat->Hp->Prop):wpS P (Instr.sliceBound x y b) H a=a i.toNat H:=by subst e;simp only[Instr.sliceBound,asIntOf,N2,D3,c,d,and_self,if_true]
theorem U0i{isS:Bool}{n c:Nat}{f b:Option Operand}{l m:Int}(i:s08 a 0 f l)(d:s08 a n b m)(h:0<=l)(s:l<=m)(t:m<=(n:Int))(u:n<=c) (g:Nat×Nat×Nat->Hp->Prop):wpS P (Instr.sliceBounds isS n c (f.map a.eval) (b.map a.eval) none) H g=g (l.toNat,m.toNat,c) H:=by
 have q:l<=(m.toNat:Int):=oM;cases f with
 |none =>
  have p:l=0:=i;subst p;cases b with
  |none =>have j:m=(n:Int):=d;simp_all[Instr.sliceBounds,Option.map_none,N2,D3]
  |some y =>obtain⟨k,e⟩:=d;simp only[Instr.sliceBounds,Option.map_none,Option.map_some,N2,D3,K0c e oM (show m<=(c:Int) by omega)];rfl
 |some x =>
  obtain⟨k,o⟩:=i;cases b with
  |none =>have j:m=(n:Int):=d;subst j;simp only[Instr.sliceBounds,Option.map_none,Option.map_some,N2,D3,K0c o h (show l<=((n:Nat):Int) by omega)];rfl
  |some y =>obtain⟨v,e⟩:=d;simp only[Instr.sliceBounds,Option.map_some,N2,D3,K0c e oM (show m<=(c:Int) by omega),K0c o h q]
theorem exec_slice{t e sz:Nat}{x:Operand}{g f:Option Operand}{d:Option Addr}{n c:Nat}{l m:Int}(s:o.op = .slice t x g f none)(u:q03 P t=some e)(y:o7 P e=some sz) (v:a.eval x = .slice d n c) (k:s08 a 0 g l) (p:s08 a n f m) (h:0<=l) (i:l<=m) (j:m<=(n:Int)) (q:n<=c) : ∀ b:Next->Hp->Prop,b (.value (.slice (if c=l.toNat then d else d.map (·.add (l.toNat*sz))) (m.toNat-l.toNat) (c-l.toNat))) H->wpS P (execOp a.eval o) H b:=by intro b w;unfold execOp;rw[s];refine f00 _ _ _ ?_;simp only[Instr.sliceAt,N2,r7 (z01 u),Instr.slice,v,Option.map_none];rw[U0i k p h i j q];grind[v03,D3]
theorem J0t(k:Sim P h0 w0 be oe H st h a w){t e sz:Nat}{x:Operand}{A z:Option Operand}{d:Option Addr}{n c:Nat}(R:o.op = .slice t x A z none)(U:q03 P t=some e)(T:o7 P e=some sz) (S:rdO st x = .val (.slice d n c)) (g:J0q sz (.slice d n c) n (A.map (rdO st)) (z.map (rdO st)) st h K):o.wp P a w (Nx P h0 w0 st be oe K a o.dst) Q:=by
 have s:=k.rdO x;rw[S]at s;unfold J0q at g;split at g;rotate_left;·exact g.elim
 rename_i l m J M;obtain⟨⟨C,D,E⟩,xs,F,I⟩:=g;obtain⟨f,V,aa,W,q,Z,N,u⟩:=F;cases q;have L:((xs.take m.toNat).drop l.toNat).length=m.toNat-l.toNat:=by simp;omega
 have O:SlE h sz (.slice (if c=l.toNat then d else d.map (·.add (l.toNat*sz))) (m.toNat-l.toNat) (c-l.toNat)) ((xs.take m.toNat).drop l.toNat):=by
  refine⟨λy p=>f y (List.mem_of_mem_take (List.mem_of_mem_drop p)),_,_,_,rfl,L.symm,oM,?_⟩;rcases u with u|⟨b,off,rfl,G⟩;·grind[List.flatten_eq_nil_iff,List.mem_of_mem_take,List.mem_of_mem_drop]
  by_cases hcl:c=l.toNat;·grind
  right;rw[if_neg hcl];refine⟨b,off+l.toNat*sz,by simp[Z03],λj v Y=>?_⟩;have i:=S02 xs (λx i=>(f x i).1);rw[Nat.add_assoc];refine G _ _ ?_;have q:(xs.take m.toNat).flatten=xs.flatten.take (m.toNat*sz):=J0c xs _ (λx i=>(f x i).1);have X:((xs.take m.toNat).drop l.toNat).flatten=((xs.take m.toNat).flatten).drop (l.toNat*sz):=s0l _ _ (λy p=>(f y (List.mem_of_mem_take p)).1);grind
 exact G8 k (av := .val _) (exec_slice R U T s (A0a k J) (A0a k M) C D E N) rfl (I _ O λ_ _ _ e=>by cases e;rfl)
theorem K0t(d:Sim P h0 w0 be oe H st h a w){t e sz:Nat}{x:Operand}{C p:Option Operand}{i k:Nat}(M:o.op = .slice t x C p none)(R:q03 P t=some e)(O:o7 P e=some sz) (N:rdO st x = .own i k) (c:I0q i (C.map (rdO st)) (p.map (rdO st)) st h K):o.wp P a w (Nx P h0 w0 st be oe K a o.dst) Q:=by
 have G:=d.rdO x;rw[N]at G;obtain⟨U,D,T,ao,xs,q⟩:=w0a N;unfold I0q at c;split at c;rotate_left;·exact c.elim
 rename_i am m aq z;simp only[q]at c;obtain⟨⟨S,F⟩,J⟩:=c;have af:C=none:=by simp_all
 subst af;have L:s08 a (xs.length:Int) p m:=by
  cases p with
  |none=>simp at z
  |some y =>have g:=d.rdO y;simp only[Option.map_some,Option.some.injEq]at z;rw[z]at g;exact⟨am,g⟩
 have A:=d.own i _ _ _ _ _ _ q;have b:=G.own_cur q;have ar:∀ v,v=oe i->v.ownBlock=(oe i).ownBlock:=λv aj=>by rw[aj]
 have an:∃ v,(∀ f:Next->Hp->Prop,f (.value v) H->wpS P (execOp a.eval o) H f)/\v.ownBlock=(oe i).ownBlock/\O09 h H v U D ao (xs.take m.toNat):=by
  have I:∀ y∈xs.take m.toNat,y.length=D/\∀ v∈y,v.oneCell'=true:=λy al=>A.1 y (List.mem_of_mem_take al);rcases A.2 with⟨j,s,u⟩|⟨g,cap,cur,j,s,u,X,Y,Z,aa⟩
  ·rw[j]at b;subst s;have ag:m=0:=by simp at F;omega
   subst ag;refine⟨_,exec_slice M R O b (l:=0) rfl L oM oM oS (Nat.le_refl _),?_,I,.inl ⟨oS,oS,u⟩⟩;grind
  rw[j]at b;refine⟨.slice (some ⟨g,0,none⟩) m.toNat cap,λf J=>exec_slice M R O b (l:=0) rfl L oM S F X f ?_,by rw[j];rfl,I,.inr ⟨g,cap,cur,?_,s,u,?_,Y,Z,?_⟩⟩;·grind[Int.toNat,Addr.add]
  ·have:(xs.take m.toNat).length=m.toNat:=by simp;omega
   rw[this]
  ·simp;omega
  have ae:(xs.take m.toNat).length=m.toNat:=by simp;omega
  rw[ae];have V:(xs.take m.toNat).flatten=xs.flatten.take (m.toNat*D):=J0c xs _ (λx b=>(A.1 x b).1);rw[V,←aa,List.take_take];congr 1;rw[Nat.min_eq_left (Nat.mul_le_mul_right _ oM)]
 obtain⟨v,ak,ac,ab⟩:=an;obtain⟨au,E,av,ai,⟨rfl,rfl⟩,ah⟩:=P01 _ _ _ d.mv.vis (ak (λn E=>n = .value v/\E=H) ⟨rfl,rfl⟩);obtain⟨ap,W⟩:=d.updOwn (s1:=k+1) (by_:=T) q (Nat.le_succ _) (λe=>absurd e (Nat.succ_ne_self k)) ah (λ_ _ _=>rfl) ab (λg ad => .inl (by rw[←ac];exact ad));refine G9 ai ⟨_,_,h,v,_,_,_,J,rfl,ap,?_,W⟩;refine⟨k+1,?_,Nat.le_refl _,λ_=>oS⟩;simp_all[stamp,n9,o04]
theorem exec_cutStr{t:TypeId}{x:Operand}{e d:Option Operand}{b:ByteArray}{l m:Int}(n:o.op = .slice t x e d none)(p:P.underlying t=some .string) (q:a.eval x = .string b) (j:s08 a 0 e l) (k:s08 a b.size d m) (f:0<=l) (g:l<=m) (h:m<=(b.size:Int)) : ∀ c:Next->Hp->Prop,c (.value (.string (b.extract l.toNat m.toNat))) H->wpS P (execOp a.eval o) H c:=by intro c i;unfold execOp;rw[n];refine f00 _ _ _ ?_;simp only[Instr.sliceAt,N2,r7 p,Instr.slice,q,Option.map_none,Option.isSome_none,Bool.false_eq_true,if_false,D3];rw[U0i j k f g h (Nat.le_refl _)];exact i
theorem exec_index{t:TypeId}{x i:Operand}{b:ByteArray}{k:IntKind}{j:Int}{c:UInt8}(l:o.op = .index t x i)(m:P.underlying t=some .string)(n:a.eval x = .string b)(g:a.eval i = .int k j) (e:0<=j) (f:b[j.toNat]?=some c):∀ d:Next->Hp->Prop,d (.value (.int .u8 c.toNat)) H->wpS P (execOp a.eval o) H d:=by intro d h;unfold execOp;rw[l];refine f00 _ _ _ ?_;simp only[Instr.index,n,g,asIntOf,N2,D3,r7 m,e,if_true,f];exact h
theorem exec_quo{t j:TypeId}{x y:Operand}{b c:Int}(g:o.op = .binOp .quo t x y j)(h:a.eval x = .int .i64 b)(i:a.eval y = .int .i64 c)(f:c≠0): ∀ d:Next->Hp->Prop,d (.value (.int .i64 (IntKind.i64.wrap (b.tdiv c)))) H->wpS P (execOp a.eval o) H d:=by intro d e;unfold execOp;rw[g];refine f00 _ _ _ ?_;simp only[h,i,eqGuard,N2,Bool.not_false,if_true,D3,binOp,Go.Op.intDiv,if_neg f,ne_eq,not_true_eq_false,if_false];exact e
theorem exec_rem{t j:TypeId}{x y:Operand}{b c:Int}(g:o.op = .binOp .rem t x y j)(h:a.eval x = .int .i64 b)(i:a.eval y = .int .i64 c)(f:c≠0): ∀ d:Next->Hp->Prop,d (.value (.int .i64 (b.tmod c))) H->wpS P (execOp a.eval o) H d:=by intro d e;unfold execOp;rw[g];refine f00 _ _ _ ?_;simp only[h,i,eqGuard,N2,Bool.not_false,if_true,D3,binOp,Go.Op.intDiv,if_neg f,ne_eq,not_true_eq_false,if_false];exact e
theorem j0v{t j:TypeId}{x y:Operand}{b c:Int}(g:o.op = .binOp .shl t x y j)(h:a.eval x = .int .i64 b)(i:a.eval y = .int .i64 c)(k:0<=c): ∀ d:Next->Hp->Prop,d (.value (.int .i64 (IntKind.i64.wrap (b*2 ^ min c.toNat 64)))) H->wpS P (execOp a.eval o) H d:=by intro d e;unfold execOp;rw[g];refine f00 _ _ _ ?_;have f : ¬ c<0:=oM;simp only[h,i,eqGuard,N2,Bool.not_false,if_true,D3,binOp,Go.Op.shift,if_neg f,IntKind.bits];exact e
theorem k0v{t j:TypeId}{x y:Operand}{b c:Int}(g:o.op = .binOp .shr t x y j)(h:a.eval x = .int .i64 b)(i:a.eval y = .int .i64 c)(k:0<=c): ∀ d:Next->Hp->Prop,d (.value (.int .i64 (b.fdiv (2 ^ min c.toNat 64)))) H->wpS P (execOp a.eval o) H d:=by intro d e;unfold execOp;rw[g];refine f00 _ _ _ ?_;have f : ¬ c<0:=oM;simp only[h,i,eqGuard,N2,Bool.not_false,if_true,D3,binOp,Go.Op.shift,if_neg f,IntKind.bits];exact e
theorem exec_cat{t j:TypeId}{x y:Operand}{b c:ByteArray}(g:o.op = .binOp .add t x y j)(h:a.eval x = .string b)(i:a.eval y = .string c)(k:b.size+c.size<=9223372036854775807): ∀ d:Next->Hp->Prop,d (.value (.string (b++c))) H->wpS P (execOp a.eval o) H d:=by
 intro d e;unfold execOp;rw[g];refine f00 _ _ _ ?_;have f : ¬ (((b.size+c.size:Nat):Int)>IntKind.i64.max):=by have:IntKind.i64.max=9223372036854775807:=oD;rw[this];omega
 simp only[h,i,eqGuard,N2,Bool.not_false,if_true,D3,binOp,Go.Op.stringOp,if_neg f];exact e
end
section
variable {P:Program} {h0:Hp} {w0:World} {be:Nat->Nat} {oe:Nat->Value} {H:Hp} {st:St} {h:Hp} {a:Act} {w:World} {o:Oper} {K:AV->St->Hp->Prop} {Q:Exit->Act->World->Prop}
theorem w0h:∀(a c r:List Value) (k:Nat),k+a.length<=c.length->M3 (c++r) k a=M3 c k a++r
 | [],c,r,k,_=>rfl
 |n::a,c,r,k,b=>by simp only[List.length_cons]at b;simp only[M3];rw[List.set_append_left _ _ oM,w0h a _ r (k+1) (by simp;omega)]
theorem Z0e:∀(a x l:List Value) (k:Nat),M3 (x++l) (x.length+k) a=x++M3 l k a
 | [],x,l,k=>rfl
 |n::a,x,l,k=>by simp only[M3];rw[List.set_append_right _ _ oM,Nat.add_sub_cancel_left,Nat.add_assoc,Z0e a x _ (k+1)]
theorem D0b{sz:Nat}(a:List Value)(k:Nat):∀(xs:LV) (i:Nat) (c:List Value),(∀ x∈xs,x.length=sz)->xs[i]?=some c->k+a.length<=c.length -> (xs.set i (M3 c k a)).flatten=M3 xs.flatten (i*sz+k) a
 | [],i,c,_,h,_=>by simp at h
 |x::xs,0,c,d,h,b=>by simp at h;subst h;simp only[List.set_cons_zero,List.flatten_cons,Nat.zero_mul,Nat.zero_add];rw[w0h a x _ k b]
 |x::xs,i+1,c,d,h,b=>by simp at h;have f:=d x mS;simp only[List.set_cons_succ,List.flatten_cons];rw[D0b a k xs i c (λy e=>d y (mC _ e)) h b];rw[show(i+1)*sz+k=x.length+(i*sz+k) from oG,Z0e]
theorem b09:∀(a cs:List Value) (off N:Nat),(M3 cs off a).take N=M3 (cs.take N) off a
 | [],cs,off,N=>rfl
 |n::a,cs,off,N=>by simp only[M3];rw[b09 a _ (off+1) N,List.take_set]
theorem V0i:∀(a cs:List Value) (off:Nat) (v:Value),v∈M3 cs off a->v∈cs∨v∈a
 | [],cs,off,v,h => .inl h
 |n::a,cs,off,v,h=>by rcases V0i a _ (off+1) v h with h|h;all_goals grind
theorem c0n(F:Sim P h0 w0 be oe H st h a w){t:TypeId}{p x:Operand}{i O:Nat}{idx:Int}{sz k:Nat}(ak:o.op = .store t p x)(am:rdO st p = .oel i O idx sz k)
  (ad:rfy (rdO st x) st h λv st h=>match nth st.ow i,o7 P t with
   |some ⟨z,.live e d by_ nn xs⟩,some n=>match u0a v.cells.toList n,i08 v.cells.toList,Nat.beq z O,Nat.beq d sz with
    |true,true,true,true=>∃ c,xs[idx.toNat]?=some c/\C0t c k v.cells.toList λq =>
      K (.val undef) { st with ow:=F02 st.ow i ⟨z,.live e d by_ nn (xs.set idx.toNat q)⟩ } h
    |_,_,_,_=>False
   |_,_=>False):o.wp P a w (Nx P h0 w0 st be oe K a o.dst) Q:=by
 have J:=F.rdO p
 rw[am]at J
 obtain⟨az,L,f,s1,I⟩:=I05 F (F.rdO x) ad
 have S:=J.grow I
 split at f
 rotate_left
 ·exact f.elim
 rename_i z e d by_ nn xs n C ao
 split at f
 rotate_left
 ·exact f.elim
 rename_i ah al X Y
 have ap:=Nat.eq_of_beq_eq_true X
 have aq:=Nat.eq_of_beq_eq_true Y
 subst ap;subst aq
 obtain⟨c,s,j⟩:=f
 unfold C0t at j
 split at j
 rotate_left
 ·exact j.elim
 rename_i A
 have A:=Nat.le_of_ble_eq_true A
 have ai:=o05 _ _ ah
 have N:=a07 _ al
 obtain⟨g,ax,q,u,D⟩:=S.oel_cur C
 have l:=s1.own i _ _ _ _ _ _ C
 rcases l.2 with⟨m,_⟩|⟨R,cap,cur,m,af,ag,M,ab,ac,ar⟩
 ·rw[m]at u;cases u
 rw[m]at u;cases u
 have Z:=(List.getElem?_eq_some_iff.1 s)
 have aa:c.length=d:=(l.1 c (List.mem_of_getElem? s)).1
 have V:idx.toNat*d+k+n<=cur.toList.length:=by
  have:(idx.toNat+1)*d<=q*d:=Nat.mul_le_mul_right _ (Nat.le_trans Z.1 M)
  grind
 have av:=y0a (H:=H) (P:=P) (a:=a) (cur:=cur.toList) ak ao D ai N (by simpa using ag) V
 obtain⟨ay,G,aA,an,⟨rfl,rfl⟩,aj⟩:=P01 _ _ _ s1.mv.vis (av (λn G=>n = .skip/\G=_) ⟨rfl,rfl⟩)
 rw[Q09]at j
 have U:O09 L (H.set g (.cells (M3 cur.toList (idx.toNat*d+k) (a.eval x).cells.toList).toArray e (0,0))) (oe i) e d nn (xs.set idx.toNat (M3 c k (a.eval x).cells.toList)):=by
  refine⟨λy E=>?_,.inr ⟨g,q,_,by simpa using m,af,Hp.set_same _ _ _,by simpa using M,ab,by simp[b01,ac],?_⟩⟩
  ·rcases List.mem_or_eq_of_mem_set E with E|rfl
   ·exact l.1 y E
   ·refine⟨by rw[b01,aa],λv au=>?_⟩
    rcases V0i _ _ _ _ au with h'|h'
    ·exact(l.1 c (List.mem_of_getElem? s)).2 v h'
    ·exact N v h'
  ·rw[D0b (sz:=d) _ _ xs idx.toNat c (λx D=>(l.1 x D).1) s A,←ar]
   simp only[List.length_set]
   rw[b09]
 obtain⟨aw,T⟩:=s1.updOwn (s1:=z) (by_:=by_) C (Nat.le_refl _) (λ_=>rfl) aj (λb W _=>Hp.set_other _ _ (λe=>W (by rw[m,e];rfl))) U (λR ae => .inl ae)
 exact G0c an ⟨_,_,L,_,_,_,_,j,rfl,aw,rfl,I.trans T⟩
theorem d0n(c:Sim P h0 w0 be oe H st h a w){t:TypeId}{p x:Operand}{sl:Value}{idx:Int}{sz k:Nat}{v:Value}(A:o.op = .store t p x)(C:rdO st p = .hel sl idx sz k)
    (G:rdO st x = .val v) (E:o7 P t=some 1)
    (u : ∃ b of n d cur ty, (sl = .slice (some ⟨b, of, none⟩) n d ∧ 0 ≤ idx ∧ h b = some (.cells cur ty (0, 0)) ∧ of + (idx.toNat * sz + k) < cur.size ∧ T06 v) ∧
            K (.val undef) st (h.set b (.cells (cur.setIfInBounds (of+(idx.toNat*sz+k)) v) ty (0,0)))):o.wp P a w (Nx P h0 w0 st be oe K a o.dst) Q:=by
  have f:=c.rdO p
  rw[C]at f
  have g:a.eval x=v:=by have:=c.rdO x;rw[G]at this;exact this
  obtain⟨b,off,n,d,cur,ty,⟨l,_,s,M,N⟩,y⟩:=u
  obtain⟨J,T,R,L,e,m⟩:=f
  rw[l]at e;cases e
  have i:v.cells = #[v]:=by cases v<;>simp_all [T06,Value.cells]
  have O:v.oneCell'=true:=by cases v<;>simp_all [T06,Value.oneCell']
  have F:=y0a (H:=h) (P:=P) (a:=a) (cur:=cur.toList) A E m (by rw[g,i];rfl) oG (by simpa using s) (by simp;omega)
  obtain⟨S,h',U,D,⟨rfl,rfl⟩,z⟩:=P01 _ _ _ (z0b c) (F (λn h'=>n = .skip/\h'=_) ⟨rfl,rfl⟩)
  obtain⟨I,j⟩:=c.moved z
  have q:(M3 cur.toList (off+(idx.toNat*sz+k)) (a.eval x).cells.toList).toArray=cur.setIfInBounds (off+(idx.toNat*sz+k)) v:=by
    rw[g,i]
    apply Array.ext'
    simp[M3]
  rw[q]at j
  exact G0c D ⟨_,_,_,_,_,_,_,y,rfl,j,rfl,I8.refl _ _ _⟩
theorem C0d(c:Sim P h0 w0 be oe H st h a w){t:TypeId}{p x:Operand}{sl:Value}{idx:Int}{sz k n:Nat}{new:List Value}(y:o.op = .store t p x)(z:rdO st p = .hel sl idx sz k) (g:(a.eval x).cells.toList=new) (C:o7 P t=some n) (s:u0a new n=true) (J:i08 new=true) (q:I09 h sl idx (idx.toNat*sz+k) new λh'=>K (.val undef) st h'):o.wp P a w (Nx P h0 w0 st be oe K a o.dst) Q:=by have e:=c.rdO p;rw[z]at e;obtain⟨b,off,M,G,cur,ty,⟨j,_,m,L⟩,f⟩:=q;obtain⟨F,R,N,I,d,l⟩:=e;rw[j]at d;cases d;have u:=o05 _ _ s;have D:=y0a (H:=h) (P:=P) (a:=a) (cur:=cur.toList) y C l (by rw[g];exact u) (by grind[a07]) (by simpa using m) (by simp;omega);obtain⟨O,h',S,A,⟨rfl,rfl⟩,v⟩:=P01 _ _ _ (z0b c) (D (λn h'=>n = .skip/\h'=_) ⟨rfl,rfl⟩);obtain⟨E,i⟩:=c.moved v;rw[Q09]at f;rw[g]at i;exact G0c A ⟨_,_,_,_,_,_,_,f,rfl,i,rfl,I8.refl _ _ _⟩
theorem D0d:∀(c:List Field),G09 P c=true->∃ b,c.mapM (λf:Field=>(P.info? f.type).map λi=>(f.offset,i.size))=some b /\ ∀(k:Nat) (f:Field) (n:Nat),c[k]?=some f->o7 P f.type=some n->b[k]?=some (f.offset,n)
 | [],_=>⟨[],rfl,oS⟩
 |f::r,h=>by
  simp only[G09]at h;split at h
  ·rename_i m a;obtain⟨b,d,e⟩:=D0d r h;unfold o7 at a;split at a;·rename_i i j;cases a;refine⟨(f.offset,i.size)::b,by simp_all,λk g n l o=>?_⟩;grind[o7]
   cases a
  cases h
theorem a0f{d:Array Field}{m:List (Nat×Nat)}(h:∀(k:Nat) (f:Field) (n:Nat),d.toList[k]?=some f->o7 P f.type=some n->m[k]?=some (f.offset,n)){rd:Operand->AV}
  (j:∀ x cs,m02 (rd x)=some cs->C2 st oe cs (a.eval x).cells.toList):∀(l:List (Nat×Operand)) {cs:List S6} {vs:List Value} {K:List S6->Prop},C2 st oe cs vs->p0b P d rd l cs K ->
  ∃ cs' c,K cs'/\C2 st oe cs' c/\Instr.fill (m.toArray[·]?) vs.toArray (l.map λp=>(p.1,a.eval p.2))=some c.toArray
 | [],cs,vs,K,g,b=>⟨cs,vs,b,g,rfl⟩
 |(i,x)::r,cs,vs,K,g,b=>by
  simp only[p0b]at b
  split at b
  rotate_left
  ·exact b.elim
  rename_i f new hf t
  split at b
  rotate_left
  ·exact b.elim
  rename_i n v
  split at b
  rotate_left
  ·exact b.elim
  rename_i s q
  have E:=o05 _ _ s
  have D:=Nat.le_of_ble_eq_true q
  have e:=j x new t
  have u:=h i f n (by simpa using hf) v
  have C:=g.length
  have F:=e.length
  obtain⟨cs',c,y,z,G⟩:=a0f h j r (g.splice e) b
  refine⟨cs',c,y,z,?_⟩
  have w:(a.eval x).cells.size=n:=oG
  simp only[List.map_cons,Instr.fill,List.getElem?_toArray,u,w,ne_eq,not_true_eq_false,decide_false,Bool.false_or,decide_eq_true_eq]
  rw[if_neg (by simp;omega)]
  have o:=S0i (a.eval x) f.offset vs.toArray
  have A:((a.eval x).cells.zipIdx.foldl (λcs (p:Value×Nat)=>cs.setIfInBounds (f.offset+p.2) p.1) vs.toArray)=(M3 vs f.offset (a.eval x).cells.toList).toArray:=by
   rw[←o]
  grind
theorem y0o(D:Sim P h0 w0 be oe H st h a w){t:TypeId}{c:Array (Nat×Operand)}{b:Array Field}{z:Value}{rd:Operand->AV}{K':AV->Prop}(u:o.op = .build t c)(y:P.underlying t=some (.struct b)) (l:Q02 P t=some z) (g:G09 P b.toList=true) (k:∀ x cs,m02 (rd x)=some cs->C2 st oe cs (a.eval x).cells.toList) (j:p0b P b rd c.toList (vals z.cells.toList) λcs=>K' (.agg cs)) : ∃ av v,K' av/\J2 st be oe av v/\∀ w:World,(execOp a.eval o).run P w = .ok (.value v) w:=by
 obtain⟨C,p,f⟩:=D0d b.toList g;obtain⟨cs',e,m,n,A⟩:=a0f (st:=st) (oe:=oe) (a:=a) f k c.toList (C2.vals st oe z.cells.toList) j;have d:=l;unfold Q02 at d;split at d;rotate_left;·cases d
 rename_i i s;have q:P.built t (c.map λx=>(x.1,a.eval x.2)).toList=some e.toArray:=by unfold Program.built;simp_all
 refine⟨_,.agg e.toArray,m,⟨e,rfl,n⟩,λw=>?_⟩;simp_all[execOp,Sem.run_bind,run_build,Result.andThen_ok,Sem.run_pure]
theorem E0d{sz:Nat}{rd:Operand->AV}
  (f:∀ x cs,m02 (rd x)=some cs->C2 st oe cs (a.eval x).cells.toList):∀(l:List (Nat×Operand)) {cs:List S6} {vs:List Value} {K:List S6->Prop},C2 st oe cs vs->J0e sz rd l cs K ->
  ∃ cs' d,K cs'/\C2 st oe cs' d/\Instr.fill (λi=>some (i*sz,sz)) vs.toArray (l.map λp=>(p.1,a.eval p.2))=some d.toArray
 | [],cs,vs,K,g,b=>⟨cs,vs,b,g,rfl⟩
 |(i,x)::r,cs,vs,K,g,b=>by
  simp only[J0e]at b
  split at b
  rotate_left
  ·exact b.elim
  rename_i new q
  split at b
  rotate_left
  ·exact b.elim
  rename_i n m
  have o:=o05 _ _ n
  have z:=Nat.le_of_ble_eq_true m
  have e:=f x new q
  have y:=g.length
  have t:=e.length
  obtain⟨cs',d,u,v,w⟩:=E0d f r (g.splice e) b
  refine⟨cs',d,u,v,?_⟩
  have s:(a.eval x).cells.size=sz:=by rw[←o,t];simp
  simp only[List.map_cons,Instr.fill,s,ne_eq,not_true_eq_false,decide_false,Bool.false_or,decide_eq_true_eq]
  rw[if_neg (by simp;omega)]
  have h:=S0i (a.eval x) (i*sz) vs.toArray
  have k:((a.eval x).cells.zipIdx.foldl (λcs (p:Value×Nat)=>cs.setIfInBounds (i*sz+p.2) p.1) vs.toArray)=(M3 vs (i*sz) (a.eval x).cells.toList).toArray:=by
   rw[←h]
  rw[show((a.eval x).cells.zipIdx.foldl (λcs (x:Value×Nat)=>match x with|(c,j)=>cs.setIfInBounds (i*sz+j) c) vs.toArray)=(M3 vs (i*sz) (a.eval x).cells.toList).toArray from k]
  simpa using w
theorem z0o(E:Sim P h0 w0 be oe H st h a w){t e:TypeId}{n sz:Nat}{b:Array (Nat×Operand)}{z:Value}{rd:Operand->AV}{K':AV->Prop}(m:o.op = .build t b)(s:P.underlying t=some (.array n e)) (u:Q02 P t=some z) (c:o7 P e=some sz) (q:∀ x cs,m02 (rd x)=some cs->C2 st oe cs (a.eval x).cells.toList) (j:J0e sz rd b.toList (vals z.cells.toList) λcs=>K' (.agg cs)) : ∃ av v,K' av/\J2 st be oe av v/\∀ w:World,(execOp a.eval o).run P w = .ok (.value v) w:=by
 obtain⟨cs',f,y,A,C⟩:=E0d (st:=st) (oe:=oe) (a:=a) q b.toList (C2.vals st oe z.cells.toList) j;have d:=u;unfold Q02 at d;split at d;rotate_left;·cases d
 rename_i i k;unfold o7 at c;split at c;rotate_left;·cases c
 rename_i D l;cases c;have g:P.built t (b.map λx=>(x.1,a.eval x.2)).toList=some f.toArray:=by unfold Program.built;simp only[k,s,d,l];rw[show(Array.map (λx=>(x.1,a.eval x.2)) b).toList=b.toList.map λp=>(p.1,a.eval p.2) from oS];simpa using C
 refine⟨_,.agg f.toArray,y,⟨f,rfl,A⟩,λw=>?_⟩;unfold execOp;rw[m];simp only[Sem.run_bind,run_build w t _ _ g,Result.andThen_ok,Sem.run_pure]
theorem Y0k(c:Sim P h0 w0 be oe H st h a w){x:Operand}{cs:List S6}(b:o0b (rdO st x)=some cs):∃ vs:List Value,a.eval x = .agg vs.toArray/\C2 st oe cs vs:=by
 have g:=c.rdO x;cases hr:rdO st x with
 |val v =>rw[hr]at b g;cases v<;>simp only[o0b,Option.some.injEq]at b<;>first|(subst b;exact⟨_,by rw[show a.eval x=_ from g],C2.vals _ _ _⟩)|cases b
 |agg cs' =>rw[hr]at b g;simp only[o0b,Option.some.injEq]at b;subst b;exact g
 |_=>rw[hr]at b;cases b
theorem l0v(m:Sim P h0 w0 be oe H st h a w){t:TypeId}{x:Operand}{k:Nat}{cs:List S6}{l:Array Field}{f:Field}(u:o.op = .field t x k)(q:o0b (rdO st x)=some cs) (z:P.underlying t=some (.struct l)) (hf:l[k]?=some f) (b:h08 P f.type cs f.offset λav=>K av st h):o.wp P a w (Nx P h0 w0 st be oe K a o.dst) Q:=by
 obtain⟨vs,D,g⟩:=Y0k m q;unfold h08 at b;have fin:∀(av:AV) (v:Value),K av st h->J2 st be oe av v->(∀ d:Value->Hp->Prop,d v H->wpS P (part f.type vs.toArray f.offset) H d)->o.wp P a w (Nx P h0 w0 st be oe K a o.dst) Q:=by intro av v i s C;refine G8 m (λd y=>?_) s i;unfold execOp;rw[u];refine f00 _ _ _ ?_;grind[Instr.field,N2,r7,asAgg,D3]
 split at b
 ·rename_i e;split at b
  ·rename_i n j;split at b;·refine fin _ (.agg ((vs.drop f.offset).take n).toArray) b ⟨_,rfl,(g.drop _).take _⟩ λd i=>?_;simp only[part,N2,H0c e,if_true,v03 j,D3];grind
   exact b.elim
  exact b.elim
 ·rename_i e;split at b;·rename_i c j;obtain⟨v,A,p⟩:=g.nth j;refine fin _ v b (J2.ofCell p) λd i=>?_;simp only[part,N2,H0c e,Bool.false_eq_true,if_false];grind[D3]
  exact b.elim
 exact b.elim
theorem b0f{t:TypeId}{e:TypeId}{x:Operand}{as:Array Operand}{b:Array TypeId}{d:Option Addr}{n c:Nat}(g:o.op = .call { callee := .builtin .len,args:=as,argTypes:=b })(f:as = #[x])(i:b = #[t]) (h:q03 P t=some e) (j:a.eval x = .slice d n c) (w:World):(execOp a.eval o).run P w = .ok (.value (.int .i64 n)) w:=by subst f;subst i;unfold execOp;rw[g];simp only[resolve,invoke,builtin,Builtin.len_,Sem.run_bind,Sem.run_pure,Result.andThen_ok,List.map_toArray,List.map_cons,List.map_nil,j,List.getElem?_toArray,List.getElem?_cons_zero,run_underlying (z01 h),goInt]
end
section
variable {P:Program} {h0:Hp} {w0:World} {be:Nat->Nat} {oe:Nat->Value} {H:Hp} {st:St} {h:Hp} {a:Act} {w:World} {o:Oper} {K:AV->St->Hp->Prop} {Q:Exit->Act->World->Prop}
theorem E0b(d:Sim P h0 w0 be oe H st h a w){av:AV}{v:Value}(c:∀ w:World,(execOp a.eval o).run P w = .ok (.value v) w)(g:J2 st be oe av v)(b:K av st h):o.wp P a w (Nx P h0 w0 st be oe K a o.dst) Q :=
 G9 (c w) ⟨av,st,h,v,be,oe,H,b,rfl,d,g,I8.refl _ _ _⟩
set_option maxHeartbeats 1000000 in
theorem H02(q:Sim P h0 w0 be oe H st h a w)(d:z00 P o st h K):o.wp P a w (Nx P h0 w0 st be oe K a o.dst) Q:=by
 cases ho:o.op with
 |move x=>simp only[z00,ho]at d;exact b0s q (.inl ho) d
 |assign x=>simp only[z00,ho]at d;exact b0s q (.inr ho) d
 |box t x =>
  simp only[z00,ho]at d;split at d;·rename_i cs F;exact a0z q ho F d
  exact d.elim
 |alloc t =>
  simp only[z00,ho]at d;split at d;·rename_i z R;exact i0v q ho R d
  exact d.elim
 |fieldAddr t x k=>simp only[z00,ho]at d;exact W0m q ho d
 |indexAddr t x i=>simp only[z00,ho]at d;exact b0n q ho d
 |load t x =>
  simp only[z00,ho]at d;split at d
  ·rename_i i off u;split at d;·rename_i cs ty J;exact v0o q ho u J d
   exact d.elim
  ·rename_i sl idx sz k u;obtain⟨c,F,A⟩:=d;exact w0o q ho u F A
  ·rename_i i ah idx sz k u;split at d
   ·rename_i bc e bd by_ nn xs J;split at d;·rename_i V;have ac:=Nat.eq_of_beq_eq_true V;subst ac;obtain⟨c,F,A⟩:=d;exact x0o q ho u J F A
    exact d.elim
   exact d.elim
  exact c01 q d
 |store t p x =>
  simp only[z00,ho]at d;split at d
  ·rename_i i off u;split at d
   ·rename_i cs ty new n J F D;split at d;·rename_i I C;exact X0m q ho u J F D I C d
    exact d.elim
   exact d.elim
  ·rename_i i ah idx sz k u;exact c0n q ho u d
  ·rename_i sl idx sz k u;split at d
   ·rename_i v s;split at d;·rename_i D;exact d0n q ho u s D d
    ·rename_i n _ D;split at d;·rename_i I C;exact C0d q ho u (by have:=q.rdO x;rw[s]at this;rw[show a.eval x=v from this]) D I C d
     exact d.elim
    exact d.elim
   ·rename_i cs s;split at d
    ·rename_i n new D O;split at d;·rename_i I C;refine C0d q ho u ?_ D I C d;have g:=q.rdO x;rw[s]at g;obtain⟨vs,az,aA⟩:=g;rw[az,A0b O aA];rfl
     exact d.elim
    exact d.elim
   exact d.elim
  exact c01 q d
 |build t aR =>
  simp only[z00,ho]at d;split at d
  ·rename_i ay z N R;split at d;·rename_i W;obtain⟨av,v,ae,af,ag⟩:=y0o (K':=λav=>K av st h) q ho N R W (λx cs F=>N07 q F) d;exact E0b q ag af ae
   exact d.elim
  ·rename_i n e z N R;split at d;·rename_i sz D;obtain⟨av,v,ae,af,ag⟩:=z0o (K':=λav=>K av st h) q ho N R D (λx cs F=>N07 q F) d;exact E0b q ag af ae
   exact d.elim
  exact d.elim
 |buildSlice t n aR =>
  simp only[z00,ho]at d;split at d
  ·rename_i e L;split at d
   ·rename_i sz by_ z D V R;split at d;·rename_i J aa I;exact X0k q ho L D R J aa d
    exact d.elim
   exact d.elim
  exact d.elim
 |makeSlice t l c =>
  simp only[z00,ho]at d;split at d
  ·rename_i e L;split at d
   ·rename_i sz by_ z a6 bb a5 nc D V R I F;split at d;·rename_i aK aG;exact a0n q ho L D V R I F aK aG d.1 d.2
    exact d.elim
   exact d.elim
  exact d.elim
 |field t x k =>
  simp only[z00,ho]at d;split at d
  ·rename_i cs ay F N;split at d;·rename_i f hf;exact l0v q ho F N hf d
   exact d.elim
  exact d.elim
 |slice t x ba ak aN =>
  cases aN with
  |some m=>simp only[z00,ho]at d;exact G02 q d
  |none =>
   simp only[z00,ho]at d;split at d
   ·rename_i i k u;split at d
    ·rename_i e L;split at d;·rename_i sz D;exact K0t q ho L D u d
     exact d.elim
    exact d.elim
   ·rename_i aZ n c u;split at d
    ·rename_i e L;split at d;·rename_i sz D;exact J0t q ho L D u d
     exact d.elim
    exact d.elim
   ·rename_i b u;split at d
    ·rename_i N;unfold U0u at d;split at d
     ·rename_i l m I aa;have G:a.eval x = .string b:=by have:=q.rdO x;rw[u]at this;exact this
      obtain⟨⟨C,U,aB⟩,A⟩:=d;exact G8 q (av := .val _) (exec_cutStr ho N G (A0a q I) (A0a q aa) C U aB) rfl A
     exact d.elim
    exact d.elim
   exact d.elim
 |index t x i =>
  simp only[z00,ho]at d;split at d
  ·rename_i b k j s ak N;have G:a.eval x = .string b:=by have:=q.rdO x;rw[s]at this;exact this
   have gi:a.eval i = .int k j:=by have:=q.rdO i;rw[ak]at this;exact this
   obtain⟨c,⟨C,U⟩,A⟩:=d;exact G8 q (av := .val _) (exec_index ho N G gi C U) rfl A
  exact c01 q d
 |binOp aQ t x y aV =>
  cases aQ with
  |add =>
   simp only[z00,ho]at d;split at d
   ·rename_i b c s E;have G:a.eval x = .string b:=by have:=q.rdO x;rw[s]at this;exact this
    have M:a.eval y = .string c:=by have:=q.rdO y;rw[E]at this;exact this
    exact G8 q (av := .val _) (exec_cat ho G M d.1) rfl d.2
   exact c01 q d
  |quo =>
   simp only[z00,ho]at d;split at d
   ·rename_i b c s E;have G:a.eval x = .int .i64 b:=by have:=q.rdO x;rw[s]at this;exact this
    have M:a.eval y = .int .i64 c:=by have:=q.rdO y;rw[E]at this;exact this
    exact G8 q (av := .val _) (exec_quo ho G M d.1) rfl d.2
   exact c01 q d
  |rem =>
   simp only[z00,ho]at d;split at d
   ·rename_i b c s E;have G:a.eval x = .int .i64 b:=by have:=q.rdO x;rw[s]at this;exact this
    have M:a.eval y = .int .i64 c:=by have:=q.rdO y;rw[E]at this;exact this
    exact G8 q (av := .val _) (exec_rem ho G M d.1) rfl d.2
   exact c01 q d
  |shl =>
   simp only[z00,ho]at d;split at d
   ·rename_i b c s E;have G:a.eval x = .int .i64 b:=by have:=q.rdO x;rw[s]at this;exact this
    have M:a.eval y = .int .i64 c:=by have:=q.rdO y;rw[E]at this;exact this
    exact G8 q (av := .val _) (j0v ho G M d.1) rfl d.2
   exact c01 q d
  |shr =>
   simp only[z00,ho]at d;split at d
   ·rename_i b c s E;have G:a.eval x = .int .i64 b:=by have:=q.rdO x;rw[s]at this;exact this
    have M:a.eval y = .int .i64 c:=by have:=q.rdO y;rw[E]at this;exact this
    exact G8 q (av := .val _) (k0v ho G M d.1) rfl d.2
   exact c01 q d
  |eql =>
   simp only[z00,ho]at d;split at d;·rename_i xs aY s E;obtain⟨b,C,A⟩:=d;exact E0b q (av := .val _) (C _ (T6 s (q.rdO x)) (T6 E (q.rdO y))) rfl A
   ·rename_i ar aO aM s E;obtain⟨b,C,A⟩:=d;exact E0b q (av := .val _) (C _ (T6 s (q.rdO x)) (T6 E (q.rdO y))) rfl A
   exact G02 q d
  |neq =>
   simp only[z00,ho]at d;split at d;·rename_i xs aY s E;obtain⟨b,C,A⟩:=d;exact E0b q (av := .val _) (C _ (T6 s (q.rdO x)) (T6 E (q.rdO y))) rfl A
   ·rename_i ar aO aM s E;obtain⟨b,C,A⟩:=d;exact E0b q (av := .val _) (C _ (T6 s (q.rdO x)) (T6 E (q.rdO y))) rfl A
   exact G02 q d
  |_=>simp only[z00,ho]at d;exact G02 q d
 |convert ap aq x =>
  simp only[z00,ho]at d;split at d
  ·rename_i i k u;split at d
   ·rename_i ah a1 sz by_ nn xs e J am an;split at d
    ·rename_i ao;obtain⟨S,T,A⟩:=d;obtain⟨ax,aU,au,aP,aX,ab⟩:=w0a u;have g:=q.rdO x;rw[u]at g;have s:=g.own_cur ab;have X:=q.own i _ _ _ _ _ _ J;have aS:(execOp a.eval o).run P w = .ok (.value (.string (strOfNums S))) w:=by
      unfold execOp;rw[ho];rcases X.2 with⟨O,aJ,_⟩|⟨Y,cap,cur,O,_,aC,a2,a3,a4,aj⟩
      ·rw[aJ]at T;have aF:S = []:=by cases S with
        |nil=>rfl
        |cons n r=>cases T
       subst aF;rw[O]at s;simp only[s,Sem.run_bind,run_convert_bytes_nil w ap e am ao 0 0 aq an,Result.andThen_ok,Sem.run_pure];rfl
      rw[O]at s;have I:S.length=xs.length:=by rw[T];simp
      have aD:∀ j,j<xs.length->w.cell? ⟨Y,0+j,none⟩=some (.int .u8 (S.getD j 0)):=λj Z=>by
       have ac:sz=1:=by have:=(X.1 _ (List.getElem_mem Z)).1;rw[←this];simp only[T,List.getElem_map];rfl
       subst ac;have hf:xs.flatten=S.map (Value.int .u8):=by
        rw[T];clear T I Z J X aj A;induction S with
        |nil=>rfl
        |cons n r aL=>simp[aL]
       have aH:=h0v q _ _ aC;have U:=congrArg (λl:List Value=>l[j]?) (aj.trans hf);simp only[List.getElem?_take,Nat.mul_one,if_pos Z,List.getElem?_map,Array.getElem?_toList]at U;simp only[World.cell?,aH,Nat.zero_add];rw[if_neg oS,U];simp[List.getD_eq_getElem?_getD,List.getElem?_eq_getElem (show j<S.length by omega)]
      simp only[s,Sem.run_bind,run_convert_bytes_arg w ap e am ao Y 0 xs.length cap S I aD aq an,Result.andThen_ok,Sem.run_pure]
     exact G9 aS ⟨_,_,_,_,_,_,_,A,rfl,q,rfl,I8.refl _ _ _⟩
    exact d.elim
   exact G02 q d
  exact G02 q d
 |call c =>
  obtain⟨aw,as,aW⟩:=c;cases aw with
  |builtin b =>
   cases b with
   |len =>
    simp only[z00,ho]at d;split at d
    ·rename_i x t W ad;have ai:as = #[x]:=by apply Array.ext';simpa using W
     have al:aW = #[t]:=by apply Array.ext';simpa using ad
     split at d
     ·rename_i i k u;split at d
      ·rename_i ah e sz by_ nn xs a0 J L;obtain⟨ax,aU,au,aP,aX,ab⟩:=w0a u;have g:=q.rdO x;rw[u]at g;have s:=g.own_cur ab;have X:=q.own i _ _ _ _ _ _ J;rcases X.2 with⟨O,T,_⟩|⟨Y,cap,cur,O,_⟩;·rw[O]at s;refine E0b q (av := .val _) (b0f ho ai al L s) ?_ d;rw[T];rfl
       rw[O]at s;exact E0b q (av := .val _) (b0f ho ai al L s) rfl d
      exact d.elim
     exact c01 q d
    exact d.elim
   |append =>
    simp only[z00,ho]at d;split at d
    ·rename_i x y t aV W ad;split at d;·rename_i V;have:=Nat.eq_of_beq_eq_true V;subst this;exact H0t q ho (by apply Array.ext';simpa using W) (by apply Array.ext';simpa using ad) d
     exact d.elim
    exact d.elim
   |_=>simp only[z00,ho]at d;exact G02 q d
  |value f=>simp only[z00,ho]at d;exact G02 q d
  |invoke r m=>simp only[z00,ho]at d;exact G02 q d
 |lookup _ _ _ _=>simp only[z00,ho]at d;exact W0d q d
 |mapUpdate _ _ _ _=>simp only[z00,ho]at d;exact W0d q d
 |insert _ _ _ _=>simp only[z00,ho]at d;exact W0d q d
 |_=>simp only[z00,ho]at d;exact G02 q d
end
end Go.H
