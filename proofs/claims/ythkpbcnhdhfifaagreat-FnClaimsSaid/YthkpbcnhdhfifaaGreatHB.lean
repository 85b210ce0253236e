/- The library of the walks, part HB: plain laws over the model. -/
import Derived.Test.YthkpbcnhdhfifaaGreatH3
import Derived.Laws.Tables
namespace Go.H
set_option linter.all false
theorem T08{a:Type}:∀(l:List a) (k:Nat),nth l k=l[k]?
 | [],k=>by simp[nth]
 |x::r,0=>by simp[nth]
 |x::r,k+1=>by simp[nth,T08 r k]
theorem i0g{a:Type}:∀(l:List a) (k:Nat) (x:a),p03 l k x=l.set k x
 | [],k,x=>by simp[p03]
 |y::r,0,x=>by simp[p03]
 |y::r,k+1,x=>by simp[p03,i0g r k x]
theorem E9{b:Type}(l:List b)(k:Nat)(x:b)(c:k<l.length)(a:Nat):nth (p03 l k x) a=if a=k then some x else nth l a:=by rw[T08,T08,i0g,List.getElem?_set];grind
theorem W04{a:Type}{l:List a}{k:Nat}{x:a}(h:nth l k=some x):k<l.length:=by grind[T08,List.getElem?_eq_some_iff]
theorem Q05{b:Type}(l:List b)(x:b)(a:Nat):nth (l ++ [x]) a=if a=l.length then some x else nth l a:=by rw[T08,T08,List.getElem?_append];grind
theorem B09{a:Type}(l:List a)(k:Nat)(x:a):(p03 l k x).length=l.length:=by rw[i0g];simp
def stamp(st:St)(i:Nat):Option Nat:=match nth st.ow i with
 |some o=>some o.stamp
 |none=>none
def Y0j(st:St)(oe:Nat->Value):j7->Value->Prop
 | .val v,x=>x=v
 | .own i k,x=>∃ s,stamp st i=some s/\k<=s/\(k=s->x=oe i)
def J2(st:St)(oe:Nat->Value):List j7->List Value->Prop
 | [],[]=>True
 |c::cs,v::vs=>Y0j st oe c v/\J2 st oe cs vs
 |_,_=>False
def N2(st:St)(be:Nat->Nat)(oe:Nat->Value):AV->Value->Prop
 | .val v,x=>x=v
 | .own i k,x=>∃ a,stamp st i=some a/\k<=a/\(k=a->x=oe i)
 | .box i off,x=>i<st.bx.length/\x=ptr (be i) off
 | .hel a idx sz k,x=>∃ b o n c,a = .slice (some ⟨b,o,none⟩) n c/\x=ptr b (o+(idx.toNat*sz+k))
 | .oel i d idx sz k,x=>∃ a,stamp st i=some a/\d<=a/\(d=a->∃ g n c,oe i = .slice (some ⟨g,0,none⟩) n c/\x=ptr g (idx.toNat*sz+k))
 | .agg cs,x=>∃ vs,x = .agg vs.toArray/\J2 st oe cs vs
 | .dead,_=>True
structure V8 (st:St) (be:Nat->Nat) (oe:Nat->Value) (st':St) (be':Nat->Nat) (oe':Nat->Value):Prop where
 bl:st.bx.length<=st'.bx.length
 be:∀ i,i<st.bx.length->be' i=be i
 sm:∀ i s,stamp st i=some s->∃ s',stamp st' i=some s'/\s<=s'/\(s'=s->oe' i=oe i)
theorem V8.refl(st:St)(be:Nat->Nat)(oe:Nat->Value):V8 st be oe st be oe :=
 ⟨Nat.le_refl _,λ_ _=>rfl,λi s h=>⟨s,h,Nat.le_refl _,λ_=>rfl⟩⟩
theorem Y0j.grow{st st':St}{be be':Nat->Nat}{oe oe':Nat->Value}(g:V8 st be oe st' be' oe'){c:j7}{x:Value}(h:Y0j st oe c x):Y0j st' oe' c x:=by
 cases c with
 |val v=>exact h
 |own i k =>obtain⟨j,d,f,n⟩:=h;obtain⟨l,a,b,m⟩:=g.sm i j d;exact⟨l,a,Nat.le_trans f b,λe=>oG⟩
theorem J2.grow{st st':St}{be be':Nat->Nat}{oe oe':Nat->Value}(g:V8 st be oe st' be' oe'):∀ {cs:List j7} {vs:List Value},J2 st oe cs vs->J2 st' oe' cs vs
 | [],[],_=>trivial
 |_::_,_::_,h=>⟨h.1.grow g,J2.grow g h.2⟩
 | [],_::_,h=>h.elim
 |_::_,[],h=>h.elim
theorem N2.grow{st st':St}{be be':Nat->Nat}{oe oe':Nat->Value}(g:V8 st be oe st' be' oe'){av:AV}{x:Value}(h:N2 st be oe av x):N2 st' be' oe' av x:=by
 cases av with
 |val v=>exact h
 |own i k =>obtain⟨c,a,b,m⟩:=h;obtain⟨j,d,f,l⟩:=g.sm i c a;exact⟨j,d,Nat.le_trans b f,λe=>oG⟩
 |box i off=>exact⟨Nat.lt_of_lt_of_le h.1 g.bl,by rw[g.be i h.1];exact h.2⟩
 |hel c idx sz k=>exact h
 |oel i n idx sz k =>obtain⟨c,a,b,m⟩:=h;obtain⟨j,d,f,l⟩:=g.sm i c a;exact⟨j,d,Nat.le_trans b f,λe=>oG⟩
 |agg cs=>obtain⟨vs,a,b⟩:=h;exact⟨vs,a,b.grow g⟩
 |dead=>trivial
theorem J2.length{st:St}{oe:Nat->Value}:∀ {cs:List j7} {vs:List Value},J2 st oe cs vs->cs.length=vs.length
 | [],[],_=>rfl
 |_::_,_::_,h=>by simp[J2.length h.2]
 | [],_::_,h=>h.elim
 |_::_,[],h=>h.elim
theorem J2.vals(st:St)(oe:Nat->Value):∀(vs:List Value),J2 st oe (vals vs) vs
 | []=>trivial
 |_::r=>⟨rfl,J2.vals st oe r⟩
theorem J2.nth{st:St}{oe:Nat->Value}:∀ {cs:List j7} {vs:List Value} {k:Nat} {c:j7},J2 st oe cs vs->nth cs k=some c->∃ v,vs[k]?=some v/\Y0j st oe c v
 | [],_,k,c,_,h=>by simp[H.nth]at h
 |d::cs,b::vs,0,c,h,a=>by simp[H.nth]at a;subst a;exact⟨b,oS,h.1⟩
 |d::cs,b::vs,k+1,c,h,a=>by simp[H.nth]at a;obtain⟨v,e,f⟩:=J2.nth h.2 a;exact⟨v,by simpa using e,f⟩
 |_::_,[],_,_,h,_=>h.elim
theorem J2.drop{st:St}{oe:Nat->Value}:∀ {cs:List j7} {vs:List Value} (k:Nat),J2 st oe cs vs->J2 st oe (cs.drop k) (vs.drop k)
 |cs,vs,0,h=>by simpa using h
 | [],[],k+1,h=>by simpa using h
 |_::cs,_::vs,k+1,h=>by simpa using J2.drop k h.2
 | [],_::_,_+1,h=>h.elim
 |_::_,[],_+1,h=>h.elim
theorem J2.take{st:St}{oe:Nat->Value}:∀ {cs:List j7} {vs:List Value} (k:Nat),J2 st oe cs vs->J2 st oe (cs.take k) (vs.take k)
 |cs,vs,0,h=>by simp[J2]
 | [],[],k+1,h=>by simp[J2]
 |_::cs,_::vs,k+1,h=>by simpa [J2] using ⟨h.1,J2.take k h.2⟩
 | [],_::_,_+1,h=>h.elim
 |_::_,[],_+1,h=>h.elim
theorem J2.upd{st:St}{oe:Nat->Value}:∀ {cs:List j7} {vs:List Value} {k:Nat} {c:j7} {v:Value},J2 st oe cs vs->Y0j st oe c v->J2 st oe (p03 cs k c) (vs.set k v)
 | [],[],k,c,v,h,a=>by simp[p03,J2]
 |_::cs,_::vs,0,c,v,h,a=>⟨a,h.2⟩
 |_::cs,_::vs,k+1,c,v,h,a=>⟨h.1,J2.upd h.2 a⟩
 | [],_::_,_,_,_,h,_=>h.elim
 |_::_,[],_,_,_,h,_=>h.elim
def P3:List Value->Nat->List Value->List Value
 |cs,_,[]=>cs
 |cs,off,x::r=>P3 (cs.set off x) (off+1) r
theorem J2.splice{st:St}{oe:Nat->Value}:∀ {new:List j7} {a:List Value} {cs:List j7} {vs:List Value} {off:Nat},J2 st oe cs vs->J2 st oe new a->J2 st oe (splice cs off new) (P3 vs off a)
 | [],[],cs,vs,off,h,_=>h
 |c::new,v::a,cs,vs,off,h,b=>by simp only[H.splice,P3];exact J2.splice (h.upd b.1) b.2
 | [],_::_,_,_,_,_,h=>h.elim
 |_::_,[],_,_,_,_,h=>h.elim
theorem p01:∀(a vs:List Value) (off:Nat),(P3 vs off a).length=vs.length
 | [],vs,off=>rfl
 |n::a,vs,off=>by simp[P3,p01 a]
def z0a(h H:Hp)(v:Value)(e:TypeId)(sz:Nat)(nn:Bool)(xs:LV):Prop :=
  (∀ x∈xs,x.length=sz/\∀ v∈x,v.oneCell'=true) /\
  ((v = .slice none 0 0/\xs = []/\nn=false) ∨
   ∃ g cap cur,v = .slice (some ⟨g,0,none⟩) xs.length cap/\h g=none/\H g=some (.cells cur e (0,0)) /\
     xs.length<=cap/\cap<=maxLen/\cur.size=cap*sz/\cur.toList.take (xs.length*sz)=xs.flatten)
structure Sim (P:Program) (h0:Hp) (w0:World) (be:Nat->Nat) (oe:Nat->Value) (H:Hp) (st:St) (h:Hp) (a:Act) (w:World):Prop where
 mv:V2 h0 w0 H w
 sub:∀ b o,h b=some o->H b=some o
 box:∀ i cs ty,nth st.bx i=some (.live cs ty)->h (be i)=none/\∃ vs,J2 st oe cs vs/\H (be i)=some (.cells vs.toArray ty (0,0))
 pub:∀ i b,nth st.bx i=some (.publ b)->be i=b
 own:∀ i s e sz by_ nn xs,nth st.ow i=some ⟨s,.live e sz by_ nn xs⟩->z0a h H (oe i) e sz nn xs
 frz:∀ i s v,nth st.ow i=some ⟨s,.frozen v⟩->oe i=v
 bb:∀ i j cs ty cs' ty',nth st.bx i=some (.live cs ty)->nth st.bx j=some (.live cs' ty')->be i=be j->i=j
 oo:∀ i j s e sz by_ nn xs s' e' sz' by' nn' xs' g,nth st.ow i=some ⟨s,.live e sz by_ nn xs⟩->nth st.ow j=some ⟨s',.live e' sz' by' nn' xs'⟩ ->
  (oe i).ownBlock=some g->(oe j).ownBlock=some g->i=j
 bo:∀ i cs ty j s e sz by_ nn xs,nth st.bx i=some (.live cs ty)->nth st.ow j=some ⟨s,.live e sz by_ nn xs⟩->(oe j).ownBlock≠some (be i)
 dfr:a.defers = []
 siz:a.tmps.size=st.n
 fr:∀ s,N2 st be oe (K3 st.fr s) (a.tmps.getD s undef)
section
variable {P:Program} {h0:Hp} {w0:World} {be:Nat->Nat} {oe:Nat->Value} {H:Hp} {st:St} {h:Hp} {a:Act} {w:World}
theorem z0a.block{h H:Hp}{v:Value}{e sz:Nat}{nn:Bool}{xs:LV}(o:z0a h H v e sz nn xs){g:Nat}(d:v.ownBlock=some g): h g=none/\∃ cap cur,v = .slice (some ⟨g,0,none⟩) xs.length cap/\H g=some (.cells cur e (0,0)):=by rcases o.2 with⟨rfl,_⟩|⟨a,cap,cur,rfl,b,c,_⟩;all_goals grind[Value.ownBlock]
theorem z0a.keep{h h' H a:Hp}{v:Value}{e sz:Nat}{nn:Bool}{xs:LV}(o:z0a h H v e sz nn xs) (c:∀ g,v.ownBlock=some g->a g=H g/\h' g=none):z0a h' a v e sz nn xs:=by
 refine⟨o.1,?_⟩;rcases o.2 with d|⟨g,cap,cur,rfl,j,b,r⟩;·exact .inl d
 obtain⟨f,i⟩:=c g rfl;exact .inr ⟨g,cap,cur,rfl,i,by rw[f];exact b,r⟩
theorem E0w(s:Sim P h0 w0 be oe H st h a w):Vis H w:=s.mv.vis
theorem y0c(c:Sim P h0 w0 be oe H st h a w):Vis h w:=λb o d=>c.mv.vis b o (c.sub b o d)
theorem Sim.moved(c:Sim P h0 w0 be oe H st h a w){h':Hp}{s:World}(m:V2 h w h' s):∃ f,Sim P h0 w0 be oe f st h' a s:=by
 let f:Hp:=λb=>match h' b with
  |some o=>some o
  |none=>match h b with
   |some _=>none
   |none=>H b
 have C:∀ b,h b=none->H b≠none->f b=H b/\h' b=none:=by intro b d l;have q:b<w.heap.size:=c.mv.vis.lt l;have A:h' b=none:=m.none_of q d;grind
 have y:V2 H w f s:=by
  refine⟨m.os,m.tape,m.output,m.size,?_,?_,?_,m.fz,m.dn⟩
  ·intro b d l;have:h b=none:=by
    cases hc:h b with
    |none=>rfl
    |some o=>rw[c.sub b o hc]at l;cases l
   exact m.keep b d this
  ·intro b o j;simp only[f]at j;split at j;·rename_i x p;cases j;exact m.vis b _ p
   split at j;·cases j
   rename_i p d;have q:b<w.heap.size:=c.mv.vis.lt (by rw[j];simp);rw[m.keep b q d];exact c.mv.vis b o j
  intro b d;simp only[f]at d;split at d
  ·rename_i x p;rcases m.fresh b (by simp[p])with k|k
   ·left;cases hc:h b with
    |none=>exact absurd hc k
    |some o=>rw[c.sub b o hc];simp
   exact .inr k
  grind
 refine⟨f,⟨c.mv.trans y,?_,?_,c.pub,?_,c.frz,c.bb,c.oo,c.bo,c.dfr,c.siz,c.fr⟩⟩;·grind
 ·intro i cs ty n;obtain⟨k,vs,z,u⟩:=c.box i cs ty n;grind
 intro i t e sz by_ nn xs n;refine(c.own i t e sz by_ nn xs n).keep λg v=>?_;obtain⟨k,cap,cur,_,u⟩:=(c.own i t e sz by_ nn xs n).block v;grind
theorem l4(d:Nat)(av:AV)(r:List (Nat×AV))(s:Nat):K3 ((d,av)::r) s=if d=s then av else K3 r s:=by grind[K3,Nat.beq,Nat.eq_of_beq_eq_true,Nat.ne_of_beq_eq_false]
theorem Sim.put(b:Sim P h0 w0 be oe H st h a w){d:Nat}{av:AV}{v:Value}(k:d<st.n)(l:N2 st be oe av v): Sim P h0 w0 be oe H { st with fr:=(d,av)::st.fr } h (a.put (some d) v) w:=by
 have c:V8 st be oe { st with fr:=(d,av)::st.fr } be oe:=⟨Nat.le_refl _,λ_ _=>rfl,λi b h=>⟨b,h,Nat.le_refl _,λ_=>rfl⟩⟩;refine⟨b.mv,b.sub,λi cs ty m=>?_,b.pub,b.own,b.frz,b.bb,b.oo,b.bo,b.dfr,by simp[Act.put,b.siz],?_⟩;·obtain⟨f,vs,g,j⟩:=b.box i cs ty m;exact⟨f,vs,g.grow c,j⟩
 intro t;refine N2.grow c ?_;rw[l4];by_cases e:d=t
 ·subst e;rw[if_pos rfl];have:(a.put (some d) v).tmps.getD d undef=v:=by simp[Act.put,b.siz,k]
  rw[this];exact l
 rw[if_neg e];have:(a.put (some d) v).tmps.getD t undef=a.tmps.getD t undef:=by simp[Act.put,Array.getElem?_setIfInBounds_ne e]
 rw[this];exact b.fr t
theorem Sim.newBox(c:Sim P h0 w0 be oe H st h a w){cs:List j7}{vs:List Value}{t:TypeId}{b:Nat}{E:World}(z:J2 st oe cs vs)(y:H b=none)
  (m:V2 H w (H.set b (.cells vs.toArray t (0,0))) E) :
  let be':=λj=>if j=st.bx.length then b else be j
  let st':St := { st with bx:=st.bx ++ [.live cs t] }
  Sim P h0 w0 be' oe (H.set b (.cells vs.toArray t (0,0))) st' h a E/\V8 st be oe st' be' oe:=by
 intro be' st'
 have L:h b=none:=by
  cases p:h b with
  |none=>rfl
  |some o=>rw[c.sub b o p]at y;cases y
 have n:V8 st be oe st' be' oe:=by
  refine⟨by simp[st'],λi d=>?_,λi c N=>⟨c,N,Nat.le_refl _,λ_=>rfl⟩⟩
  grind
 have M:∀ x,H x≠none->x≠b:=λx q e=>by subst e;exact q y
 have s:∀ i cs ty,nth st.bx i=some (.live cs ty)->be' i=be i:=λi cs ty d=>by simp[be',Nat.ne_of_lt (W04 d)]
 have l:∀ i x,nth st'.bx i=some x->(i=st.bx.length/\x = .live cs t)∨(i≠st.bx.length/\nth st.bx i=some x):=by
  grind[Q05]
 have R:∀ i cs ty,nth st.bx i=some (.live cs ty)->be i≠b:=λi cs ty d=>by
  obtain⟨_,vs,_,v⟩:=c.box i cs ty d
  grind
 have S:∀ i k e sz by_ nn xs g,nth st.ow i=some ⟨k,.live e sz by_ nn xs⟩->(oe i).ownBlock=some g->g≠b:=λi k e sz by_ nn xs g d z=>by
  obtain⟨_,_,_,_,v⟩:=(c.own i k e sz by_ nn xs d).block z
  grind
 refine⟨⟨c.mv.trans m,?_,?_,?_,?_,c.frz,?_,c.oo,?_,c.dfr,c.siz,λt=>(c.fr t).grow n⟩,n⟩
 ·intro x o q
  rw[Hp.set_other _ _ (M x (by rw[c.sub x o q];simp))]
  exact c.sub x o q
 ·intro i cs' ty d
  rcases l i _ d with⟨rfl,e⟩|⟨e,f⟩
  ·cases e
   exact⟨by simp[be',L],vs,z.grow n,by simp[be',Hp.set]⟩
  ·obtain⟨C,Q,J,v⟩:=c.box i cs' ty f
   rw[s i cs' ty f]
   exact⟨C,Q,J.grow n,by grind[Hp.set_other]⟩
 ·intro i F d
  rcases l i _ d with⟨_,e⟩|⟨e,f⟩
  ·cases e
  ·simp[be',e,c.pub i F f]
 ·intro i k e sz by_ nn xs d
  refine(c.own i k e sz by_ nn xs d).keep λg K=>?_
  obtain⟨C,cap,cur,_,v⟩:=(c.own i k e sz by_ nn xs d).block K
  grind[Hp.set_other]
 ·intro i j G O T U d A e
  rcases l i _ d with⟨rfl,u⟩|⟨u,f⟩<;>rcases l j _ A with⟨rfl,I⟩|⟨I,D⟩
  ·rfl
  ·grind
  ·grind
  ·rw[s i _ _ f,s j _ _ D]at e;exact c.bb i j _ _ _ _ f D e
 ·intro i G O j k e sz by_ nn xs d A p
  rcases l i _ d with⟨rfl,u⟩|⟨u,f⟩
  ·grind
  ·rw[s i _ _ f]at p;exact c.bo i _ _ j _ _ _ _ _ _ f A p
theorem Sim.updBox(c:Sim P h0 w0 be oe H st h a w){i:Nat}{A cs:List j7}{vs:List Value}{t:TypeId}{E:World}(j:nth st.bx i=some (.live A t)) (K:J2 st oe cs vs) (m:V2 H w (H.set (be i) (.cells vs.toArray t (0,0))) E) : Sim P h0 w0 be oe (H.set (be i) (.cells vs.toArray t (0,0))) { st with bx:=p03 st.bx i (.live cs t) } h a E/\V8 st be oe { st with bx:=p03 st.bx i (.live cs t) } be oe:=by
 have n:V8 st be oe { st with bx:=p03 st.bx i (.live cs t) } be oe :=
  ⟨by simp[B09],λ_ _=>rfl,λi c M=>⟨c,M,Nat.le_refl _,λ_=>rfl⟩⟩
 have L:=(c.box i A t j).1;have k:∀ d x,nth (p03 st.bx i (.live cs t)) d=some x->(d=i/\x = .live cs t)∨(d≠i/\nth st.bx d=some x):=by grind[E9,W04]
 refine⟨⟨c.mv.trans m,?_,?_,?_,?_,c.frz,?_,c.oo,?_,c.dfr,c.siz,λt=>(c.fr t).grow n⟩,n⟩;·intro x o l;have:x≠be i:=λe=>oG;rw[Hp.set_other _ _ this];exact c.sub x o l
 ·intro d cs' ty f;rcases k d _ f with⟨rfl,e⟩|⟨e,p⟩;·cases e;exact⟨L,vs,K.grow n,by simp[Hp.set]⟩
  obtain⟨v,Q,I,J⟩:=c.box d cs' ty p;have:be d≠be i:=λs=>e (c.bb d i _ _ _ _ p j s);exact⟨v,Q,I.grow n,by grind[Hp.set_other]⟩
 ·intro d b f;rcases k d _ f with⟨_,e⟩|⟨e,p⟩;·cases e
  exact c.pub d b p
 ·intro d z e sz by_ nn xs f;refine(c.own d z e sz by_ nn xs f).keep λg C=>?_;obtain⟨v,cap,cur,_,J⟩:=(c.own d z e sz by_ nn xs f).block C;exact⟨Hp.set_other _ _ (λs=>by subst s;exact c.bo i _ _ d _ _ _ _ _ _ j f C),v⟩
 ·intro x y F O R S l N e;rcases k x _ l with⟨rfl,u⟩|⟨u,q⟩<;>rcases k y _ N with⟨rfl,G⟩|⟨G,D⟩;·rfl
  ·exact c.bb _ _ _ _ _ _ j D e
  ·exact c.bb _ _ _ _ _ _ q j e
  exact c.bb _ _ _ _ _ _ q D e
 intro x F O d z e sz by_ nn xs l f;rcases k x _ l with⟨rfl,u⟩|⟨u,q⟩;·exact c.bo _ _ _ d _ _ _ _ _ _ j f
 exact c.bo _ _ _ d _ _ _ _ _ _ q f
end
section
variable {P:Program} {h0:Hp} {w0:World} {be:Nat->Nat} {oe:Nat->Value} {H:Hp} {st:St} {h:Hp} {a:Act} {w:World}
theorem m0s(st:St)(o:Own)(i b:Nat)(a:stamp st i=some b):stamp { st with ow:=st.ow ++ [o] } i=some b:=by
 unfold stamp at *;have c:i<st.ow.length:=by
  cases hn:nth st.ow i with
  |none=>rw[hn]at a;cases a
  |some x=>exact W04 hn
 simp_all[Q05,Nat.ne_of_lt]
theorem Sim.newOwn(c:Sim P h0 w0 be oe H st h a w){v:Value}{e sz by_:Nat}{nn:Bool}{xs:LV}{p:Hp}{R:World}
  (I:∀ b o,H b=some o->p b=some o) (m:V2 H w p R) (Y:z0a h p v e sz nn xs) (X:∀ g,v.ownBlock=some g->H g=none) :
  let oe':=λf=>if f=st.ow.length then v else oe f
  let st':St := { st with ow:=st.ow ++ [⟨0,.live e sz by_ nn xs⟩] }
  Sim P h0 w0 be oe' p st' h a R/\V8 st be oe st' be oe':=by
 intro oe' st'
 have F:V8 st be oe st' be oe':=by
  refine⟨Nat.le_refl _,λ_ _=>rfl,λi c A=>⟨c,m0s st _ i c A,Nat.le_refl _,λ_=>?_⟩⟩
  have W:i<st.ow.length:=by
   unfold stamp at A
   cases hn:nth st.ow i with
   |none=>rw[hn]at A;cases A
   |some x=>exact W04 hn
  grind
 have q:∀ i x,nth st'.ow i=some x->(i=st.ow.length/\x=⟨0,.live e sz by_ nn xs⟩)∨(i≠st.ow.length/\nth st.ow i=some x):=by
  grind[Q05]
 have W0r:∀ b,H b≠none->p b=H b:=by
  intro b J
  cases l:H b with
  |none=>exact absurd l J
  |some o=>exact I b o l
 refine⟨⟨c.mv.trans m,λb o J=>I b o (c.sub b o J),?_,c.pub,?_,?_,c.bb,?_,?_,c.dfr,c.siz,λt=>(c.fr t).grow F⟩,F⟩
 ·intro i cs ty d
  obtain⟨G,vs,S,z⟩:=c.box i cs ty d
  exact⟨G,vs,S.grow F,I _ _ z⟩
 ·intro i Q y D u C E d
  rcases q i _ d with⟨rfl,j⟩|⟨j,n⟩
  ·grind
  ·simp only[oe',if_neg j]
   refine(c.own i _ _ _ _ _ _ n).keep λg K=>?_
   obtain⟨G,cap,cur,_,z⟩:=(c.own i _ _ _ _ _ _ n).block K
   grind
 ·intro i Q U d
  rcases q i _ d with⟨rfl,j⟩|⟨j,n⟩
  ·cases j
  ·simp only[oe',if_neg j];exact c.frz i Q U n
 ·intro i f s1 y D u C E s2 j ab V aa ac g d L gi O
  have Z:∀ k s1 y D u C E,nth st.ow k=some ⟨s1,.live y D u C E⟩->(oe k).ownBlock=some g->v.ownBlock≠some g:=λk _ _ _ _ _ _ T K l=>by
   obtain⟨G,cap,cur,_,z⟩:=(c.own k _ _ _ _ _ _ T).block K
   grind
  rcases q i _ d with⟨rfl,N⟩|⟨N,n⟩<;>rcases q f _ L with⟨rfl,s⟩|⟨s,M⟩
  ·rfl
  ·grind
  ·grind
  ·simp only[oe',if_neg N]at gi;simp only[oe',if_neg s]at O;exact c.oo i f _ _ _ _ _ _ _ _ _ _ _ _ g n M gi O
 ·intro i cs ty f s1 y D u C E d L l
  rcases q f _ L with⟨rfl,s⟩|⟨s,M⟩
  ·simp only[oe',if_pos rfl]at l
   obtain⟨_,vs,_,z⟩:=c.box i cs ty d
   grind
  ·simp only[oe',if_neg s]at l;exact c.bo i cs ty f _ _ _ _ _ _ d M l
theorem Sim.updOwn(d:Sim P h0 w0 be oe H st h a w){i M V af U:Nat}{ae:Bool}{ah:LV}(K:nth st.ow i=some ⟨M,.live V af U ae ah⟩)
  {v:Value} {s1 e sz by_:Nat} {nn:Bool} {xs:LV} {J:Hp} {T:World} (ao:M<=s1) (ap:s1=M->v=oe i)
  (m:V2 H w J T) (am:∀ b,(oe i).ownBlock≠some b->H b≠none->J b=H b) (an:z0a h J v e sz nn xs)
  (R:∀ g,v.ownBlock=some g->(oe i).ownBlock=some g∨H g=none) :
  let oe':=λc=>if c=i then v else oe c
  let st':St := { st with ow:=p03 st.ow i ⟨s1,.live e sz by_ nn xs⟩ }
  Sim P h0 w0 be oe' J st' h a T/\V8 st be oe st' be oe':=by
 intro oe' st'
 have X:=W04 K
 have L:V8 st be oe st' be oe':=by
  refine⟨Nat.le_refl _,λ_ _=>rfl,λc t Z=>?_⟩
  unfold stamp at Z ⊢
  simp only[st',E9 _ _ _ X]
  grind
 have C:∀ c x,nth st'.ow c=some x->(c=i/\x=⟨s1,.live e sz by_ nn xs⟩)∨(c≠i/\nth st.ow c=some x):=by
  grind[E9]
 have al:∀ g,(oe i).ownBlock=some g->h g=none:=λg s=>((d.own i _ _ _ _ _ _ K).block s).1
 have ar:∀ c s1 D G A F I g,c≠i->nth st.ow c=some ⟨s1,.live D G A F I⟩->(oe c).ownBlock=some g->(oe i).ownBlock≠some g/\v.ownBlock≠some g:=by
  intro c s1 D G A F I g Y n s
  have j:(oe i).ownBlock≠some g:=λl=>Y (d.oo c i _ _ _ _ _ _ _ _ _ _ _ _ g n K s l)
  refine⟨j,λl=>?_⟩
  rcases R g l with f|f
  ·exact j f
  ·obtain⟨_,cap,cur,_,q⟩:=(d.own c _ _ _ _ _ _ n).block s
   rw[f]at q;cases q
 have ai:∀ k cs ty,nth st.bx k=some (.live cs ty)->(oe i).ownBlock≠some (be k)/\v.ownBlock≠some (be k):=by
  intro k cs ty z
  have j:=d.bo k cs ty i _ _ _ _ _ _ z K
  refine⟨j,λl=>?_⟩
  rcases R _ l with f|f
  ·exact j f
  ·obtain⟨_,vs,_,q⟩:=d.box k cs ty z
   rw[f]at q;cases q
 refine⟨⟨d.mv.trans m,?_,?_,d.pub,?_,?_,d.bb,?_,?_,d.dfr,d.siz,λt=>(d.fr t).grow L⟩,L⟩
 ·intro b o W
  have ak:=d.sub b o W
  grind
 ·intro k cs ty z
  obtain⟨j,vs,f,q⟩:=d.box k cs ty z
  exact⟨j,vs,f.grow L,oG⟩
 ·intro c S D G A F I n
  rcases C c _ n with⟨rfl,p⟩|⟨p,u⟩
  ·grind
  ·simp only[oe',if_neg p]
   refine(d.own c _ _ _ _ _ _ u).keep λg s=>?_
   obtain⟨j,cap,cur,_,q⟩:=(d.own c _ _ _ _ _ _ u).block s
   grind
 ·intro c S ag n
  rcases C c _ n with⟨rfl,p⟩|⟨p,u⟩
  ·cases p
  ·simp only[oe',if_neg p];exact d.frz c S ag u
 ·intro x y s1 D G A F I s2 p au aj aq av g aa ac O Q
  rcases C x _ aa with⟨rfl,N⟩|⟨N,ab⟩<;>rcases C y _ ac with⟨rfl,E⟩|⟨E,ad⟩
  ·rfl
  ·grind
  ·grind
  ·simp only[oe',if_neg N]at O;simp only[oe',if_neg E]at Q;exact d.oo x y _ _ _ _ _ _ _ _ _ _ _ _ g ab ad O Q
 ·intro k cs ty c s1 D G A F I z n l
  rcases C c _ n with⟨rfl,E⟩|⟨E,u⟩
  ·grind
  ·simp only[oe',if_neg E]at l;exact d.bo k cs ty c _ _ _ _ _ _ z u l
theorem Sim.freeze(c:Sim P h0 w0 be oe H st h a w){i l e sz by_:Nat}{nn:Bool}{xs:LV}(s:nth st.ow i=some ⟨l,.live e sz by_ nn xs⟩): ∃ h',C1 h h' (oe i) e sz nn xs/\Sim P h0 w0 be oe H { st with ow:=p03 st.ow i ⟨l,.frozen (oe i)⟩ } h' a w /\ V8 st be oe { st with ow:=p03 st.ow i ⟨l,.frozen (oe i)⟩ } be oe:=by
 have V:=W04 s;have A:=c.own i _ _ _ _ _ _ s;have q:V8 st be oe { st with ow:=p03 st.ow i ⟨l,.frozen (oe i)⟩ } be oe:=by refine⟨Nat.le_refl _,λ_ _=>rfl,λd t Y=>⟨t,?_,Nat.le_refl _,λ_=>rfl⟩⟩;unfold stamp at Y ⊢;simp only[E9 _ _ _ V];grind
 have m:∀ d x,nth (p03 st.ow i ⟨l,.frozen (oe i)⟩) d=some x->(d=i/\x=⟨l,.frozen (oe i)⟩)∨(d≠i/\nth st.ow d=some x):=by grind[E9]
 have M:∀ h',(∀ b,(oe i).ownBlock≠some b->h' b=h b)->(∀ b o,h' b=some o->H b=some o) ->
   Sim P h0 w0 be oe H { st with ow:=p03 st.ow i ⟨l,.frozen (oe i)⟩ } h' a w:=by
  intro h' L X
  refine⟨c.mv,X,?_,c.pub,?_,?_,c.bb,?_,?_,c.dfr,c.siz,λt=>(c.fr t).grow q⟩
  ·intro k cs ty u
   obtain⟨v,vs,I,U⟩:=c.box k cs ty u
   exact⟨by rw[L _ (c.bo k cs ty i _ _ _ _ _ _ u s)];exact v,vs,I.grow q,U⟩
  ·intro d O F Q E N R p
   rcases m d _ p with⟨rfl,f⟩|⟨f,j⟩
   ·cases f
   ·refine(c.own d _ _ _ _ _ _ j).keep λg K=>⟨rfl,?_⟩
    rw[L g (λz=>f (c.oo d i _ _ _ _ _ _ _ _ _ _ _ _ g j s K z))]
    exact((c.own d _ _ _ _ _ _ j).block K).1
  ·intro d O ac p
   rcases m d _ p with⟨rfl,f⟩|⟨f,j⟩
   ·cases f;rfl
   ·exact c.frz d O ac j
  ·intro x y s1 F Q E N R s2 f af ad ae ag g D aa S T
   rcases m x _ D with⟨rfl,G⟩|⟨G,Z⟩<;>rcases m y _ aa with⟨rfl,n⟩|⟨n,ab⟩
   ·rfl
   ·cases G
   ·cases n
   ·exact c.oo x y _ _ _ _ _ _ _ _ _ _ _ _ g Z ab S T
  ·intro k cs ty d s1 F Q E N R u p z
   rcases m d _ p with⟨rfl,n⟩|⟨n,j⟩
   ·cases n
   ·exact c.bo k cs ty d _ _ _ _ _ _ u j z
 rcases A.2 with⟨C,D,W⟩|⟨g,cap,cur,C,v,I,r⟩;·exact⟨h,⟨A.1,.inl ⟨C,D,W,rfl⟩⟩,M h (λ_ _=>rfl) c.sub,q⟩
 refine⟨h.set g (.cells cur e (0,0)),⟨A.1,.inr ⟨g,cap,cur,C,v,rfl,r⟩⟩,M _ ?_ ?_,q⟩;·grind[Hp.set_other,Value.ownBlock]
 intro b o J;by_cases e':b=g;·grind[Hp.set]
 rw[Hp.set_other _ _ e']at J;exact c.sub b o J
theorem Sim.publ(c:Sim P h0 w0 be oe H st h a w){i:Nat}{cs:List j7}{ty:TypeId}(n:nth st.bx i=some (.live cs ty)){vs:List Value} (T:H (be i)=some (.cells vs.toArray ty (0,0))) : h (be i)=none/\Sim P h0 w0 be oe H { st with bx:=p03 st.bx i (.publ (be i)) } (h.set (be i) (.cells vs.toArray ty (0,0))) a w /\ V8 st be oe { st with bx:=p03 st.bx i (.publ (be i)) } be oe:=by
 have U:=W04 n;have I:=(c.box i cs ty n).1;have q:V8 st be oe { st with bx:=p03 st.bx i (.publ (be i)) } be oe :=
  ⟨by simp[B09],λ_ _=>rfl,λd t J=>⟨t,J,Nat.le_refl _,λ_=>rfl⟩⟩
 have j:∀ d x,nth (p03 st.bx i (.publ (be i))) d=some x->(d=i/\x = .publ (be i))∨(d≠i/\nth st.bx d=some x):=by grind[E9]
 refine⟨I,⟨c.mv,?_,?_,?_,?_,c.frz,?_,c.oo,?_,c.dfr,c.siz,λt=>(c.fr t).grow q⟩,q⟩
 ·intro b o A;by_cases l:b=be i;·grind[Hp.set]
  rw[Hp.set_other _ _ l]at A;exact c.sub b o A
 ·intro k cs' N s;rcases j k _ s with⟨rfl,e⟩|⟨e,p⟩;·cases e
  obtain⟨E,Q,F,G⟩:=c.box k cs' N p;exact⟨by rw[Hp.set_other _ _ (λl=>e (c.bb k i _ _ _ _ p n l))];exact E,Q,F.grow q,G⟩
 ·intro k b s;rcases j k _ s with⟨rfl,e⟩|⟨e,p⟩;·cases e;rfl
  exact c.pub k b p
 ·intro d M f W R V Y m;refine(c.own d _ _ _ _ _ _ m).keep λg C=>⟨rfl,?_⟩;rw[Hp.set_other _ _ (λl=>by subst l;exact c.bo i cs ty d _ _ _ _ _ _ n m C)];exact((c.own d _ _ _ _ _ _ m).block C).1
 ·intro x y D O S X u K e;rcases j x _ u with⟨_,f⟩|⟨f,v⟩;·cases f
  rcases j y _ K with⟨_,z⟩|⟨z,L⟩;·cases z
  exact c.bb _ _ _ _ _ _ v L e
 intro x D O d M e sz by_ nn xs u m;rcases j x _ u with⟨_,f⟩|⟨f,v⟩;·cases f
 exact c.bo _ _ _ d _ _ _ _ _ _ v m
theorem Sim.rdA(d:Sim P h0 w0 be oe H st h a w){av:AV}{x:Value}(g:N2 st be oe av x):N2 st be oe (rdA st av) x:=by
 cases av with
 |own i k =>
  simp only[Go.H.rdA];split
  ·rename_i m o c;split
   ·rename_i j;have l:=Nat.eq_of_beq_eq_true j;split;·exact g
    rename_i v;obtain⟨t,n,_,e⟩:=g;have:t=m:=by grind[stamp]
    subst this;have:=e l.symm;rw[d.frz i _ v c]at this;exact this
   trivial
  trivial
 |box i off =>
  simp only[Go.H.rdA];split;·exact g
  ·rename_i b c;have:=g.2;rw[d.pub i b c]at this;exact this
  trivial
 |oel i k idx sz f =>
  simp only[Go.H.rdA];split
  ·split;·exact g
   trivial
  trivial
 |_=>exact g
theorem Sim.rdO(s:Sim P h0 w0 be oe H st h a w)(x:Operand):N2 st be oe (rdO st x) (a.eval x):=by
 cases x with
 |tmp t=>exact s.rdA (s.fr t)
 |const v=>rfl
 |global g=>trivial
 |func f=>rfl
theorem k0b{st:St}{av:AV}{i k:Nat}(h:Go.H.rdA st av = .own i k):∃ e sz by_ nn xs,nth st.ow i=some ⟨k,.live e sz by_ nn xs⟩:=by
 cases av with
 |own j l =>grind[Go.H.rdA,Nat.eq_of_beq_eq_true]
 |box j off=>simp only[Go.H.rdA]at h;split at h<;>cases h
 |oel j l idx sz f=>simp only[Go.H.rdA]at h;split at h<;>(try split at h)<;>cases h
 |_=>cases h
theorem l0b{st:St}{x:Operand}{i k:Nat}(h:Go.H.rdO st x = .own i k):∃ e sz by_ nn xs,nth st.ow i=some ⟨k,.live e sz by_ nn xs⟩:=by
 cases x with
 |tmp t=>exact k0b h
 |_=>cases h
theorem m0o{st:St}{av:AV}{i k:Nat}{idx:Int}{sz f:Nat}(h:Go.H.rdA st av = .oel i k idx sz f):∃ e b by_ nn xs,nth st.ow i=some ⟨k,.live e b by_ nn xs⟩:=by
 cases av with
 |own a l=>simp only[Go.H.rdA]at h;split at h<;>(try split at h)<;>(try split at h)<;>cases h
 |box a off=>simp only[Go.H.rdA]at h;split at h<;>cases h
 |oel a l idx sz f =>grind[Go.H.rdA,Nat.eq_of_beq_eq_true]
 |_=>cases h
theorem n0o{st:St}{x:Operand}{i k:Nat}{idx:Int}{sz f:Nat}(h:Go.H.rdO st x = .oel i k idx sz f):∃ e a by_ nn xs,nth st.ow i=some ⟨k,.live e a by_ nn xs⟩:=by
 cases x with
 |tmp t=>exact m0o h
 |_=>cases h
theorem N2.own_cur{st:St}{be:Nat->Nat}{oe:Nat->Value}{i k:Nat}{x:Value}{o:OSt}(g:N2 st be oe (.own i k) x)(c:nth st.ow i=some ⟨k,o⟩):x=oe i:=by obtain⟨d,a,_,b⟩:=g;grind[stamp]
theorem N2.oel_cur{st:St}{be:Nat->Nat}{oe:Nat->Value}{i k:Nat}{idx:Int}{sz f:Nat}{x:Value}{o:OSt}(g:N2 st be oe (.oel i k idx sz f) x)(d:nth st.ow i=some ⟨k,o⟩): ∃ g n c,oe i = .slice (some ⟨g,0,none⟩) n c/\x=ptr g (idx.toNat*sz+f):=by obtain⟨e,a,_,b⟩:=g;grind[stamp]
theorem z0c{st:St}:∀ {cs:List j7} {vs ws:List Value},P0j cs=some vs->J2 st oe cs ws->ws=vs
 | [],vs,[],h,_=>by cases h;rfl
 | [],vs,_::_,h,g=>g.elim
 | .val v::r,vs,[],h,g=>g.elim
 | .val v::r,vs,w::ws,h,g=>by
  simp only[P0j]at h;split at h;·rename_i d c;cases h;obtain⟨a,b⟩:=g;rw[z0c c b,show w=v from a]
  cases h
 | .own i k::r,vs,ws,h,g=>by cases h
theorem l7{st:St}{av:AV}{v x:Value}(h:P08 av=some v)(g:N2 st be oe av x):x=v:=by
 cases av with
 |val u=>cases h;exact g
 |agg cs =>
  simp only[P08]at h;split at h;·rename_i vs b;cases h;obtain⟨ws,rfl,a⟩:=g;rw[z0c b a]
  cases h
 |_=>cases h
end
theorem Q2{P:Program}{g e:Type}(d:Sem g)(f:g->Sem e):∀(h:Hp) (K:e->Hp->Prop),wpS P (d >>= f) h K=wpS P d h (λx h'=>wpS P (f x) h' K):=by
 change ∀(h:Hp) (K:e->Hp->Prop),wpS P (d.bind f) h K=wpS P d h (λx h'=>wpS P (f x) h' K);induction d with
 |pure a=>intro h K;rfl
 |load m a k b=>grind[Sem.bind,wpS]
 |store m a v k b=>intro h K;simp only[Sem.bind,wpS,b]
 |new o k b=>grind[Sem.bind,wpS]
 |shape r k b=>grind[Sem.bind,wpS]
 |freeze a n k b=>intro h K;rfl
 |frozen a k b=>grind[Sem.bind,wpS]
 |getObj r k b=>grind[Sem.bind,wpS]
 |setObj r o k b=>grind[Sem.bind,wpS]
 |choose q k b=>grind[Sem.bind,wpS]
 |sys c k b=>intro h K;rfl
 |program k b=>grind[Sem.bind,wpS]
 |mark m k b=>grind[Sem.bind,wpS]
 |halt x=>intro h K;rfl
theorem I3{P:Program}{a:Type}(x:a)(h:Hp)(K:a->Hp->Prop):wpS P (pure x) h K=K x h:=rfl
theorem G0t{P:Program}{e:Type}(d:Sem e){x:e}(b:evP P d=some x):∀ w:World,d.run P w = .ok x w:=by
 induction d with
 |pure a=>simp_all[evP,Option.some.injEq]
 |program k c=>intro w;exact c _ b w
 |mark m k c=>intro w;exact c b w
 |_=>simp[evP]at b
theorem j0g(a:Operand->Value):∀ l:List Operand,d0o a l=l.map a
 | []=>rfl
 |x::r=>by simp only[d0o,List.map_cons,j0g a r]
theorem H0t:∀ a b:List Value,n0w a b=a++b
 | [],b=>rfl
 |x::r,b=>by simp only[n0w,List.cons_append,H0t r b]
theorem A0a:∀ l:List Operand,m0c l=l.map fun | .const _=>true|_=>false
 | []=>rfl
 | .const _::r=>by simp only[m0c,List.map_cons,A0a r]
 | .tmp _::r=>by simp only[m0c,List.map_cons,A0a r]
 | .global _::r=>by simp only[m0c,List.map_cons,A0a r]
 | .func _::r=>by simp only[m0c,List.map_cons,A0a r]
theorem k0g(a:Operand->Value)(o:Oper):w0m a o=execOp a o:=by
 unfold w0m;split
 ·rename_i c d;obtain⟨i,as,j⟩:=c;split
  ·rename_i b g;simp only at g;subst g;unfold execOp;rw[d];simp only[resolve,j0g,A0a];rw[show(List.map a as.toList).toArray=as.map a from by apply Array.ext';simp];have h:∀ f:Operand->Bool,(List.map f as.toList).toArray=as.map f:=λf=>by apply Array.ext';simp
   rw[h];rfl
  rfl
 ·rename_i fn first e d
  unfold execOp;rw[d];simp only[j0g];rw[show(List.map a first.toList).toArray=first.map a from by apply Array.ext';simp,show(List.map a e.toList).toArray=e.map a from by apply Array.ext';simp]
 rfl
theorem K0d{P:Program}{e:Operand->Value}{o:Oper}{f:FuncId}{l:List Value}(a:l0c e o=some (f,l))(b:okF P f=true)(w:World):(execOp e o).run P w = .ok (.enter f l.toArray) w:=by
 unfold l0c at a;split at a
 ·rename_i c i;obtain⟨m,as,q⟩:=c;split at a
  ·rename_i x d;simp only at d;subst d;split at a
   ·rename_i p first n j
    cases a;unfold okF at b;split at b
    ·rename_i fn hf;split at b
     ·rename_i k g;split at b;·cases b
      rename_i h;unfold execOp;rw[i];simp only[resolve,j,Deferred.ofValue,Sem.run_bind,Sem.run_pure,Result.andThen_ok,invoke,callFunc,program,Sem.run,hf,h,g,Bool.false_eq_true,if_false,Option.isNone_some];simp_all[H0t,j0g]
     cases b
    cases b
   cases a
  cases a
 cases a
section
variable {P:Program} {h0:Hp} {w0:World} {be:Nat->Nat} {oe:Nat->Value} {H:Hp} {st:St} {h:Hp} {a:Act} {w:World}
theorem V8.trans{st f h:St}{be a b:Nat->Nat}{oe d e:Nat->Value}(g:V8 st be oe f a d)(k:V8 f a d h b e):V8 st be oe h b e:=by
 refine⟨Nat.le_trans g.bl k.bl,λi c=>?_,λi m l=>?_⟩;·rw[k.be i (Nat.lt_of_lt_of_le c g.bl),g.be i c]
 obtain⟨s1,j,n,o⟩:=g.sm i m l;obtain⟨s2,p,q,s⟩:=k.sm i s1 j;grind
theorem l0g(o:Sim P h0 w0 be oe H st h a w){i k:Nat}{x:Value}(g:∃ t,stamp st i=some t/\k<=t/\(k=t->x=oe i)){K:Value->St->Hp->Prop} (b:c0o i k st h K):∃ st' h',K x st' h'/\Sim P h0 w0 be oe H st' h' a w/\V8 st be oe st' be oe/\st'.bx=st.bx:=by
 unfold c0o at b;obtain⟨t,q,_,m⟩:=g;split at b
 ·rename_i l e sz by_ nn xs f;split at b
  ·rename_i c;have d:=Nat.eq_of_beq_eq_true c;have j:t=l:=by grind[stamp]
   have n:x=oe i:=m (by rw[j,d]);obtain⟨h',p,f2,f3⟩:=o.freeze f;rw[n];exact⟨_,h',b _ _ p,f2,f3,rfl⟩
  exact b.elim
 ·rename_i l v f;split at b
  ·rename_i c;have d:=Nat.eq_of_beq_eq_true c;have j:t=l:=by grind[stamp]
   have n:x=v:=by rw[m (by rw[j,d]),o.frz i _ v f]
   grind[V8.refl]
  exact b.elim
 exact b.elim
theorem H06:∀(cs:List j7) {st:St} {h:Hp} {vs:List Value} {K:List Value->St->Hp->Prop},Sim P h0 w0 be oe H st h a w->J2 st oe cs vs->k0c cs st h K -> ∃ st' h',K vs st' h'/\Sim P h0 w0 be oe H st' h' a w/\V8 st be oe st' be oe/\st'.bx=st.bx
 | [],st,h,[],K,c,_,b=>⟨st,h,b,c,V8.refl _ _ _,rfl⟩
 | .val v::r,st,h,x::vs,K,c,g,b=>by have o:x=v:=g.1;subst o;obtain⟨st',h',s,t⟩:=H06 r c g.2 b;grind
 | .own i k::r,st,h,x::vs,K,c,g,b=>by obtain⟨u,q,e,s1,d,m⟩:=l0g c g.1 b;obtain⟨p,l,f,s2,j,n⟩:=H06 r s1 (g.2.grow d) e;exact⟨p,l,f,s2,d.trans j,n.trans m⟩
 | [],_,_,_::_,_,_,g,_=>g.elim
 |_::_,_,_,[],_,_,g,_=>g.elim
theorem s06(d:Sim P h0 w0 be oe H st h a w){av:AV}{x:Value}(g:N2 st be oe av x){K:Value->St->Hp->Prop}(c:rfy av st h K): ∃ st' h',K x st' h'/\Sim P h0 w0 be oe H st' h' a w/\V8 st be oe st' be oe:=by
 cases av with
 |val v=>have f:x=v:=g;subst f;exact⟨st,h,c,d,V8.refl _ _ _⟩
 |own i k=>obtain⟨st',h',q,s,t,_⟩:=l0g d g c;grind
 |box i off =>
  have f:=g.2;simp only[rfy,m0w]at c;split at c
  ·rename_i cells ty e;obtain⟨D,vs,j,o⟩:=d.box i cells ty e;obtain⟨A,C,l,s1,n,m⟩:=H06 cells d j c;have p:nth A.bx i=some (.live cells ty):=by rw[m];exact e
   obtain⟨u,y,z⟩:=s1.publ p o;rw[f];exact⟨_,_,l (be i) u,y,n.trans z⟩
  ·rename_i b e;rw[f,d.pub i b e];grind[V8.refl]
  exact c.elim
 |agg cs =>obtain⟨vs,rfl,j⟩:=g;obtain⟨st',h',q,s,t,_⟩:=H06 cs d j c;grind
 |_=>exact c.elim
theorem w05:∀(l:List Operand) {st:St} {h:Hp} {K:List (Nat×Value)->St->Hp->Prop},Sim P h0 w0 be oe H st h a w->q0h l st h K -> ∃ vs st' h',K vs st' h'/\Sim P h0 w0 be oe H st' h' a w/\V8 st be oe st' be oe/\(∀ p∈vs,p.2=a.eval (.tmp p.1))/\(∀ x∈l,(∃ t v,x = .tmp t/\(t,v)∈vs)∨(∀ ws,rho ws x=a.eval x))
 | [],st,h,K,c,b=>⟨[],st,h,b,c,V8.refl _ _ _,oS,oS⟩
 | .tmp t::r,st,h,K,c,b=>by obtain⟨s,q,n,s1,o⟩:=s06 c (c.rdO (.tmp t)) b;obtain⟨vs,j,i,e,s2,g,k,m⟩:=w05 r s1 n;refine⟨_,j,i,e,s2,o.trans g,?_,?_⟩;all_goals grind
 | .const v::r,st,h,K,c,b=>by
  obtain⟨vs,j,i,e,s2,g,k,m⟩:=w05 r c b;refine⟨vs,j,i,e,s2,g,k,λx d=>?_⟩;rcases List.mem_cons.1 d with rfl|d;·exact .inr λ_=>rfl
  exact m x d
 | .func f::r,st,h,K,c,b=>by
  obtain⟨vs,j,i,e,s2,g,k,m⟩:=w05 r c b;refine⟨vs,j,i,e,s2,g,k,λx d=>?_⟩;rcases List.mem_cons.1 d with rfl|d;·exact .inr λ_=>rfl
  exact m x d
 | .global _::_,_,_,_,_,b=>b.elim
theorem C0h:∀(vs:List (Nat×Value)) (t:Nat) (y:Value),(∀ p∈vs,p.1=t->p.2=y)->(∃ v,(t,v)∈vs)->z0t vs t=y
 | [],t,y,_,h=>oG
 |(k,v)::r,t,y,a,h=>by
  simp only[z0t];split;·simp_all
  rename_i c;refine C0h r t y (λp b=>a p (mC _ b)) ?_;grind[absurd,Nat.ne_of_beq_eq_false]
theorem L0d{o:Oper}{vs:List (Nat×Value)}(c:W0f o.op=false)(d:∀ p∈vs,p.2=a.eval (.tmp p.1)) (f:∀ x∈o.op.operands.toList,(∃ t v,x = .tmp t/\(t,v)∈vs)∨(∀ ws,rho ws x=a.eval x)):execOp (rho vs) o=execOp a.eval o:=by
 refine execOp_congr o (λcs b g=>by rw[g]at c;cases c) λx j=>?_;rcases f x (by simpa using j)with⟨t,v,rfl,h⟩|hf;·exact C0h vs t _ (λp i e=>by rw[d p i,e]) ⟨v,h⟩
 exact hf vs
def Nx(P:Program)(h0:Hp)(w0:World)(f:St)(c:Nat->Nat)(e:Nat->Value)(K:AV->St->Hp->Prop)(a:Act)(d:Option Tmp):Act->World->Prop:=λb g =>
 ∃ av st' h' v be oe H,K av st' h'/\b=a.put d v/\Sim P h0 w0 be oe H st' h' a g/\N2 st' be oe av v/\V8 f c e st' be oe
theorem R9{o:Oper}{next:Act->World->Prop}{Q:Exit->Act->World->Prop}{v:Value}{b:World}(d:(execOp a.eval o).run P w = .ok (.value v) b) (c:next (a.put o.dst v) b):o.wp P a w next Q:=by unfold Oper.wp;rw[d];exact c
theorem M0d{o:Oper}{next:Act->World->Prop}{Q:Exit->Act->World->Prop}{w':World}(hr:(execOp a.eval o).run P w = .ok .skip w') (hn:next (a.put o.dst undef) w'):o.wp P a w next Q:=by unfold Oper.wp;rw[hr];exact hn
theorem U08{o:Oper}{vs:List (Nat×Value)}(d:∀ p∈vs,p.2=a.eval (.tmp p.1)) (f:∀ x∈o.op.operands.toList,(∃ t v,x = .tmp t/\(t,v)∈vs)∨(∀ ws,rho ws x=a.eval x)):l0c (rho vs) o=l0c a.eval o:=by
 have j:∀ x∈o.op.operands.toList,rho vs x=a.eval x:=λx b=>by
  rcases f x b with⟨t,v,rfl,h⟩|hf;·exact C0h vs t _ (λp i e=>by rw[d p i,e]) ⟨v,h⟩
  exact hf vs
 unfold l0c;split
 ·rename_i c k;split
  ·rename_i x b;have g:∀ y,y=x∨y∈c.args.toList->y∈o.op.operands.toList:=λy l=>by grind[Op.operands,Call.operands]
   rw[j x (g x (.inl rfl))];have:d0o (rho vs) c.args.toList=d0o a.eval c.args.toList:=by grind[j0g,List.map_congr_left]
   rw[this]
  rfl
 rfl
theorem q01(D:Sim P h0 w0 be oe H st h a w){o:Oper}{K:AV->St->Hp->Prop}{Q:Exit->Act->World->Prop}(c:q0a P o st h K):o.wp P a w (Nx P h0 w0 st be oe K a o.dst) Q:=by
 unfold q0a at c;split at c;·exact c.elim
 rename_i C;obtain⟨vs,i,F,b,s1,d,p,q⟩:=w05 _ D c;rw[k0g,L0d C p q,U08 p q]at b;split at b
 ·rename_i f l u;split at b;·rename_i A;unfold Oper.wp;rw[K0d u A,Oper.upon_enter];refine(b.run w (y0c s1)).mono ?_;rintro e I ⟨v,t,rfl,x,z⟩;obtain⟨s,E⟩:=s1.moved z;exact⟨.val v,i,t,v,be,oe,s,x,rfl,E,rfl,d⟩
  exact b.elim
 obtain⟨n,k,G,m,g,y⟩:=u02 _ _ _ (y0c s1) b;obtain⟨j,s2⟩:=s1.moved y;cases n with
 |value v=>exact R9 m ⟨.val v,i,k,v,be,oe,j,g,rfl,s2,rfl,d⟩
 |skip=>exact M0d m ⟨.val undef,i,k,undef,be,oe,j,g,rfl,s2,rfl,d⟩
 |_=>exact g.elim
theorem Sim.still(c:Sim P h0 w0 be oe H st h a w){hf:Hp}{e:World}(f:∀ b o,hf b=some o->H b=some o)(m:V2 hf w hf e):Sim P h0 w0 be oe H st h a e:=by
 refine⟨c.mv.trans ⟨m.os,m.tape,m.output,m.size,?_,?_,λb d => .inl d,m.fz,m.dn⟩,c.sub,c.box,c.pub,c.own,c.frz,c.bb,c.oo,c.bo,c.dfr,c.siz,c.fr⟩
 ·intro b d i;refine m.keep b d ?_;cases hc:hf b with
  |none=>rfl
  |some o=>grind
 intro b o d;cases hc:hf b with
 |some g =>have:=f b g hc;rw[this]at d;cases d;exact m.vis b _ hc
 |none=>rw[m.keep b (c.mv.vis.lt (by rw[d];simp)) hc];exact c.mv.vis b o d
theorem R0p(d:Sim P h0 w0 be oe H st h a w){o:Oper}{K:AV->St->Hp->Prop}{Q:Exit->Act->World->Prop}(c:o0w P o st h K):o.wp P a w (Nx P h0 w0 st be oe K a o.dst) Q:=by
 unfold o0w at c;split at c;·exact c.elim
 rename_i s;obtain⟨vs,t,p,b,s1,_,m,n⟩:=w05 _ d c;rw[U08 m n]at b;split at b
 ·rename_i f l g;split at b;·rename_i k;unfold Oper.wp;rw[K0d g k,Oper.upon_enter];refine(b.run w (y0c s1)).mono ?_;rintro e u ⟨v,q,rfl,⟨rfl,i⟩,j⟩;exact⟨.val v,st,h,v,be,oe,H,i,rfl,d.still s1.sub j,rfl,V8.refl _ _ _⟩
  exact b.elim
 exact b.elim
theorem q03(c:Sim P h0 w0 be oe H st h a w){o:Oper}{K:AV->St->Hp->Prop}{Q:Exit->Act->World->Prop}(b:X0r P o st h K):o.wp P a w (Nx P h0 w0 st be oe K a o.dst) Q:=by
 unfold X0r at b;split at b
 ·rcases b with b|b;·exact q01 c b
  exact R0p c b
 exact q01 c b
theorem g0f(y:Sim P h0 w0 be oe H st h a w){o:Oper}{K:AV->St->Hp->Prop}{Q:Exit->Act->World->Prop}(c:q0w P o st h K):o.wp P a w (Nx P h0 w0 st be oe K a o.dst) Q:=by
 unfold q0w at c;split at c;·exact c.elim
 rename_i x;obtain⟨vs,p,z,b,s1,g,l,m⟩:=w05 _ y c;rw[U08 l m]at b;split at b;·exact b.elim
 obtain⟨v,s,q,j⟩:=b;have f:=q (λn h'=>(n = .value v∨n = .skip/\v=undef)/\h'=s) ⟨⟨.inl rfl,rfl⟩,λe=>⟨.inr ⟨rfl,e⟩,rfl⟩⟩;rw[k0g,L0d x l m]at f;obtain⟨n,i,A,k,⟨u,rfl⟩,t⟩:=u02 _ _ _ (y0c s1) f;obtain⟨d,s2⟩:=s1.moved t;rcases u with rfl|⟨rfl,rfl⟩;·exact R9 k ⟨.val v,p,i,v,be,oe,d,j,rfl,s2,rfl,g⟩
 exact M0d k ⟨.val undef,p,i,undef,be,oe,d,j,rfl,s2,rfl,g⟩
end
section
variable {P:Program}
theorem M7{t:TypeId}{d:TypeDesc}(a:P.underlying t=some d)(h:Hp)(K:TypeDesc->Hp->Prop):wpS P (underlying t) h K=K d h:=by grind[underlying,program,Q2,wpS,I3]
theorem m0g{t:TypeId}{i:TypeInfo}(a:P.info? t=some i)(h:Hp)(K:TypeInfo->Hp->Prop):wpS P (typeInfo t) h K=K i h:=by grind[typeInfo,program,Q2,wpS,I3]
theorem k04{t:TypeId}{n:Nat}(a:J7 P t=some n)(h:Hp)(K:Nat->Hp->Prop):wpS P (sizeOf t) h K=K n h:=by grind[J7,sizeOf,Q2,m0g,I3]
theorem n0g{t:TypeId}{z:Value}(a:C03 P t=some z)(h:Hp)(K:Value->Hp->Prop):wpS P (zeroValue t) h K=K z h:=by grind[C03,zeroValue,Q2,m0g,I3]
theorem N0d{t:TypeId}{b:Bool}(a:a0o P t=some b)(h:Hp)(K:Bool->Hp->Prop):wpS P (isAgg t) h K=K b h:=by unfold a0o at a;grind[isAgg,Q2,M7,I3,absurd]
theorem C09{H:Hp}{b o:Nat}:∀(vs:List Value) (i:Nat) (acc:Array Value) (K:Array Value->Hp->Prop),(∀ a v,vs[a]?=some v->Hp.cell H b (o+i+a)=some v) -> K (acc++vs.toArray) H->wpS P (loadCellsFrom ⟨b,o,none⟩ i vs.length acc) H K
 | [],i,acc,K,_,d=>by grind[loadCellsFrom,I3]
 |v::vs,i,acc,K,c,d=>by
  have h0:=c 0 v oS;simp only[loadCellsFrom,List.length_cons,Q2,load,wpS];have e:(⟨b,o,none⟩:Addr).add i=⟨b,o+i,none⟩:=by unfold Addr.add;split<;>simp_all
  rw[e];refine⟨v,⟨rfl,by simpa using h0⟩,C09 vs (i+1) (acc.push v) K ?_ ?_⟩;·intro a u f;have:=c (a+1) u (by simpa using f);grind
  simpa using d
theorem d06{a:Type}:∀(l:List a) (n:Nat),j0b l n=true->l.length=n
 | [],0,_=>rfl
 |_::r,k+1,h=>by simp[d06 r k h]
 | [],_+1,h=>by cases h
 |_::_,0,h=>by cases h
variable {h0:Hp} {w0:World} {be:Nat->Nat} {oe:Nat->Value} {H:Hp} {st:St} {h:Hp} {a:Act} {w:World}
theorem N2.ofCell{st:St}{be:Nat->Nat}{oe:Nat->Value}{c:j7}{v:Value}(g:Y0j st oe c v):N2 st be oe (ofCell c) v:=by
 cases c with
 |val u=>exact g
 |own i k=>exact g
theorem load_row{t:TypeId}{cs:List j7}{vs:List Value}{off:Nat}{K:AV->Prop}{b o:Nat}(a:N08 P t cs off K)(g:J2 st oe cs vs) (p:∀ h v,vs[h]?=some v->Hp.cell H b (o+h)=some v):∃ av v,K av/\N2 st be oe av v/\∀ d:Value->Hp->Prop,d v H->wpS P (loadVar t ⟨b,o+off,none⟩) H d:=by
 unfold N08 at a;split at a
 ·rename_i e;split at a
  ·rename_i n f;split at a
   ·rename_i l;have m:=d06 _ _ l;have i:=(g.drop off).take n;refine⟨_,.agg ((vs.drop off).take n).toArray,a,⟨_,rfl,i⟩,λd k=>?_⟩;have s:((vs.drop off).take n).length=n:=by rw[←i.length,m]
    simp only[loadVar,Q2,N0d e,if_true,k04 f,loadCells];have:=C09 (P:=P) (H:=H) (b:=b) (o:=o+off) ((vs.drop off).take n) 0 #[] (λx h'=>wpS P (pure (Value.agg x)) h' d) (λh v q=>by grind) (by grind[I3]);grind
   exact a.elim
  exact a.elim
 ·rename_i e;split at a;·rename_i c f;obtain⟨v,u,j⟩:=g.nth f;refine⟨_,v,a,N2.ofCell j,λd k=>?_⟩;simp only[loadVar,Q2,N0d e,Bool.false_eq_true,if_false,load,wpS];grind
  exact a.elim
 exact a.elim
theorem Hp.set_set(h:Hp)(b:Nat)(x y:Obj):(h.set b x).set b y=h.set b y:=by funext k;simp only[Hp.set];split<;>rfl
theorem o0A{v:Value}(h:v.oneCell'=true):c06 v:=by cases v<;>simp_all [Value.oneCell',c06]
theorem V08{b:Nat}{t:TypeId}:∀(a:List Value) (cur:List Value) (off i:Nat) (K:Unit->Hp->Prop) (H:Hp),H b=some (.cells cur.toArray t (0,0)) -> off+i+a.length<=cur.length->(∀ v∈a,v.oneCell'=true)->K () (H.set b (.cells (P3 cur (off+i) a).toArray t (0,0)))->wpS P (storeCells ⟨b,off,none⟩ a i) H K
 | [],cur,off,i,K,H,e,_,_,c=>by
  have:H.set b (.cells cur.toArray t (0,0))=H:=by grind[Hp.set]
  simp only[P3,this]at c;exact c
 |n::a,cur,off,i,K,H,e,g,d,c=>by
  simp only[storeCells,Q2,store,wpS];have f:(⟨b,off,none⟩:Addr).add i=⟨b,off+i,none⟩:=by unfold Addr.add;split<;>simp_all
  rw[f];simp only[List.length_cons]at g;refine⟨cur.toArray,t,(0,0),⟨e,rfl,by simp;omega,oS,o0A (d n mS)⟩,?_⟩;refine V08 (t:=t) a (cur.set (off+i) n) off (i+1) K _ (by simp[Hp.set]) (by simp;omega) (λv h=>d v (mC _ h)) ?_;grind[Hp.set_set,P3,Nat.add_assoc]
theorem B0a:∀(a cs:List Value) (off:Nat),splice cs off a=P3 cs off a
 | [],cs,off=>rfl
 |n::a,cs,off=>by simp only[splice,P3,i0g,B0a a]
theorem Z0j(f:Sim P h0 w0 be oe H st h a w){i k:Nat}{e sz by_:Nat}{nn:Bool}{xs:LV}(d:nth st.ow i=some ⟨k,.live e sz by_ nn xs⟩):∃ x n c,oe i = .slice x n c:=by rcases(f.own i _ _ _ _ _ _ d).2 with⟨b,_⟩|⟨g,cap,cur,b,_⟩;all_goals grind
theorem z08(m:Sim P h0 w0 be oe H st h a w){x:Operand}{cs:List j7}(b:U02 (rdO st x)=some cs):J2 st oe cs (a.eval x).cells.toList:=by
 have g:=m.rdO x;cases hr:rdO st x with
 |val v =>rw[hr]at b g;have d:a.eval x=v:=g;rw[d];cases v<;>simp only[U02,Option.some.injEq]at b<;>first|(subst b;first|exact J2.vals _ _ _|exact⟨rfl,trivial⟩)|cases b
 |own i k =>rw[hr]at b g;obtain⟨e,sz,by_,nn,xs,f⟩:=l0b hr;simp only[U02,Option.some.injEq]at b;subst b;have j:a.eval x=oe i:=g.own_cur f;obtain⟨y,n,c,l⟩:=Z0j m f;rw[j,l];rw[j,l]at g;exact⟨g,trivial⟩
 |agg cs' =>rw[hr]at b g;simp only[U02,Option.some.injEq]at b;subst b;obtain⟨vs,d,o⟩:=g;rw[d];exact o
 |_=>rw[hr]at b;cases b
theorem A08(f:Sim P h0 w0 be oe H st h a w):∀(cs:List j7) (vs:List Value),y09 st cs=true->J2 st oe cs vs->∀ v∈vs,v.oneCell'=true
 | [],[],_,_,v,d=>by cases d
 | .val u::r,x::vs,b,g,v,d=>by
  simp only[y09]at b;split at b
  ·rename_i m;rcases List.mem_cons.1 d with rfl|d;·have:v=u:=g.1;rw[this];exact m
   exact A08 f r vs b g.2 v d
  cases b
 | .own i k::r,x::vs,b,g,v,d=>by
  have j:N2 st be oe (rdA st (.own i k)) x:=f.rdA (av := .own i k) g.1;simp only[y09]at b;split at b
  ·rename_i t l o;rcases List.mem_cons.1 d with rfl|d;·rw[o]at j;obtain⟨e,sz,by_,nn,xs,p⟩:=k0b o;obtain⟨y,n,c,s⟩:=Z0j f p;rw[j.own_cur p,s];rfl
   exact A08 f r vs b g.2 v d
  ·rename_i u q;split at b
   ·rename_i m;rcases List.mem_cons.1 d with rfl|d;·rw[q]at j;have:v=u:=j;rw[this];exact m
    exact A08 f r vs b g.2 v d
   cases b
  cases b
 | [],_::_,_,g,_,_=>g.elim
 |_::_,[],_,g,_,_=>g.elim
theorem O07:∀(vs:List Value),O08 vs=true->∀ v∈vs,v.oneCell'=true
 | [],_,v,a=>by cases a
 |x::r,b,v,a=>by
  simp only[O08]at b;split at b
  ·rename_i c;rcases List.mem_cons.1 a with rfl|a;·exact c
   exact O07 r b v a
  cases b
end
section
variable {P:Program} {h0:Hp} {w0:World} {be:Nat->Nat} {oe:Nat->Value} {H:Hp} {st:St} {h:Hp} {a:Act} {w:World} {o:Oper} {K:AV->St->Hp->Prop} {Q:Exit->Act->World->Prop}
theorem M04(b o n:Nat):(⟨b,o,none⟩:Addr).add n=⟨b,o+n,none⟩:=by unfold Addr.add;split<;>simp_all
theorem R8(d:Sim P h0 w0 be oe H st h a w){av:AV}{v:Value}(k:∀ c:Next->Hp->Prop,c (.value v) H->wpS P (execOp a.eval o) H c)(g:N2 st be oe av v)(f:K av st h): o.wp P a w (Nx P h0 w0 st be oe K a o.dst) Q:=by obtain⟨n,b,m,j,⟨rfl,rfl⟩,i⟩:=u02 _ _ _ d.mv.vis (k (λn b=>n = .value v/\b=H) ⟨rfl,rfl⟩);have l:Sim P h0 w0 be oe b st h a m:=d.still (hf:=b) (λ_ _ e=>e) i;exact R9 j ⟨av,st,h,v,be,oe,b,f,rfl,l,g,V8.refl _ _ _⟩
theorem p00{P:Program}(b:Sem Value)(H:Hp)(a:Next->Hp->Prop)(h:wpS P b H (λv H=>a (.value v) H)):wpS P (do pure (Next.value (←b))) H a:=by rw[Q2];exact h
theorem p0A{P:Program}(b:Sem Unit)(H:Hp)(a:Next->Hp->Prop)(h:wpS P b H (λ_ H=>a .skip H)):wpS P (do b;pure Next.skip) H a:=by rw[Q2];exact h
theorem I0t(d:Sim P h0 w0 be oe H st h a w){x:Operand}(c:o.op = .move x∨o.op = .assign x)(b:match rdO st x with | .dead=>False|a=>K a st h):o.wp P a w (Nx P h0 w0 st be oe K a o.dst) Q:=by
 have e:K (rdO st x) st h:=by revert b;cases rdO st x<;>intro b<;>first|exact b|exact b.elim
 refine R8 d (v:=a.eval x) (λg f=>?_) (d.rdO x) e;unfold execOp;rcases c with c|c<;>rw[c]<;>exact f
theorem q0A(d:Sim P h0 w0 be oe H st h a w){t:TypeId}{x:Operand}(m:o.op = .box t x){cs:List j7}(l:U02 (rdO st x)=some cs) (f:newBox st cs t λav st=>K av st h):o.wp P a w (Nx P h0 w0 st be oe K a o.dst) Q:=by
 have g:=z08 d l;have q:wpS P (execOp a.eval o) H (λn e=>∃ b,H b=none/\n = .value (ptr b 0)/\e=H.set b (.cells (a.eval x).cells t (0,0))):=by unfold execOp;rw[m];refine p00 _ _ _ ?_;simp only[Instr.box,newVar,newRow,newObj,Q2,I3,wpS];exact λb c=>⟨b,c,rfl,rfl⟩
 obtain⟨n,e,u,p,⟨b,c,rfl,rfl⟩,i⟩:=u02 _ _ _ d.mv.vis q;have k:(a.eval x).cells=(a.eval x).cells.toList.toArray:=oS;rw[k]at i;rw[s0h]at f;obtain⟨s,j⟩:=d.newBox g c i;exact R9 p ⟨_,_,h,_,_,_,_,f,rfl,s,⟨oS,oS⟩,j⟩
theorem F0w(g:Sim P h0 w0 be oe H st h a w){t:TypeId}(k:o.op = .alloc t){z:Value}(p:C03 P t=some z) (e:newBox st (vals z.cells.toList) t λav st=>K av st h):o.wp P a w (Nx P h0 w0 st be oe K a o.dst) Q:=by
 have m:wpS P (execOp a.eval o) H (λn d=>∃ b,H b=none/\n = .value (ptr b 0)/\d=H.set b (.cells z.cells t (0,0))):=by unfold execOp;rw[k];refine p00 _ _ _ ?_;simp only[Instr.alloc,newVar,newRow,newObj,Q2,n0g p,I3,wpS];exact λb c=>⟨b,c,rfl,rfl⟩
 obtain⟨n,d,s,l,⟨b,c,rfl,rfl⟩,f⟩:=u02 _ _ _ g.mv.vis m;have j:z.cells=z.cells.toList.toArray:=oS;rw[j]at f;rw[s0h]at e;obtain⟨q,i⟩:=g.newBox (J2.vals st oe _) c f;exact R9 l ⟨_,_,h,_,_,_,_,e,rfl,q,⟨oS,oS⟩,i⟩
theorem A0m{t:TypeId}{k a:Nat}(c:b0o P t k=some a):∃ b f n,P.underlying t=some (.struct b)/\b[k]?=some f/\J7 P f.type=some (n+1)/\f.offset=a:=by grind[b0o]
theorem j0v{t:TypeId}{b:Int}{c:Nat}(a:l0w P t b=some c):∃ n e sz,P.underlying t=some (.array n e)/\J7 P e=some (sz+1)/\0<=b/\b<(n:Int)/\c=b.toNat*(sz+1):=by
 unfold l0w at a;split at a
 ·rename_i n e m g;split at a
  ·rename_i sz f d;cases a;refine⟨n,e,sz,g,f,Int.natCast_nonneg m,?_,rfl⟩;have:m<n:=by simpa [Nat.blt_eq] using d
   exact Int.ofNat_lt.2 this
  cases a
 cases a
theorem m0b{t:TypeId}{x i:Operand}{k:IntKind}{f:Int}{d b off:Nat}(m:o.op = .indexAddr t x i)(q:l0w P t f=some d)(u:a.eval x=ptr b off)(j:a.eval i = .int k f): ∀ c:Next->Hp->Prop,c (.value (ptr b (off+d))) H->wpS P (execOp a.eval o) H c:=by intro c l;obtain⟨n,e,sz,s,p,g,h,rfl⟩:=j0v q;unfold execOp;rw[m];refine p00 _ _ _ ?_;simp only[Instr.indexAt,u,j,asIntOf,Q2,I3,M7 s,g,h,and_self,if_true,k04 p,M04,ptr,Instr.sureAddr];exact l
theorem exec_fieldAddr{t:TypeId}{x:Operand}{k d b off:Nat}(h:o.op = .fieldAddr t x k)(i:b0o P t k=some d)(l:a.eval x=ptr b off): ∀ c:Next->Hp->Prop,c (.value (ptr b (off+d))) H->wpS P (execOp a.eval o) H c:=by intro c e;obtain⟨m,f,n,j,hf,g,rfl⟩:=A0m i;unfold execOp;rw[h];refine p00 _ _ _ ?_;simp only[Instr.fieldAt,Q2,M7 j,hf,l,ptr,Instr.sureAddr,I3,fieldPlace,k04 g,Nat.add_one_ne_zero,if_false,M04];exact e
theorem o0o(f:Sim P h0 w0 be oe H st h a w){t:TypeId}{x:Operand}{k:Nat}(p:o.op = .fieldAddr t x k)
  (m:match rdO st x,b0o P t k with
  | .box i off,some d=>K (.box i (off+d)) st h
  | .hel f i sz k,some d=>K (.hel f i sz (k+d)) st h
  | .oel i f u sz k,some d=>K (.oel i f u sz (k+d)) st h
  | .val (.pointer (some ⟨b,off,none⟩)),some d=>K (.val (ptr b (off+d))) st h
  |_,_=>False):o.wp P a w (Nx P h0 w0 st be oe K a o.dst) Q:=by
 have g:=f.rdO x
 split at m
 ·rename_i i off d j l
  rw[j]at g
  exact R8 f (av := .box i (off+d)) (exec_fieldAddr p l g.2) ⟨g.1,rfl⟩ m
 ·rename_i sl i sz v d j l
  rw[j]at g
  obtain⟨b,D,n,c,q,s⟩:=g
  refine R8 f (av := .hel sl i sz (v+d)) (exec_fieldAddr p l s) ⟨b,D,n,c,q,?_⟩ m
  simp[Nat.add_assoc]
 ·rename_i i E u sz v d j l
  rw[j]at g
  obtain⟨e,I,by_,nn,xs,C⟩:=n0o j
  obtain⟨A,n,c,q,s⟩:=g.oel_cur C
  obtain⟨F,y,z,G⟩:=g
  refine R8 f (av := .oel i E u sz (v+d)) (exec_fieldAddr p l s) ⟨F,y,z,λ_=>⟨A,n,c,q,by simp[Nat.add_assoc]⟩⟩ m
 ·rename_i b off d j l
  rw[j]at g
  exact R8 f (av := .val (ptr b (off+d))) (exec_fieldAddr (b:=b) (off:=off) p l g) rfl m
 ·exact m.elim
theorem U01{t e:TypeId}(a:f04 P t=some e):P.underlying t=some (.slice e):=by grind[f04]
theorem exec_indexAddr{t e:TypeId}{x i:Operand}{k:IntKind}{d:Int}{sz b off n c:Nat}(m:o.op = .indexAddr t x i)(q:f04 P t=some e)(p:J7 P e=some sz) (u:a.eval x = .slice (some ⟨b,off,none⟩) n c) (j:a.eval i = .int k d) (g:0<=d) (h:d<(n:Int)) : ∀ f:Next->Hp->Prop,f (.value (ptr b (off+d.toNat*sz))) H->wpS P (execOp a.eval o) H f:=by intro f l;have s:=U01 q;unfold execOp;rw[m];refine p00 _ _ _ ?_;simp only[Instr.indexAt,u,j,asIntOf,Q2,I3,M7 s,g,h,and_self,if_true,k04 p,M04];exact l
theorem S0p(c:Sim P h0 w0 be oe H st h a w){t:TypeId}{x:Operand}{i off:Nat}{cs:List j7}{ty:TypeId}(l:o.op = .load t x)(m:rdO st x = .box i off) (k:nth st.bx i=some (.live cs ty)) (f:N08 P t cs off λav=>K av st h):o.wp P a w (Nx P h0 w0 st be oe K a o.dst) Q:=by have g:=c.rdO x;rw[m]at g;obtain⟨s,vs,d,e⟩:=c.box i cs ty k;obtain⟨av,v,n,p,z⟩:=load_row (H:=H) (b:=be i) (o:=0) (be:=be) f d (λy v j=>by simp[Hp.cell,e,j]);refine R8 c (λq u=>?_) p n;unfold execOp;rw[l];refine p00 _ _ _ ?_;rw[g.2];grind[Instr.loadAt,ptr,Instr.sureAddr,Q2,I3]
theorem T0p(d:Sim P h0 w0 be oe H st h a w){t:TypeId}{x:Operand}{sl:Value}{idx:Int}{sz k:Nat}{c:List Value}(q:o.op = .load t x)(u:rdO st x = .hel sl idx sz k) (j:U8 h sl sz idx c) (m:N08 P t (vals c) k λav=>K av st h):o.wp P a w (Nx P h0 w0 st be oe K a o.dst) Q:=by
 have g:=d.rdO x;rw[u]at g;obtain⟨b,C,n,cp,f,i⟩:=g;obtain⟨_,_,E,L,J,F,e,l⟩:=j;rw[f]at e;cases e;obtain⟨av,v,z,A,I⟩:=load_row (H:=H) (b:=b) (o:=C+idx.toNat*sz) (be:=be) m (J2.vals st oe c) (λy v p=>by
  have:=l y v p;unfold Hp.cell at this ⊢;split at this;·rename_i s;rw[d.sub _ _ s];exact this
  cases this)
 refine R8 d (λD G=>?_) A z;unfold execOp;rw[q];refine p00 _ _ _ ?_;rw[i];simp only[Instr.loadAt,ptr,Instr.sureAddr,Q2,I3];grind
theorem P07{sz:Nat}:∀(xs:LV) (i:Nat) (c:List Value),(∀ x∈xs,x.length=sz)->xs[i]?=some c->∀ a v,c[a]?=some v->xs.flatten[i*sz+a]?=some v
 | [],i,c,_,h,a,v,d=>by simp at h
 |x::xs,0,c,b,h,a,v,d=>by grind
 |x::xs,i+1,c,b,h,a,v,d=>by simp at h;have f:=b x mS;have:=P07 xs i c (λy e=>b y (mC _ e)) h a v d;grind
theorem z0a.cells{h H:Hp}{v:Value}{e sz:Nat}{nn:Bool}{xs:LV}(d:z0a h H v e sz nn xs){g n c:Nat}(l:v = .slice (some ⟨g,0,none⟩) n c): ∀ a u,xs.flatten[a]?=some u->Hp.cell H g a=some u:=by intro a u j;rcases d.2 with⟨b,_⟩|⟨f,cap,cur,b,_,i,_,_,_,k⟩;all_goals grind[Hp.cell]
theorem U0p(d:Sim P h0 w0 be oe H st h a w){t:TypeId}{x:Operand}{i F:Nat}{idx:Int}{sz k:Nat}{G e by_:Nat}{nn:Bool}{xs:LV}{c:List Value} (z:o.op = .load t x) (j:rdO st x = .oel i F idx sz k) (u:nth st.ow i=some ⟨G,.live e sz by_ nn xs⟩) (p:xs[idx.toNat]?=some c) (q:N08 P t (vals c) k λav=>K av st h):o.wp P a w (Nx P h0 w0 st be oe K a o.dst) Q:=by
 have g:=d.rdO x;rw[j]at g;obtain⟨L,S,J,R,T,y⟩:=n0o j;obtain⟨m,n,cp,l,M⟩:=g.oel_cur y;have f:=d.own i _ _ _ _ _ _ u;obtain⟨av,v,D,E,O⟩:=load_row (H:=H) (b:=m) (o:=idx.toNat*sz) (be:=be) q (J2.vals st oe c) (λC v s =>
  f.cells l _ _ (P07 xs _ c (λx A=>(f.1 x A).1) p C v s))
 refine R8 d (λI N=>?_) E D;unfold execOp;rw[z];refine p00 _ _ _ ?_;grind[Instr.loadAt,ptr,Instr.sureAddr,Q2,I3]
theorem n0b{t:TypeId}{p x:Operand}{b off n:Nat}{cur:List Value}{ty:TypeId}(e:o.op = .store t p x)(g:J7 P t=some n)(f:a.eval p=ptr b off) (d:(a.eval x).cells.toList.length=n) (i:∀ v∈(a.eval x).cells.toList,v.oneCell'=true) (j:H b=some (.cells cur.toArray ty (0,0))) (k:off+n<=cur.length) : ∀ c:Next->Hp->Prop,c .skip (H.set b (.cells (P3 cur off (a.eval x).cells.toList).toArray ty (0,0)))->wpS P (execOp a.eval o) H c:=by
 intro c l;unfold execOp;rw[e];refine p0A _ _ _ ?_;rw[f];have h:(a.eval x).cells.size=n:=by simpa using d
 simp only[Instr.storeAt,ptr,Instr.sureAddr,Q2,I3,storeVar,k04 g,h,ne_eq,not_true_eq_false,if_false];grind[V08]
theorem p0o(b:Sim P h0 w0 be oe H st h a w){t:TypeId}{p x:Operand}{i off n:Nat}{cs new:List j7}{ty:TypeId}(A:o.op = .store t p x)(C:rdO st p = .box i off) (k:nth st.bx i=some (.live cs ty)) (u:U02 (rdO st x)=some new) (E:J7 P t=some n) (v:j0b new n=true) (m:y09 st new=true) (c:g0v cs off new λcs=>K (.val undef) { st with bx:=p03 st.bx i (.live cs ty) } h):o.wp P a w (Nx P h0 w0 st be oe K a o.dst) Q:=by
 have g:=b.rdO p;rw[C]at g;have d:=z08 b u;have q:=A08 b _ _ m d;have y:=d06 _ _ v;obtain⟨J,vs,f,s⟩:=b.box i cs ty k;unfold g0v at c;split at c
 ·rename_i j;have j:=Nat.le_of_ble_eq_true j;have G:(a.eval x).cells.toList.length=n:=by rw[←d.length,y]
  have F:=n0b (H:=H) (P:=P) (a:=a) A E g.2 G q s (by rw[←f.length];omega);obtain⟨L,e,M,D,⟨rfl,rfl⟩,z⟩:=u02 _ _ _ b.mv.vis (F (λn e=>n = .skip/\e=_) ⟨rfl,rfl⟩);obtain⟨I,l⟩:=b.updBox k (f.splice d) z;exact M0d D ⟨_,_,h,_,_,_,_,c,rfl,I,rfl,l⟩
 exact c.elim
end
section
variable {P:Program} {h0:Hp} {w0:World} {be:Nat->Nat} {oe:Nat->Value} {H:Hp} {st:St} {h:Hp} {a:Act} {w:World} {o:Oper} {K:AV->St->Hp->Prop} {Q:Exit->Act->World->Prop}
theorem g03{sz:Nat}:∀(xs:LV),(∀ x∈xs,x.length=sz)->xs.flatten.length=xs.length*sz
 | [],_=>oS
 |x::xs,a=>by have:=g03 xs (λy b=>a y (mC _ b));grind
def J0t(w:World)(y:Value)(sz:Nat)(a:LV):Prop :=
 (∀ x∈a,x.length=sz/\∀ v∈x,v.oneCell'=true) /\
 ((∃ b c,y = .slice (some b) a.length c/\∀ d u,a.flatten[d]?=some u->w.cell? (b.add d)=some u)∨(∃ c,y = .slice none 0 c/\a = []))
theorem V2.newD{H:Hp}{w:World}(a:Vis H w)(x:Obj)(b:C0y x=true):V2 H w (H.set w.heap.size x) (w.drew.alloc x) :=
 (V2.drawn a (w.drawn+1) (Nat.le_succ _)).trans (V2.new (w:=w.drew) a x b)
theorem R05{H:Hp}{w:World}(a:Vis H w):H w.heap.size=none:=by
 cases hc:H w.heap.size with
 |none=>rfl
 |some x=>exact absurd (a.lt (b:=w.heap.size) (by simp[hc])) (Nat.lt_irrefl _)
theorem a0k{h H:Hp}(k:∀ b o,h b=some o->H b=some o){g:Nat}(j:H g=none){e sz cap:Nat}{nn:Bool}{xs:LV}{cur:Array Value} (a:∀ x∈xs,x.length=sz/\∀ v∈x,v.oneCell'=true) (c:xs.length<=cap) (d:cap<=maxLen) (f:cur.size=cap*sz) (i:cur.toList.take (xs.length*sz)=xs.flatten) : z0a h (H.set g (.cells cur e (0,0))) (.slice (some ⟨g,0,none⟩) xs.length cap) e sz nn xs:=by
 refine⟨a,.inr ⟨g,cap,cur,rfl,?_,by simp[Hp.set],c,d,f,i⟩⟩;cases hc:h g with
 |none=>rfl
 |some o=>grind
theorem A0i{t e ty sz by_:Nat}{i:TypeInfo}{z:Value}(m:P.underlying t=some (.slice e))(l:P.info? e=some i)(U:i.zero=some z)(an:i.size=sz)(aq:0<sz) (Z:i.bytes=by_) (Y:0<by_) (ao:z.cells.size=sz) {v:Value} {nn:Bool} {xs:LV} (q:z0a h H v e sz nn xs) (j:Vis H w) (am:∀ b o,h b=some o->H b=some o) {y:Value} {a:LV} (J:J0t w y sz a) (R:s0a (xs.length+a.length) by_) : ∃ D W E,(Builtin.append_ #[t,t] ty #[v,y]).run P w = .ok D W/\V2 H w E W/\z0a h E D e sz (nn || N07 a) (xs++a) /\ (∀ b,v.ownBlock≠some b->H b≠none->E b=H b)/\(∀ g,D.ownBlock=some g->v.ownBlock=some g∨H g=none)/\(a = []->D=v):=by
 subst an;subst Z;have aj:xs.length+a.length<=140737488355328:=Nat.le_trans (Nat.le_mul_of_pos_right _ Y) R;have ai:((xs.length+a.length:Nat):Int)<=9223372036854775807:=oM;have L:∀ x∈xs++a,x.length=i.size/\∀ v∈x,v.oneCell'=true:=λx d=>by
  rcases List.mem_append.1 d with d|d;·exact q.1 x d
  exact J.1 x d
 have M:=g03 xs (λx d=>(q.1 x d).1);have p:=g03 a (λx d=>(J.1 x d).1);have al:∀ u∈a.flatten,u.oneCell'=true:=λu au=>by grind[List.mem_flatten]
 have aa:∀ f,grownCap w (xs.length+a.length) f e<=maxLen:=λf=>grownCap_le_maxLen w _ f e (by unfold maxLen;omega);have grown:∀ f,z0a h (H.set w.heap.size (.cells (xs.flatten.toArray++a.flatten.toArray++Builtin.zeroCells z.cells (grownCap w (xs.length+a.length) f e-(xs.length+a.length))) e (0,0)))
   (.slice (some ⟨w.heap.size,0,none⟩) (xs++a).length (grownCap w (xs.length+a.length) f e)) e i.size (nn || N07 a) (xs++a):=λf=>by
  have af:=grownCap_ge w (xs.length+a.length) f e
  refine a0k am (R05 j) L (by simpa using af) (aa f) ?_ ?_
  ·simp only[Array.size_append,List.size_toArray,M,p,size_zeroCells,ao,←Nat.add_mul]
   congr 1;omega
  ·simp only[Array.toList_append,List.flatten_append,List.append_assoc,List.length_append]
   rw[←List.append_assoc,List.take_append_of_le_length oG,List.take_of_length_le oG]
 have S:a = []->z0a h H v e i.size (nn || N07 a) (xs++a):=λI=>by grind[N07]
 have V:∀(x:Obj) b,v.ownBlock≠some b->H b≠none->(H.set w.heap.size x) b=H b:=λx b _ ap=>Hp.set_other _ _ (λe=>by grind[R05]);rcases J.2 with⟨F,c,rfl,G⟩|⟨c,rfl,K⟩
 ·rcases q.2 with⟨rfl,rfl,rfl⟩|⟨g,cap,cur,rfl,ae,O,Q,ab,ac,ar⟩
  ·by_cases hm:a.length=0;·have K:a = []:=List.eq_nil_of_length_eq_zero hm;refine⟨_,w,H,?_,V2.refl j,S K,λ_ _ _=>rfl,λg A => .inl A,λ_=>rfl⟩;simp[Builtin.append_,run_underlying m,sizeOf,typeInfo,l,Builtin.lenOf,Builtin.firstCells,loadCells,loadCellsFrom,hm]
   have s:=run_append_nil (P:=P) w t ty e i z m l U F a.length c a.flatten p G oM (by simp at aj;omega) (by grind[s0a]);have n:=grown 0;simp only[List.length_nil,Nat.zero_add,List.nil_append,List.flatten_nil]at n;simp only[Array.empty_append]at n;refine⟨_,_,_,s,V2.newD j _ rfl,by simpa using n,V _,λg A => .inr ?_,λe=>oG⟩;grind[Value.ownBlock,R05]
  have ak:∀ C u,xs.flatten[C]?=some u->w.cell? ((⟨g,0,none⟩:Addr).add C)=some u:=λC u ag=>by rw[M04,Nat.zero_add];refine p0a j rfl ?_;exact q.cells rfl C u ag
  by_cases hroom:xs.length+a.length<=cap
  ·have T:=j _ _ O;have ad:xs.length*i.size+a.flatten.length<=cur.size:=by rw[p,ac,←Nat.add_mul];exact Nat.mul_le_mul_right _ hroom
   have s:=run_append_room (P:=P) w t ty e i m l g xs.length cap cur T F a.length c a.flatten p G al hroom ad;refine⟨_,_,H.set g (.cells (cur.toList.take (xs.length*i.size)++a.flatten++cur.toList.drop (xs.length*i.size+a.flatten.length)).toArray e (0,0)),s,
    V2.upd j O (λ_=>rfl) rfl rfl rfl oS (setRow_heap w g cur _ e _ T) (λk ah=>setRow_other w g k _ ah),?_,?_,λX N => .inl N,λI=>by simp[I]⟩
   ·refine⟨L,.inr ⟨g,cap,_,oS,ae,Hp.set_same _ _ _,by simpa using hroom,ab,?_,?_⟩⟩;·grind
    grind[List.flatten_append,List.length_append,Nat.add_mul,List.take_of_length_le]
   grind[Hp.set_other,Value.ownBlock]
  have s:=run_append_grow (P:=P) w t ty e i z m l U ⟨g,0,none⟩ xs.length cap xs.flatten M ak F a.length c a.flatten p G oM ai (growslice_fits oM R);have n:=grown cap;refine⟨_,_,_,s,V2.newD j _ rfl,by simpa using n,V _,λX N => .inr ?_,λI=>oG⟩;grind[Value.ownBlock,R05]
 refine⟨v,w,H,?_,V2.refl j,S K,λ_ _ _=>rfl,λg A => .inl A,λ_=>rfl⟩;rcases q.2 with⟨rfl,_⟩|⟨g,cap,cur,rfl,_,_,Q,_⟩;·simp[Builtin.append_,run_underlying m,sizeOf,typeInfo,l,Builtin.lenOf,Builtin.firstCells]
 simp[Builtin.append_,run_underlying m,sizeOf,typeInfo,l,Builtin.lenOf,Builtin.firstCells,Q,storeCells]
theorem K0e(b:Nat):∀(vs:List Value) (o:Nat) (w:World) (cur:Array Value) (ty:TypeId) (a:Nat×Nat),w.heap[b]?=some (.cells cur ty a)->(w.setCells b o vs).heap[b]?=some (.cells (P3 cur.toList o vs).toArray ty a)
 | [],o,w,cur,ty,a,h=>by simp_all[World.setCells,P3]
 |v::r,o,w,cur,ty,a,h=>by
  have c:(w.setCell ⟨b,o,none⟩ v).heap[b]?=some (.cells (cur.setIfInBounds o v) ty a):=by simp[World.setCell,Array.getElem?_modify,h]
  have:=K0e b r (o+1) _ _ _ _ c;simp_all[World.setCells,P3]
theorem A0c(b:Nat):∀(vs:List Value) (o:Nat) (w:World) (k:Nat),k≠b->(w.setCells b o vs).heap[k]?=w.heap[k]?
 | [],o,w,k,h=>rfl
 |v::r,o,w,k,h=>by rw[World.setCells,A0c b r (o+1) _ k h];simp only[World.setCell,Array.getElem?_modify];rw[if_neg (λe=>h e.symm)]
theorem B0i(b:Nat):∀(vs:List Value) (o:Nat) (w:World),(w.setCells b o vs).drawn=w.drawn
 | [],o,w=>rfl
 |v::r,o,w=>by rw[World.setCells,B0i b r (o+1)];unfold World.setCell;split<;>rfl
theorem L0e(b:Nat):∀(vs:List Value) (o:Nat) (w:World),(w.setCells b o vs).os=w.os/\(w.setCells b o vs).tape=w.tape/\(w.setCells b o vs).output=w.output/\(w.setCells b o vs).heap.size=w.heap.size
 | [],o,w=>⟨rfl,rfl,rfl,rfl⟩
 |v::r,o,w=>by obtain⟨a,c,d,e⟩:=L0e b r (o+1) (w.setCell ⟨b,o,none⟩ v);grind[World.setCells,World.setCell]
theorem B0c:∀(b vs:List Value) (off a:Nat),off+b.length<=vs.length->(P3 vs off b)[a]?=if off<=a/\a<off+b.length then b[a-off]? else vs[a]?
 | [],vs,off,a,h=>by simp only[P3,List.length_nil,Nat.add_zero];rw[if_neg oM]
 |n::b,vs,off,a,h=>by simp only[List.length_cons]at h;rw[P3,B0c b _ (off+1) a (by simp;omega)];grind
theorem q0o{t e ty sz by_:Nat}{i:TypeInfo}{z:Value}(H:P.underlying t=some (.slice e))(F:P.info? e=some i)(an:i.zero=some z)(aj:i.size=sz)(az:0<sz) (X:i.bytes=by_) (W:0<by_) (ao:z.cells.size=sz) {g o n c:Nat} {xs:LV} (V:R0j h sz (.slice (some ⟨g,o,none⟩) n c) xs) (l:Vis h w) {y:Value} {a:LV} (s:J0t w y sz a) (R:s0a (xs.length+a.length) by_) : ∃ S T h',(Builtin.append_ #[t,t] ty #[.slice (some ⟨g,o,none⟩) n c,y]).run P w = .ok S T/\V2 h w h' T/\e0o h h' sz g S (xs++a):=by
 subst aj;subst X;have ay:xs.length+a.length<=140737488355328:=Nat.le_trans (Nat.le_mul_of_pos_right _ W) R;have ad:((xs.length+a.length:Nat):Int)<=9223372036854775807:=oM;obtain⟨C,aw,aA,av,cur,m,U,Q,M,N,q,E⟩:=V;cases U;have K:∀ x∈xs++a,x.length=i.size/\∀ v∈x,v.oneCell'=true:=λx j=>by
  rcases List.mem_append.1 j with j|j;·exact C x j
  exact s.1 x j
 have O:=g03 xs (λx j=>(C x j).1);have p:=g03 a (λx j=>(s.1 x j).1);have ag:∀ u∈a.flatten,u.oneCell'=true:=λu ak=>by obtain⟨x,j,al⟩:=List.mem_flatten.1 ak;exact(s.1 x j).2 u al
 have ah:a = []->e0o h h i.size g (.slice (some ⟨g,o,none⟩) xs.length c) (xs++a):=λae=>by subst ae;rw[List.append_nil];exact⟨⟨C,g,o,c,cur,m,rfl,Q,M,N,q,E⟩,g,o,_,c,rfl,.inl rfl,λ_ _=>rfl⟩
 have I:=l _ _ q;rcases s.2 with⟨J,A,rfl,L⟩|⟨A,rfl,am⟩
 ·by_cases hroom:xs.length+a.length<=c
  ·have Y:o+xs.length*i.size+a.flatten.length<=cur.size:=by have:(xs.length+a.length)*i.size<=c*i.size:=Nat.mul_le_mul_right _ hroom;rw[Nat.add_mul]at this;rw[p];omega
   have ab:∀ d,d<a.flatten.length->(w.cell? ⟨g,o+xs.length*i.size+d,none⟩).isSome=true:=λd f=>by simp only[World.cell?,I];simp[show o+xs.length*i.size+d<cur.size by omega]
   have Z:∀ d,d<a.flatten.length->w.frozen? ⟨g,o+xs.length*i.size+d,none⟩=false:=λd f=>by rw[t05 (o := .cells cur m (0,0)) I];simp[w04]
   have G:=run_append_room_cells (P:=P) w t ty e i H F g o xs.length c J a.length A a.flatten p L ag hroom ab Z;have ai:=K0e g a.flatten (o+xs.length*i.size) w cur m (0,0) I;obtain⟨ap,aq,ar,au⟩:=L0e g a.flatten (o+xs.length*i.size) w;refine⟨_,_,h.set g (.cells (P3 cur.toList (o+xs.length*i.size) a.flatten).toArray m (0,0)),G,
    V2.upd l q (λ_=>rfl) ap aq ar au ai (λk ac=>A0c _ _ _ _ k ac) (Nat.le_of_eq (B0i _ _ _ _).symm),⟨K,g,o,c,_,m,by rw[List.length_append],by rw[List.length_append];exact hroom,M,?_,Hp.set_same _ _ _,λd u f=>?_⟩,g,o,_,c,rfl,.inl rfl,λb D=>Hp.set_other _ _ D⟩
   ·simpa [p01] using N
   rw[List.flatten_append]at f;rw[List.getElem?_toArray,B0c _ _ _ _ (by simpa using Y)];by_cases hlt:d<xs.flatten.length;·rw[List.getElem?_append_left hlt]at f;rw[if_neg oM,Array.getElem?_toList];exact E d u f
   rw[List.getElem?_append_right oM]at f;have ax:=(List.getElem?_eq_some_iff.1 f).1;rw[if_pos oM,show o+d-(o+xs.length*i.size)=d-xs.flatten.length by omega];exact f
  have af:∀ d u,xs.flatten[d]?=some u->w.cell? ((⟨g,o,none⟩:Addr).add d)=some u:=λd u f=>by rw[M04];refine p0a l rfl ?_;simp only[Hp.cell,q];exact E d u f
  have G:=run_append_grow (P:=P) w t ty e i z H F an ⟨g,o,none⟩ xs.length c xs.flatten O af J a.length A a.flatten p L oM ad (growslice_fits oM R);have aa:=grownCap_ge w (xs.length+a.length) c e;refine⟨_,_,_,G,V2.newD l _ rfl,⟨K,w.heap.size,0,grownCap w (xs.length+a.length) c e,_,e,by rw[List.length_append],by rw[List.length_append];exact aa,grownCap_le_maxLen w _ c e (by unfold maxLen;omega),?_,Hp.set_same _ _ _,λd u f=>?_⟩,w.heap.size,0,_,_,rfl,.inr (R05 l),λb D=>Hp.set_other _ _ D⟩;·simp only[Array.size_append,List.size_toArray,O,p,size_zeroCells,ao,←Nat.add_mul,Nat.zero_add];refine Nat.le_of_eq ?_;congr 1;omega
  rw[List.flatten_append]at f;rw[Nat.zero_add,←Array.getElem?_toList];simp only[Array.toList_append];rw[List.getElem?_append_left (by simpa using (List.getElem?_eq_some_iff.1 f).1)];exact f
 refine⟨_,w,h,?_,V2.refl l,ah am⟩;simp[Builtin.append_,run_underlying H,sizeOf,typeInfo,F,Builtin.lenOf,Builtin.firstCells,Q,storeCells]
theorem r0o{t e ty sz by_:Nat}{i:TypeInfo}{z:Value}(G:P.underlying t=some (.slice e))(D:P.info? e=some i)(I:i.zero=some z)(F:i.size=sz)(_:0<sz) (v:i.bytes=by_) (s:0<by_) (J:z.cells.size=sz) (m:Vis h w) {y:Value} {a:LV} (d:J0t w y sz a) (k:N07 a=true) (l:s0a a.length by_) : ∃ n o h',(Builtin.append_ #[t,t] ty #[.slice none 0 0,y]).run P w = .ok n o/\V2 h w h' o/\Z0r h h' sz n a:=by
 subst F;subst v;have K:a.length<=140737488355328:=Nat.le_trans (Nat.le_mul_of_pos_right _ s) l;have g:=g03 a (λx H=>(d.1 x H).1);rcases d.2 with⟨p,c,rfl,A⟩|⟨c,rfl,f⟩
 ·by_cases hm:a.length=0;·have f:a = []:=List.eq_nil_of_length_eq_zero hm;subst f;cases k
  have E:=run_append_nil (P:=P) w t ty e i z G D I p a.length c a.flatten g A oM oM (Nat.le_trans l oD);have C:=grownCap_ge w a.length 0 e;refine⟨_,_,_,E,V2.newD m _ rfl,⟨d.1,w.heap.size,0,grownCap w a.length 0 e,_,e,rfl,C,grownCap_le_maxLen w _ 0 e (by unfold maxLen;omega),?_,Hp.set_same _ _ _,λL u j=>?_⟩,w.heap.size,0,_,_,rfl,R05 m,λb q=>Hp.set_other _ _ q⟩;·simp only[Array.size_append,List.size_toArray,g,size_zeroCells,J,←Nat.add_mul,Nat.zero_add];refine Nat.le_of_eq ?_;congr 1;omega
  rw[Nat.zero_add,←Array.getElem?_toList];simp only[Array.toList_append];rw[List.getElem?_append_left (by simpa using (List.getElem?_eq_some_iff.1 j).1)];exact j
 subst f;cases k
theorem h0f{e sz by_:Nat}{z:Value}(a:J7 P e=some sz)(b:e0f P e=some by_)(c:C03 P e=some z):∃ i,P.info? e=some i/\i.size=sz/\i.bytes=by_/\i.zero=some z:=by grind[J7,e0f,C03]
theorem W08(m:Sim P h0 w0 be oe H st h a w){sz:Nat}(O:0<sz){b:Operand}{K:LV->Prop}(d:Q0j st h sz (rdO st b) K):∃ e,K e/\J0t w (a.eval b) sz e:=by
 have g:=m.rdO b;unfold Q0j at d;split at d
 ·rename_i i k l;obtain⟨M,S,L,R,I,p⟩:=l0b l;rw[l]at g;simp only[p]at d;split at d
  ·rename_i A;have E:=Nat.eq_of_beq_eq_true A;subst E;refine⟨I,d,?_⟩;have q:=m.own i _ _ _ _ _ _ p;rw[g.own_cur p];refine⟨q.1,?_⟩;rcases q.2 with⟨f,j,_⟩|⟨z,cap,cur,f,j,s,_⟩;·grind
   refine .inl ⟨⟨z,0,none⟩,cap,f,λi u o=>?_⟩;rw[M04,Nat.zero_add];exact p0a m.mv.vis rfl (q.cells f i u o)
  exact d.elim
 ·rename_i v l;rw[l]at g;obtain⟨e,D,C⟩:=d;refine⟨e,C,?_⟩;have F:a.eval b=v:=g;rw[F];obtain⟨f,x,n,c,rfl,rfl,N,j⟩:=D;refine⟨f,?_⟩;rcases j with j|⟨t,G,rfl,s⟩
  ·cases x with
   |none =>
    have Q:e = []:=by
     cases e with
     |nil=>rfl
     |cons y r =>simp_all
    grind
   |some J=>grind
  refine .inl ⟨⟨t,G,none⟩,c,rfl,λi u o=>?_⟩;rw[M04];exact p0a (y0c m) rfl (s i u o)
 exact d.elim
theorem t06{t:TypeId}{p q:Operand}{as:Array Operand}{b:Array TypeId}(f:o.op = .call { callee := .builtin .append,args:=as,argTypes:=b })(e:as = #[p,q])(h:b = #[t,t]) {c:Value} {d:World} (g:(Builtin.append_ #[t,t] o.type #[a.eval p,a.eval q]).run P w = .ok c d):(execOp a.eval o).run P w = .ok (.value c) d:=by subst e;subst h;unfold execOp;rw[f];simp only[resolve,invoke,builtin,Sem.run_bind,Sem.run_pure,Result.andThen_ok,List.map_toArray,List.map_cons,List.map_nil,g]
theorem k0v(d:Sim P h0 w0 be oe H st h a w){t:TypeId}{p q:Operand}{as:Array Operand}{X:Array TypeId}(F:o.op = .call { callee := .builtin .append,args:=as,argTypes:=X }) (C:as = #[p,q]) (I:X = #[t,t]) (c:S0j P t p q st h K):o.wp P a w (Nx P h0 w0 st be oe K a o.dst) Q:=by
 unfold S0j at c;split at c;rotate_left;·exact c.elim
 rename_i e ak;split at c;rotate_left;·exact c.elim
 rename_i sz by_ z ai D al;split at c;rotate_left;·exact c.elim
 rename_i am;obtain⟨i,E,L,M,N⟩:=h0f ai D al;have G:=U01 ak;have J:z.cells.size=sz+1:=by simpa using d06 _ _ am
 have g:=d.rdO p;split at c
 ·rename_i an k x;obtain⟨ar,aw,aq,av,ax,y⟩:=l0b x;rw[x]at g;simp only[y]at c;split at c;·rename_i ab ac au;have ad:=Nat.eq_of_beq_eq_true ab;have aj:=Nat.eq_of_beq_eq_true ac;subst ad;subst aj;obtain⟨W,⟨s,j⟩,u⟩:=W08 d (Nat.succ_pos sz) c;have ah:=d.own an _ _ _ _ _ _ y;obtain⟨l,V,O,f,n,A,T,U,_⟩:=A0i (ty:=o.type) G E N L (Nat.succ_pos _) M (Nat.succ_pos _) J ah d.mv.vis d.sub u s;obtain⟨v,R⟩:=d.updOwn (s1:=k+1) (by_:=by_+1) y (Nat.le_succ _) (λe=>absurd e (Nat.succ_ne_self k)) n T A U;rw[←g.own_cur y]at f;refine R9 (t06 F C I f) ⟨_,_,h,l,_,_,_,j,rfl,v,?_,R⟩;refine⟨k+1,?_,Nat.le_refl _,λ_=>oS⟩;simp[stamp,E9 _ _ _ (W04 y)]
  exact c.elim
 ·rename_i x;rw[x]at g;rcases c with c|c;rotate_left;·obtain⟨W,⟨⟨ae,s⟩,j⟩,u⟩:=W08 d (Nat.succ_pos sz) c;obtain⟨l,V,h',f,n,S⟩:=r0o (ty:=o.type) G E N L (Nat.succ_pos _) M (Nat.succ_pos _) J (y0c d) u ae s;have m:a.eval p = .slice none 0 0:=g;rw[←m]at f;obtain⟨O,v⟩:=d.moved n;exact R9 (t06 F C I f) ⟨_,_,_,l,_,_,_,j _ _ S,rfl,v,rfl,V8.refl _ _ _⟩
  obtain⟨W,⟨s,j⟩,u⟩:=W08 d (Nat.succ_pos sz) c;have ag:z0a h H (.slice none 0 0) e (sz+1) false []:=⟨oS,.inl ⟨rfl,rfl,rfl⟩⟩;obtain⟨l,V,O,f,n,A,T,U,_⟩:=A0i (ty:=o.type) G E N L (Nat.succ_pos _) M (Nat.succ_pos _) J ag d.mv.vis d.sub u (by simpa using s);simp only[Bool.false_or,List.nil_append]at A;have af:∀ g,l.ownBlock=some g->H g=none:=λg m=>(U g m).resolve_left (by simp[Value.ownBlock]);rw[r0h]at j;obtain⟨v,R⟩:=d.newOwn (by_:=by_+1) (λb o D=>by rw[T b (by simp[Value.ownBlock]) (by rw[D];simp)];exact D) n A af;have m:a.eval p = .slice none 0 0:=g;rw[←m]at f;refine R9 (t06 F C I f) ⟨_,_,h,l,_,_,_,j,rfl,v,?_,R⟩;refine⟨0,?_,Nat.le_refl _,λ_=>oS⟩;simp[stamp,Q05]
 ·rename_i Z ap ao Y x;rw[x]at g;obtain⟨W,⟨xs,aa,s,j⟩,u⟩:=W08 d (Nat.succ_pos sz) c;obtain⟨l,V,h',f,n,S⟩:=q0o (ty:=o.type) G E N L (Nat.succ_pos _) M (Nat.succ_pos _) J aa (y0c d) u s;have m:a.eval p = .slice (some ⟨Z,ap,none⟩) ao Y:=g;rw[←m]at f;obtain⟨O,v⟩:=d.moved n;exact R9 (t06 F C I f) ⟨_,_,_,l,_,_,_,j _ _ S,rfl,v,rfl,V8.refl _ _ _⟩
 exact c.elim
end
section
variable {P:Program} {h0:Hp} {w0:World} {be:Nat->Nat} {oe:Nat->Value} {H:Hp} {st:St} {h:Hp} {a:Act} {w:World} {o:Oper} {K:AV->St->Hp->Prop} {Q:Exit->Act->World->Prop}
theorem o0b:∀(a cs:List Value) (off:Nat),off+a.length<=cs.length->P3 cs off a=cs.take off++a++cs.drop (off+a.length)
 | [],cs,off,_=>by simp[P3]
 |n::a,cs,off,c=>by
  simp only[List.length_cons]at c;rw[P3,o0b a (cs.set off n) (off+1) (by simp;omega)];rw[List.take_set,List.drop_set_of_lt oM];have b:(cs.take (off+1)).set off n=cs.take off ++ [n]:=by
   rw[List.take_succ_eq_append_getElem oM,List.set_append_right _ _ (by simp;omega)];have:off-(cs.take off).length=0:=by simp;omega
   rw[this];simp
  rw[b];simp only[List.length_cons,List.append_assoc,List.cons_append,List.nil_append];rw[show off+1+a.length=off+(a.length+1) from oM]
theorem o0g(off:Nat):∀(l:List Value) (k:Nat) (a:Array Value),((l.zipIdx k).foldl (λcs p=>cs.setIfInBounds (off+p.2) p.1) a).toList=P3 a.toList (off+k) l
 | [],k,a=>rfl
 |x::l,k,a=>by simp only[List.zipIdx_cons,List.foldl_cons,P3];rw[o0g off l (k+1)];simp[Nat.add_assoc]
theorem b0k(v:Value)(off:Nat)(a:Array Value):(v.cells.zipIdx.foldl (λcs (p:Value×Nat)=>cs.setIfInBounds (off+p.2) p.1) a).toList=P3 a.toList off v.cells.toList:=by rw[←Array.foldl_toList,Array.toList_zipIdx];simp_all[o0g]
def O0d(a:Act)(sz:Nat):Nat->List (Nat×Operand)->LV->Prop
 |_,[],[]=>True
 |i,(j,x)::r,c::cs=>j=i/\c=(a.eval x).cells.toList/\c.length=sz/\(∀ v∈c,v.oneCell'=true)/\O0d a sz (i+1) r cs
 |_,_,_=>False
theorem O0d.all{sz:Nat}:∀ {i:Nat} {l:List (Nat×Operand)} {xs:LV},O0d a sz i l xs->(∀ x∈xs,x.length=sz/\∀ v∈x,v.oneCell'=true)/\l.length=xs.length
 |_,[],[],_=>oS
 |i,(e,x)::r,c::cs,h=>by
  have d:=O0d.all h.2.2.2.2;refine⟨λy b=>?_,by simp[d.2]⟩;rcases List.mem_cons.1 b with rfl|b;·exact⟨h.2.2.1,h.2.2.2.1⟩
  exact d.1 y b
 |_,[],_::_,h=>h.elim
 |_,_::_,[],h=>h.elim
theorem c0k{sz:Nat}:∀(l:List (Nat×Operand)) (xs:LV) (i:Nat) (b:Array Value),O0d a sz i l xs->(i+l.length)*sz<=b.size -> ∃ e,Instr.fill (λi=>some (i*sz,sz)) b (l.map λp=>(p.1,a.eval p.2))=some e/\e.toList=b.toList.take (i*sz)++xs.flatten++b.toList.drop ((i+l.length)*sz)
 | [],[],i,b,_,f=>⟨b,rfl,oS⟩
 |(d,x)::r,c::cs,i,b,h,f=>by
  obtain⟨rfl,j,k,_,o⟩:=h;have s:(a.eval x).cells.size=sz:=by rw[←k,j];simp
  have y:d*sz+sz<=b.size:=by refine Nat.le_trans ?_ f;simp only[List.length_cons];grind
  have g:=b0k (a.eval x) (d*sz) b;rw[←j]at g;have q:=o0b c b.toList (d*sz) oG;have t:((a.eval x).cells.zipIdx.foldl (λcs (p:Value×Nat)=>cs.setIfInBounds (d*sz+p.2) p.1) b).size=b.size:=by grind[Array.length_toList,p01]
  obtain⟨e,w,m⟩:=c0k r cs (d+1) ((a.eval x).cells.zipIdx.foldl (λcs (p:Value×Nat)=>cs.setIfInBounds (d*sz+p.2) p.1) b) o (by rw[t];simp only[List.length_cons]at f;grind);refine⟨e,?_,?_⟩;·simp only[List.map_cons,Instr.fill,s,ne_eq,not_true_eq_false,decide_false,Bool.false_or,decide_eq_true_eq];grind
  rw[m,g,q,k];have u:(b.toList.take (d*sz)++c++b.toList.drop (d*sz+sz)).take ((d+1)*sz)=b.toList.take (d*sz)++c:=by rw[List.take_append_of_le_length,List.take_of_length_le];all_goals grind
  have v:(b.toList.take (d*sz)++c++b.toList.drop (d*sz+sz)).drop ((d+1+r.length)*sz)=b.toList.drop ((d+(r.length+1))*sz):=by have n:(b.toList.take (d*sz)++c).length=d*sz+sz:=oG;rw[List.drop_append,List.drop_eq_nil_of_le oG,n,List.nil_append,List.drop_drop];congr 1;simp only[Nat.add_mul];omega
  grind
 | [],_::_,_,_,h,_=>h.elim
 |_::_,[],_,_,h,_=>h.elim
theorem C0i{sz:Nat}:∀(l:List (Nat×Operand)) (i:Nat) {st:St} {h:Hp} {K:LV->St->Hp->Prop},Sim P h0 w0 be oe H st h a w->D0p sz i l st h K -> ∃ xs st' h',K xs st' h'/\Sim P h0 w0 be oe H st' h' a w/\V8 st be oe st' be oe/\O0d a sz i l xs
 | [],i,st,h,K,c,b=>⟨[],st,h,b,c,V8.refl _ _ _,trivial⟩
 |(t,x)::r,i,st,h,K,c,b=>by
  simp only[D0p]at b;split at b
  ·rename_i k;have m:=Nat.eq_of_beq_eq_true k;obtain⟨u,s,d,s1,f⟩:=s06 c (c.rdO x) b;split at d;·rename_i n o;obtain⟨xs,q,j,e,s2,g,p⟩:=C0i r (i+1) s1 d;exact⟨_,q,j,e,s2,f.trans g,m.symm,rfl,d06 _ _ n,O07 _ o,p⟩
   exact d.elim
  exact b.elim
theorem k0m(V:Sim P h0 w0 be oe H st h a w){t n:Nat}{c:Array (Nat×Operand)}{e sz by_:Nat}{z:Value}(M:o.op = .buildSlice t n c)(R:f04 P t=some e)(O:J7 P e=some (sz+1)) (T:C03 P e=some z) (aa:Nat.beq n c.size=true) (G:Nat.ble (n*(sz+1)) 16777216=true) (E:D0p (sz+1) 0 c.toList st h λxs st h=>newOwn st e (sz+1) by_ true xs λav st=>K av st h):o.wp P a w (Nx P h0 w0 st be oe K a o.dst) Q:=by
 obtain⟨xs,ac,C,q,s1,v,U⟩:=C0i _ _ V E;obtain⟨D,Y⟩:=U.all;have k:n=xs.length:=by simp_all
 have I:=Nat.le_of_ble_eq_true G;have S:wpS P (execOp a.eval o) H (λu m=>∃ b d,H b=none/\u = .value (.slice (some ⟨b,0,none⟩) xs.length xs.length)/\m=H.set b (.cells d e (0,0))/\d.toList=xs.flatten/\d.size=xs.length*(sz+1)):=by
  unfold execOp;rw[M];refine p00 _ _ _ ?_;have s:∀ d:Array Value,d.size=xs.length*(sz+1)->∃ f,Instr.fill (λi=>some (i*(sz+1),sz+1)) d (c.toList.map λp=>(p.1,a.eval p.2))=some f/\f.toList=xs.flatten/\f.size=xs.length*(sz+1):=by grind[c0k,Array.length_toList,g03]
  have F : ¬ (n*(sz+1)>2 ^ 24):=Nat.not_lt.2 I;simp only[Instr.buildSlice,Q2,M7 (U01 R),k04 O,if_neg F,I3];have Z:(c.map λx=>(x.1,a.eval x.2)).toList=c.toList.map λp=>(p.1,a.eval p.2):=oS;by_cases h00:n*(sz+1)=0;·simp only[if_pos h00,I3];obtain⟨f,l,f2,f3⟩:=s ((Array.range (n*(sz+1))).map λi=>(#[]:Array Value)[i % (#[]:Array Value).size]!) (by simp[k]);rw[show(Array.map (λx=>(x.1,a.eval x.2)) c).toList=c.toList.map λp=>(p.1,a.eval p.2) from oS];simp only[l,Q2,newRow,newObj,wpS,I3];exact λb j=>⟨b,f,j,by rw[k],rfl,f2,f3⟩
  simp only[if_neg h00,Q2,n0g T,I3];obtain⟨f,l,f2,f3⟩:=s ((Array.range (n*(sz+1))).map λi=>z.cells[i % z.cells.size]!) (by simp[k]);rw[show(Array.map (λx=>(x.1,a.eval x.2)) c).toList=c.toList.map λp=>(p.1,a.eval p.2) from oS];simp only[l,Q2,newRow,newObj,wpS,I3];exact λb j=>⟨b,f,j,by rw[k],rfl,f2,f3⟩
 obtain⟨u,m,ad,N,⟨b,d,j,rfl,rfl,f2,f3⟩,L⟩:=u02 _ _ _ s1.mv.vis S;have J:xs.length<=maxLen:=by have:xs.length<=xs.length*(sz+1):=Nat.le_mul_of_pos_right _ (Nat.succ_pos _);grind[maxLen]
 rw[r0h]at q;obtain⟨W,A⟩:=s1.newOwn (nn:=true) (by_:=by_) (λx y ab=>by grind[Hp.set_other]) L
  (a0k s1.sub j D (Nat.le_refl _) J f3 (by rw[f2,List.take_of_length_le oG])) (λg X=>by grind[Value.ownBlock])
 refine R9 N ⟨_,_,C,_,_,_,_,q,rfl,W,?_,v.trans A⟩;refine⟨0,?_,Nat.le_refl _,λ_=>oS⟩;simp[stamp,Q05]
theorem X08{sz:Nat}(c:List Value)(d:c.length=sz)(e:0<sz):∀(l b:Nat),b<l*sz->(List.replicate l c).flatten[b]?=c[b % sz]?
 |0,b,h=>by simp at h
 |l+1,b,h=>by
  simp only[List.replicate_succ,List.flatten_cons];have h':b<l*sz+sz:=oG;by_cases hj:b<sz;·rw[List.getElem?_append_left oM,Nat.mod_eq_of_lt hj]
  rw[List.getElem?_append_right oM,d,X08 c d e l (b-sz) oM,←Nat.mod_eq_sub_mod (a:=b) oM]
theorem l0v{sz:Nat}(z:Value)(c:z.cells.toList.length=sz)(d:0<sz)(l n:Nat)(f:l*sz<=n):(madeCells z.cells n).toList.take (l*sz)=(List.replicate l z.cells.toList).flatten:=by
 have e:z.cells.size=sz:=by simpa using c
 apply List.ext_getElem?;intro a;rw[List.getElem?_take];by_cases hj:a<l*sz
 ·rw[if_pos hj,X08 _ c d l a hj];have b:a % sz<z.cells.size:=by simp_all[Nat.mod_lt]
  simp only[madeCells,e,Array.toList_map,Array.toList_range,List.getElem?_map,List.getElem?_range (show a<n from oM),Option.map_some,Array.getElem?_toList,Array.getElem?_eq_getElem b];congr 1;simp[b]
 rw[if_neg hj];simp_all
theorem s0o(f:Sim P h0 w0 be oe H st h a w){t e sz by_:Nat}{l c:Operand}{z:Value}{m k:IntKind}{d b:Int}(Y:o.op = .makeSlice t l c)(O:f04 P t=some e) (N:J7 P e=some (sz+1)) (D:e0f P e=some by_) (R:C03 P e=some z) (I:rdO st l = .val (.int m d)) (F:rdO st c = .val (.int k b)) (S:j0b z.cells.toList (sz+1)=true) (Z:O08 z.cells.toList=true) (E:0<=d/\d<=b/\b*by_<=140737488355328/\b<=9223372036854775807) (p:newOwn st e (sz+1) by_ true (List.replicate d.toNat z.cells.toList) λav st=>K av st h):o.wp P a w (Nx P h0 w0 st be oe K a o.dst) Q:=by
 obtain⟨i,G,u,ab,T⟩:=h0f N D R;have X:a.eval l = .int m d:=by have:=f.rdO l;rw[I]at this;exact this
 have W:a.eval c = .int k b:=by have:=f.rdO c;rw[F]at this;exact this
 obtain⟨v,A,V,b4⟩:=E;have J:=d06 _ _ S;have aa:=run_make (P:=P) w t e i z (U01 O) G T m k d b v A oG b4;have M:(execOp a.eval o).run P w = .ok (.value (.slice (some ⟨w.heap.size,0,none⟩) d.toNat b.toNat)) (w.alloc (.cells (madeCells z.cells (b.toNat*i.size)) e)):=by simp_all[execOp,Sem.run_bind,Result.andThen_ok,Sem.run_pure]
 have L:V2 H w (H.set w.heap.size (.cells (madeCells z.cells (b.toNat*i.size)) e (0,0))) (w.alloc (.cells (madeCells z.cells (b.toNat*i.size)) e)):=V2.new f.mv.vis _ rfl;have q:(List.replicate d.toNat z.cells.toList).length=d.toNat:=oS;have n:=a0k (h:=h) (H:=H) (e:=e) (sz:=sz+1) (nn:=true) (cap:=b.toNat) (xs:=List.replicate d.toNat z.cells.toList) (cur:=madeCells z.cells (b.toNat*i.size)) f.sub (R05 f.mv.vis)
  (λx j=>by grind[O07]) (by simp;omega) (by unfold maxLen;omega) (by rw[size_madeCells,u])
  (by rw[q,u];exact l0v z J (Nat.succ_pos _) _ _ (Nat.mul_le_mul_right _ oM))
 rw[q]at n;rw[r0h]at p;obtain⟨U,C⟩:=f.newOwn (by_:=by_) (λx y j=>by rw[Hp.set_other _ _ (λe=>by subst e;rw[R05 f.mv.vis]at j;cases j)];exact j) L n
  (λg s=>by simp[Value.ownBlock]at s;rw[←s];exact R05 f.mv.vis)
 refine R9 M ⟨_,_,h,_,_,_,_,p,rfl,U,?_,C⟩;refine⟨0,?_,Nat.le_refl _,λ_=>oS⟩;simp[stamp,Q05]
end
section
variable {P:Program} {h0:Hp} {w0:World} {be:Nat->Nat} {oe:Nat->Value} {H:Hp} {st:St} {h:Hp} {a:Act} {w:World} {o:Oper} {K:AV->St->Hp->Prop} {Q:Exit->Act->World->Prop}
theorem t0o(j:Sim P h0 w0 be oe H st h a w){t:TypeId}{x i:Operand}(z:o.op = .indexAddr t x i)
  (d:match rdO st i with
  | .val (.int _ m)=>match f04 P t with
   |some e=>match J7 P e with
    |some sz=>match rdO st x with
     | .val (.slice a n c)=>InB (.slice a n c) m/\K (.hel (.slice a n c) m sz 0) st h
     | .own i k=>match nth st.ow i with
      |some ⟨_,.live _ N _ _ xs⟩=>match Nat.beq N sz with
       |true=>(0<=m/\m<(xs.length:Int))/\K (.oel i k m sz 0) st h
       |false=>False
      |_=>False
     |_=>False
    |none=>False
   |none=>match rdO st x,l0w P t m with
    | .box i off,some l=>K (.box i (off+l)) st h
    | .hel j i sz k,some l=>K (.hel j i sz (k+l)) st h
    | .oel i j m sz k,some l=>K (.oel i j m sz (k+l)) st h
    |_,_=>False
  |_=>False):o.wp P a w (Nx P h0 w0 st be oe K a o.dst) Q:=by
 have gi:=j.rdO i
 have f:=j.rdO x
 split at d
 rotate_left
 ·exact d.elim
 rename_i k m U
 rw[U]at gi
 split at d
 rotate_left
 ·split at d
  ·rename_i p off l q y
   rw[q]at f
   exact R8 j (av := .box p (off+l)) (m0b z y f.2 gi) ⟨f.1,rfl⟩ d
  ·rename_i sl p sz G l q y
   rw[q]at f
   obtain⟨b,Y,n,c,v,E⟩:=f
   refine R8 j (av := .hel sl p sz (G+l)) (m0b z y E gi) ⟨b,Y,n,c,v,?_⟩ d
   simp[Nat.add_assoc]
  ·rename_i p Z X sz G l q y
   rw[q]at f
   obtain⟨e,N,by_,nn,xs,s⟩:=n0o q
   obtain⟨S,n,c,v,E⟩:=f.oel_cur s
   obtain⟨ab,O,R,ag⟩:=f
   refine R8 j (av := .oel p Z X sz (G+l)) (m0b z y E gi) ⟨ab,O,R,λ_=>⟨S,n,c,v,by simp[Nat.add_assoc]⟩⟩ d
  ·exact d.elim
 rename_i e J
 split at d
 rotate_left
 ·exact d.elim
 rename_i sz I
 split at d
 ·rename_i ac n c A
  rw[A]at f
  obtain⟨⟨b,off,ah,ae,v,D,u⟩,F⟩:=d
  cases v
  exact R8 j (av := .hel _ m sz 0) (exec_indexAddr z J I f gi D u) ⟨b,off,n,c,rfl,oS⟩ F
 ·rename_i p M A
  obtain⟨af,aa,ad,ai,xs,s⟩:=l0b A
  rw[A]at f
  simp only[s]at d
  split at d
  ·rename_i T
   have W:=Nat.eq_of_beq_eq_true T
   subst W
   obtain⟨⟨D,u⟩,F⟩:=d
   have V:=j.own p _ _ _ _ _ _ s
   rcases V.2 with⟨_,C,_⟩|⟨g,cap,cur,L,_⟩
   ·rw[C]at u;simp at u;omega
   ·have C:=f.own_cur s
    rw[L]at C
    refine R8 j (av := .oel p M m aa 0) (exec_indexAddr z J I C gi D u) ⟨M,by simp[stamp,s],Nat.le_refl _,λ_=>⟨g,xs.length,cap,L,oS⟩⟩ F
  ·exact d.elim
 ·exact d.elim
theorem P0d{sz:Nat}:∀(xs:LV) (k:Nat),(∀ x∈xs,x.length=sz)->(xs.take k).flatten=xs.flatten.take (k*sz)
 | [],k,_=>oS
 |x::xs,0,_=>oS
 |x::xs,k+1,a=>by have b:=a x mS;simp only[List.take_succ_cons,List.flatten_cons];rw[P0d xs k (λy c=>a y (mC _ c)),List.take_append (l₁:=x),List.take_of_length_le (l:=x) oG,b,Nat.add_mul,Nat.one_mul,Nat.add_sub_cancel]
theorem B0m{sz:Nat}:∀(xs:LV) (k:Nat),(∀ x∈xs,x.length=sz)->(xs.drop k).flatten=xs.flatten.drop (k*sz)
 | [],k,_=>oS
 |x::xs,0,_=>oS
 |x::xs,k+1,a=>by have b:=a x mS;simp only[List.drop_succ_cons,List.flatten_cons];rw[B0m xs k (λy c=>a y (mC _ c)),List.drop_append (l₁:=x),List.drop_of_length_le (l:=x) oG,b,Nat.add_mul,Nat.one_mul,Nat.add_sub_cancel,List.nil_append]
def Y08(a:Act)(d:Int)(x:Option Operand)(l:Int):Prop:=match x with
 |none=>l=d
 |some y=>∃ k,a.eval y = .int k l
theorem p0b(c:Sim P h0 w0 be oe H st h a w){d l:Int}{x:Option Operand}(b:z09 d (x.map (rdO st))=some l):Y08 a d x l:=by
 cases x with
 |none=>simp only[Option.map_none,z09,Option.some.injEq]at b;exact b.symm
 |some y =>
  have g:=c.rdO y;simp only[Option.map_some]at b;cases hr:rdO st y with
  |val v =>rw[hr]at b g;cases v<;>simp only[z09,Option.some.injEq]at b<;>first|(subst b;exact⟨_,g⟩)|cases b
  |_=>rw[hr]at b;cases b
theorem Q0d{x:Value}{k:IntKind}{i:Int}{y:Nat}{b:BoundsCode}(e:x = .int k i)(c:0<=i)(d:i<=(y:Int))(a:Nat->Hp->Prop):wpS P (Instr.sliceBound x y b) H a=a i.toNat H:=by subst e;simp only[Instr.sliceBound,asIntOf,Q2,I3,c,d,and_self,if_true]
theorem d0k{isS:Bool}{n c:Nat}{f b:Option Operand}{l m:Int}(i:Y08 a 0 f l)(d:Y08 a n b m)(h:0<=l)(s:l<=m)(t:m<=(n:Int))(u:n<=c) (g:Nat×Nat×Nat->Hp->Prop):wpS P (Instr.sliceBounds isS n c (f.map a.eval) (b.map a.eval) none) H g=g (l.toNat,m.toNat,c) H:=by
 have q:l<=(m.toNat:Int):=oM;cases f with
 |none =>
  have p:l=0:=i;subst p;cases b with
  |none =>have j:m=(n:Int):=d;simp_all[Instr.sliceBounds,Option.map_none,Q2,I3]
  |some y =>obtain⟨k,e⟩:=d;simp only[Instr.sliceBounds,Option.map_none,Option.map_some,Q2,I3,Q0d e oM (show m<=(c:Int) by omega)];rfl
 |some x =>
  obtain⟨k,o⟩:=i;cases b with
  |none =>have j:m=(n:Int):=d;subst j;simp only[Instr.sliceBounds,Option.map_none,Option.map_some,Q2,I3,Q0d o h (show l<=((n:Nat):Int) by omega)];rfl
  |some y =>obtain⟨v,e⟩:=d;simp only[Instr.sliceBounds,Option.map_some,Q2,I3,Q0d e oM (show m<=(c:Int) by omega),Q0d o h q]
theorem exec_slice{t e sz:Nat}{x:Operand}{g f:Option Operand}{d:Option Addr}{n c:Nat}{l m:Int}(s:o.op = .slice t x g f none)(u:f04 P t=some e)(y:J7 P e=some sz) (v:a.eval x = .slice d n c) (k:Y08 a 0 g l) (p:Y08 a n f m) (h:0<=l) (i:l<=m) (j:m<=(n:Int)) (q:n<=c) : ∀ b:Next->Hp->Prop,b (.value (.slice (if c=l.toNat then d else d.map (·.add (l.toNat*sz))) (m.toNat-l.toNat) (c-l.toNat))) H->wpS P (execOp a.eval o) H b:=by intro b w;unfold execOp;rw[s];refine p00 _ _ _ ?_;simp only[Instr.sliceAt,Q2,M7 (U01 u),Instr.slice,v,Option.map_none];rw[d0k k p h i j q];grind[k04,I3]
theorem m0v(j:Sim P h0 w0 be oe H st h a w){t e sz:Nat}{x:Operand}{z u:Option Operand}{d:Option Addr}{n c:Nat}(O:o.op = .slice t x z u none)(T:f04 P t=some e)(S:J7 P e=some sz) (R:rdO st x = .val (.slice d n c)) (g:b0s sz (.slice d n c) n (z.map (rdO st)) (u.map (rdO st)) st h K):o.wp P a w (Nx P h0 w0 st be oe K a o.dst) Q:=by
 have q:=j.rdO x;rw[R]at q;unfold b0s at g;split at g;rotate_left;·exact g.elim
 rename_i l m I L;obtain⟨⟨A,C,D⟩,xs,E,G⟩:=g;obtain⟨f,U,aa,V,p,Y,M,s⟩:=E;cases p;have J:((xs.take m.toNat).drop l.toNat).length=m.toNat-l.toNat:=by simp;omega
 have N:SlE h sz (.slice (if c=l.toNat then d else d.map (·.add (l.toNat*sz))) (m.toNat-l.toNat) (c-l.toNat)) ((xs.take m.toNat).drop l.toNat):=by
  refine⟨λy k=>f y (List.mem_of_mem_take (List.mem_of_mem_drop k)),_,_,_,rfl,J.symm,oM,?_⟩;rcases s with s|⟨b,off,rfl,F⟩;·grind[List.flatten_eq_nil_iff,List.mem_of_mem_take,List.mem_of_mem_drop]
  by_cases hcl:c=l.toNat;·grind
  right;rw[if_neg hcl];refine⟨b,off+l.toNat*sz,by simp[M04],λZ v X=>?_⟩;have i:=g03 xs (λx i=>(f x i).1);rw[Nat.add_assoc];refine F _ _ ?_;have p:(xs.take m.toNat).flatten=xs.flatten.take (m.toNat*sz):=P0d xs _ (λx i=>(f x i).1);have W:((xs.take m.toNat).drop l.toNat).flatten=((xs.take m.toNat).flatten).drop (l.toNat*sz):=B0m _ _ (λy k=>(f y (List.mem_of_mem_take k)).1);grind
 exact R8 j (av := .val _) (exec_slice O T S q (p0b j I) (p0b j L) A C D M) rfl (G _ N λ_ _ _ e=>by cases e;rfl)
theorem n0v(d:Sim P h0 w0 be oe H st h a w){t e sz:Nat}{x:Operand}{C p:Option Operand}{i k:Nat}(M:o.op = .slice t x C p none)(R:f04 P t=some e)(O:J7 P e=some sz) (N:rdO st x = .own i k) (c:a0s i (C.map (rdO st)) (p.map (rdO st)) st h K):o.wp P a w (Nx P h0 w0 st be oe K a o.dst) Q:=by
 have G:=d.rdO x;rw[N]at G;obtain⟨U,D,T,ao,xs,q⟩:=l0b N;unfold a0s at c;split at c;rotate_left;·exact c.elim
 rename_i am m aq z;simp only[q]at c;obtain⟨⟨S,F⟩,J⟩:=c;have af:C=none:=by simp_all
 subst af;have L:Y08 a (xs.length:Int) p m:=by
  cases p with
  |none=>simp at z
  |some y =>have g:=d.rdO y;simp only[Option.map_some,Option.some.injEq]at z;rw[z]at g;exact⟨am,g⟩
 have A:=d.own i _ _ _ _ _ _ q;have b:=G.own_cur q;have ar:∀ v,v=oe i->v.ownBlock=(oe i).ownBlock:=λv aj=>by rw[aj]
 have an:∃ v,(∀ f:Next->Hp->Prop,f (.value v) H->wpS P (execOp a.eval o) H f)/\v.ownBlock=(oe i).ownBlock/\z0a h H v U D ao (xs.take m.toNat):=by
  have I:∀ y∈xs.take m.toNat,y.length=D/\∀ v∈y,v.oneCell'=true:=λy al=>A.1 y (List.mem_of_mem_take al);rcases A.2 with⟨j,s,u⟩|⟨g,cap,cur,j,s,u,X,Y,Z,aa⟩
  ·rw[j]at b;subst s;have ag:m=0:=by simp at F;omega
   subst ag;refine⟨_,exec_slice M R O b (l:=0) rfl L oM oM oS (Nat.le_refl _),?_,I,.inl ⟨oS,oS,u⟩⟩;grind
  rw[j]at b;refine⟨.slice (some ⟨g,0,none⟩) m.toNat cap,λf J=>exec_slice M R O b (l:=0) rfl L oM S F X f ?_,by rw[j];rfl,I,.inr ⟨g,cap,cur,?_,s,u,?_,Y,Z,?_⟩⟩;·grind[Int.toNat,Addr.add]
  ·have:(xs.take m.toNat).length=m.toNat:=by simp;omega
   rw[this]
  ·simp;omega
  have ae:(xs.take m.toNat).length=m.toNat:=by simp;omega
  rw[ae];have V:(xs.take m.toNat).flatten=xs.flatten.take (m.toNat*D):=P0d xs _ (λx b=>(A.1 x b).1);rw[V,←aa,List.take_take];congr 1;rw[Nat.min_eq_left (Nat.mul_le_mul_right _ oM)]
 obtain⟨v,ak,ac,ab⟩:=an;obtain⟨au,E,av,ai,⟨rfl,rfl⟩,ah⟩:=u02 _ _ _ d.mv.vis (ak (λn E=>n = .value v/\E=H) ⟨rfl,rfl⟩);obtain⟨ap,W⟩:=d.updOwn (s1:=k+1) (by_:=T) q (Nat.le_succ _) (λe=>absurd e (Nat.succ_ne_self k)) ah (λ_ _ _=>rfl) ab (λg ad => .inl (by rw[←ac];exact ad));refine R9 ai ⟨_,_,h,v,_,_,_,J,rfl,ap,?_,W⟩;refine⟨k+1,?_,Nat.le_refl _,λ_=>oS⟩;simp_all[stamp,E9,W04]
theorem exec_cutStr{t:TypeId}{x:Operand}{e d:Option Operand}{b:ByteArray}{l m:Int}(n:o.op = .slice t x e d none)(p:P.underlying t=some .string) (q:a.eval x = .string b) (j:Y08 a 0 e l) (k:Y08 a b.size d m) (f:0<=l) (g:l<=m) (h:m<=(b.size:Int)) : ∀ c:Next->Hp->Prop,c (.value (.string (b.extract l.toNat m.toNat))) H->wpS P (execOp a.eval o) H c:=by intro c i;unfold execOp;rw[n];refine p00 _ _ _ ?_;simp only[Instr.sliceAt,Q2,M7 p,Instr.slice,q,Option.map_none,Option.isSome_none,Bool.false_eq_true,if_false,I3];rw[d0k j k f g h (Nat.le_refl _)];exact i
theorem exec_index{t:TypeId}{x i:Operand}{b:ByteArray}{k:IntKind}{e:Int}{c:UInt8}(l:o.op = .index t x i)(m:P.underlying t=some .string)(n:a.eval x = .string b)(h:a.eval i = .int k e) (f:0<=e) (g:b[e.toNat]?=some c):∀ d:Next->Hp->Prop,d (.value (.int .u8 c.toNat)) H->wpS P (execOp a.eval o) H d:=by intro d j;unfold execOp;rw[l];refine p00 _ _ _ ?_;simp only[Instr.index,n,h,asIntOf,Q2,I3,M7 m,f,if_true,g];exact j
theorem exec_quo{t j:TypeId}{x y:Operand}{b c:Int}(g:o.op = .binOp .quo t x y j)(h:a.eval x = .int .i64 b)(i:a.eval y = .int .i64 c)(f:c≠0): ∀ d:Next->Hp->Prop,d (.value (.int .i64 (IntKind.i64.wrap (b.tdiv c)))) H->wpS P (execOp a.eval o) H d:=by intro d e;unfold execOp;rw[g];refine p00 _ _ _ ?_;simp only[h,i,eqGuard,Q2,Bool.not_false,if_true,I3,binOp,Go.Op.intDiv,if_neg f,ne_eq,not_true_eq_false,if_false];exact e
theorem exec_rem{t j:TypeId}{x y:Operand}{b c:Int}(g:o.op = .binOp .rem t x y j)(h:a.eval x = .int .i64 b)(i:a.eval y = .int .i64 c)(f:c≠0): ∀ d:Next->Hp->Prop,d (.value (.int .i64 (b.tmod c))) H->wpS P (execOp a.eval o) H d:=by intro d e;unfold execOp;rw[g];refine p00 _ _ _ ?_;simp only[h,i,eqGuard,Q2,Bool.not_false,if_true,I3,binOp,Go.Op.intDiv,if_neg f,ne_eq,not_true_eq_false,if_false];exact e
theorem G0w{t j:TypeId}{x y:Operand}{b c:Int}(g:o.op = .binOp .shl t x y j)(h:a.eval x = .int .i64 b)(i:a.eval y = .int .i64 c)(k:0<=c): ∀ d:Next->Hp->Prop,d (.value (.int .i64 (IntKind.i64.wrap (b*2 ^ min c.toNat 64)))) H->wpS P (execOp a.eval o) H d:=by intro d e;unfold execOp;rw[g];refine p00 _ _ _ ?_;have f : ¬ c<0:=oM;simp only[h,i,eqGuard,Q2,Bool.not_false,if_true,I3,binOp,Go.Op.shift,if_neg f,IntKind.bits];exact e
theorem H0w{t j:TypeId}{x y:Operand}{b c:Int}(g:o.op = .binOp .shr t x y j)(h:a.eval x = .int .i64 b)(i:a.eval y = .int .i64 c)(k:0<=c): ∀ d:Next->Hp->Prop,d (.value (.int .i64 (b.fdiv (2 ^ min c.toNat 64)))) H->wpS P (execOp a.eval o) H d:=by intro d e;unfold execOp;rw[g];refine p00 _ _ _ ?_;have f : ¬ c<0:=oM;simp only[h,i,eqGuard,Q2,Bool.not_false,if_true,I3,binOp,Go.Op.shift,if_neg f,IntKind.bits];exact e
theorem exec_cat{t j:TypeId}{x y:Operand}{b c:ByteArray}(g:o.op = .binOp .add t x y j)(h:a.eval x = .string b)(i:a.eval y = .string c)(k:b.size+c.size<=9223372036854775807): ∀ d:Next->Hp->Prop,d (.value (.string (b++c))) H->wpS P (execOp a.eval o) H d:=by
 intro d e;unfold execOp;rw[g];refine p00 _ _ _ ?_;have f : ¬ (((b.size+c.size:Nat):Int)>IntKind.i64.max):=by have:IntKind.i64.max=9223372036854775807:=oD;rw[this];omega
 simp only[h,i,eqGuard,Q2,Bool.not_false,if_true,I3,binOp,Go.Op.stringOp,if_neg f];exact e
end
section
variable {P:Program} {h0:Hp} {w0:World} {be:Nat->Nat} {oe:Nat->Value} {H:Hp} {st:St} {h:Hp} {a:Act} {w:World} {o:Oper} {K:AV->St->Hp->Prop} {Q:Exit->Act->World->Prop}
theorem D0i:∀(a c r:List Value) (k:Nat),k+a.length<=c.length->P3 (c++r) k a=P3 c k a++r
 | [],c,r,k,_=>rfl
 |n::a,c,r,k,b=>by simp only[List.length_cons]at b;simp only[P3];rw[List.set_append_left _ _ oM,D0i a _ r (k+1) (by simp;omega)]
theorem p0g:∀(a x l:List Value) (k:Nat),P3 (x++l) (x.length+k) a=x++P3 l k a
 | [],x,l,k=>rfl
 |n::a,x,l,k=>by simp only[P3];rw[List.set_append_right _ _ oM,Nat.add_sub_cancel_left,Nat.add_assoc,p0g a x _ (k+1)]
theorem C0c{sz:Nat}(a:List Value)(k:Nat):∀(xs:LV) (i:Nat) (c:List Value),(∀ x∈xs,x.length=sz)->xs[i]?=some c->k+a.length<=c.length -> (xs.set i (P3 c k a)).flatten=P3 xs.flatten (i*sz+k) a
 | [],i,c,_,h,_=>by simp at h
 |x::xs,0,c,d,h,b=>by simp at h;subst h;simp only[List.set_cons_zero,List.flatten_cons,Nat.zero_mul,Nat.zero_add];rw[D0i a x _ k b]
 |x::xs,i+1,c,d,h,b=>by simp at h;have f:=d x mS;simp only[List.set_cons_succ,List.flatten_cons];rw[C0c a k xs i c (λy e=>d y (mC _ e)) h b];rw[show(i+1)*sz+k=x.length+(i*sz+k) from oG,p0g]
theorem D09:∀(a cs:List Value) (off N:Nat),(P3 cs off a).take N=P3 (cs.take N) off a
 | [],cs,off,N=>rfl
 |n::a,cs,off,N=>by simp only[P3];rw[D09 a _ (off+1) N,List.take_set]
theorem e0k:∀(a cs:List Value) (off:Nat) (v:Value),v∈P3 cs off a->v∈cs∨v∈a
 | [],cs,off,v,h => .inl h
 |n::a,cs,off,v,h=>by rcases e0k a _ (off+1) v h with h|h;all_goals grind
theorem u0o(F:Sim P h0 w0 be oe H st h a w){t:TypeId}{p x:Operand}{i O:Nat}{idx:Int}{sz k:Nat}(ak:o.op = .store t p x)(am:rdO st p = .oel i O idx sz k)
  (ad:rfy (rdO st x) st h λv st h=>match nth st.ow i,J7 P t with
   |some ⟨z,.live e d by_ nn xs⟩,some n=>match j0b v.cells.toList n,O08 v.cells.toList,Nat.beq z O,Nat.beq d sz with
    |true,true,true,true=>∃ c,xs[idx.toNat]?=some c/\g0v c k v.cells.toList λq =>
      K (.val undef) { st with ow:=p03 st.ow i ⟨z,.live e d by_ nn (xs.set idx.toNat q)⟩ } h
    |_,_,_,_=>False
   |_,_=>False):o.wp P a w (Nx P h0 w0 st be oe K a o.dst) Q:=by
 have J:=F.rdO p
 rw[am]at J
 obtain⟨az,L,f,s1,I⟩:=s06 F (F.rdO x) ad
 have S:=J.grow I
 split at f
 rotate_left
 ·exact f.elim
 rename_i z e d by_ nn xs n C ao
 split at f
 rotate_left
 ·exact f.elim
 rename_i ah al X Y
 have ap:=Nat.eq_of_beq_eq_true X
 have aq:=Nat.eq_of_beq_eq_true Y
 subst ap;subst aq
 obtain⟨c,s,j⟩:=f
 unfold g0v at j
 split at j
 rotate_left
 ·exact j.elim
 rename_i A
 have A:=Nat.le_of_ble_eq_true A
 have ai:=d06 _ _ ah
 have N:=O07 _ al
 obtain⟨g,ax,q,u,D⟩:=S.oel_cur C
 have l:=s1.own i _ _ _ _ _ _ C
 rcases l.2 with⟨m,_⟩|⟨R,cap,cur,m,af,ag,M,ab,ac,ar⟩
 ·rw[m]at u;cases u
 rw[m]at u;cases u
 have Z:=(List.getElem?_eq_some_iff.1 s)
 have aa:c.length=d:=(l.1 c (List.mem_of_getElem? s)).1
 have V:idx.toNat*d+k+n<=cur.toList.length:=by
  have:(idx.toNat+1)*d<=q*d:=Nat.mul_le_mul_right _ (Nat.le_trans Z.1 M)
  grind
 have av:=n0b (H:=H) (P:=P) (a:=a) (cur:=cur.toList) ak ao D ai N (by simpa using ag) V
 obtain⟨ay,G,aA,an,⟨rfl,rfl⟩,aj⟩:=u02 _ _ _ s1.mv.vis (av (λn G=>n = .skip/\G=_) ⟨rfl,rfl⟩)
 rw[B0a]at j
 have U:z0a L (H.set g (.cells (P3 cur.toList (idx.toNat*d+k) (a.eval x).cells.toList).toArray e (0,0))) (oe i) e d nn (xs.set idx.toNat (P3 c k (a.eval x).cells.toList)):=by
  refine⟨λy E=>?_,.inr ⟨g,q,_,by simpa using m,af,Hp.set_same _ _ _,by simpa using M,ab,by simp[p01,ac],?_⟩⟩
  ·rcases List.mem_or_eq_of_mem_set E with E|rfl
   ·exact l.1 y E
   ·refine⟨by rw[p01,aa],λv au=>?_⟩
    rcases e0k _ _ _ _ au with h'|h'
    ·exact(l.1 c (List.mem_of_getElem? s)).2 v h'
    ·exact N v h'
  ·rw[C0c (sz:=d) _ _ xs idx.toNat c (λx D=>(l.1 x D).1) s A,←ar]
   simp only[List.length_set]
   rw[D09]
 obtain⟨aw,T⟩:=s1.updOwn (s1:=z) (by_:=by_) C (Nat.le_refl _) (λ_=>rfl) aj (λb W _=>Hp.set_other _ _ (λe=>W (by rw[m,e];rfl))) U (λR ae => .inl ae)
 exact M0d an ⟨_,_,L,_,_,_,_,j,rfl,aw,rfl,I.trans T⟩
theorem v0o(c:Sim P h0 w0 be oe H st h a w){t:TypeId}{p x:Operand}{sl:Value}{idx:Int}{sz k:Nat}{v:Value}(z:o.op = .store t p x)(A:rdO st p = .hel sl idx sz k)
    (F:rdO st x = .val v) (D:J7 P t=some 1)
    (s : ∃ b of n cp cur ty, (sl = .slice (some ⟨b, of, none⟩) n cp ∧ 0 ≤ idx ∧ h b = some (.cells cur ty (0, 0)) ∧ of + (idx.toNat * sz + k) < cur.size ∧ c06 v) ∧
            K (.val undef) st (h.set b (.cells (cur.setIfInBounds (of+(idx.toNat*sz+k)) v) ty (0,0)))):o.wp P a w (Nx P h0 w0 st be oe K a o.dst) Q:=by
  have e:=c.rdO p
  rw[A]at e
  have f:a.eval x=v:=by have:=c.rdO x;rw[F]at this;exact this
  obtain⟨b,off,n,cp,cur,ty,⟨j,_,q,L,M⟩,u⟩:=s
  obtain⟨I,S,O,J,d,l⟩:=e
  rw[j]at d;cases d
  have g:v.cells = #[v]:=by cases v<;>simp_all [c06,Value.cells]
  have N:v.oneCell'=true:=by cases v<;>simp_all [c06,Value.oneCell']
  have E:=n0b (H:=h) (P:=P) (a:=a) (cur:=cur.toList) z D l (by rw[f,g];rfl) oG (by simpa using q) (by simp;omega)
  obtain⟨R,h',T,C,⟨rfl,rfl⟩,y⟩:=u02 _ _ _ (y0c c) (E (λn h'=>n = .skip/\h'=_) ⟨rfl,rfl⟩)
  obtain⟨G,i⟩:=c.moved y
  have m:(P3 cur.toList (off+(idx.toNat*sz+k)) (a.eval x).cells.toList).toArray=cur.setIfInBounds (off+(idx.toNat*sz+k)) v:=by
    rw[f,g]
    apply Array.ext'
    simp[P3]
  rw[m]at i
  exact M0d C ⟨_,_,_,_,_,_,_,u,rfl,i,rfl,V8.refl _ _ _⟩
theorem M0e(c:Sim P h0 w0 be oe H st h a w){t:TypeId}{p x:Operand}{sl:Value}{idx:Int}{sz k n:Nat}{new:List Value}(y:o.op = .store t p x)(z:rdO st p = .hel sl idx sz k) (g:(a.eval x).cells.toList=new) (C:J7 P t=some n) (s:j0b new n=true) (I:O08 new=true) (q:t0a h sl idx (idx.toNat*sz+k) new λh'=>K (.val undef) st h'):o.wp P a w (Nx P h0 w0 st be oe K a o.dst) Q:=by have e:=c.rdO p;rw[z]at e;obtain⟨b,off,L,cp,cur,ty,⟨j,_,m,J⟩,f⟩:=q;obtain⟨F,O,M,G,d,l⟩:=e;rw[j]at d;cases d;have u:=d06 _ _ s;have D:=n0b (H:=h) (P:=P) (a:=a) (cur:=cur.toList) y C l (by rw[g];exact u) (by grind[O07]) (by simpa using m) (by simp;omega);obtain⟨N,h',R,A,⟨rfl,rfl⟩,v⟩:=u02 _ _ _ (y0c c) (D (λn h'=>n = .skip/\h'=_) ⟨rfl,rfl⟩);obtain⟨E,i⟩:=c.moved v;rw[B0a]at f;rw[g]at i;exact M0d A ⟨_,_,_,_,_,_,_,f,rfl,i,rfl,V8.refl _ _ _⟩
theorem N0e:∀(c:List Field),r0a P c=true->∃ b,c.mapM (λf:Field=>(P.info? f.type).map λi=>(f.offset,i.size))=some b /\ ∀(k:Nat) (f:Field) (n:Nat),c[k]?=some f->J7 P f.type=some n->b[k]?=some (f.offset,n)
 | [],_=>⟨[],rfl,oS⟩
 |f::r,h=>by
  simp only[r0a]at h;split at h
  ·rename_i m a;obtain⟨b,d,e⟩:=N0e r h;unfold J7 at a;split at a;·rename_i i j;cases a;refine⟨(f.offset,i.size)::b,by simp_all,λk g n l o=>?_⟩;grind[J7]
   cases a
  cases h
theorem q0g{d:Array Field}{m:List (Nat×Nat)}(h:∀(k:Nat) (f:Field) (n:Nat),d.toList[k]?=some f->J7 P f.type=some n->m[k]?=some (f.offset,n)){rd:Operand->AV}
  (j:∀ x cs,U02 (rd x)=some cs->J2 st oe cs (a.eval x).cells.toList):∀(l:List (Nat×Operand)) {cs:List j7} {vs:List Value} {K:List j7->Prop},J2 st oe cs vs->o0c P d rd l cs K ->
  ∃ cs' c,K cs'/\J2 st oe cs' c/\Instr.fill (m.toArray[·]?) vs.toArray (l.map λp=>(p.1,a.eval p.2))=some c.toArray
 | [],cs,vs,K,g,b=>⟨cs,vs,b,g,rfl⟩
 |(i,x)::r,cs,vs,K,g,b=>by
  simp only[o0c]at b
  split at b
  rotate_left
  ·exact b.elim
  rename_i f new hf t
  split at b
  rotate_left
  ·exact b.elim
  rename_i n v
  split at b
  rotate_left
  ·exact b.elim
  rename_i s q
  have E:=d06 _ _ s
  have D:=Nat.le_of_ble_eq_true q
  have e:=j x new t
  have u:=h i f n (by simpa using hf) v
  have C:=g.length
  have F:=e.length
  obtain⟨cs',c,y,z,G⟩:=q0g h j r (g.splice e) b
  refine⟨cs',c,y,z,?_⟩
  have w:(a.eval x).cells.size=n:=oG
  simp only[List.map_cons,Instr.fill,List.getElem?_toArray,u,w,ne_eq,not_true_eq_false,decide_false,Bool.false_or,decide_eq_true_eq]
  rw[if_neg (by simp;omega)]
  have o:=b0k (a.eval x) f.offset vs.toArray
  have A:((a.eval x).cells.zipIdx.foldl (λcs (p:Value×Nat)=>cs.setIfInBounds (f.offset+p.2) p.1) vs.toArray)=(P3 vs f.offset (a.eval x).cells.toList).toArray:=by
   rw[←o]
  grind
theorem V0p(D:Sim P h0 w0 be oe H st h a w){t:TypeId}{c:Array (Nat×Operand)}{b:Array Field}{z:Value}{rd:Operand->AV}{K':AV->Prop}(u:o.op = .build t c)(y:P.underlying t=some (.struct b)) (l:C03 P t=some z) (g:r0a P b.toList=true) (k:∀ x cs,U02 (rd x)=some cs->J2 st oe cs (a.eval x).cells.toList) (j:o0c P b rd c.toList (vals z.cells.toList) λcs=>K' (.agg cs)) : ∃ av v,K' av/\N2 st be oe av v/\∀ w:World,(execOp a.eval o).run P w = .ok (.value v) w:=by
 obtain⟨C,p,f⟩:=N0e b.toList g;obtain⟨cs',e,m,n,A⟩:=q0g (st:=st) (oe:=oe) (a:=a) f k c.toList (J2.vals st oe z.cells.toList) j;have d:=l;unfold C03 at d;split at d;rotate_left;·cases d
 rename_i i s;have q:P.built t (c.map λx=>(x.1,a.eval x.2)).toList=some e.toArray:=by unfold Program.built;simp_all
 refine⟨_,.agg e.toArray,m,⟨e,rfl,n⟩,λw=>?_⟩;simp_all[execOp,Sem.run_bind,run_build,Result.andThen_ok,Sem.run_pure]
theorem O0e{sz:Nat}{rd:Operand->AV}
  (f:∀ x cs,U02 (rd x)=some cs->J2 st oe cs (a.eval x).cells.toList):∀(l:List (Nat×Operand)) {cs:List j7} {vs:List Value} {K:List j7->Prop},J2 st oe cs vs->X0f sz rd l cs K ->
  ∃ cs' d,K cs'/\J2 st oe cs' d/\Instr.fill (λi=>some (i*sz,sz)) vs.toArray (l.map λp=>(p.1,a.eval p.2))=some d.toArray
 | [],cs,vs,K,g,b=>⟨cs,vs,b,g,rfl⟩
 |(i,x)::r,cs,vs,K,g,b=>by
  simp only[X0f]at b
  split at b
  rotate_left
  ·exact b.elim
  rename_i new q
  split at b
  rotate_left
  ·exact b.elim
  rename_i n m
  have o:=d06 _ _ n
  have z:=Nat.le_of_ble_eq_true m
  have e:=f x new q
  have y:=g.length
  have t:=e.length
  obtain⟨cs',d,u,v,w⟩:=O0e f r (g.splice e) b
  refine⟨cs',d,u,v,?_⟩
  have s:(a.eval x).cells.size=sz:=by rw[←o,t];simp
  simp only[List.map_cons,Instr.fill,s,ne_eq,not_true_eq_false,decide_false,Bool.false_or,decide_eq_true_eq]
  rw[if_neg (by simp;omega)]
  have h:=b0k (a.eval x) (i*sz) vs.toArray
  have k:((a.eval x).cells.zipIdx.foldl (λcs (p:Value×Nat)=>cs.setIfInBounds (i*sz+p.2) p.1) vs.toArray)=(P3 vs (i*sz) (a.eval x).cells.toList).toArray:=by
   rw[←h]
  rw[show((a.eval x).cells.zipIdx.foldl (λcs (x:Value×Nat)=>match x with|(c,j)=>cs.setIfInBounds (i*sz+j) c) vs.toArray)=(P3 vs (i*sz) (a.eval x).cells.toList).toArray from k]
  simpa using w
theorem W0p(E:Sim P h0 w0 be oe H st h a w){t e:TypeId}{n sz:Nat}{b:Array (Nat×Operand)}{z:Value}{rd:Operand->AV}{K':AV->Prop}(m:o.op = .build t b)(s:P.underlying t=some (.array n e)) (u:C03 P t=some z) (c:J7 P e=some sz) (q:∀ x cs,U02 (rd x)=some cs->J2 st oe cs (a.eval x).cells.toList) (j:X0f sz rd b.toList (vals z.cells.toList) λcs=>K' (.agg cs)) : ∃ av v,K' av/\N2 st be oe av v/\∀ w:World,(execOp a.eval o).run P w = .ok (.value v) w:=by
 obtain⟨cs',f,y,A,C⟩:=O0e (st:=st) (oe:=oe) (a:=a) q b.toList (J2.vals st oe z.cells.toList) j;have d:=u;unfold C03 at d;split at d;rotate_left;·cases d
 rename_i i k;unfold J7 at c;split at c;rotate_left;·cases c
 rename_i D l;cases c;have g:P.built t (b.map λx=>(x.1,a.eval x.2)).toList=some f.toArray:=by unfold Program.built;simp only[k,s,d,l];rw[show(Array.map (λx=>(x.1,a.eval x.2)) b).toList=b.toList.map λp=>(p.1,a.eval p.2) from oS];simpa using C
 refine⟨_,.agg f.toArray,y,⟨f,rfl,A⟩,λw=>?_⟩;unfold execOp;rw[m];simp only[Sem.run_bind,run_build w t _ _ g,Result.andThen_ok,Sem.run_pure]
theorem l0m(c:Sim P h0 w0 be oe H st h a w){x:Operand}{cs:List j7}(b:n0c (rdO st x)=some cs):∃ vs:List Value,a.eval x = .agg vs.toArray/\J2 st oe cs vs:=by
 have g:=c.rdO x;cases hr:rdO st x with
 |val v =>rw[hr]at b g;cases v<;>simp only[n0c,Option.some.injEq]at b<;>first|(subst b;exact⟨_,by rw[show a.eval x=_ from g],J2.vals _ _ _⟩)|cases b
 |agg cs' =>rw[hr]at b g;simp only[n0c,Option.some.injEq]at b;subst b;exact g
 |_=>rw[hr]at b;cases b
theorem I0w(m:Sim P h0 w0 be oe H st h a w){t:TypeId}{x:Operand}{k:Nat}{cs:List j7}{l:Array Field}{f:Field}(u:o.op = .field t x k)(q:n0c (rdO st x)=some cs) (z:P.underlying t=some (.struct l)) (hf:l[k]?=some f) (b:N08 P f.type cs f.offset λav=>K av st h):o.wp P a w (Nx P h0 w0 st be oe K a o.dst) Q:=by
 obtain⟨vs,D,g⟩:=l0m m q;unfold N08 at b;have fin:∀(av:AV) (v:Value),K av st h->N2 st be oe av v->(∀ d:Value->Hp->Prop,d v H->wpS P (part f.type vs.toArray f.offset) H d)->o.wp P a w (Nx P h0 w0 st be oe K a o.dst) Q:=by intro av v i s C;refine R8 m (λd y=>?_) s i;unfold execOp;rw[u];refine p00 _ _ _ ?_;grind[Instr.field,Q2,M7,asAgg,I3]
 split at b
 ·rename_i e;split at b
  ·rename_i n j;split at b;·refine fin _ (.agg ((vs.drop f.offset).take n).toArray) b ⟨_,rfl,(g.drop _).take _⟩ λd i=>?_;simp only[part,Q2,N0d e,if_true,k04 j,I3];grind
   exact b.elim
  exact b.elim
 ·rename_i e;split at b;·rename_i c j;obtain⟨v,A,p⟩:=g.nth j;refine fin _ v b (N2.ofCell p) λd i=>?_;simp only[part,Q2,N0d e,Bool.false_eq_true,if_false];grind[I3]
  exact b.elim
 exact b.elim
theorem r0g{t:TypeId}{e:TypeId}{x:Operand}{as:Array Operand}{b:Array TypeId}{d:Option Addr}{n c:Nat}(g:o.op = .call { callee := .builtin .len,args:=as,argTypes:=b })(f:as = #[x])(i:b = #[t]) (h:f04 P t=some e) (j:a.eval x = .slice d n c) (w:World):(execOp a.eval o).run P w = .ok (.value (.int .i64 n)) w:=by subst f;subst i;unfold execOp;rw[g];simp only[resolve,invoke,builtin,Builtin.len_,Sem.run_bind,Sem.run_pure,Result.andThen_ok,List.map_toArray,List.map_cons,List.map_nil,j,List.getElem?_toArray,List.getElem?_cons_zero,run_underlying (U01 h),goInt]
end
section
variable {P:Program} {h0:Hp} {w0:World} {be:Nat->Nat} {oe:Nat->Value} {H:Hp} {st:St} {h:Hp} {a:Act} {w:World} {o:Oper} {K:AV->St->Hp->Prop} {Q:Exit->Act->World->Prop}
theorem D0c(d:Sim P h0 w0 be oe H st h a w){av:AV}{v:Value}(c:∀ w:World,(execOp a.eval o).run P w = .ok (.value v) w)(g:N2 st be oe av v)(b:K av st h):o.wp P a w (Nx P h0 w0 st be oe K a o.dst) Q :=
 R9 (c w) ⟨av,st,h,v,be,oe,H,b,rfl,d,g,V8.refl _ _ _⟩
set_option maxHeartbeats 1000000 in
theorem r03(j:Sim P h0 w0 be oe H st h a w)(d:J00 P o st h K):o.wp P a w (Nx P h0 w0 st be oe K a o.dst) Q:=by
 cases ho:o.op with
 |move x=>simp only[J00,ho]at d;exact I0t j (.inl ho) d
 |assign x=>simp only[J00,ho]at d;exact I0t j (.inr ho) d
 |box t x =>
  simp only[J00,ho]at d;split at d;·rename_i cs E;exact q0A j ho E d
  exact d.elim
 |alloc t =>
  simp only[J00,ho]at d;split at d;·rename_i z O;exact F0w j ho O d
  exact d.elim
 |fieldAddr t x k=>simp only[J00,ho]at d;exact o0o j ho d
 |indexAddr t x i=>simp only[J00,ho]at d;exact t0o j ho d
 |load t x =>
  simp only[J00,ho]at d;split at d
  ·rename_i i off s;split at d;·rename_i cs ty I;exact S0p j ho s I d
   exact d.elim
  ·rename_i sl idx sz k s;obtain⟨c,E,u⟩:=d;exact T0p j ho s E u
  ·rename_i i ah idx sz k s;split at d
   ·rename_i bb e bc by_ nn xs I;split at d;·rename_i V;have ac:=Nat.eq_of_beq_eq_true V;subst ac;obtain⟨c,E,u⟩:=d;exact U0p j ho s I E u
    exact d.elim
   exact d.elim
  exact q01 j d
 |store t p x =>
  simp only[J00,ho]at d;split at d
  ·rename_i i off s;split at d
   ·rename_i cs ty new n I E C;split at d;·rename_i G A;exact p0o j ho s I E C G A d
    exact d.elim
   exact d.elim
  ·rename_i i ah idx sz k s;exact u0o j ho s d
  ·rename_i sl idx sz k s;split at d
   ·rename_i v q;split at d;·rename_i C;exact v0o j ho s q C d
    ·rename_i n _ C;split at d;·rename_i G A;exact M0e j ho s (by have:=j.rdO x;rw[q]at this;rw[show a.eval x=v from this]) C G A d
     exact d.elim
    exact d.elim
   ·rename_i cs q;split at d
    ·rename_i n new C N;split at d;·rename_i G A;refine M0e j ho s ?_ C G A d;have g:=j.rdO x;rw[q]at g;obtain⟨vs,az,aA⟩:=g;rw[az,z0c N aA];rfl
     exact d.elim
    exact d.elim
   exact d.elim
  exact q01 j d
 |build t aR =>
  simp only[J00,ho]at d;split at d
  ·rename_i ay z M O;split at d;·rename_i W;obtain⟨av,v,ae,af,ag⟩:=V0p (K':=λav=>K av st h) j ho M O W (λx cs E=>z08 j E) d;exact D0c j ag af ae
   exact d.elim
  ·rename_i n e z M O;split at d;·rename_i sz C;obtain⟨av,v,ae,af,ag⟩:=W0p (K':=λav=>K av st h) j ho M O C (λx cs E=>z08 j E) d;exact D0c j ag af ae
   exact d.elim
  exact d.elim
 |buildSlice t n aR =>
  simp only[J00,ho]at d;split at d
  ·rename_i e J;split at d
   ·rename_i sz by_ z C V O;split at d;·rename_i I aa G;exact k0m j ho J C O I aa d
    exact d.elim
   exact d.elim
  exact d.elim
 |makeSlice t l c =>
  simp only[J00,ho]at d;split at d
  ·rename_i e J;split at d
   ·rename_i sz by_ z a6 ba a5 a8 C V O G E;split at d;·rename_i aK aG;exact s0o j ho J C V O G E aK aG d.1 d.2
    exact d.elim
   exact d.elim
  exact d.elim
 |field t x k =>
  simp only[J00,ho]at d;split at d
  ·rename_i cs ay E M;split at d;·rename_i f hf;exact I0w j ho E M hf d
   exact d.elim
  exact d.elim
 |slice t x a7 ak aN =>
  cases aN with
  |some m=>simp only[J00,ho]at d;exact q03 j d
  |none =>
   simp only[J00,ho]at d;split at d
   ·rename_i i k s;split at d
    ·rename_i e J;split at d;·rename_i sz C;exact n0v j ho J C s d
     exact d.elim
    exact d.elim
   ·rename_i aZ n c s;split at d
    ·rename_i e J;split at d;·rename_i sz C;exact m0v j ho J C s d
     exact d.elim
    exact d.elim
   ·rename_i b s;split at d
    ·rename_i M;unfold r0w at d;split at d
     ·rename_i l m G aa;have F:a.eval x = .string b:=by have:=j.rdO x;rw[s]at this;exact this
      obtain⟨⟨A,U,aB⟩,u⟩:=d;exact R8 j (av := .val _) (exec_cutStr ho M F (p0b j G) (p0b j aa) A U aB) rfl u
     exact d.elim
    exact d.elim
   exact d.elim
 |index t x i =>
  simp only[J00,ho]at d;split at d
  ·rename_i b k T q ak M;have F:a.eval x = .string b:=by have:=j.rdO x;rw[q]at this;exact this
   have gi:a.eval i = .int k T:=by have:=j.rdO i;rw[ak]at this;exact this
   obtain⟨c,⟨A,U⟩,u⟩:=d;exact R8 j (av := .val _) (exec_index ho M F gi A U) rfl u
  exact q01 j d
 |binOp aQ t x y aV =>
  cases aQ with
  |add =>
   simp only[J00,ho]at d;split at d
   ·rename_i b c q D;have F:a.eval x = .string b:=by have:=j.rdO x;rw[q]at this;exact this
    have L:a.eval y = .string c:=by have:=j.rdO y;rw[D]at this;exact this
    exact R8 j (av := .val _) (exec_cat ho F L d.1) rfl d.2
   exact q01 j d
  |quo =>
   simp only[J00,ho]at d;split at d
   ·rename_i b c q D;have F:a.eval x = .int .i64 b:=by have:=j.rdO x;rw[q]at this;exact this
    have L:a.eval y = .int .i64 c:=by have:=j.rdO y;rw[D]at this;exact this
    exact R8 j (av := .val _) (exec_quo ho F L d.1) rfl d.2
   exact q01 j d
  |rem =>
   simp only[J00,ho]at d;split at d
   ·rename_i b c q D;have F:a.eval x = .int .i64 b:=by have:=j.rdO x;rw[q]at this;exact this
    have L:a.eval y = .int .i64 c:=by have:=j.rdO y;rw[D]at this;exact this
    exact R8 j (av := .val _) (exec_rem ho F L d.1) rfl d.2
   exact q01 j d
  |shl =>
   simp only[J00,ho]at d;split at d
   ·rename_i b c q D;have F:a.eval x = .int .i64 b:=by have:=j.rdO x;rw[q]at this;exact this
    have L:a.eval y = .int .i64 c:=by have:=j.rdO y;rw[D]at this;exact this
    exact R8 j (av := .val _) (G0w ho F L d.1) rfl d.2
   exact q01 j d
  |shr =>
   simp only[J00,ho]at d;split at d
   ·rename_i b c q D;have F:a.eval x = .int .i64 b:=by have:=j.rdO x;rw[q]at this;exact this
    have L:a.eval y = .int .i64 c:=by have:=j.rdO y;rw[D]at this;exact this
    exact R8 j (av := .val _) (H0w ho F L d.1) rfl d.2
   exact q01 j d
  |eql =>
   simp only[J00,ho]at d;split at d;·rename_i xs aY q D;obtain⟨b,A,u⟩:=d;exact D0c j (av := .val _) (A _ (l7 q (j.rdO x)) (l7 D (j.rdO y))) rfl u
   ·rename_i ar aO aM q D;obtain⟨b,A,u⟩:=d;exact D0c j (av := .val _) (A _ (l7 q (j.rdO x)) (l7 D (j.rdO y))) rfl u
   exact q03 j d
  |neq =>
   simp only[J00,ho]at d;split at d;·rename_i xs aY q D;obtain⟨b,A,u⟩:=d;exact D0c j (av := .val _) (A _ (l7 q (j.rdO x)) (l7 D (j.rdO y))) rfl u
   ·rename_i ar aO aM q D;obtain⟨b,A,u⟩:=d;exact D0c j (av := .val _) (A _ (l7 q (j.rdO x)) (l7 D (j.rdO y))) rfl u
   exact q03 j d
  |_=>simp only[J00,ho]at d;exact q03 j d
 |convert ap aq x =>
  simp only[J00,ho]at d;split at d
  ·rename_i i k s;split at d
   ·rename_i ah a1 sz by_ nn xs e I am an;split at d
    ·rename_i ao;obtain⟨R,S,u⟩:=d;obtain⟨ax,aU,au,aP,aX,ab⟩:=l0b s;have g:=j.rdO x;rw[s]at g;have q:=g.own_cur ab;have X:=j.own i _ _ _ _ _ _ I;have aS:(execOp a.eval o).run P w = .ok (.value (.string (strOfNums R))) w:=by
      unfold execOp;rw[ho];rcases X.2 with⟨N,aJ,_⟩|⟨Y,cap,cur,N,_,aC,a2,a3,a4,aj⟩
      ·rw[aJ]at S;have aF:R = []:=by cases R with
        |nil=>rfl
        |cons n r=>cases S
       subst aF;rw[N]at q;simp only[q,Sem.run_bind,run_convert_bytes_nil w ap e am ao 0 0 aq an,Result.andThen_ok,Sem.run_pure];rfl
      rw[N]at q;have G:R.length=xs.length:=by rw[S];simp
      have aD:∀ T,T<xs.length->w.cell? ⟨Y,0+T,none⟩=some (.int .u8 (R.getD T 0)):=λT Z=>by
       have ac:sz=1:=by have:=(X.1 _ (List.getElem_mem Z)).1;rw[←this];simp only[S,List.getElem_map];rfl
       subst ac;have hf:xs.flatten=R.map (Value.int .u8):=by
        rw[S];clear S G Z I X aj u;induction R with
        |nil=>rfl
        |cons n r aL=>simp[aL]
       have aH:=E0w j _ _ aC;have U:=congrArg (λl:List Value=>l[T]?) (aj.trans hf);simp only[List.getElem?_take,Nat.mul_one,if_pos Z,List.getElem?_map,Array.getElem?_toList]at U;simp only[World.cell?,aH,Nat.zero_add];rw[if_neg oS,U];simp[List.getD_eq_getElem?_getD,List.getElem?_eq_getElem (show T<R.length by omega)]
      simp only[q,Sem.run_bind,run_convert_bytes_arg w ap e am ao Y 0 xs.length cap R G aD aq an,Result.andThen_ok,Sem.run_pure]
     exact R9 aS ⟨_,_,_,_,_,_,_,u,rfl,j,rfl,V8.refl _ _ _⟩
    exact d.elim
   exact q03 j d
  exact q03 j d
 |call c =>
  obtain⟨aw,as,aW⟩:=c;cases aw with
  |builtin b =>
   cases b with
   |len =>
    simp only[J00,ho]at d;split at d
    ·rename_i x t W ad;have ai:as = #[x]:=by apply Array.ext';simpa using W
     have al:aW = #[t]:=by apply Array.ext';simpa using ad
     split at d
     ·rename_i i k s;split at d
      ·rename_i ah e sz by_ nn xs a0 I J;obtain⟨ax,aU,au,aP,aX,ab⟩:=l0b s;have g:=j.rdO x;rw[s]at g;have q:=g.own_cur ab;have X:=j.own i _ _ _ _ _ _ I;rcases X.2 with⟨N,S,_⟩|⟨Y,cap,cur,N,_⟩;·rw[N]at q;refine D0c j (av := .val _) (r0g ho ai al J q) ?_ d;rw[S];rfl
       rw[N]at q;exact D0c j (av := .val _) (r0g ho ai al J q) rfl d
      exact d.elim
     exact q01 j d
    exact d.elim
   |append =>
    simp only[J00,ho]at d;split at d
    ·rename_i x y t aV W ad;split at d;·rename_i V;have:=Nat.eq_of_beq_eq_true V;subst this;exact k0v j ho (by apply Array.ext';simpa using W) (by apply Array.ext';simpa using ad) d
     exact d.elim
    exact d.elim
   |_=>simp only[J00,ho]at d;exact q03 j d
  |value f=>simp only[J00,ho]at d;exact q03 j d
  |invoke r m=>simp only[J00,ho]at d;exact q03 j d
 |lookup _ _ _ _=>simp only[J00,ho]at d;exact g0f j d
 |mapUpdate _ _ _ _=>simp only[J00,ho]at d;exact g0f j d
 |insert _ _ _ _=>simp only[J00,ho]at d;exact g0f j d
 |_=>simp only[J00,ho]at d;exact q03 j d
end
end Go.H
