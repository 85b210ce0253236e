/- The library of the walks, part HB: plain laws over the model. -/
import Derived.Test.YtkjhghloldgioaaGreatH3
import Derived.Laws.Tables
namespace Go.H
set_option linter.unusedVariables false
theorem V02{α:Type}:∀(l:List α) (k:Nat),nth l k=l[k]?
 | [],k=>by simp[nth]
 |x::r,0=>by simp[nth]
 |x::r,k+1=>by simp[nth,V02 r k]
theorem D07{α:Type}:∀(l:List α) (k:Nat) (x:α),n9 l k x=l.set k x
 | [],k,x=>by simp[n9]
 |y::r,0,x=>by simp[n9]
 |y::r,k+1,x=>by simp[n9,D07 r k x]
theorem w6{α:Type}(l:List α)(k:Nat)(x:α)(hk:k<l.length)(j:Nat):nth (n9 l k x) j=if j=k then some x else nth l j:=by
 rw[V02,V02,D07,List.getElem?_set]
 by_cases e:k=j
 ·subst e;simp[hk]
 ·simp[e,Ne.symm e]
theorem r00{α:Type}{l:List α}{k:Nat}{x:α}(h:nth l k=some x):k<l.length:=by
 rw[V02]at h
 exact(List.getElem?_eq_some_iff.1 h).1
theorem X00{α:Type}(l:List α)(x:α)(j:Nat):nth (l ++ [x]) j=if j=l.length then some x else nth l j:=by
 rw[V02,V02,List.getElem?_append]
 by_cases e:j<l.length
 ·simp[e,Nat.ne_of_lt e]
 ·by_cases e2:j=l.length
  ·subst e2;simp
  ·rw[if_neg e,if_neg e2]
   have h1:l[j]?=none:=List.getElem?_eq_none (by omega)
   rw[h1,List.getElem?_eq_none]
   simp;omega
theorem r03{α:Type}(l:List α)(k:Nat)(x:α):(n9 l k x).length=l.length:=by rw[D07];simp
def stamp(st:St)(i:Nat):Option Nat:=match nth st.ow i with
 |some o=>some o.stamp
 |none=>none
def E0a(st:St)(oe:Nat->Value):a5->Value->Prop
 | .val v,x=>x=v
 | .own i k,x=>∃ s,stamp st i=some s/\k<=s/\(k=s->x=oe i)
def V1(st:St)(oe:Nat->Value):List a5->List Value->Prop
 | [],[]=>True
 |c::cs,v::vs=>E0a st oe c v/\V1 st oe cs vs
 |_,_=>False
def M2(st:St)(be:Nat->Nat)(oe:Nat->Value):AV->Value->Prop
 | .val v,x=>x=v
 | .own i k,x=>∃ s,stamp st i=some s/\k<=s/\(k=s->x=oe i)
 | .box i off,x=>i<st.bx.length/\x=ptr (be i) off
 | .hel s idx sz k,x=>∃ b o n c,s = .slice (some ⟨b,o,none⟩) n c/\x=ptr b (o+(idx.toNat*sz+k))
 | .oel i st0 idx sz k,x=>∃ s,stamp st i=some s/\st0<=s/\(st0=s->∃ g n c,oe i = .slice (some ⟨g,0,none⟩) n c/\x=ptr g (idx.toNat*sz+k))
 | .agg cs,x=>∃ vs,x = .agg vs.toArray/\V1 st oe cs vs
 | .dead,_=>True
structure G6 (st:St) (be:Nat->Nat) (oe:Nat->Value) (st':St) (be':Nat->Nat) (oe':Nat->Value):Prop where
 bl:st.bx.length<=st'.bx.length
 be:∀ i,i<st.bx.length->be' i=be i
 sm:∀ i s,stamp st i=some s->∃ s',stamp st' i=some s'/\s<=s'/\(s'=s->oe' i=oe i)
theorem G6.refl(st:St)(be:Nat->Nat)(oe:Nat->Value):G6 st be oe st be oe :=
 ⟨Nat.le_refl _,λ_ _=>rfl,λi s h=>⟨s,h,Nat.le_refl _,λ_=>rfl⟩⟩
theorem E0a.grow{st st':St}{be be':Nat->Nat}{oe oe':Nat->Value}(g:G6 st be oe st' be' oe'){c:a5}{x:Value}(h:E0a st oe c x):E0a st' oe' c x:=by
 cases c with
 |val v=>exact h
 |own i k =>
  obtain⟨s,h1,h2,h3⟩:=h
  obtain⟨s',g1,g2,g3⟩:=g.sm i s h1
  exact⟨s',g1,Nat.le_trans h2 g2,λe=>by rw[g3 (by omega)];exact h3 (by omega)⟩
theorem V1.grow{st st':St}{be be':Nat->Nat}{oe oe':Nat->Value}(g:G6 st be oe st' be' oe'):∀ {cs:List a5} {vs:List Value},V1 st oe cs vs->V1 st' oe' cs vs
 | [],[],_=>trivial
 |_::_,_::_,h=>⟨h.1.grow g,V1.grow g h.2⟩
 | [],_::_,h=>h.elim
 |_::_,[],h=>h.elim
theorem M2.grow{st st':St}{be be':Nat->Nat}{oe oe':Nat->Value}(g:G6 st be oe st' be' oe'){av:AV}{x:Value}(h:M2 st be oe av x):M2 st' be' oe' av x:=by
 cases av with
 |val v=>exact h
 |own i k =>
  obtain⟨s,h1,h2,h3⟩:=h
  obtain⟨s',g1,g2,g3⟩:=g.sm i s h1
  exact⟨s',g1,Nat.le_trans h2 g2,λe=>by rw[g3 (by omega)];exact h3 (by omega)⟩
 |box i off=>exact⟨Nat.lt_of_lt_of_le h.1 g.bl,by rw[g.be i h.1];exact h.2⟩
 |hel s idx sz k=>exact h
 |oel i st0 idx sz k =>
  obtain⟨s,h1,h2,h3⟩:=h
  obtain⟨s',g1,g2,g3⟩:=g.sm i s h1
  exact⟨s',g1,Nat.le_trans h2 g2,λe=>by rw[g3 (by omega)];exact h3 (by omega)⟩
 |agg cs=>obtain⟨vs,h1,h2⟩:=h;exact⟨vs,h1,h2.grow g⟩
 |dead=>trivial
theorem V1.length{st:St}{oe:Nat->Value}:∀ {cs:List a5} {vs:List Value},V1 st oe cs vs->cs.length=vs.length
 | [],[],_=>rfl
 |_::_,_::_,h=>by simp[V1.length h.2]
 | [],_::_,h=>h.elim
 |_::_,[],h=>h.elim
theorem V1.vals(st:St)(oe:Nat->Value):∀(vs:List Value),V1 st oe (vals vs) vs
 | []=>trivial
 |_::r=>⟨rfl,V1.vals st oe r⟩
theorem V1.nth{st:St}{oe:Nat->Value}:∀ {cs:List a5} {vs:List Value} {k:Nat} {c:a5},V1 st oe cs vs->nth cs k=some c->∃ v,vs[k]?=some v/\E0a st oe c v
 | [],_,k,c,_,h=>by simp[H.nth]at h
 |c0::cs,v0::vs,0,c,h,hn=>by simp[H.nth]at hn;subst hn;exact⟨v0,by simp,h.1⟩
 |c0::cs,v0::vs,k+1,c,h,hn=>by
  simp[H.nth]at hn
  obtain⟨v,h1,h2⟩:=V1.nth h.2 hn
  exact⟨v,by simpa using h1,h2⟩
 |_::_,[],_,_,h,_=>h.elim
theorem V1.drop{st:St}{oe:Nat->Value}:∀ {cs:List a5} {vs:List Value} (k:Nat),V1 st oe cs vs->V1 st oe (cs.drop k) (vs.drop k)
 |cs,vs,0,h=>by simpa using h
 | [],[],k+1,h=>by simpa using h
 |_::cs,_::vs,k+1,h=>by simpa using V1.drop k h.2
 | [],_::_,_+1,h=>h.elim
 |_::_,[],_+1,h=>h.elim
theorem V1.take{st:St}{oe:Nat->Value}:∀ {cs:List a5} {vs:List Value} (k:Nat),V1 st oe cs vs->V1 st oe (cs.take k) (vs.take k)
 |cs,vs,0,h=>by simp[V1]
 | [],[],k+1,h=>by simp[V1]
 |_::cs,_::vs,k+1,h=>by simpa [V1] using ⟨h.1,V1.take k h.2⟩
 | [],_::_,_+1,h=>h.elim
 |_::_,[],_+1,h=>h.elim
theorem V1.upd{st:St}{oe:Nat->Value}:∀ {cs:List a5} {vs:List Value} {k:Nat} {c:a5} {v:Value},V1 st oe cs vs->E0a st oe c v->V1 st oe (n9 cs k c) (vs.set k v)
 | [],[],k,c,v,h,hc=>by simp[n9,V1]
 |_::cs,_::vs,0,c,v,h,hc=>⟨hc,h.2⟩
 |_::cs,_::vs,k+1,c,v,h,hc=>⟨h.1,V1.upd h.2 hc⟩
 | [],_::_,_,_,_,h,_=>h.elim
 |_::_,[],_,_,_,h,_=>h.elim
def Y2:List Value->Nat->List Value->List Value
 |cs,_,[]=>cs
 |cs,off,x::r=>Y2 (cs.set off x) (off+1) r
theorem V1.splice{st:St}{oe:Nat->Value}:∀ {new:List a5} {ns:List Value} {cs:List a5} {vs:List Value} {off:Nat},V1 st oe cs vs->V1 st oe new ns->V1 st oe (splice cs off new) (Y2 vs off ns)
 | [],[],cs,vs,off,h,_=>h
 |c::new,v::ns,cs,vs,off,h,hn=>by
  simp only[H.splice,Y2]
  exact V1.splice (h.upd hn.1) hn.2
 | [],_::_,_,_,_,_,h=>h.elim
 |_::_,[],_,_,_,_,h=>h.elim
theorem A6:∀(ns vs:List Value) (off:Nat),(Y2 vs off ns).length=vs.length
 | [],vs,off=>rfl
 |n::ns,vs,off=>by simp[Y2,A6 ns]
def c04(h H:Hp)(v:Value)(e:TypeId)(sz:Nat)(nn:Bool)(xs:List (List Value)):Prop :=
  (∀ x∈xs,x.length=sz/\∀ v∈x,v.oneCell'=true) /\
  ((v = .slice none 0 0/\xs = []/\nn=false) ∨
   ∃ g cap cur,v = .slice (some ⟨g,0,none⟩) xs.length cap/\h g=none/\H g=some (.cells cur e (0,0)) /\
     xs.length<=cap/\cap<=maxLen/\cur.size=cap*sz/\cur.toList.take (xs.length*sz)=xs.flatten)
structure Sim (P:Program) (h0:Hp) (w0:World) (be:Nat->Nat) (oe:Nat->Value) (H:Hp) (st:St) (h:Hp) (a:Act) (w:World):Prop where
 mv:P2 h0 w0 H w
 sub:∀ b o,h b=some o->H b=some o
 box:∀ i cs ty,nth st.bx i=some (.live cs ty)->h (be i)=none/\∃ vs,V1 st oe cs vs/\H (be i)=some (.cells vs.toArray ty (0,0))
 pub:∀ i b,nth st.bx i=some (.publ b)->be i=b
 own:∀ i s e sz by_ nn xs,nth st.ow i=some ⟨s,.live e sz by_ nn xs⟩->c04 h H (oe i) e sz nn xs
 frz:∀ i s v,nth st.ow i=some ⟨s,.frozen v⟩->oe i=v
 bb:∀ i j cs ty cs' ty',nth st.bx i=some (.live cs ty)->nth st.bx j=some (.live cs' ty')->be i=be j->i=j
 oo:∀ i j s e sz by_ nn xs s' e' sz' by' nn' xs' g,nth st.ow i=some ⟨s,.live e sz by_ nn xs⟩->nth st.ow j=some ⟨s',.live e' sz' by' nn' xs'⟩ ->
  (oe i).ownBlock=some g->(oe j).ownBlock=some g->i=j
 bo:∀ i cs ty j s e sz by_ nn xs,nth st.bx i=some (.live cs ty)->nth st.ow j=some ⟨s,.live e sz by_ nn xs⟩->(oe j).ownBlock≠some (be i)
 dfr:a.defers = []
 siz:a.tmps.size=st.n
 fr:∀ s,M2 st be oe (L3 st.fr s) (a.tmps.getD s undef)
section
variable {P:Program} {h0:Hp} {w0:World} {be:Nat->Nat} {oe:Nat->Value} {H:Hp} {st:St} {h:Hp} {a:Act} {w:World}
theorem c04.block{h H:Hp}{v:Value}{e sz:Nat}{nn:Bool}{xs:List (List Value)}(o:c04 h H v e sz nn xs){g:Nat}(hg:v.ownBlock=some g):
  h g=none/\∃ cap cur,v = .slice (some ⟨g,0,none⟩) xs.length cap/\H g=some (.cells cur e (0,0)):=by
 rcases o.2 with⟨rfl,_⟩|⟨g',cap,cur,rfl,h1,h2,_⟩
 ·simp[Value.ownBlock]at hg
 ·simp[Value.ownBlock]at hg
  subst hg
  exact⟨h1,cap,cur,rfl,h2⟩
theorem c04.keep{h h' H H':Hp}{v:Value}{e sz:Nat}{nn:Bool}{xs:List (List Value)}(o:c04 h H v e sz nn xs)
  (hk:∀ g,v.ownBlock=some g->H' g=H g/\h' g=none):c04 h' H' v e sz nn xs:=by
 refine⟨o.1,?_⟩
 rcases o.2 with hn|⟨g,cap,cur,rfl,h1,h2,r⟩
 ·exact .inl hn
 ·obtain⟨k1,k2⟩:=hk g rfl
  exact .inr ⟨g,cap,cur,rfl,k2,by rw[k1];exact h2,r⟩
theorem V0k(s:Sim P h0 w0 be oe H st h a w):Vis H w:=s.mv.vis
theorem A05(s:Sim P h0 w0 be oe H st h a w):Vis h w:=λb o hb=>s.mv.vis b o (s.sub b o hb)
theorem Sim.moved(s:Sim P h0 w0 be oe H st h a w){h':Hp}{w':World}(m:P2 h w h' w'):∃ H',Sim P h0 w0 be oe H' st h' a w':=by
 let H':Hp:=λb=>match h' b with
  |some o=>some o
  |none=>match h b with
   |some _=>none
   |none=>H b
 have hpriv:∀ b,h b=none->H b≠none->H' b=H b/\h' b=none:=by
  intro b hb hH
  have hlt:b<w.heap.size:=s.mv.vis.lt hH
  have hn:h' b=none:=m.none_of hlt hb
  exact⟨by simp[H',hn,hb],hn⟩
 have hmv:P2 H w H' w':=by
  refine⟨m.os,m.tape,m.output,m.size,?_,?_,?_,m.fz,m.dn⟩
  ·intro b hb hH
   have:h b=none:=by
    cases hc:h b with
    |none=>rfl
    |some o=>rw[s.sub b o hc]at hH;cases hH
   exact m.keep b hb this
  ·intro b o ho
   simp only[H']at ho
   split at ho
   ·rename_i x hx;cases ho;exact m.vis b _ hx
   ·split at ho
    ·cases ho
    ·rename_i hx hb
     have hlt:b<w.heap.size:=s.mv.vis.lt (by rw[ho];simp)
     rw[m.keep b hlt hb]
     exact s.mv.vis b o ho
  ·intro b hb
   simp only[H']at hb
   split at hb
   ·rename_i x hx
    rcases m.fresh b (by simp[hx])with h1|h1
    ·left
     cases hc:h b with
     |none=>exact absurd hc h1
     |some o=>rw[s.sub b o hc];simp
    ·exact .inr h1
   ·split at hb
    ·exact absurd rfl hb
    ·exact .inl hb
 refine⟨H',⟨s.mv.trans hmv,?_,?_,s.pub,?_,s.frz,s.bb,s.oo,s.bo,s.dfr,s.siz,s.fr⟩⟩
 ·intro b o ho;simp[H',ho]
 ·intro i cs ty hi
  obtain⟨h1,vs,h2,h3⟩:=s.box i cs ty hi
  obtain⟨k1,k2⟩:=hpriv (be i) h1 (by rw[h3];simp)
  exact⟨k2,vs,h2,by rw[k1];exact h3⟩
 ·intro i s' e sz by_ nn xs hi
  refine(s.own i s' e sz by_ nn xs hi).keep λg hg=>?_
  obtain⟨h1,cap,cur,_,h3⟩:=(s.own i s' e sz by_ nn xs hi).block hg
  exact hpriv g h1 (by rw[h3];simp)
theorem J4(d:Nat)(av:AV)(r:List (Nat×AV))(s:Nat):L3 ((d,av)::r) s=if d=s then av else L3 r s:=by
 simp only[L3]
 cases h:Nat.beq d s with
 |true=>simp[Nat.eq_of_beq_eq_true h]
 |false=>simp[Nat.ne_of_beq_eq_false h]
theorem Sim.put(s:Sim P h0 w0 be oe H st h a w){d:Nat}{av:AV}{v:Value}(hd:d<st.n)(hg:M2 st be oe av v):
  Sim P h0 w0 be oe H { st with fr:=(d,av)::st.fr } h (a.put (some d) v) w:=by
 have gr:G6 st be oe { st with fr:=(d,av)::st.fr } be oe:=⟨Nat.le_refl _,λ_ _=>rfl,λi s h=>⟨s,h,Nat.le_refl _,λ_=>rfl⟩⟩
 refine⟨s.mv,s.sub,λi cs ty hi=>?_,s.pub,s.own,s.frz,s.bb,s.oo,s.bo,s.dfr,by simp[Act.put,s.siz],?_⟩
 ·obtain⟨h1,vs,h2,h3⟩:=s.box i cs ty hi
  exact⟨h1,vs,h2.grow gr,h3⟩
 intro t
 refine M2.grow gr ?_
 rw[J4]
 by_cases e:d=t
 ·subst e
  rw[if_pos rfl]
  have:(a.put (some d) v).tmps.getD d undef=v:=by simp[Act.put,s.siz,hd]
  rw[this]
  exact hg
 ·rw[if_neg e]
  have:(a.put (some d) v).tmps.getD t undef=a.tmps.getD t undef:=by simp[Act.put,Array.getElem?_setIfInBounds_ne e]
  rw[this]
  exact s.fr t
theorem Sim.newBox(s:Sim P h0 w0 be oe H st h a w){cs:List a5}{vs:List Value}{t:TypeId}{b:Nat}{w':World}(hg:V1 st oe cs vs)(hb:H b=none)
  (m:P2 H w (H.set b (.cells vs.toArray t (0,0))) w') :
  let be':=λj=>if j=st.bx.length then b else be j
  let st':St := { st with bx:=st.bx ++ [.live cs t] }
  Sim P h0 w0 be' oe (H.set b (.cells vs.toArray t (0,0))) st' h a w'/\G6 st be oe st' be' oe:=by
 intro be' st'
 have hhb:h b=none:=by
  cases hc:h b with
  |none=>rfl
  |some o=>rw[s.sub b o hc]at hb;cases hb
 have gr:G6 st be oe st' be' oe:=by
  refine⟨by simp[st'],λi hi=>?_,λi s hs=>⟨s,hs,Nat.le_refl _,λ_=>rfl⟩⟩
  simp[be',Nat.ne_of_lt hi]
 have hne:∀ x,H x≠none->x≠b:=λx hx e=>by subst e;exact hx hb
 have old:∀ i cs ty,nth st.bx i=some (.live cs ty)->be' i=be i:=λi cs ty hi=>by simp[be',Nat.ne_of_lt (r00 hi)]
 have cases_:∀ i x,nth st'.bx i=some x->(i=st.bx.length/\x = .live cs t)∨(i≠st.bx.length/\nth st.bx i=some x):=by
  intro i x hi
  simp only[st',X00]at hi
  split at hi
  ·rename_i e;simp at hi;exact .inl ⟨e,hi.symm⟩
  ·rename_i e;exact .inr ⟨e,hi⟩
 have Hb:∀ i cs ty,nth st.bx i=some (.live cs ty)->be i≠b:=λi cs ty hi=>by
  obtain⟨_,vs,_,h3⟩:=s.box i cs ty hi
  exact hne _ (by rw[h3];simp)
 have Ho:∀ i s' e sz by_ nn xs g,nth st.ow i=some ⟨s',.live e sz by_ nn xs⟩->(oe i).ownBlock=some g->g≠b:=λi s' e sz by_ nn xs g hi hg=>by
  obtain⟨_,_,_,_,h3⟩:=(s.own i s' e sz by_ nn xs hi).block hg
  exact hne _ (by rw[h3];simp)
 refine⟨⟨s.mv.trans m,?_,?_,?_,?_,s.frz,?_,s.oo,?_,s.dfr,s.siz,λt=>(s.fr t).grow gr⟩,gr⟩
 ·intro x o hx
  rw[Hp.set_other _ _ (hne x (by rw[s.sub x o hx];simp))]
  exact s.sub x o hx
 ·intro i cs' ty hi
  rcases cases_ i _ hi with⟨rfl,e⟩|⟨e,hi'⟩
  ·cases e
   exact⟨by simp[be',hhb],vs,hg.grow gr,by simp[be',Hp.set]⟩
  ·obtain⟨h1,vs',h2,h3⟩:=s.box i cs' ty hi'
   rw[old i cs' ty hi']
   exact⟨h1,vs',h2.grow gr,by rw[Hp.set_other _ _ (Hb i cs' ty hi')];exact h3⟩
 ·intro i b' hi
  rcases cases_ i _ hi with⟨_,e⟩|⟨e,hi'⟩
  ·cases e
  ·simp[be',e,s.pub i b' hi']
 ·intro i s' e sz by_ nn xs hi
  refine(s.own i s' e sz by_ nn xs hi).keep λg hg'=>?_
  obtain⟨h1,cap,cur,_,h3⟩:=(s.own i s' e sz by_ nn xs hi).block hg'
  exact⟨Hp.set_other _ _ (Ho i s' e sz by_ nn xs g hi hg'),h1⟩
 ·intro i j cs1 ty1 cs2 ty2 hi hj e
  rcases cases_ i _ hi with⟨rfl,e1⟩|⟨e1,hi'⟩<;>rcases cases_ j _ hj with⟨rfl,e2⟩|⟨e2,hj'⟩
  ·rfl
  ·rw[old j _ _ hj']at e;simp[be']at e;exact absurd e.symm (Hb j _ _ hj')
  ·rw[old i _ _ hi']at e;simp[be']at e;exact absurd e (Hb i _ _ hi')
  ·rw[old i _ _ hi',old j _ _ hj']at e;exact s.bb i j _ _ _ _ hi' hj' e
 ·intro i cs1 ty1 j s' e sz by_ nn xs hi hj hc
  rcases cases_ i _ hi with⟨rfl,e1⟩|⟨e1,hi'⟩
  ·simp[be']at hc;exact Ho j _ _ _ _ _ _ _ hj hc rfl
  ·rw[old i _ _ hi']at hc;exact s.bo i _ _ j _ _ _ _ _ _ hi' hj hc
theorem Sim.updBox(s:Sim P h0 w0 be oe H st h a w){i:Nat}{cs0 cs:List a5}{vs:List Value}{t:TypeId}{w':World}(hi:nth st.bx i=some (.live cs0 t))
  (hg:V1 st oe cs vs) (m:P2 H w (H.set (be i) (.cells vs.toArray t (0,0))) w') :
  Sim P h0 w0 be oe (H.set (be i) (.cells vs.toArray t (0,0))) { st with bx:=n9 st.bx i (.live cs t) } h a w'/\G6 st be oe { st with bx:=n9 st.bx i (.live cs t) } be oe:=by
 have gr:G6 st be oe { st with bx:=n9 st.bx i (.live cs t) } be oe :=
  ⟨by simp[r03],λ_ _=>rfl,λi s hs=>⟨s,hs,Nat.le_refl _,λ_=>rfl⟩⟩
 have hh:=(s.box i cs0 t hi).1
 have cases_:∀ j x,nth (n9 st.bx i (.live cs t)) j=some x->(j=i/\x = .live cs t)∨(j≠i/\nth st.bx j=some x):=by
  intro j x hj
  rw[w6 _ _ _ (r00 hi)]at hj
  split at hj
  ·rename_i e;simp at hj;exact .inl ⟨e,hj.symm⟩
  ·rename_i e;exact .inr ⟨e,hj⟩
 refine⟨⟨s.mv.trans m,?_,?_,?_,?_,s.frz,?_,s.oo,?_,s.dfr,s.siz,λt=>(s.fr t).grow gr⟩,gr⟩
 ·intro x o hx
  have:x≠be i:=λe=>by subst e;rw[hh]at hx;cases hx
  rw[Hp.set_other _ _ this];exact s.sub x o hx
 ·intro j cs' ty hj
  rcases cases_ j _ hj with⟨rfl,e⟩|⟨e,hj'⟩
  ·cases e;exact⟨hh,vs,hg.grow gr,by simp[Hp.set]⟩
  ·obtain⟨h1,vs',h2,h3⟩:=s.box j cs' ty hj'
   have:be j≠be i:=λe'=>e (s.bb j i _ _ _ _ hj' hi e')
   exact⟨h1,vs',h2.grow gr,by rw[Hp.set_other _ _ this];exact h3⟩
 ·intro j b hj
  rcases cases_ j _ hj with⟨_,e⟩|⟨e,hj'⟩
  ·cases e
  ·exact s.pub j b hj'
 ·intro j s' e sz by_ nn xs hj
  refine(s.own j s' e sz by_ nn xs hj).keep λg hg'=>?_
  obtain⟨h1,cap,cur,_,h3⟩:=(s.own j s' e sz by_ nn xs hj).block hg'
  exact⟨Hp.set_other _ _ (λe'=>by subst e';exact s.bo i _ _ j _ _ _ _ _ _ hi hj hg'),h1⟩
 ·intro x y cs1 ty1 cs2 ty2 hx hy e
  rcases cases_ x _ hx with⟨rfl,e1⟩|⟨e1,hx'⟩<;>rcases cases_ y _ hy with⟨rfl,e2⟩|⟨e2,hy'⟩
  ·rfl
  ·exact s.bb _ _ _ _ _ _ hi hy' e
  ·exact s.bb _ _ _ _ _ _ hx' hi e
  ·exact s.bb _ _ _ _ _ _ hx' hy' e
 ·intro x cs1 ty1 j s' e sz by_ nn xs hx hj
  rcases cases_ x _ hx with⟨rfl,e1⟩|⟨e1,hx'⟩
  ·exact s.bo _ _ _ j _ _ _ _ _ _ hi hj
  ·exact s.bo _ _ _ j _ _ _ _ _ _ hx' hj
end
end Go.H
namespace Go.H
set_option linter.unusedVariables false
section
variable {P:Program} {h0:Hp} {w0:World} {be:Nat->Nat} {oe:Nat->Value} {H:Hp} {st:St} {h:Hp} {a:Act} {w:World}
theorem Z0g(st:St)(o:Own)(i s:Nat)(hs:stamp st i=some s):stamp { st with ow:=st.ow ++ [o] } i=some s:=by
 unfold stamp at *
 have hl:i<st.ow.length:=by
  cases hn:nth st.ow i with
  |none=>rw[hn]at hs;cases hs
  |some x=>exact r00 hn
 rw[show nth ({ st with ow:=st.ow ++ [o] }:St).ow i=nth st.ow i from by rw[X00,if_neg (Nat.ne_of_lt hl)]]
 exact hs
theorem Sim.newOwn(s:Sim P h0 w0 be oe H st h a w){v:Value}{e sz by_:Nat}{nn:Bool}{xs:List (List Value)}{H':Hp}{w':World}
  (hH:∀ b o,H b=some o->H' b=some o) (m:P2 H w H' w') (ho:c04 h H' v e sz nn xs) (hnew:∀ g,v.ownBlock=some g->H g=none) :
  let oe':=λj=>if j=st.ow.length then v else oe j
  let st':St := { st with ow:=st.ow ++ [⟨0,.live e sz by_ nn xs⟩] }
  Sim P h0 w0 be oe' H' st' h a w'/\G6 st be oe st' be oe':=by
 intro oe' st'
 have gr:G6 st be oe st' be oe':=by
  refine⟨Nat.le_refl _,λ_ _=>rfl,λi s hs=>⟨s,Z0g st _ i s hs,Nat.le_refl _,λ_=>?_⟩⟩
  have hl:i<st.ow.length:=by
   unfold stamp at hs
   cases hn:nth st.ow i with
   |none=>rw[hn]at hs;cases hs
   |some x=>exact r00 hn
  simp[oe',Nat.ne_of_lt hl]
 have cases_:∀ i x,nth st'.ow i=some x->(i=st.ow.length/\x=⟨0,.live e sz by_ nn xs⟩)∨(i≠st.ow.length/\nth st.ow i=some x):=by
  intro i x hi
  simp only[st',X00]at hi
  split at hi
  ·rename_i e;simp at hi;exact .inl ⟨e,hi.symm⟩
  ·rename_i e;exact .inr ⟨e,hi⟩
 have keepB:∀ b,H b≠none->H' b=H b:=by
  intro b hb
  cases hc:H b with
  |none=>exact absurd hc hb
  |some o=>exact hH b o hc
 refine⟨⟨s.mv.trans m,λb o hb=>hH b o (s.sub b o hb),?_,s.pub,?_,?_,s.bb,?_,?_,s.dfr,s.siz,λt=>(s.fr t).grow gr⟩,gr⟩
 ·intro i cs ty hi
  obtain⟨h1,vs,h2,h3⟩:=s.box i cs ty hi
  exact⟨h1,vs,h2.grow gr,hH _ _ h3⟩
 ·intro i s' e1 sz1 by1 nn1 xs1 hi
  rcases cases_ i _ hi with⟨rfl,e2⟩|⟨e2,hi'⟩
  ·cases e2
   simp only[oe',if_pos rfl]
   exact ho
  ·simp only[oe',if_neg e2]
   refine(s.own i _ _ _ _ _ _ hi').keep λg hg=>?_
   obtain⟨h1,cap,cur,_,h3⟩:=(s.own i _ _ _ _ _ _ hi').block hg
   exact⟨keepB g (by rw[h3];simp),h1⟩
 ·intro i s' v' hi
  rcases cases_ i _ hi with⟨rfl,e2⟩|⟨e2,hi'⟩
  ·cases e2
  ·simp only[oe',if_neg e2];exact s.frz i s' v' hi'
 ·intro i j s1 e1 sz1 by1 nn1 xs1 s2 e2 sz2 by2 nn2 xs2 g hi hj gi gj
  have hv:∀ k s1 e1 sz1 by1 nn1 xs1,nth st.ow k=some ⟨s1,.live e1 sz1 by1 nn1 xs1⟩->(oe k).ownBlock=some g->v.ownBlock≠some g:=λk _ _ _ _ _ _ hk hg hc=>by
   obtain⟨h1,cap,cur,_,h3⟩:=(s.own k _ _ _ _ _ _ hk).block hg
   rw[hnew g hc]at h3;cases h3
  rcases cases_ i _ hi with⟨rfl,e3⟩|⟨e3,hi'⟩<;>rcases cases_ j _ hj with⟨rfl,e4⟩|⟨e4,hj'⟩
  ·rfl
  ·simp only[oe',if_pos rfl]at gi;simp only[oe',if_neg e4]at gj;exact absurd gi (hv j _ _ _ _ _ _ hj' gj)
  ·simp only[oe',if_neg e3]at gi;simp only[oe',if_pos rfl]at gj;exact absurd gj (hv i _ _ _ _ _ _ hi' gi)
  ·simp only[oe',if_neg e3]at gi;simp only[oe',if_neg e4]at gj;exact s.oo i j _ _ _ _ _ _ _ _ _ _ _ _ g hi' hj' gi gj
 ·intro i cs ty j s1 e1 sz1 by1 nn1 xs1 hi hj hc
  rcases cases_ j _ hj with⟨rfl,e4⟩|⟨e4,hj'⟩
  ·simp only[oe',if_pos rfl]at hc
   obtain⟨_,vs,_,h3⟩:=s.box i cs ty hi
   rw[hnew _ hc]at h3;cases h3
  ·simp only[oe',if_neg e4]at hc;exact s.bo i cs ty j _ _ _ _ _ _ hi hj' hc
theorem Sim.updOwn(s:Sim P h0 w0 be oe H st h a w){i s0 e0 sz0 by0:Nat}{nn0:Bool}{xs0:List (List Value)}(hi:nth st.ow i=some ⟨s0,.live e0 sz0 by0 nn0 xs0⟩)
  {v:Value} {s1 e sz by_:Nat} {nn:Bool} {xs:List (List Value)} {H':Hp} {w':World} (hs:s0<=s1) (hv:s1=s0->v=oe i)
  (m:P2 H w H' w') (hk:∀ b,(oe i).ownBlock≠some b->H b≠none->H' b=H b) (ho:c04 h H' v e sz nn xs)
  (hnew:∀ g,v.ownBlock=some g->(oe i).ownBlock=some g∨H g=none) :
  let oe':=λj=>if j=i then v else oe j
  let st':St := { st with ow:=n9 st.ow i ⟨s1,.live e sz by_ nn xs⟩ }
  Sim P h0 w0 be oe' H' st' h a w'/\G6 st be oe st' be oe':=by
 intro oe' st'
 have hlt:=r00 hi
 have gr:G6 st be oe st' be oe':=by
  refine⟨Nat.le_refl _,λ_ _=>rfl,λj t ht=>?_⟩
  unfold stamp at ht ⊢
  simp only[st',w6 _ _ _ hlt]
  by_cases e1:j=i
  ·subst e1
   rw[hi]at ht
   simp at ht
   subst ht
   refine⟨s1,by simp,hs,λe2=>?_⟩
   simp only[oe',if_pos rfl];exact hv e2
  ·rw[if_neg e1]
   refine⟨t,ht,Nat.le_refl _,λ_=>?_⟩
   simp only[oe',if_neg e1]
 have cases_:∀ j x,nth st'.ow j=some x->(j=i/\x=⟨s1,.live e sz by_ nn xs⟩)∨(j≠i/\nth st.ow j=some x):=by
  intro j x hj
  simp only[st',w6 _ _ _ hlt]at hj
  split at hj
  ·rename_i e;simp at hj;exact .inl ⟨e,hj.symm⟩
  ·rename_i e;exact .inr ⟨e,hj⟩
 have hblk:∀ g,(oe i).ownBlock=some g->h g=none:=λg hg=>((s.own i _ _ _ _ _ _ hi).block hg).1
 have other:∀ j s1 e1 sz1 by1 nn1 xs1 g,j≠i->nth st.ow j=some ⟨s1,.live e1 sz1 by1 nn1 xs1⟩->(oe j).ownBlock=some g->(oe i).ownBlock≠some g/\v.ownBlock≠some g:=by
  intro j s1 e1 sz1 by1 nn1 xs1 g hne hj hg
  have h1:(oe i).ownBlock≠some g:=λhc=>hne (s.oo j i _ _ _ _ _ _ _ _ _ _ _ _ g hj hi hg hc)
  refine⟨h1,λhc=>?_⟩
  rcases hnew g hc with h2|h2
  ·exact h1 h2
  ·obtain⟨_,cap,cur,_,h3⟩:=(s.own j _ _ _ _ _ _ hj).block hg
   rw[h2]at h3;cases h3
 have bx_:∀ k cs ty,nth st.bx k=some (.live cs ty)->(oe i).ownBlock≠some (be k)/\v.ownBlock≠some (be k):=by
  intro k cs ty hk'
  have h1:=s.bo k cs ty i _ _ _ _ _ _ hk' hi
  refine⟨h1,λhc=>?_⟩
  rcases hnew _ hc with h2|h2
  ·exact h1 h2
  ·obtain⟨_,vs,_,h3⟩:=s.box k cs ty hk'
   rw[h2]at h3;cases h3
 refine⟨⟨s.mv.trans m,?_,?_,s.pub,?_,?_,s.bb,?_,?_,s.dfr,s.siz,λt=>(s.fr t).grow gr⟩,gr⟩
 ·intro b o hb
  have hH:=s.sub b o hb
  rw[hk b (λhc=>by rw[hblk b hc]at hb;cases hb) (by rw[hH];simp)]
  exact hH
 ·intro k cs ty hk'
  obtain⟨h1,vs,h2,h3⟩:=s.box k cs ty hk'
  exact⟨h1,vs,h2.grow gr,by rw[hk _ (bx_ k cs ty hk').1 (by rw[h3];simp)];exact h3⟩
 ·intro j s' e1 sz1 by1 nn1 xs1 hj
  rcases cases_ j _ hj with⟨rfl,e2⟩|⟨e2,hj'⟩
  ·cases e2
   simp only[oe',if_pos rfl]
   exact ho
  ·simp only[oe',if_neg e2]
   refine(s.own j _ _ _ _ _ _ hj').keep λg hg=>?_
   obtain⟨h1,cap,cur,_,h3⟩:=(s.own j _ _ _ _ _ _ hj').block hg
   exact⟨hk g (other j _ _ _ _ _ _ g e2 hj' hg).1 (by rw[h3];simp),h1⟩
 ·intro j s' v' hj
  rcases cases_ j _ hj with⟨rfl,e2⟩|⟨e2,hj'⟩
  ·cases e2
  ·simp only[oe',if_neg e2];exact s.frz j s' v' hj'
 ·intro x y s1 e1 sz1 by1 nn1 xs1 s2 e2 sz2 by2 nn2 xs2 g hx hy gx gy
  rcases cases_ x _ hx with⟨rfl,e3⟩|⟨e3,hx'⟩<;>rcases cases_ y _ hy with⟨rfl,e4⟩|⟨e4,hy'⟩
  ·rfl
  ·simp only[oe',if_pos rfl]at gx;simp only[oe',if_neg e4]at gy;exact absurd gx (other y _ _ _ _ _ _ g e4 hy' gy).2
  ·simp only[oe',if_neg e3]at gx;simp only[oe',if_pos rfl]at gy;exact absurd gy (other x _ _ _ _ _ _ g e3 hx' gx).2
  ·simp only[oe',if_neg e3]at gx;simp only[oe',if_neg e4]at gy;exact s.oo x y _ _ _ _ _ _ _ _ _ _ _ _ g hx' hy' gx gy
 ·intro k cs ty j s1 e1 sz1 by1 nn1 xs1 hk' hj hc
  rcases cases_ j _ hj with⟨rfl,e4⟩|⟨e4,hj'⟩
  ·simp only[oe',if_pos rfl]at hc;exact(bx_ k cs ty hk').2 hc
  ·simp only[oe',if_neg e4]at hc;exact s.bo k cs ty j _ _ _ _ _ _ hk' hj' hc
theorem Sim.freeze(s:Sim P h0 w0 be oe H st h a w){i s0 e sz by_:Nat}{nn:Bool}{xs:List (List Value)}(hi:nth st.ow i=some ⟨s0,.live e sz by_ nn xs⟩):
  ∃ h',O1 h h' (oe i) e sz nn xs/\Sim P h0 w0 be oe H { st with ow:=n9 st.ow i ⟨s0,.frozen (oe i)⟩ } h' a w /\
   G6 st be oe { st with ow:=n9 st.ow i ⟨s0,.frozen (oe i)⟩ } be oe:=by
 have hlt:=r00 hi
 have ho:=s.own i _ _ _ _ _ _ hi
 have gr:G6 st be oe { st with ow:=n9 st.ow i ⟨s0,.frozen (oe i)⟩ } be oe:=by
  refine⟨Nat.le_refl _,λ_ _=>rfl,λj t ht=>⟨t,?_,Nat.le_refl _,λ_=>rfl⟩⟩
  unfold stamp at ht ⊢
  simp only[w6 _ _ _ hlt]
  by_cases e1:j=i
  ·subst e1;rw[hi]at ht;simpa using ht
  ·rw[if_neg e1];exact ht
 have cases_:∀ j x,nth (n9 st.ow i ⟨s0,.frozen (oe i)⟩) j=some x->(j=i/\x=⟨s0,.frozen (oe i)⟩)∨(j≠i/\nth st.ow j=some x):=by
  intro j x hj
  simp only[w6 _ _ _ hlt]at hj
  split at hj
  ·rename_i e;simp at hj;exact .inl ⟨e,hj.symm⟩
  ·rename_i e;exact .inr ⟨e,hj⟩
 have main:∀ h',(∀ b,(oe i).ownBlock≠some b->h' b=h b)->(∀ b o,h' b=some o->H b=some o) ->
   Sim P h0 w0 be oe H { st with ow:=n9 st.ow i ⟨s0,.frozen (oe i)⟩ } h' a w:=by
  intro h' hk hsub
  refine⟨s.mv,hsub,?_,s.pub,?_,?_,s.bb,?_,?_,s.dfr,s.siz,λt=>(s.fr t).grow gr⟩
  ·intro k cs ty hk'
   obtain⟨h1,vs,h2,h3⟩:=s.box k cs ty hk'
   exact⟨by rw[hk _ (s.bo k cs ty i _ _ _ _ _ _ hk' hi)];exact h1,vs,h2.grow gr,h3⟩
  ·intro j s' e1 sz1 by1 nn1 xs1 hj
   rcases cases_ j _ hj with⟨rfl,e2⟩|⟨e2,hj'⟩
   ·cases e2
   ·refine(s.own j _ _ _ _ _ _ hj').keep λg hg=>⟨rfl,?_⟩
    rw[hk g (λhc=>e2 (s.oo j i _ _ _ _ _ _ _ _ _ _ _ _ g hj' hi hg hc))]
    exact((s.own j _ _ _ _ _ _ hj').block hg).1
  ·intro j s' v' hj
   rcases cases_ j _ hj with⟨rfl,e2⟩|⟨e2,hj'⟩
   ·cases e2;rfl
   ·exact s.frz j s' v' hj'
  ·intro x y s1 e1 sz1 by1 nn1 xs1 s2 e2 sz2 by2 nn2 xs2 g hx hy gx gy
   rcases cases_ x _ hx with⟨rfl,e3⟩|⟨e3,hx'⟩<;>rcases cases_ y _ hy with⟨rfl,e4⟩|⟨e4,hy'⟩
   ·rfl
   ·cases e3
   ·cases e4
   ·exact s.oo x y _ _ _ _ _ _ _ _ _ _ _ _ g hx' hy' gx gy
  ·intro k cs ty j s1 e1 sz1 by1 nn1 xs1 hk' hj hc
   rcases cases_ j _ hj with⟨rfl,e4⟩|⟨e4,hj'⟩
   ·cases e4
   ·exact s.bo k cs ty j _ _ _ _ _ _ hk' hj' hc
 rcases ho.2 with⟨hv,hx,hn⟩|⟨g,cap,cur,hv,h1,h2,r⟩
 ·exact⟨h,⟨ho.1,.inl ⟨hv,hx,hn,rfl⟩⟩,main h (λ_ _=>rfl) s.sub,gr⟩
 ·refine⟨h.set g (.cells cur e (0,0)),⟨ho.1,.inr ⟨g,cap,cur,hv,h1,rfl,r⟩⟩,main _ ?_ ?_,gr⟩
  ·intro b hb
   exact Hp.set_other _ _ (λe'=>hb (by rw[hv];simp[Value.ownBlock,e']))
  ·intro b o hb
   by_cases e':b=g
   ·subst e';simp[Hp.set]at hb;subst hb;exact h2
   ·rw[Hp.set_other _ _ e']at hb;exact s.sub b o hb
theorem Sim.publ(s:Sim P h0 w0 be oe H st h a w){i:Nat}{cs:List a5}{ty:TypeId}(hi:nth st.bx i=some (.live cs ty)){vs:List Value}
  (hH:H (be i)=some (.cells vs.toArray ty (0,0))) :
  h (be i)=none/\Sim P h0 w0 be oe H { st with bx:=n9 st.bx i (.publ (be i)) } (h.set (be i) (.cells vs.toArray ty (0,0))) a w /\
   G6 st be oe { st with bx:=n9 st.bx i (.publ (be i)) } be oe:=by
 have hlt:=r00 hi
 have hh:=(s.box i cs ty hi).1
 have gr:G6 st be oe { st with bx:=n9 st.bx i (.publ (be i)) } be oe :=
  ⟨by simp[r03],λ_ _=>rfl,λj t ht=>⟨t,ht,Nat.le_refl _,λ_=>rfl⟩⟩
 have cases_:∀ j x,nth (n9 st.bx i (.publ (be i))) j=some x->(j=i/\x = .publ (be i))∨(j≠i/\nth st.bx j=some x):=by
  intro j x hj
  simp only[w6 _ _ _ hlt]at hj
  split at hj
  ·rename_i e;simp at hj;exact .inl ⟨e,hj.symm⟩
  ·rename_i e;exact .inr ⟨e,hj⟩
 refine⟨hh,⟨s.mv,?_,?_,?_,?_,s.frz,?_,s.oo,?_,s.dfr,s.siz,λt=>(s.fr t).grow gr⟩,gr⟩
 ·intro b o hb
  by_cases e':b=be i
  ·subst e';simp[Hp.set]at hb;subst hb;exact hH
  ·rw[Hp.set_other _ _ e']at hb;exact s.sub b o hb
 ·intro k cs' ty' hk
  rcases cases_ k _ hk with⟨rfl,e⟩|⟨e,hk'⟩
  ·cases e
  ·obtain⟨h1,vs',h2,h3⟩:=s.box k cs' ty' hk'
   exact⟨by rw[Hp.set_other _ _ (λe'=>e (s.bb k i _ _ _ _ hk' hi e'))];exact h1,vs',h2.grow gr,h3⟩
 ·intro k b hk
  rcases cases_ k _ hk with⟨rfl,e⟩|⟨e,hk'⟩
  ·cases e;rfl
  ·exact s.pub k b hk'
 ·intro j s' e1 sz1 by1 nn1 xs1 hj
  refine(s.own j _ _ _ _ _ _ hj).keep λg hg=>⟨rfl,?_⟩
  rw[Hp.set_other _ _ (λe'=>by subst e';exact s.bo i cs ty j _ _ _ _ _ _ hi hj hg)]
  exact((s.own j _ _ _ _ _ _ hj).block hg).1
 ·intro x y cs1 ty1 cs2 ty2 hx hy e
  rcases cases_ x _ hx with⟨_,e1⟩|⟨e1,hx'⟩
  ·cases e1
  rcases cases_ y _ hy with⟨_,e2⟩|⟨e2,hy'⟩
  ·cases e2
  exact s.bb _ _ _ _ _ _ hx' hy' e
 ·intro x cs1 ty1 j s' e sz by_ nn xs hx hj
  rcases cases_ x _ hx with⟨_,e1⟩|⟨e1,hx'⟩
  ·cases e1
  ·exact s.bo _ _ _ j _ _ _ _ _ _ hx' hj
theorem Sim.rdA(s:Sim P h0 w0 be oe H st h a w){av:AV}{x:Value}(g:M2 st be oe av x):M2 st be oe (rdA st av) x:=by
 cases av with
 |own i k =>
  simp only[Go.H.rdA]
  split
  ·rename_i s' o hn
   split
   ·rename_i hb
    have hk:=Nat.eq_of_beq_eq_true hb
    split
    ·exact g
    ·rename_i v
     obtain⟨t,h1,_,h3⟩:=g
     have:t=s':=by simp[stamp,hn]at h1;exact h1.symm
     subst this
     have:=h3 hk.symm
     rw[s.frz i _ v hn]at this
     exact this
   ·trivial
  ·trivial
 |box i off =>
  simp only[Go.H.rdA]
  split
  ·exact g
  ·rename_i b hn
   have:=g.2
   rw[s.pub i b hn]at this
   exact this
  ·trivial
 |oel i k idx sz f =>
  simp only[Go.H.rdA]
  split
  ·split
   ·exact g
   ·trivial
  ·trivial
 |_=>exact g
theorem Sim.rdO(s:Sim P h0 w0 be oe H st h a w)(x:Operand):M2 st be oe (rdO st x) (a.eval x):=by
 cases x with
 |tmp t=>exact s.rdA (s.fr t)
 |const v=>rfl
 |global g=>trivial
 |func f=>rfl
theorem H04{st:St}{av:AV}{i k:Nat}(h:Go.H.rdA st av = .own i k):∃ e sz by_ nn xs,nth st.ow i=some ⟨k,.live e sz by_ nn xs⟩:=by
 cases av with
 |own j l =>
  simp only[Go.H.rdA]at h
  split at h
  ·rename_i s' o hn
   split at h
   ·rename_i hb
    split at h
    ·cases h
     rw[Nat.eq_of_beq_eq_true hb]at hn
     exact⟨_,_,_,_,_,hn⟩
    ·cases h
   ·cases h
  ·cases h
 |box j off=>simp only[Go.H.rdA]at h;split at h<;>cases h
 |oel j l idx sz f=>simp only[Go.H.rdA]at h;split at h<;>(try split at h)<;>cases h
 |_=>cases h
theorem I04{st:St}{x:Operand}{i k:Nat}(h:Go.H.rdO st x = .own i k):∃ e sz by_ nn xs,nth st.ow i=some ⟨k,.live e sz by_ nn xs⟩:=by
 cases x with
 |tmp t=>exact H04 h
 |_=>cases h
theorem G0d{st:St}{av:AV}{i k:Nat}{idx:Int}{sz f:Nat}(h:Go.H.rdA st av = .oel i k idx sz f):∃ e sz' by_ nn xs,nth st.ow i=some ⟨k,.live e sz' by_ nn xs⟩:=by
 cases av with
 |own j l=>simp only[Go.H.rdA]at h;split at h<;>(try split at h)<;>(try split at h)<;>cases h
 |box j off=>simp only[Go.H.rdA]at h;split at h<;>cases h
 |oel j l idx sz f =>
  simp only[Go.H.rdA]at h
  split at h
  ·rename_i s' e1 sz1 by1 nn1 xs1 hn
   split at h
   ·rename_i hb
    cases h
    rw[Nat.eq_of_beq_eq_true hb]at hn
    exact⟨_,_,_,_,_,hn⟩
   ·cases h
  ·cases h
 |_=>cases h
theorem H0d{st:St}{x:Operand}{i k:Nat}{idx:Int}{sz f:Nat}(h:Go.H.rdO st x = .oel i k idx sz f):∃ e sz' by_ nn xs,nth st.ow i=some ⟨k,.live e sz' by_ nn xs⟩:=by
 cases x with
 |tmp t=>exact G0d h
 |_=>cases h
theorem M2.own_cur{st:St}{be:Nat->Nat}{oe:Nat->Value}{i k:Nat}{x:Value}{o:OSt}(g:M2 st be oe (.own i k) x)(hn:nth st.ow i=some ⟨k,o⟩):x=oe i:=by
 obtain⟨s,h1,_,h3⟩:=g
 have:s=k:=by simp[stamp,hn]at h1;exact h1.symm
 exact h3 this.symm
theorem M2.oel_cur{st:St}{be:Nat->Nat}{oe:Nat->Value}{i k:Nat}{idx:Int}{sz f:Nat}{x:Value}{o:OSt}(g:M2 st be oe (.oel i k idx sz f) x)(hn:nth st.ow i=some ⟨k,o⟩):
  ∃ g n c,oe i = .slice (some ⟨g,0,none⟩) n c/\x=ptr g (idx.toNat*sz+f):=by
 obtain⟨s,h1,_,h3⟩:=g
 have:s=k:=by simp[stamp,hn]at h1;exact h1.symm
 exact h3 this.symm
theorem B05{st:St}:∀ {cs:List a5} {vs ws:List Value},t0a cs=some vs->V1 st oe cs ws->ws=vs
 | [],vs,[],h,_=>by cases h;rfl
 | [],vs,_::_,h,g=>g.elim
 | .val v::r,vs,[],h,g=>g.elim
 | .val v::r,vs,w::ws,h,g=>by
  simp only[t0a]at h
  split at h
  ·rename_i vs' hr
   cases h
   obtain⟨g1,g2⟩:=g
   rw[B05 hr g2,show w=v from g1]
  ·cases h
 | .own i k::r,vs,ws,h,g=>by cases h
theorem L6{st:St}{av:AV}{v x:Value}(h:Q02 av=some v)(g:M2 st be oe av x):x=v:=by
 cases av with
 |val u=>cases h;exact g
 |agg cs =>
  simp only[Q02]at h
  split at h
  ·rename_i vs hv
   cases h
   obtain⟨ws,rfl,g2⟩:=g
   rw[B05 hv g2]
  ·cases h
 |_=>cases h
end
end Go.H
namespace Go.H
set_option linter.unusedVariables false
theorem M1{P:Program}{α β:Type}(s:Sem α)(f:α->Sem β):∀(h:Hp) (K:β->Hp->Prop),wpS P (s >>= f) h K=wpS P s h (λx h'=>wpS P (f x) h' K):=by
 change ∀(h:Hp) (K:β->Hp->Prop),wpS P (s.bind f) h K=wpS P s h (λx h'=>wpS P (f x) h' K)
 induction s with
 |pure a=>intro h K;rfl
 |load m a k ih=>intro h K;simp only[Sem.bind,wpS,ih]
 |store m a v k ih=>intro h K;simp only[Sem.bind,wpS,ih]
 |new o k ih=>intro h K;simp only[Sem.bind,wpS,ih]
 |shape r k ih=>intro h K;simp only[Sem.bind,wpS,ih]
 |freeze a n k ih=>intro h K;rfl
 |frozen a k ih=>intro h K;simp only[Sem.bind,wpS,ih]
 |getObj r k ih=>intro h K;simp only[Sem.bind,wpS,ih]
 |setObj r o k ih=>intro h K;simp only[Sem.bind,wpS,ih]
 |choose q k ih=>intro h K;simp only[Sem.bind,wpS,ih]
 |sys c k ih=>intro h K;rfl
 |program k ih=>intro h K;simp only[Sem.bind,wpS,ih]
 |mark m k ih=>intro h K;simp only[Sem.bind,wpS,ih]
 |halt x=>intro h K;rfl
theorem Q1{P:Program}{α:Type}(x:α)(h:Hp)(K:α->Hp->Prop):wpS P (pure x) h K=K x h:=rfl
theorem c0i{P:Program}{α:Type}(s:Sem α){x:α}(he:evP P s=some x):∀ w:World,s.run P w = .ok x w:=by
 induction s with
 |pure a=>intro w;simp only[evP,Option.some.injEq]at he;subst he;rfl
 |program k ih=>intro w;exact ih _ he w
 |mark m k ih=>intro w;exact ih he w
 |_=>simp[evP]at he
theorem c06(ρ:Operand->Value):∀ l:List Operand,A0d ρ l=l.map ρ
 | []=>rfl
 |x::r=>by simp only[A0d,List.map_cons,c06 ρ r]
theorem d0i:∀ a b:List Value,E0k a b=a++b
 | [],b=>rfl
 |x::r,b=>by simp only[E0k,List.cons_append,d0i r b]
theorem d04:∀ l:List Operand,s05 l=l.map fun | .const _=>true|_=>false
 | []=>rfl
 | .const _::r=>by simp only[s05,List.map_cons,d04 r]
 | .tmp _::r=>by simp only[s05,List.map_cons,d04 r]
 | .global _::r=>by simp only[s05,List.map_cons,d04 r]
 | .func _::r=>by simp only[s05,List.map_cons,d04 r]
theorem E07(ρ:Operand->Value)(o:Oper):x06 ρ o=execOp ρ o:=by
 unfold x06
 split
 ·rename_i c hop
  obtain⟨cal,as,ts⟩:=c
  split
  ·rename_i b hb
   simp only at hb
   subst hb
   unfold execOp
   rw[hop]
   simp only[resolve,c06,d04]
   rw[show(List.map ρ as.toList).toArray=as.map ρ from by apply Array.ext';simp]
   have hl:∀ f:Operand->Bool,(List.map f as.toList).toArray=as.map f:=λf=>by apply Array.ext';simp
   rw[hl]
   rfl
  ·rfl
 ·rename_i fn first captured hop
  unfold execOp
  rw[hop]
  simp only[c06]
  rw[show(List.map ρ first.toList).toArray=first.map ρ from by apply Array.ext';simp,show(List.map ρ captured.toList).toArray=captured.map ρ from by apply Array.ext';simp]
 ·rfl
theorem d06{P:Program}{ρ:Operand->Value}{o:Oper}{f:FuncId}{l:List Value}(hc:r05 ρ o=some (f,l))(ho:okF P f=true)(w:World):(execOp ρ o).run P w = .ok (.enter f l.toArray) w:=by
 unfold r05 at hc
 split at hc
 ·rename_i c hop
  obtain⟨cal,as,ts⟩:=c
  split at hc
  ·rename_i x hx
   simp only at hx
   subst hx
   split at hc
   ·rename_i f' first captured hv
    cases hc
    unfold okF at ho
    split at ho
    ·rename_i fn hf
     split at ho
     ·rename_i bd hb
      split at ho
      ·cases ho
      ·rename_i hn
       unfold execOp
       rw[hop]
       simp only[resolve,hv,Deferred.ofValue,Sem.run_bind,Sem.run_pure,Result.andThen_ok,invoke,callFunc,program,Sem.run,hf,hn,hb,Bool.false_eq_true,if_false,Option.isNone_some]
       congr 2
       apply Array.ext'
       simp[d0i,c06]
     ·cases ho
    ·cases ho
   ·cases hc
  ·cases hc
 ·cases hc
section
variable {P:Program} {h0:Hp} {w0:World} {be:Nat->Nat} {oe:Nat->Value} {H:Hp} {st:St} {h:Hp} {a:Act} {w:World}
theorem G6.trans{st st1 st2:St}{be be1 be2:Nat->Nat}{oe oe1 oe2:Nat->Value}(g:G6 st be oe st1 be1 oe1)(k:G6 st1 be1 oe1 st2 be2 oe2):G6 st be oe st2 be2 oe2:=by
 refine⟨Nat.le_trans g.bl k.bl,λi hi=>?_,λi s hs=>?_⟩
 ·rw[k.be i (Nat.lt_of_lt_of_le hi g.bl),g.be i hi]
 ·obtain⟨s1,a1,a2,a3⟩:=g.sm i s hs
  obtain⟨s2,b1,b2,b3⟩:=k.sm i s1 a1
  exact⟨s2,b1,Nat.le_trans a2 b2,λe=>by rw[b3 (by omega),a3 (by omega)]⟩
theorem F07(s:Sim P h0 w0 be oe H st h a w){i k:Nat}{x:Value}(g:∃ t,stamp st i=some t/\k<=t/\(k=t->x=oe i)){K:Value->St->Hp->Prop}
  (he:z0d i k st h K):∃ st' h',K x st' h'/\Sim P h0 w0 be oe H st' h' a w/\G6 st be oe st' be oe/\st'.bx=st.bx:=by
 unfold z0d at he
 obtain⟨t,g1,_,g3⟩:=g
 split at he
 ·rename_i s' e sz by_ nn xs hn
  split at he
  ·rename_i hb
   have hk:=Nat.eq_of_beq_eq_true hb
   have ht:t=s':=by simp[stamp,hn]at g1;exact g1.symm
   have hx:x=oe i:=g3 (by rw[ht,hk])
   obtain⟨h',f1,f2,f3⟩:=s.freeze hn
   rw[hx]
   exact⟨_,h',he _ _ f1,f2,f3,rfl⟩
  ·exact he.elim
 ·rename_i s' v hn
  split at he
  ·rename_i hb
   have hk:=Nat.eq_of_beq_eq_true hb
   have ht:t=s':=by simp[stamp,hn]at g1;exact g1.symm
   have hx:x=v:=by rw[g3 (by rw[ht,hk]),s.frz i _ v hn]
   rw[hx]
   exact⟨st,h,he,s,G6.refl _ _ _,rfl⟩
  ·exact he.elim
 ·exact he.elim
theorem A01:∀(cs:List a5) {st:St} {h:Hp} {vs:List Value} {K:List Value->St->Hp->Prop},Sim P h0 w0 be oe H st h a w->V1 st oe cs vs->q05 cs st h K ->
  ∃ st' h',K vs st' h'/\Sim P h0 w0 be oe H st' h' a w/\G6 st be oe st' be oe/\st'.bx=st.bx
 | [],st,h,[],K,s,_,he=>⟨st,h,he,s,G6.refl _ _ _,rfl⟩
 | .val v::r,st,h,x::vs,K,s,g,he=>by
  have hx:x=v:=g.1
  subst hx
  obtain⟨st',h',k1,k2⟩:=A01 r s g.2 he
  exact⟨st',h',k1,k2⟩
 | .own i k::r,st,h,x::vs,K,s,g,he=>by
  obtain⟨st1,h1,e1,s1,g1,hb1⟩:=F07 s g.1 he
  obtain⟨st2,h2,e2,s2,g2,hb2⟩:=A01 r s1 (g.2.grow g1) e1
  exact⟨st2,h2,e2,s2,g1.trans g2,hb2.trans hb1⟩
 | [],_,_,_::_,_,_,g,_=>g.elim
 |_::_,_,_,[],_,_,g,_=>g.elim
theorem r01(s:Sim P h0 w0 be oe H st h a w){av:AV}{x:Value}(g:M2 st be oe av x){K:Value->St->Hp->Prop}(he:rfy av st h K):
  ∃ st' h',K x st' h'/\Sim P h0 w0 be oe H st' h' a w/\G6 st be oe st' be oe:=by
 cases av with
 |val v=>have hx:x=v:=g;subst hx;exact⟨st,h,he,s,G6.refl _ _ _⟩
 |own i k=>obtain⟨st',h',k1,k2,k3,_⟩:=F07 s g he;exact⟨st',h',k1,k2,k3⟩
 |box i off =>
  have hx:=g.2
  simp only[rfy,D0k]at he
  split at he
  ·rename_i cells ty hn
   obtain⟨hb,vs,gv,hH⟩:=s.box i cells ty hn
   obtain⟨st1,h1,e1,s1,g1,eb⟩:=A01 cells s gv he
   have hn1:nth st1.bx i=some (.live cells ty):=by rw[eb];exact hn
   obtain⟨p1,p2,p3⟩:=s1.publ hn1 hH
   rw[hx]
   exact⟨_,_,e1 (be i) p1,p2,g1.trans p3⟩
  ·rename_i b hn
   rw[hx,s.pub i b hn]
   exact⟨st,h,he,s,G6.refl _ _ _⟩
  ·exact he.elim
 |agg cs =>
  obtain⟨vs,rfl,gv⟩:=g
  obtain⟨st',h',k1,k2,k3,_⟩:=A01 cs s gv he
  exact⟨st',h',k1,k2,k3⟩
 |_=>exact he.elim
theorem J00:∀(l:List Operand) {st:St} {h:Hp} {K:List (Nat×Value)->St->Hp->Prop},Sim P h0 w0 be oe H st h a w->B08 l st h K ->
  ∃ vs st' h',K vs st' h'/\Sim P h0 w0 be oe H st' h' a w/\G6 st be oe st' be oe/\(∀ p∈vs,p.2=a.eval (.tmp p.1))/\(∀ x∈l,(∃ t v,x = .tmp t/\(t,v)∈vs)∨(∀ ws,rho ws x=a.eval x))
 | [],st,h,K,s,he=>⟨[],st,h,he,s,G6.refl _ _ _,by simp,by simp⟩
 | .tmp t::r,st,h,K,s,he=>by
  obtain⟨st1,h1,e1,s1,g1⟩:=r01 s (s.rdO (.tmp t)) he
  obtain⟨vs,st2,h2,e2,s2,g2,k1,k2⟩:=J00 r s1 e1
  refine⟨_,st2,h2,e2,s2,g1.trans g2,?_,?_⟩
  ·intro p hp
   rcases List.mem_cons.1 hp with rfl|hp
   ·rfl
   ·exact k1 p hp
  ·intro x hx
   rcases List.mem_cons.1 hx with rfl|hx
   ·exact .inl ⟨t,_,rfl,mS⟩
   ·rcases k2 x hx with⟨t',v',rfl,hm⟩|hf
    ·exact .inl ⟨t',v',rfl,mC _ hm⟩
    ·exact .inr hf
 | .const v::r,st,h,K,s,he=>by
  obtain⟨vs,st2,h2,e2,s2,g2,k1,k2⟩:=J00 r s he
  refine⟨vs,st2,h2,e2,s2,g2,k1,λx hx=>?_⟩
  rcases List.mem_cons.1 hx with rfl|hx
  ·exact .inr λ_=>rfl
  ·exact k2 x hx
 | .func f::r,st,h,K,s,he=>by
  obtain⟨vs,st2,h2,e2,s2,g2,k1,k2⟩:=J00 r s he
  refine⟨vs,st2,h2,e2,s2,g2,k1,λx hx=>?_⟩
  rcases List.mem_cons.1 hx with rfl|hx
  ·exact .inr λ_=>rfl
  ·exact k2 x hx
 | .global _::_,_,_,_,_,he=>he.elim
theorem M08:∀(vs:List (Nat×Value)) (t:Nat) (y:Value),(∀ p∈vs,p.1=t->p.2=y)->(∃ v,(t,v)∈vs)->T0h vs t=y
 | [],t,y,_,h=>by obtain⟨v,hv⟩:=h;cases hv
 |(k,v)::r,t,y,hall,h=>by
  simp only[T0h]
  split
  ·rename_i hb
   exact hall (k,v) mS (Nat.eq_of_beq_eq_true hb)
  ·rename_i hb
   refine M08 r t y (λp hp=>hall p (mC _ hp)) ?_
   obtain⟨u,hu⟩:=h
   rcases List.mem_cons.1 hu with e|hu
   ·cases e;exact absurd rfl (Nat.ne_of_beq_eq_false hb)
   ·exact⟨u,hu⟩
theorem e06{o:Oper}{vs:List (Nat×Value)}(hs:s07 o.op=false)(h1:∀ p∈vs,p.2=a.eval (.tmp p.1))
  (h2:∀ x∈o.op.operands.toList,(∃ t v,x = .tmp t/\(t,v)∈vs)∨(∀ ws,rho ws x=a.eval x)):execOp (rho vs) o=execOp a.eval o:=by
 refine execOp_congr o (λcs b he=>by rw[he]at hs;cases hs) λx hx=>?_
 rcases h2 x (by simpa using hx)with⟨t,v,rfl,hm⟩|hf
 ·exact M08 vs t _ (λp hp e=>by rw[h1 p hp,e]) ⟨v,hm⟩
 ·exact hf vs
def Nx(P:Program)(h0:Hp)(w0:World)(st0:St)(be0:Nat->Nat)(oe0:Nat->Value)(K:AV->St->Hp->Prop)(a:Act)(d:Option Tmp):Act->World->Prop:=λa' w' =>
 ∃ av st' h' v be oe H,K av st' h'/\a'=a.put d v/\Sim P h0 w0 be oe H st' h' a w'/\M2 st' be oe av v/\G6 st0 be0 oe0 st' be oe
theorem M6{o:Oper}{next:Act->World->Prop}{Q:Exit->Act->World->Prop}{v:Value}{w':World}(hr:(execOp a.eval o).run P w = .ok (.value v) w')
  (hn:next (a.put o.dst v) w'):o.wp P a w next Q:=by
 unfold Oper.wp;rw[hr];exact hn
theorem f06{o:Oper}{next:Act->World->Prop}{Q:Exit->Act->World->Prop}{w':World}(hr:(execOp a.eval o).run P w = .ok .skip w')
  (hn:next (a.put o.dst undef) w'):o.wp P a w next Q:=by
 unfold Oper.wp;rw[hr];exact hn
theorem W02{o:Oper}{vs:List (Nat×Value)}(h1:∀ p∈vs,p.2=a.eval (.tmp p.1))
  (h2:∀ x∈o.op.operands.toList,(∃ t v,x = .tmp t/\(t,v)∈vs)∨(∀ ws,rho ws x=a.eval x)):r05 (rho vs) o=r05 a.eval o:=by
 have key:∀ x∈o.op.operands.toList,rho vs x=a.eval x:=λx hx=>by
  rcases h2 x hx with⟨t,v,rfl,hm⟩|hf
  ·exact M08 vs t _ (λp hp e=>by rw[h1 p hp,e]) ⟨v,hm⟩
  ·exact hf vs
 unfold r05
 split
 ·rename_i c hop
  split
  ·rename_i x hx
   have hin:∀ y,y=x∨y∈c.args.toList->y∈o.op.operands.toList:=λy hy=>by
    rw[hop]
    simp only[Op.operands,Call.operands,hx]
    simpa using hy
   rw[key x (hin x (.inl rfl))]
   have:A0d (rho vs) c.args.toList=A0d a.eval c.args.toList:=by
    rw[c06,c06]
    exact List.map_congr_left λy hy=>key y (hin y (.inr hy))
   rw[this]
  ·rfl
 ·rfl
theorem T7(s:Sim P h0 w0 be oe H st h a w){o:Oper}{K:AV->St->Hp->Prop}{Q:Exit->Act->World->Prop}(he:U03 P o st h K):o.wp P a w (Nx P h0 w0 st be oe K a o.dst) Q:=by
 unfold U03 at he
 split at he
 ·exact he.elim
 rename_i hsel
 obtain⟨vs,st1,h1,e1,s1,gr,k1,k2⟩:=J00 _ s he
 rw[E07,e06 hsel k1 k2,W02 k1 k2]at e1
 split at e1
 ·rename_i f l hcf
  split at e1
  ·rename_i hok
   unfold Oper.wp
   rw[d06 hcf hok,Oper.upon_enter]
   refine(e1.run w (A05 s1)).mono ?_
   rintro e w'' ⟨v,h3,rfl,hk,hm3⟩
   obtain⟨H3,s3⟩:=s1.moved hm3
   exact⟨.val v,st1,h3,v,be,oe,H3,hk,rfl,s3,rfl,gr⟩
  ·exact e1.elim
 ·obtain⟨n,h2,w',hr,hn,hm⟩:=A8 _ _ _ (A05 s1) e1
  obtain⟨H2,s2⟩:=s1.moved hm
  cases n with
  |value v=>exact M6 hr ⟨.val v,st1,h2,v,be,oe,H2,hn,rfl,s2,rfl,gr⟩
  |skip=>exact f06 hr ⟨.val undef,st1,h2,undef,be,oe,H2,hn,rfl,s2,rfl,gr⟩
  |_=>exact hn.elim
theorem Sim.still(s:Sim P h0 w0 be oe H st h a w){hf:Hp}{w':World}(hsub:∀ b o,hf b=some o->H b=some o)(m:P2 hf w hf w'):Sim P h0 w0 be oe H st h a w':=by
 refine⟨s.mv.trans ⟨m.os,m.tape,m.output,m.size,?_,?_,λb hb => .inl hb,m.fz,m.dn⟩,s.sub,s.box,s.pub,s.own,s.frz,s.bb,s.oo,s.bo,s.dfr,s.siz,s.fr⟩
 ·intro b hb hn
  refine m.keep b hb ?_
  cases hc:hf b with
  |none=>rfl
  |some o=>rw[hsub b o hc]at hn;cases hn
 ·intro b o hb
  cases hc:hf b with
  |some o' =>
   have:=hsub b o' hc
   rw[this]at hb;cases hb
   exact m.vis b _ hc
  |none=>rw[m.keep b (s.mv.vis.lt (by rw[hb];simp)) hc];exact s.mv.vis b o hb
theorem c0f(s:Sim P h0 w0 be oe H st h a w){o:Oper}{K:AV->St->Hp->Prop}{Q:Exit->Act->World->Prop}(he:F0k P o st h K):o.wp P a w (Nx P h0 w0 st be oe K a o.dst) Q:=by
 unfold F0k at he
 split at he
 ·exact he.elim
 rename_i hsel
 obtain⟨vs,st1,h1,e1,s1,_,k1,k2⟩:=J00 _ s he
 rw[W02 k1 k2]at e1
 split at e1
 ·rename_i f l hcf
  split at e1
  ·rename_i hok
   unfold Oper.wp
   rw[d06 hcf hok,Oper.upon_enter]
   refine(e1.run w (A05 s1)).mono ?_
   rintro e w'' ⟨v,h3,rfl,⟨rfl,hk⟩,hm3⟩
   exact⟨.val v,st,h,v,be,oe,H,hk,rfl,s.still s1.sub hm3,rfl,G6.refl _ _ _⟩
  ·exact e1.elim
 ·exact e1.elim
theorem o9(s:Sim P h0 w0 be oe H st h a w){o:Oper}{K:AV->St->Hp->Prop}{Q:Exit->Act->World->Prop}(he:L0g P o st h K):o.wp P a w (Nx P h0 w0 st be oe K a o.dst) Q:=by
 unfold L0g at he
 split at he
 ·rcases he with he|he
  ·exact T7 s he
  ·exact c0f s he
 ·exact T7 s he
theorem V06(s:Sim P h0 w0 be oe H st h a w){o:Oper}{K:AV->St->Hp->Prop}{Q:Exit->Act->World->Prop}(he:H0k P o st h K):o.wp P a w (Nx P h0 w0 st be oe K a o.dst) Q:=by
 unfold H0k at he
 split at he
 ·exact he.elim
 rename_i hsel
 obtain⟨vs,st1,h1,e1,s1,gr,k1,k2⟩:=J00 _ s he
 rw[W02 k1 k2]at e1
 split at e1
 ·exact e1.elim
 obtain⟨v,h2,e2,hk⟩:=e1
 have e3:=e2 (λn h'=>(n = .value v∨n = .skip/\v=undef)/\h'=h2) ⟨⟨.inl rfl,rfl⟩,λe=>⟨.inr ⟨rfl,e⟩,rfl⟩⟩
 rw[E07,e06 hsel k1 k2]at e3
 obtain⟨n,h2',w',hr,⟨hn,rfl⟩,hm⟩:=A8 _ _ _ (A05 s1) e3
 obtain⟨H2,s2⟩:=s1.moved hm
 rcases hn with rfl|⟨rfl,rfl⟩
 ·exact M6 hr ⟨.val v,st1,h2',v,be,oe,H2,hk,rfl,s2,rfl,gr⟩
 ·exact f06 hr ⟨.val undef,st1,h2',undef,be,oe,H2,hk,rfl,s2,rfl,gr⟩
end
end Go.H
namespace Go.H
set_option linter.unusedVariables false
section
variable {P:Program}
theorem I2{t:TypeId}{d:TypeDesc}(hu:P.underlying t=some d)(h:Hp)(K:TypeDesc->Hp->Prop):wpS P (underlying t) h K=K d h:=by
 simp only[underlying,program,M1,wpS,Q1,hu]
theorem G07{t:TypeId}{i:TypeInfo}(hi:P.info? t=some i)(h:Hp)(K:TypeInfo->Hp->Prop):wpS P (typeInfo t) h K=K i h:=by
 simp only[typeInfo,program,M1,wpS,Q1,hi]
theorem K8{t:TypeId}{n:Nat}(hs:s5 P t=some n)(h:Hp)(K:Nat->Hp->Prop):wpS P (sizeOf t) h K=K n h:=by
 unfold s5 at hs
 split at hs
 ·rename_i i hi
  simp only[sizeOf,M1,G07 hi,Q1]
  cases hs;rfl
 ·cases hs
theorem C05{t:TypeId}{z:Value}(hz:w9 P t=some z)(h:Hp)(K:Value->Hp->Prop):wpS P (zeroValue t) h K=K z h:=by
 unfold w9 at hz
 split at hz
 ·rename_i i hi
  simp only[zeroValue,M1,G07 hi,hz,Q1]
 ·cases hz
theorem e04{t:TypeId}{b:Bool}(ha:f0c P t=some b)(h:Hp)(K:Bool->Hp->Prop):wpS P (isAgg t) h K=K b h:=by
 unfold f0c at ha
 split at ha
 ·rename_i hu;cases ha;simp only[isAgg,M1,I2 hu,Q1]
 ·rename_i hu;cases ha;simp only[isAgg,M1,I2 hu,Q1]
 ·rename_i d h1 h2 hu
  cases ha
  simp only[isAgg,M1,I2 hu]
  cases d<;>first|rfl|exact absurd hu (h1 _)|exact absurd hu (h2 _ _)
 ·cases ha
theorem s03{H:Hp}{b o:Nat}:∀(vs:List Value) (i:Nat) (acc:Array Value) (K:Array Value->Hp->Prop),(∀ j v,vs[j]?=some v->Hp.cell H b (o+i+j)=some v) ->
  K (acc++vs.toArray) H->wpS P (loadCellsFrom ⟨b,o,none⟩ i vs.length acc) H K
 | [],i,acc,K,_,hk=>by simpa [loadCellsFrom,Q1] using hk
 |v::vs,i,acc,K,hc,hk=>by
  have h0:=hc 0 v (by simp)
  simp only[loadCellsFrom,List.length_cons,M1,load,wpS]
  have hadd:(⟨b,o,none⟩:Addr).add i=⟨b,o+i,none⟩:=by unfold Addr.add;split<;>simp_all
  rw[hadd]
  refine⟨v,⟨rfl,by simpa using h0⟩,s03 vs (i+1) (acc.push v) K ?_ ?_⟩
  ·intro j u hj
   have:=hc (j+1) u (by simpa using hj)
   rw[show o+(i+1)+j=o+i+(j+1) from by omega]
   exact this
  ·simpa using hk
theorem f01{α:Type}:∀(l:List α) (n:Nat),F04 l n=true->l.length=n
 | [],0,_=>rfl
 |_::r,k+1,h=>by simp[f01 r k h]
 | [],_+1,h=>by cases h
 |_::_,0,h=>by cases h
variable {h0:Hp} {w0:World} {be:Nat->Nat} {oe:Nat->Value} {H:Hp} {st:St} {h:Hp} {a:Act} {w:World}
theorem M2.ofCell{st:St}{be:Nat->Nat}{oe:Nat->Value}{c:a5}{v:Value}(g:E0a st oe c v):M2 st be oe (ofCell c) v:=by
 cases c with
 |val u=>exact g
 |own i k=>exact g
theorem load_row{t:TypeId}{cs:List a5}{vs:List Value}{off:Nat}{K:AV->Prop}{b o:Nat}(he:n03 P t cs off K)(g:V1 st oe cs vs)
  (hc:∀ j v,vs[j]?=some v->Hp.cell H b (o+j)=some v):∃ av v,K av/\M2 st be oe av v/\∀ Kn:Value->Hp->Prop,Kn v H->wpS P (loadVar t ⟨b,o+off,none⟩) H Kn:=by
 unfold n03 at he
 split at he
 ·rename_i ha
  split at he
  ·rename_i n hn
   split at he
   ·rename_i hl
    have hlen:=f01 _ _ hl
    have g':=(g.drop off).take n
    refine⟨_,.agg ((vs.drop off).take n).toArray,he,⟨_,rfl,g'⟩,λKn hk=>?_⟩
    have hlv:((vs.drop off).take n).length=n:=by rw[←g'.length,hlen]
    simp only[loadVar,M1,e04 ha,if_true,K8 hn,loadCells]
    have:=s03 (P:=P) (H:=H) (b:=b) (o:=o+off) ((vs.drop off).take n) 0 #[] (λx h'=>wpS P (pure (Value.agg x)) h' Kn) (λj v hj=>by
     rw[List.getElem?_take]at hj
     split at hj
     ·rw[List.getElem?_drop]at hj
      rw[show o+off+0+j=o+(off+j) from by omega]
      exact hc _ _ hj
     ·cases hj) (by simpa [Q1] using hk)
    rw[hlv]at this
    exact this
   ·exact he.elim
  ·exact he.elim
 ·rename_i ha
  split at he
  ·rename_i c hn
   obtain⟨v,hv,gc⟩:=g.nth hn
   refine⟨_,v,he,M2.ofCell gc,λKn hk=>?_⟩
   simp only[loadVar,M1,e04 ha,Bool.false_eq_true,if_false,load,wpS]
   exact⟨v,⟨trivial,hc _ _ hv⟩,hk⟩
  ·exact he.elim
 ·exact he.elim
theorem Hp.set_set(h:Hp)(b:Nat)(x y:Obj):(h.set b x).set b y=h.set b y:=by
 funext k;simp only[Hp.set];split<;>rfl
theorem g0o{v:Value}(h:v.oneCell'=true):Z01 v:=by cases v<;>simp_all [Value.oneCell',Z01]
theorem X02{b:Nat}{t:TypeId}:∀(ns:List Value) (cur:List Value) (off i:Nat) (K:Unit->Hp->Prop) (H:Hp),H b=some (.cells cur.toArray t (0,0)) ->
  off+i+ns.length<=cur.length->(∀ v∈ns,v.oneCell'=true)->K () (H.set b (.cells (Y2 cur (off+i) ns).toArray t (0,0)))->wpS P (storeCells ⟨b,off,none⟩ ns i) H K
 | [],cur,off,i,K,H,hb,_,_,hk=>by
  have:H.set b (.cells cur.toArray t (0,0))=H:=by
   funext k;simp only[Hp.set];split
   ·rename_i e;rw[e,hb]
   ·rfl
  simp only[Y2,this]at hk
  exact hk
 |n::ns,cur,off,i,K,H,hb,hl,h1,hk=>by
  simp only[storeCells,M1,store,wpS]
  have hadd:(⟨b,off,none⟩:Addr).add i=⟨b,off+i,none⟩:=by unfold Addr.add;split<;>simp_all
  rw[hadd]
  simp only[List.length_cons]at hl
  refine⟨cur.toArray,t,(0,0),⟨hb,rfl,by simp;omega,by simp,g0o (h1 n mS)⟩,?_⟩
  refine X02 (t:=t) ns (cur.set (off+i) n) off (i+1) K _ (by simp[Hp.set]) (by simp;omega) (λv hv=>h1 v (mC _ hv)) ?_
  rw[Hp.set_set]
  simpa [Y2,Nat.add_assoc] using hk
theorem K00:∀(ns cs:List Value) (off:Nat),splice cs off ns=Y2 cs off ns
 | [],cs,off=>rfl
 |n::ns,cs,off=>by simp only[splice,Y2,D07,K00 ns]
theorem F0a(s:Sim P h0 w0 be oe H st h a w){i k:Nat}{e sz by_:Nat}{nn:Bool}{xs:List (List Value)}(hn:nth st.ow i=some ⟨k,.live e sz by_ nn xs⟩):∃ x n c,oe i = .slice x n c:=by
 rcases(s.own i _ _ _ _ _ _ hn).2 with⟨h1,_⟩|⟨g,cap,cur,h1,_⟩
 ·exact⟨_,_,_,h1⟩
 ·exact⟨_,_,_,h1⟩
theorem F02(s:Sim P h0 w0 be oe H st h a w){x:Operand}{cs:List a5}(he:R8 (rdO st x)=some cs):V1 st oe cs (a.eval x).cells.toList:=by
 have g:=s.rdO x
 cases hr:rdO st x with
 |val v =>
  rw[hr]at he g
  have hv:a.eval x=v:=g
  rw[hv]
  cases v<;>simp only[R8,Option.some.injEq]at he<;>first|(subst he;first|exact V1.vals _ _ _|exact⟨rfl,trivial⟩)|cases he
 |own i k =>
  rw[hr]at he g
  obtain⟨e,sz,by_,nn,xs,hn⟩:=I04 hr
  simp only[R8,Option.some.injEq]at he
  subst he
  have hx:a.eval x=oe i:=g.own_cur hn
  obtain⟨y,n,c,hy⟩:=F0a s hn
  rw[hx,hy]
  rw[hx,hy]at g
  exact⟨g,trivial⟩
 |agg cs' =>
  rw[hr]at he g
  simp only[R8,Option.some.injEq]at he
  subst he
  obtain⟨vs,hv,gv⟩:=g
  rw[hv]
  exact gv
 |_=>rw[hr]at he;cases he
theorem G02(s:Sim P h0 w0 be oe H st h a w):∀(cs:List a5) (vs:List Value),p03 st cs=true->V1 st oe cs vs->∀ v∈vs,v.oneCell'=true
 | [],[],_,_,v,hv=>by cases hv
 | .val u::r,x::vs,ha,g,v,hv=>by
  simp only[p03]at ha
  split at ha
  ·rename_i h1
   rcases List.mem_cons.1 hv with rfl|hv
   ·have:v=u:=g.1
    rw[this];exact h1
   ·exact G02 s r vs ha g.2 v hv
  ·cases ha
 | .own i k::r,x::vs,ha,g,v,hv=>by
  have gx:M2 st be oe (rdA st (.own i k)) x:=s.rdA (av := .own i k) g.1
  simp only[p03]at ha
  split at ha
  ·rename_i j l hj
   rcases List.mem_cons.1 hv with rfl|hv
   ·rw[hj]at gx
    obtain⟨e,sz,by_,nn,xs,hn⟩:=H04 hj
    obtain⟨y,n,c,hy⟩:=F0a s hn
    rw[gx.own_cur hn,hy];rfl
   ·exact G02 s r vs ha g.2 v hv
  ·rename_i u hu
   split at ha
   ·rename_i h1
    rcases List.mem_cons.1 hv with rfl|hv
    ·rw[hu]at gx
     have:v=u:=gx
     rw[this];exact h1
    ·exact G02 s r vs ha g.2 v hv
   ·cases ha
  ·cases ha
 | [],_::_,_,g,_,_=>g.elim
 |_::_,[],_,g,_,_=>g.elim
theorem l02:∀(vs:List Value),P02 vs=true->∀ v∈vs,v.oneCell'=true
 | [],_,v,hv=>by cases hv
 |x::r,ha,v,hv=>by
  simp only[P02]at ha
  split at ha
  ·rename_i h1
   rcases List.mem_cons.1 hv with rfl|hv
   ·exact h1
   ·exact l02 r ha v hv
  ·cases ha
end
end Go.H
namespace Go.H
set_option linter.unusedVariables false
section
variable {P:Program} {h0:Hp} {w0:World} {be:Nat->Nat} {oe:Nat->Value} {H:Hp} {st:St} {h:Hp} {a:Act} {w:World} {o:Oper} {K:AV->St->Hp->Prop} {Q:Exit->Act->World->Prop}
theorem d00(b o n:Nat):(⟨b,o,none⟩:Addr).add n=⟨b,o+n,none⟩:=by unfold Addr.add;split<;>simp_all
theorem Z5(s:Sim P h0 w0 be oe H st h a w){av:AV}{v:Value}(hw:∀ Kn:Next->Hp->Prop,Kn (.value v) H->wpS P (execOp a.eval o) H Kn)(g:M2 st be oe av v)(hk:K av st h):
  o.wp P a w (Nx P h0 w0 st be oe K a o.dst) Q:=by
 obtain⟨n,H',w',hr,⟨rfl,rfl⟩,hm⟩:=A8 _ _ _ s.mv.vis (hw (λn H'=>n = .value v/\H'=H) ⟨rfl,rfl⟩)
 have s':Sim P h0 w0 be oe H' st h a w':=s.still (hf:=H') (λ_ _ hb=>hb) hm
 exact M6 hr ⟨av,st,h,v,be,oe,H',hk,rfl,s',g,G6.refl _ _ _⟩
theorem J6{P:Program}(s:Sem Value)(H:Hp)(Kn:Next->Hp->Prop)(h:wpS P s H (λv H=>Kn (.value v) H)):wpS P (do pure (Next.value (←s))) H Kn:=by
 rw[M1];exact h
theorem h0o{P:Program}(s:Sem Unit)(H:Hp)(Kn:Next->Hp->Prop)(h:wpS P s H (λ_ H=>Kn .skip H)):wpS P (do s;pure Next.skip) H Kn:=by
 rw[M1];exact h
theorem e0i(s:Sim P h0 w0 be oe H st h a w){x:Operand}(ho:o.op = .move x∨o.op = .assign x)(he:match rdO st x with | .dead=>False|a=>K a st h):o.wp P a w (Nx P h0 w0 st be oe K a o.dst) Q:=by
 have hk:K (rdO st x) st h:=by
  revert he;cases rdO st x<;>intro he<;>first|exact he|exact he.elim
 refine Z5 s (v:=a.eval x) (λKn hk'=>?_) (s.rdO x) hk
 unfold execOp
 rcases ho with ho|ho<;>rw[ho]<;>exact hk'
theorem i0o(s:Sim P h0 w0 be oe H st h a w){t:TypeId}{x:Operand}(ho:o.op = .box t x){cs:List a5}(hc:R8 (rdO st x)=some cs)
  (he:newBox st cs t λav st=>K av st h):o.wp P a w (Nx P h0 w0 st be oe K a o.dst) Q:=by
 have g:=F02 s hc
 have hw:wpS P (execOp a.eval o) H (λn H'=>∃ b,H b=none/\n = .value (ptr b 0)/\H'=H.set b (.cells (a.eval x).cells t (0,0))):=by
  unfold execOp;rw[ho]
  refine J6 _ _ _ ?_
  simp only[Instr.box,newVar,newRow,newObj,M1,Q1,wpS]
  exact λb hb=>⟨b,hb,rfl,rfl⟩
 obtain⟨n,H',w',hr,⟨b,hb,rfl,rfl⟩,hm⟩:=A8 _ _ _ s.mv.vis hw
 have harr:(a.eval x).cells=(a.eval x).cells.toList.toArray:=by simp
 rw[harr]at hm
 rw[D08]at he
 obtain⟨s',gr⟩:=s.newBox g hb hm
 exact M6 hr ⟨_,_,h,_,_,_,_,he,rfl,s',⟨by simp,by simp⟩,gr⟩
theorem W0k(s:Sim P h0 w0 be oe H st h a w){t:TypeId}(ho:o.op = .alloc t){z:Value}(hz:w9 P t=some z)
  (he:newBox st (vals z.cells.toList) t λav st=>K av st h):o.wp P a w (Nx P h0 w0 st be oe K a o.dst) Q:=by
 have hw:wpS P (execOp a.eval o) H (λn H'=>∃ b,H b=none/\n = .value (ptr b 0)/\H'=H.set b (.cells z.cells t (0,0))):=by
  unfold execOp;rw[ho]
  refine J6 _ _ _ ?_
  simp only[Instr.alloc,newVar,newRow,newObj,M1,C05 hz,Q1,wpS]
  exact λb hb=>⟨b,hb,rfl,rfl⟩
 obtain⟨n,H',w',hr,⟨b,hb,rfl,rfl⟩,hm⟩:=A8 _ _ _ s.mv.vis hw
 have harr:z.cells=z.cells.toList.toArray:=by simp
 rw[harr]at hm
 rw[D08]at he
 obtain⟨s',gr⟩:=s.newBox (V1.vals st oe _) hb hm
 exact M6 hr ⟨_,_,h,_,_,_,_,he,rfl,s',⟨by simp,by simp⟩,gr⟩
theorem C0c{t:TypeId}{k fo:Nat}(ht:y0d P t k=some fo):∃ fs f n,P.underlying t=some (.struct fs)/\fs[k]?=some f/\s5 P f.type=some (n+1)/\f.offset=fo:=by
 unfold y0d at ht
 split at ht
 ·rename_i fs hu
  split at ht
  ·rename_i f hf
   split at ht
   ·rename_i n hn
    cases ht
    exact⟨fs,f,n,hu,hf,hn,rfl⟩
   ·cases ht
  ·cases ht
 ·cases ht
theorem y0j{t:TypeId}{j:Int}{fo:Nat}(ht:C0k P t j=some fo):∃ n e sz,P.underlying t=some (.array n e)/\s5 P e=some (sz+1)/\0<=j/\j<(n:Int)/\fo=j.toNat*(sz+1):=by
 unfold C0k at ht
 split at ht
 ·rename_i n e m hu
  split at ht
  ·rename_i sz hs hb
   cases ht
   refine⟨n,e,sz,hu,hs,Int.natCast_nonneg m,?_,rfl⟩
   have:m<n:=by simpa [Nat.blt_eq] using hb
   exact Int.ofNat_lt.2 this
  ·cases ht
 ·cases ht
theorem J04{t:TypeId}{x i:Operand}{k:IntKind}{j:Int}{fo b off:Nat}(ho:o.op = .indexAddr t x i)(ht:C0k P t j=some fo)(hx:a.eval x=ptr b off)(hi:a.eval i = .int k j):
  ∀ Kn:Next->Hp->Prop,Kn (.value (ptr b (off+fo))) H->wpS P (execOp a.eval o) H Kn:=by
 intro Kn hk
 obtain⟨n,e,sz,hu,hs,h1,h2,rfl⟩:=y0j ht
 unfold execOp;rw[ho]
 refine J6 _ _ _ ?_
 simp only[Instr.indexAt,hx,hi,asIntOf,M1,Q1,I2 hu,h1,h2,and_self,if_true,K8 hs,d00,ptr,Instr.sureAddr]
 exact hk
theorem exec_fieldAddr{t:TypeId}{x:Operand}{k fo b off:Nat}(ho:o.op = .fieldAddr t x k)(ht:y0d P t k=some fo)(hx:a.eval x=ptr b off):
  ∀ Kn:Next->Hp->Prop,Kn (.value (ptr b (off+fo))) H->wpS P (execOp a.eval o) H Kn:=by
 intro Kn hk
 obtain⟨fs,f,n,hu,hf,hn,rfl⟩:=C0c ht
 unfold execOp;rw[ho]
 refine J6 _ _ _ ?_
 simp only[Instr.fieldAt,M1,I2 hu,hf,hx,ptr,Instr.sureAddr,Q1,fieldPlace,K8 hn,Nat.add_one_ne_zero,if_false,d00]
 exact hk
theorem I0d(s:Sim P h0 w0 be oe H st h a w){t:TypeId}{x:Operand}{k:Nat}(ho:o.op = .fieldAddr t x k)
  (he:match rdO st x,y0d P t k with
  | .box i off,some fo=>K (.box i (off+fo)) st h
  | .hel s i sz k,some fo=>K (.hel s i sz (k+fo)) st h
  | .oel i s j sz k,some fo=>K (.oel i s j sz (k+fo)) st h
  | .val (.pointer (some ⟨b,off,none⟩)),some fo=>K (.val (ptr b (off+fo))) st h
  |_,_=>False):o.wp P a w (Nx P h0 w0 st be oe K a o.dst) Q:=by
 have g:=s.rdO x
 split at he
 ·rename_i i off fo h1 h2
  rw[h1]at g
  exact Z5 s (av := .box i (off+fo)) (exec_fieldAddr ho h2 g.2) ⟨g.1,rfl⟩ he
 ·rename_i sl i sz k' fo h1 h2
  rw[h1]at g
  obtain⟨b,o',n,c,e1,e2⟩:=g
  refine Z5 s (av := .hel sl i sz (k'+fo)) (exec_fieldAddr ho h2 e2) ⟨b,o',n,c,e1,?_⟩ he
  simp[Nat.add_assoc]
 ·rename_i i s0 j sz k' fo h1 h2
  rw[h1]at g
  obtain⟨e,sz',by_,nn,xs,hn⟩:=H0d h1
  obtain⟨gg,n,c,e1,e2⟩:=g.oel_cur hn
  obtain⟨t0,g1,g2,g3⟩:=g
  refine Z5 s (av := .oel i s0 j sz (k'+fo)) (exec_fieldAddr ho h2 e2) ⟨t0,g1,g2,λ_=>⟨gg,n,c,e1,by simp[Nat.add_assoc]⟩⟩ he
 ·rename_i b off fo h1 h2
  rw[h1]at g
  exact Z5 s (av := .val (ptr b (off+fo))) (exec_fieldAddr (b:=b) (off:=off) ho h2 g) rfl he
 ·exact he.elim
theorem i8{t e:TypeId}(ht:H9 P t=some e):P.underlying t=some (.slice e):=by
 unfold H9 at ht
 split at ht
 ·rename_i hu;cases ht;exact hu
 ·cases ht
theorem exec_indexAddr{t e:TypeId}{x i:Operand}{k:IntKind}{j:Int}{sz b off n c:Nat}(ho:o.op = .indexAddr t x i)(ht:H9 P t=some e)(hs:s5 P e=some sz)
  (hx:a.eval x = .slice (some ⟨b,off,none⟩) n c) (hi:a.eval i = .int k j) (h1:0<=j) (h2:j<(n:Int)) :
  ∀ Kn:Next->Hp->Prop,Kn (.value (ptr b (off+j.toNat*sz))) H->wpS P (execOp a.eval o) H Kn:=by
 intro Kn hk
 have hu:=i8 ht
 unfold execOp;rw[ho]
 refine J6 _ _ _ ?_
 simp only[Instr.indexAt,hx,hi,asIntOf,M1,Q1,I2 hu,h1,h2,and_self,if_true,K8 hs,d00]
 exact hk
theorem d0f(s:Sim P h0 w0 be oe H st h a w){t:TypeId}{x:Operand}{i off:Nat}{cs:List a5}{ty:TypeId}(ho:o.op = .load t x)(hr:rdO st x = .box i off)
  (hn:nth st.bx i=some (.live cs ty)) (he:n03 P t cs off λav=>K av st h):o.wp P a w (Nx P h0 w0 st be oe K a o.dst) Q:=by
 have g:=s.rdO x
 rw[hr]at g
 obtain⟨h1,vs,h2,h3⟩:=s.box i cs ty hn
 obtain⟨av,v,k1,k2,k3⟩:=load_row (H:=H) (b:=be i) (o:=0) (be:=be) he h2 (λj v hj=>by simp[Hp.cell,h3,hj])
 refine Z5 s (λKn hk=>?_) k2 k1
 unfold execOp;rw[ho]
 refine J6 _ _ _ ?_
 rw[g.2]
 simp only[Instr.loadAt,ptr,Instr.sureAddr,M1,Q1]
 simpa using k3 _ hk
theorem e0f(s:Sim P h0 w0 be oe H st h a w){t:TypeId}{x:Operand}{sl:Value}{idx:Int}{sz k:Nat}{c:List Value}(ho:o.op = .load t x)(hr:rdO st x = .hel sl idx sz k)
  (hc:I6 h sl sz idx c) (he:n03 P t (vals c) k λav=>K av st h):o.wp P a w (Nx P h0 w0 st be oe K a o.dst) Q:=by
 have g:=s.rdO x
 rw[hr]at g
 obtain⟨b,o',n,cp,e1,e2⟩:=g
 obtain⟨_,_,b',o'',n',cp',e3,hcell⟩:=hc
 rw[e1]at e3;cases e3
 obtain⟨av,v,k1,k2,k3⟩:=load_row (H:=H) (b:=b) (o:=o'+idx.toNat*sz) (be:=be) he (V1.vals st oe c) (λj v hj=>by
  have:=hcell j v hj
  unfold Hp.cell at this ⊢
  split at this
  ·rename_i ho';rw[s.sub _ _ ho'];exact this
  ·cases this)
 refine Z5 s (λKn hk=>?_) k2 k1
 unfold execOp;rw[ho]
 refine J6 _ _ _ ?_
 rw[e2]
 simp only[Instr.loadAt,ptr,Instr.sureAddr,M1,Q1]
 simpa [Nat.add_assoc] using k3 _ hk
theorem m02{sz:Nat}:∀(xs:List (List Value)) (i:Nat) (c:List Value),(∀ x∈xs,x.length=sz)->xs[i]?=some c->∀ j v,c[j]?=some v->xs.flatten[i*sz+j]?=some v
 | [],i,c,_,h,j,v,hv=>by simp at h
 |x::xs,0,c,hl,h,j,v,hv=>by
  simp at h;subst h
  simp only[List.flatten_cons,Nat.zero_mul,Nat.zero_add]
  rw[List.getElem?_append_left (List.getElem?_eq_some_iff.1 hv).1];exact hv
 |x::xs,i+1,c,hl,h,j,v,hv=>by
  simp at h
  have hx:=hl x mS
  have:=m02 xs i c (λy hy=>hl y (mC _ hy)) h j v hv
  simp only[List.flatten_cons]
  rw[List.getElem?_append_right (by rw[hx,Nat.add_mul];omega),hx]
  rw[show(i+1)*sz+j-sz=i*sz+j from by rw[Nat.add_mul];omega]
  exact this
theorem c04.cells{h H:Hp}{v:Value}{e sz:Nat}{nn:Bool}{xs:List (List Value)}(ho:c04 h H v e sz nn xs){g n c:Nat}(hv:v = .slice (some ⟨g,0,none⟩) n c):
  ∀ j u,xs.flatten[j]?=some u->Hp.cell H g j=some u:=by
 intro j u hj
 rcases ho.2 with⟨h1,_⟩|⟨g',cap,cur,h1,_,h2,_,_,_,htake⟩
 ·rw[h1]at hv;cases hv
 ·rw[h1]at hv;cases hv
  rw[←htake,List.getElem?_take]at hj
  split at hj
  ·simpa [Hp.cell,h2] using hj
  ·cases hj
theorem f0f(s:Sim P h0 w0 be oe H st h a w){t:TypeId}{x:Operand}{i st0:Nat}{idx:Int}{sz k:Nat}{st1 e by_:Nat}{nn:Bool}{xs:List (List Value)}{c:List Value}
  (ho:o.op = .load t x) (hr:rdO st x = .oel i st0 idx sz k) (hn:nth st.ow i=some ⟨st1,.live e sz by_ nn xs⟩)
  (hc:xs[idx.toNat]?=some c) (he:n03 P t (vals c) k λav=>K av st h):o.wp P a w (Nx P h0 w0 st be oe K a o.dst) Q:=by
 have g:=s.rdO x
 rw[hr]at g
 obtain⟨e',sz',by',nn',xs',hn'⟩:=H0d hr
 obtain⟨gg,n,cp,e1,e2⟩:=g.oel_cur hn'
 have hown:=s.own i _ _ _ _ _ _ hn
 obtain⟨av,v,k1,k2,k3⟩:=load_row (H:=H) (b:=gg) (o:=idx.toNat*sz) (be:=be) he (V1.vals st oe c) (λj v hj =>
  hown.cells e1 _ _ (m02 xs _ c (λx hx=>(hown.1 x hx).1) hc j v hj))
 refine Z5 s (λKn hk=>?_) k2 k1
 unfold execOp;rw[ho]
 refine J6 _ _ _ ?_
 rw[e2]
 simp only[Instr.loadAt,ptr,Instr.sureAddr,M1,Q1]
 exact k3 _ hk
theorem K04{t:TypeId}{p x:Operand}{b off n:Nat}{cur:List Value}{ty:TypeId}(ho:o.op = .store t p x)(hs:s5 P t=some n)(hp:a.eval p=ptr b off)
  (hl:(a.eval x).cells.toList.length=n) (h1:∀ v∈(a.eval x).cells.toList,v.oneCell'=true) (hb:H b=some (.cells cur.toArray ty (0,0))) (hfit:off+n<=cur.length) :
  ∀ Kn:Next->Hp->Prop,Kn .skip (H.set b (.cells (Y2 cur off (a.eval x).cells.toList).toArray ty (0,0)))->wpS P (execOp a.eval o) H Kn:=by
 intro Kn hk
 unfold execOp;rw[ho]
 refine h0o _ _ _ ?_
 rw[hp]
 have hsz:(a.eval x).cells.size=n:=by simpa using hl
 simp only[Instr.storeAt,ptr,Instr.sureAddr,M1,Q1,storeVar,K8 hs,hsz,ne_eq,not_true_eq_false,if_false]
 refine X02 _ cur off 0 _ _ hb (by rw[hl];omega) h1 ?_
 exact hk
theorem J0d(s:Sim P h0 w0 be oe H st h a w){t:TypeId}{p x:Operand}{i off n:Nat}{cs new:List a5}{ty:TypeId}(ho:o.op = .store t p x)(hr:rdO st p = .box i off)
  (hn:nth st.bx i=some (.live cs ty)) (hc:R8 (rdO st x)=some new) (hs:s5 P t=some n) (hl:F04 new n=true) (h1:p03 st new=true)
  (he:t0j cs off new λcs=>K (.val undef) { st with bx:=n9 st.bx i (.live cs ty) } h):o.wp P a w (Nx P h0 w0 st be oe K a o.dst) Q:=by
 have g:=s.rdO p
 rw[hr]at g
 have gx:=F02 s hc
 have h1':=G02 s _ _ h1 gx
 have hlen:=f01 _ _ hl
 obtain⟨hh,vs,h2,h3⟩:=s.box i cs ty hn
 unfold t0j at he
 split at he
 ·rename_i hfit
  have hfit:=Nat.le_of_ble_eq_true hfit
  have hxl:(a.eval x).cells.toList.length=n:=by rw[←gx.length,hlen]
  have hw:=K04 (H:=H) (P:=P) (a:=a) ho hs g.2 hxl h1' h3 (by rw[←h2.length];omega)
  obtain⟨nx,H',w',hr',⟨rfl,rfl⟩,hm⟩:=A8 _ _ _ s.mv.vis (hw (λn H'=>n = .skip/\H'=_) ⟨rfl,rfl⟩)
  obtain⟨s',gr⟩:=s.updBox hn (h2.splice gx) hm
  exact f06 hr' ⟨_,_,h,_,_,_,_,he,rfl,s',rfl,gr⟩
 ·exact he.elim
end
end Go.H
namespace Go.H
set_option linter.unusedVariables false
section
variable {P:Program} {h0:Hp} {w0:World} {be:Nat->Nat} {oe:Nat->Value} {H:Hp} {st:St} {h:Hp} {a:Act} {w:World} {o:Oper} {K:AV->St->Hp->Prop} {Q:Exit->Act->World->Prop}
theorem s00{sz:Nat}:∀(xs:List (List Value)),(∀ x∈xs,x.length=sz)->xs.flatten.length=xs.length*sz
 | [],_=>by simp
 |x::xs,hl=>by
  have:=s00 xs (λy hy=>hl y (mC _ hy))
  simp only[List.flatten_cons,List.length_append,hl x mS,this,List.length_cons,Nat.add_mul,Nat.one_mul]
  omega
def f0i(w:World)(y:Value)(sz:Nat)(ys:List (List Value)):Prop :=
 (∀ x∈ys,x.length=sz/\∀ v∈x,v.oneCell'=true) /\
 ((∃ ad c,y = .slice (some ad) ys.length c/\∀ j u,ys.flatten[j]?=some u->w.cell? (ad.add j)=some u)∨(∃ c,y = .slice none 0 c/\ys = []))
theorem P2.newD{H:Hp}{w:World}(hv:Vis H w)(x:Obj)(hz:N0m x=true):P2 H w (H.set w.heap.size x) (w.drew.alloc x) :=
 (P2.drawn hv (w.drawn+1) (Nat.le_succ _)).trans (P2.new (w:=w.drew) hv x hz)
theorem Y00{H:Hp}{w:World}(hv:Vis H w):H w.heap.size=none:=by
 cases hc:H w.heap.size with
 |none=>rfl
 |some x=>exact absurd (hv.lt (b:=w.heap.size) (by simp[hc])) (Nat.lt_irrefl _)
theorem G0a{h H:Hp}(hs:∀ b o,h b=some o->H b=some o){g:Nat}(hg:H g=none){e sz cap:Nat}{nn:Bool}{xs:List (List Value)}{cur:Array Value}
  (h1:∀ x∈xs,x.length=sz/\∀ v∈x,v.oneCell'=true) (h2:xs.length<=cap) (h3:cap<=maxLen) (h4:cur.size=cap*sz) (h5:cur.toList.take (xs.length*sz)=xs.flatten) :
  c04 h (H.set g (.cells cur e (0,0))) (.slice (some ⟨g,0,none⟩) xs.length cap) e sz nn xs:=by
 refine⟨h1,.inr ⟨g,cap,cur,rfl,?_,by simp[Hp.set],h2,h3,h4,h5⟩⟩
 cases hc:h g with
 |none=>rfl
 |some o=>rw[hs g o hc]at hg;cases hg
theorem C09{t e ty sz by_:Nat}{i:TypeInfo}{z:Value}(ht:P.underlying t=some (.slice e))(hi:P.info? e=some i)(hz:i.zero=some z)(hsz:i.size=sz)(hp:0<sz)
  (hby:i.bytes=by_) (hb1:0<by_) (hzs:z.cells.size=sz) {v:Value} {nn:Bool} {xs:List (List Value)} (ho:c04 h H v e sz nn xs) (hv:Vis H w) (hsub:∀ b o,h b=some o->H b=some o)
  {y:Value} {ys:List (List Value)} (hy:f0i w y sz ys) (hr:W03 (xs.length+ys.length) by_) :
  ∃ v' w' H',(Builtin.append_ #[t,t] ty #[v,y]).run P w = .ok v' w'/\P2 H w H' w'/\c04 h H' v' e sz (nn || j02 ys) (xs++ys) /\
   (∀ b,v.ownBlock≠some b->H b≠none->H' b=H b)/\(∀ g,v'.ownBlock=some g->v.ownBlock=some g∨H g=none)/\(ys = []->v'=v):=by
 subst hsz
 subst hby
 have hlen:xs.length+ys.length<=140737488355328:=Nat.le_trans (Nat.le_mul_of_pos_right _ hb1) hr
 have hl63:((xs.length+ys.length:Nat):Int)<=9223372036854775807:=by omega
 have hall:∀ x∈xs++ys,x.length=i.size/\∀ v∈x,v.oneCell'=true:=λx hx=>by
  rcases List.mem_append.1 hx with hx|hx
  ·exact ho.1 x hx
  ·exact hy.1 x hx
 have hfx:=s00 xs (λx hx=>(ho.1 x hx).1)
 have hfy:=s00 ys (λx hx=>(hy.1 x hx).1)
 have hone:∀ u∈ys.flatten,u.oneCell'=true:=λu hu=>by
  obtain⟨x,hx,hux⟩:=List.mem_flatten.1 hu
  exact(hy.1 x hx).2 u hux
 have hcap:∀ old,grownCap w (xs.length+ys.length) old e<=maxLen:=λold=>grownCap_le_maxLen w _ old e (by unfold maxLen;omega)
 have grown:∀ old,c04 h (H.set w.heap.size (.cells (xs.flatten.toArray++ys.flatten.toArray++Builtin.zeroCells z.cells (grownCap w (xs.length+ys.length) old e-(xs.length+ys.length))) e (0,0)))
   (.slice (some ⟨w.heap.size,0,none⟩) (xs++ys).length (grownCap w (xs.length+ys.length) old e)) e i.size (nn || j02 ys) (xs++ys):=λold=>by
  have hge:=grownCap_ge w (xs.length+ys.length) old e
  refine G0a hsub (Y00 hv) hall (by simpa using hge) (hcap old) ?_ ?_
  ·simp only[Array.size_append,List.size_toArray,hfx,hfy,size_zeroCells,hzs,←Nat.add_mul]
   congr 1;omega
  ·simp only[Array.toList_append,List.flatten_append,List.append_assoc,List.length_append]
   rw[←List.append_assoc,List.take_append_of_le_length (by simp[hfx,hfy,Nat.add_mul]),List.take_of_length_le (by simp[hfx,hfy,Nat.add_mul])]
 have hsame:ys = []->c04 h H v e i.size (nn || j02 ys) (xs++ys):=λhn=>by subst hn;simpa [j02] using ho
 have keepN:∀(x:Obj) b,v.ownBlock≠some b->H b≠none->(H.set w.heap.size x) b=H b:=λx b _ hb=>Hp.set_other _ _ (λe=>by subst e;exact hb (Y00 hv))
 rcases hy.2 with⟨ad,c,rfl,hc⟩|⟨c,rfl,hys⟩
 ·rcases ho.2 with⟨rfl,rfl,rfl⟩|⟨g,cap,cur,rfl,hg1,hg2,hnc,hcm,hcs,htake⟩
  ·by_cases hm:ys.length=0
   ·have hys:ys = []:=List.eq_nil_of_length_eq_zero hm
    refine⟨_,w,H,?_,P2.refl hv,hsame hys,λ_ _ _=>rfl,λg hg => .inl hg,λ_=>rfl⟩
    simp[Builtin.append_,run_underlying ht,sizeOf,typeInfo,hi,Builtin.lenOf,Builtin.firstCells,loadCells,loadCellsFrom,hm]
   ·have hrun:=run_append_nil (P:=P) w t ty e i z ht hi hz ad ys.length c ys.flatten hfy hc (by omega) (by simp at hlen;omega) (by have:=hr;unfold W03 at this;simp at this;omega)
    have g0:=grown 0
    simp only[List.length_nil,Nat.zero_add,List.nil_append,List.flatten_nil]at g0
    simp only[Array.empty_append]at g0
    refine⟨_,_,_,hrun,P2.newD hv _ rfl,by simpa using g0,keepN _,λg hg => .inr ?_,λe=>by rw[e]at hm;simp at hm⟩
    simp[Value.ownBlock]at hg
    rw[←hg];exact Y00 hv
  ·have hold:∀ j u,xs.flatten[j]?=some u->w.cell? ((⟨g,0,none⟩:Addr).add j)=some u:=λj u hj=>by
    rw[d00,Nat.zero_add]
    refine T03 hv rfl ?_
    exact ho.cells rfl j u hj
   by_cases hroom:xs.length+ys.length<=cap
   ·have hw:=hv _ _ hg2
    have hfit:xs.length*i.size+ys.flatten.length<=cur.size:=by rw[hfy,hcs,←Nat.add_mul];exact Nat.mul_le_mul_right _ hroom
    have hrun:=run_append_room (P:=P) w t ty e i ht hi g xs.length cap cur hw ad ys.length c ys.flatten hfy hc hone hroom hfit
    refine⟨_,_,H.set g (.cells (cur.toList.take (xs.length*i.size)++ys.flatten++cur.toList.drop (xs.length*i.size+ys.flatten.length)).toArray e (0,0)),hrun,
     P2.upd hv hg2 (λ_=>rfl) rfl rfl rfl (by simp) (setRow_heap w g cur _ e _ hw) (λk hk=>setRow_other w g k _ hk),?_,?_,λg' hg' => .inl hg',λhn=>by simp[hn]⟩
    ·refine⟨hall,.inr ⟨g,cap,_,by simp,hg1,Hp.set_same _ _ _,by simpa using hroom,hcm,?_,?_⟩⟩
     ·simp only[List.size_toArray,List.length_append,List.length_take,List.length_drop,Array.length_toList]
      omega
     ·rw[htake]
      simp only[List.flatten_append,List.length_append]
      rw[List.take_append_of_le_length (by simp[hfx,hfy,Nat.add_mul]),List.take_of_length_le (by simp[hfx,hfy,Nat.add_mul])]
    ·intro b hb _
     exact Hp.set_other _ _ (λe=>hb (by simp[Value.ownBlock,e]))
   ·have hrun:=run_append_grow (P:=P) w t ty e i z ht hi hz ⟨g,0,none⟩ xs.length cap xs.flatten hfx hold ad ys.length c ys.flatten hfy hc (by omega) hl63 (growslice_fits (by omega) hr)
    have g0:=grown cap
    refine⟨_,_,_,hrun,P2.newD hv _ rfl,by simpa using g0,keepN _,λg' hg' => .inr ?_,λhn=>by subst hn;simp at hroom;omega⟩
    simp[Value.ownBlock]at hg'
    rw[←hg'];exact Y00 hv
 ·refine⟨v,w,H,?_,P2.refl hv,hsame hys,λ_ _ _=>rfl,λg hg => .inl hg,λ_=>rfl⟩
  rcases ho.2 with⟨rfl,_⟩|⟨g,cap,cur,rfl,_,_,hnc,_⟩
  ·simp[Builtin.append_,run_underlying ht,sizeOf,typeInfo,hi,Builtin.lenOf,Builtin.firstCells]
  ·simp[Builtin.append_,run_underlying ht,sizeOf,typeInfo,hi,Builtin.lenOf,Builtin.firstCells,hnc,storeCells]
theorem E06(b:Nat):∀(vs:List Value) (o:Nat) (w:World) (cur:Array Value) (ty:TypeId) (fz:Nat×Nat),w.heap[b]?=some (.cells cur ty fz)->(w.setCells b o vs).heap[b]?=some (.cells (Y2 cur.toList o vs).toArray ty fz)
 | [],o,w,cur,ty,fz,h=>by simpa [World.setCells,Y2] using h
 |v::r,o,w,cur,ty,fz,h=>by
  have h2:(w.setCell ⟨b,o,none⟩ v).heap[b]?=some (.cells (cur.setIfInBounds o v) ty fz):=by simp[World.setCell,Array.getElem?_modify,h]
  have:=E06 b r (o+1) _ _ _ _ h2
  simpa [World.setCells,Y2] using this
theorem D05(b:Nat):∀(vs:List Value) (o:Nat) (w:World) (k:Nat),k≠b->(w.setCells b o vs).heap[k]?=w.heap[k]?
 | [],o,w,k,h=>rfl
 |v::r,o,w,k,h=>by
  rw[World.setCells,D05 b r (o+1) _ k h]
  simp only[World.setCell,Array.getElem?_modify]
  rw[if_neg (λe=>h e.symm)]
theorem D09(b:Nat):∀(vs:List Value) (o:Nat) (w:World),(w.setCells b o vs).drawn=w.drawn
 | [],o,w=>rfl
 |v::r,o,w=>by
  rw[World.setCells,D09 b r (o+1)]
  unfold World.setCell
  split<;>rfl
theorem F06(b:Nat):∀(vs:List Value) (o:Nat) (w:World),(w.setCells b o vs).os=w.os/\(w.setCells b o vs).tape=w.tape/\(w.setCells b o vs).output=w.output/\(w.setCells b o vs).heap.size=w.heap.size
 | [],o,w=>⟨rfl,rfl,rfl,rfl⟩
 |v::r,o,w=>by
  obtain⟨h1,h2,h3,h4⟩:=F06 b r (o+1) (w.setCell ⟨b,o,none⟩ v)
  exact⟨h1,h2,h3,by rw[World.setCells,h4];simp[World.setCell]⟩
theorem n02:∀(ns vs:List Value) (off j:Nat),off+ns.length<=vs.length->(Y2 vs off ns)[j]?=if off<=j/\j<off+ns.length then ns[j-off]? else vs[j]?
 | [],vs,off,j,h=>by
  simp only[Y2,List.length_nil,Nat.add_zero]
  rw[if_neg (by omega)]
 |n::ns,vs,off,j,h=>by
  simp only[List.length_cons]at h
  rw[Y2,n02 ns _ (off+1) j (by simp;omega)]
  simp only[List.length_cons]
  by_cases e:j=off
  ·subst e
   rw[if_neg (by omega),if_pos (by omega)]
   simp[show j<vs.length by omega]
  ·by_cases h1:off+1<=j/\j<off+1+ns.length
   ·rw[if_pos h1,if_pos (by omega),show j-off=(j-(off+1))+1 by omega,List.getElem?_cons_succ]
   ·rw[if_neg h1,if_neg (by omega),List.getElem?_set,if_neg (λh=>e h.symm)]
theorem K0d{t e ty sz by_:Nat}{i:TypeInfo}{z:Value}(ht:P.underlying t=some (.slice e))(hi:P.info? e=some i)(hz:i.zero=some z)(hsz:i.size=sz)(hp:0<sz)
  (hby:i.bytes=by_) (hb1:0<by_) (hzs:z.cells.size=sz) {g o n c:Nat} {xs:List (List Value)} (hX:u0j h sz (.slice (some ⟨g,o,none⟩) n c) xs) (hv:Vis h w)
  {y:Value} {ys:List (List Value)} (hy:f0i w y sz ys) (hr:W03 (xs.length+ys.length) by_) :
  ∃ v' w' h',(Builtin.append_ #[t,t] ty #[.slice (some ⟨g,o,none⟩) n c,y]).run P w = .ok v' w'/\P2 h w h' w'/\I0k h h' sz g v' (xs++ys):=by
 subst hsz
 subst hby
 have hlen:xs.length+ys.length<=140737488355328:=Nat.le_trans (Nat.le_mul_of_pos_right _ hb1) hr
 have hl63:((xs.length+ys.length:Nat):Int)<=9223372036854775807:=by omega
 obtain⟨hall0,g',o',c',cur,bt,e1,hnc,hcm,hcs,hg,hcell⟩:=hX
 cases e1
 have hall:∀ x∈xs++ys,x.length=i.size/\∀ v∈x,v.oneCell'=true:=λx hx=>by
  rcases List.mem_append.1 hx with hx|hx
  ·exact hall0 x hx
  ·exact hy.1 x hx
 have hfx:=s00 xs (λx hx=>(hall0 x hx).1)
 have hfy:=s00 ys (λx hx=>(hy.1 x hx).1)
 have hone:∀ u∈ys.flatten,u.oneCell'=true:=λu hu=>by
  obtain⟨x,hx,hux⟩:=List.mem_flatten.1 hu
  exact(hy.1 x hx).2 u hux
 have hsame:ys = []->I0k h h i.size g (.slice (some ⟨g,o,none⟩) xs.length c) (xs++ys):=λhn=>by
  subst hn
  rw[List.append_nil]
  exact⟨⟨hall0,g,o,c,cur,bt,rfl,hnc,hcm,hcs,hg,hcell⟩,g,o,_,c,rfl,.inl rfl,λ_ _=>rfl⟩
 have hw:=hv _ _ hg
 rcases hy.2 with⟨ad,cc,rfl,hc⟩|⟨cc,rfl,hys⟩
 ·by_cases hroom:xs.length+ys.length<=c
  ·have hfit:o+xs.length*i.size+ys.flatten.length<=cur.size:=by
    have:(xs.length+ys.length)*i.size<=c*i.size:=Nat.mul_le_mul_right _ hroom
    rw[Nat.add_mul]at this
    rw[hfy]
    omega
   have hin:∀ j,j<ys.flatten.length->(w.cell? ⟨g,o+xs.length*i.size+j,none⟩).isSome=true:=λj hj=>by
    simp only[World.cell?,hw]
    simp[show o+xs.length*i.size+j<cur.size by omega]
   have hfz:∀ j,j<ys.flatten.length->w.frozen? ⟨g,o+xs.length*i.size+j,none⟩=false:=λj hj=>by
    rw[G00 (o := .cells cur bt (0,0)) hw]
    simp[U9]
   have hrun:=run_append_room_cells (P:=P) w t ty e i ht hi g o xs.length c ad ys.length cc ys.flatten hfy hc hone hroom hin hfz
   have hsp:=E06 g ys.flatten (o+xs.length*i.size) w cur bt (0,0) hw
   obtain⟨q1,q2,q3,q4⟩:=F06 g ys.flatten (o+xs.length*i.size) w
   refine⟨_,_,h.set g (.cells (Y2 cur.toList (o+xs.length*i.size) ys.flatten).toArray bt (0,0)),hrun,
    P2.upd hv hg (λ_=>rfl) q1 q2 q3 q4 hsp (λk hk=>D05 _ _ _ _ k hk) (Nat.le_of_eq (D09 _ _ _ _).symm),⟨hall,g,o,c,_,bt,by rw[List.length_append],by rw[List.length_append];exact hroom,hcm,?_,Hp.set_same _ _ _,λj u hj=>?_⟩,g,o,_,c,rfl,.inl rfl,λb hb=>Hp.set_other _ _ hb⟩
   ·simpa [A6] using hcs
   ·rw[List.flatten_append]at hj
    rw[List.getElem?_toArray,n02 _ _ _ _ (by simpa using hfit)]
    by_cases hlt:j<xs.flatten.length
    ·rw[List.getElem?_append_left hlt]at hj
     rw[if_neg (by omega),Array.getElem?_toList]
     exact hcell j u hj
    ·rw[List.getElem?_append_right (by omega)]at hj
     have hjl:=(List.getElem?_eq_some_iff.1 hj).1
     rw[if_pos (by omega),show o+j-(o+xs.length*i.size)=j-xs.flatten.length by omega]
     exact hj
  ·have hold:∀ j u,xs.flatten[j]?=some u->w.cell? ((⟨g,o,none⟩:Addr).add j)=some u:=λj u hj=>by
    rw[d00]
    refine T03 hv rfl ?_
    simp only[Hp.cell,hg]
    exact hcell j u hj
   have hrun:=run_append_grow (P:=P) w t ty e i z ht hi hz ⟨g,o,none⟩ xs.length c xs.flatten hfx hold ad ys.length cc ys.flatten hfy hc (by omega) hl63 (growslice_fits (by omega) hr)
   have hge:=grownCap_ge w (xs.length+ys.length) c e
   refine⟨_,_,_,hrun,P2.newD hv _ rfl,⟨hall,w.heap.size,0,grownCap w (xs.length+ys.length) c e,_,e,by rw[List.length_append],by rw[List.length_append];exact hge,grownCap_le_maxLen w _ c e (by unfold maxLen;omega),?_,Hp.set_same _ _ _,λj u hj=>?_⟩,w.heap.size,0,_,_,rfl,.inr (Y00 hv),λb hb=>Hp.set_other _ _ hb⟩
   ·simp only[Array.size_append,List.size_toArray,hfx,hfy,size_zeroCells,hzs,←Nat.add_mul,Nat.zero_add]
    refine Nat.le_of_eq ?_
    congr 1;omega
   ·rw[List.flatten_append]at hj
    rw[Nat.zero_add,←Array.getElem?_toList]
    simp only[Array.toList_append]
    rw[List.getElem?_append_left (by simpa using (List.getElem?_eq_some_iff.1 hj).1)]
    exact hj
 ·refine⟨_,w,h,?_,P2.refl hv,hsame hys⟩
  simp[Builtin.append_,run_underlying ht,sizeOf,typeInfo,hi,Builtin.lenOf,Builtin.firstCells,hnc,storeCells]
theorem L0d{t e ty sz by_:Nat}{i:TypeInfo}{z:Value}(ht:P.underlying t=some (.slice e))(hi:P.info? e=some i)(hz:i.zero=some z)(hsz:i.size=sz)(_:0<sz)
  (hby:i.bytes=by_) (hb1:0<by_) (hzs:z.cells.size=sz) (hv:Vis h w)
  {y:Value} {ys:List (List Value)} (hy:f0i w y sz ys) (hne:j02 ys=true) (hr:W03 ys.length by_) :
  ∃ v' w' h',(Builtin.append_ #[t,t] ty #[.slice none 0 0,y]).run P w = .ok v' w'/\P2 h w h' w'/\c0o h h' sz v' ys:=by
 subst hsz
 subst hby
 have hlen:ys.length<=140737488355328:=Nat.le_trans (Nat.le_mul_of_pos_right _ hb1) hr
 have hfy:=s00 ys (λx hx=>(hy.1 x hx).1)
 rcases hy.2 with⟨ad,c,rfl,hc⟩|⟨c,rfl,hys⟩
 ·by_cases hm:ys.length=0
  ·have hys:ys = []:=List.eq_nil_of_length_eq_zero hm
   subst hys;cases hne
  ·have hrun:=run_append_nil (P:=P) w t ty e i z ht hi hz ad ys.length c ys.flatten hfy hc (by omega) (by omega) (Nat.le_trans hr (by decide))
   have hge:=grownCap_ge w ys.length 0 e
   refine⟨_,_,_,hrun,P2.newD hv _ rfl,⟨hy.1,w.heap.size,0,grownCap w ys.length 0 e,_,e,rfl,hge,grownCap_le_maxLen w _ 0 e (by unfold maxLen;omega),?_,Hp.set_same _ _ _,λj u hj=>?_⟩,w.heap.size,0,_,_,rfl,Y00 hv,λb hb=>Hp.set_other _ _ hb⟩
   ·simp only[Array.size_append,List.size_toArray,hfy,size_zeroCells,hzs,←Nat.add_mul,Nat.zero_add]
    refine Nat.le_of_eq ?_
    congr 1;omega
   ·rw[Nat.zero_add,←Array.getElem?_toList]
    simp only[Array.toList_append]
    rw[List.getElem?_append_left (by simpa using (List.getElem?_eq_some_iff.1 hj).1)]
    exact hj
 ·subst hys;cases hne
theorem W06{e sz by_:Nat}{z:Value}(h1:s5 P e=some sz)(h2:U06 P e=some by_)(h3:w9 P e=some z):∃ i,P.info? e=some i/\i.size=sz/\i.bytes=by_/\i.zero=some z:=by
 unfold s5 at h1
 unfold U06 at h2
 unfold w9 at h3
 cases hi:P.info? e with
 |none=>rw[hi]at h1;cases h1
 |some i=>rw[hi]at h1 h2 h3;exact⟨i,rfl,by simpa using h1,by simpa using h2,h3⟩
theorem Y02(s:Sim P h0 w0 be oe H st h a w){sz:Nat}(hp:0<sz){b:Operand}{K:List (List Value)->Prop}(he:u0a st h sz (rdO st b) K):∃ ys,K ys/\f0i w (a.eval b) sz ys:=by
 have g:=s.rdO b
 unfold u0a at he
 split at he
 ·rename_i j k hr
  obtain⟨e1,sz1,by1,nn1,xs1,hn1⟩:=I04 hr
  rw[hr]at g
  simp only[hn1]at he
  split at he
  ·rename_i hb
   have hs1:=Nat.eq_of_beq_eq_true hb
   subst hs1
   refine⟨xs1,he,?_⟩
   have ho:=s.own j _ _ _ _ _ _ hn1
   rw[g.own_cur hn1]
   refine⟨ho.1,?_⟩
   rcases ho.2 with⟨h1,h2,_⟩|⟨gg,cap,cur,h1,h2,h3,_⟩
   ·exact .inr ⟨0,h1,h2⟩
   ·refine .inl ⟨⟨gg,0,none⟩,cap,h1,λj u hj=>?_⟩
    rw[d00,Nat.zero_add]
    exact T03 s.mv.vis rfl (ho.cells h1 j u hj)
  ·exact he.elim
 ·rename_i v hr
  rw[hr]at g
  obtain⟨ys,hs,hk⟩:=he
  refine⟨ys,hk,?_⟩
  have hv:a.eval b=v:=g
  rw[hv]
  obtain⟨h1,x,n,c,rfl,rfl,hc,h2⟩:=hs
  refine⟨h1,?_⟩
  rcases h2 with h2|⟨bb,oo,rfl,h3⟩
  ·cases x with
   |none =>
    have hys:ys = []:=by
     cases ys with
     |nil=>rfl
     |cons y r =>
      have hy:=(h1 y mS).1
      simp only[List.flatten_cons,List.append_eq_nil_iff]at h2
      rw[h2.1]at hy
      simp at hy
      omega
    subst hys;exact .inr ⟨c,rfl,rfl⟩
   |some ad=>exact .inl ⟨ad,c,rfl,λj u hj=>by rw[h2]at hj;simp at hj⟩
  ·refine .inl ⟨⟨bb,oo,none⟩,c,rfl,λj u hj=>?_⟩
   rw[d00]
   exact T03 (A05 s) rfl (h3 j u hj)
 ·exact he.elim
theorem t01{t:TypeId}{p q:Operand}{as:Array Operand}{ts:Array TypeId}(ho:o.op = .call { callee := .builtin .append,args:=as,argTypes:=ts })(ha:as = #[p,q])(hts:ts = #[t,t])
  {v':Value} {w':World} (hr:(Builtin.append_ #[t,t] o.type #[a.eval p,a.eval q]).run P w = .ok v' w'):(execOp a.eval o).run P w = .ok (.value v') w':=by
 subst ha;subst hts
 unfold execOp;rw[ho]
 simp only[resolve,invoke,builtin,Sem.run_bind,Sem.run_pure,Result.andThen_ok,List.map_toArray,List.map_cons,List.map_nil,hr]
theorem z0j(s:Sim P h0 w0 be oe H st h a w){t:TypeId}{p q:Operand}{as:Array Operand}{ts:Array TypeId}(ho:o.op = .call { callee := .builtin .append,args:=as,argTypes:=ts })
  (ha:as = #[p,q]) (hts:ts = #[t,t]) (he:v0a P t p q st h K):o.wp P a w (Nx P h0 w0 st be oe K a o.dst) Q:=by
 unfold v0a at he
 split at he
 rotate_left
 ·exact he.elim
 rename_i e hte
 split at he
 rotate_left
 ·exact he.elim
 rename_i sz by_ z hs hb hz
 split at he
 rotate_left
 ·exact he.elim
 rename_i hzl
 obtain⟨i,hi,i1,i2,i3⟩:=W06 hs hb hz
 have ht:=i8 hte
 have hzs:z.cells.size=sz+1:=by simpa using f01 _ _ hzl
 have g:=s.rdO p
 split at he
 ·rename_i j k hr
  obtain⟨e0,sz0,by0,nn0,xs0,hn⟩:=I04 hr
  rw[hr]at g
  simp only[hn]at he
  split at he
  ·rename_i hb1 hb2 hb3
   have he0:=Nat.eq_of_beq_eq_true hb1
   have hsz0:=Nat.eq_of_beq_eq_true hb2
   subst he0
   subst hsz0
   obtain⟨ys,⟨hroom,hk⟩,hsrc⟩:=Y02 s (Nat.succ_pos sz) he
   have hown:=s.own j _ _ _ _ _ _ hn
   obtain⟨v',w',H',hrun,hm,hO,hkp,hnew,_⟩:=C09 (ty:=o.type) ht hi i3 i1 (Nat.succ_pos _) i2 (Nat.succ_pos _) hzs hown s.mv.vis s.sub hsrc hroom
   obtain⟨s',gr⟩:=s.updOwn (s1:=k+1) (by_:=by_+1) hn (Nat.le_succ _) (λe=>absurd e (Nat.succ_ne_self k)) hm hkp hO hnew
   rw[←g.own_cur hn]at hrun
   refine M6 (t01 ho ha hts hrun) ⟨_,_,h,v',_,_,_,hk,rfl,s',?_,gr⟩
   refine⟨k+1,?_,Nat.le_refl _,λ_=>by simp⟩
   simp[stamp,w6 _ _ _ (r00 hn)]
  ·exact he.elim
 ·rename_i hr
  rw[hr]at g
  rcases he with he|he
  rotate_left
  ·obtain⟨ys,⟨⟨hne,hroom⟩,hk⟩,hsrc⟩:=Y02 s (Nat.succ_pos sz) he
   obtain⟨v',w',h',hrun,hm,hA⟩:=L0d (ty:=o.type) ht hi i3 i1 (Nat.succ_pos _) i2 (Nat.succ_pos _) hzs (A05 s) hsrc hne hroom
   have hg:a.eval p = .slice none 0 0:=g
   rw[←hg]at hrun
   obtain⟨H',s'⟩:=s.moved hm
   exact M6 (t01 ho ha hts hrun) ⟨_,_,_,v',_,_,_,hk _ _ hA,rfl,s',rfl,G6.refl _ _ _⟩
  obtain⟨ys,⟨hroom,hk⟩,hsrc⟩:=Y02 s (Nat.succ_pos sz) he
  have hnil:c04 h H (.slice none 0 0) e (sz+1) false []:=⟨by simp,.inl ⟨rfl,rfl,rfl⟩⟩
  obtain⟨v',w',H',hrun,hm,hO,hkp,hnew,_⟩:=C09 (ty:=o.type) ht hi i3 i1 (Nat.succ_pos _) i2 (Nat.succ_pos _) hzs hnil s.mv.vis s.sub hsrc (by simpa using hroom)
  simp only[Bool.false_or,List.nil_append]at hO
  have hnew':∀ g,v'.ownBlock=some g->H g=none:=λg hg=>(hnew g hg).resolve_left (by simp[Value.ownBlock])
  rw[C08]at hk
  obtain⟨s',gr⟩:=s.newOwn (by_:=by_+1) (λb o hb=>by rw[hkp b (by simp[Value.ownBlock]) (by rw[hb];simp)];exact hb) hm hO hnew'
  have hg:a.eval p = .slice none 0 0:=g
  rw[←hg]at hrun
  refine M6 (t01 ho ha hts hrun) ⟨_,_,h,v',_,_,_,hk,rfl,s',?_,gr⟩
  refine⟨0,?_,Nat.le_refl _,λ_=>by simp⟩
  simp[stamp,X00]
 ·rename_i g0 o0 n0 c0 hr
  rw[hr]at g
  obtain⟨ys,⟨xs,hX,hroom,hk⟩,hsrc⟩:=Y02 s (Nat.succ_pos sz) he
  obtain⟨v',w',h',hrun,hm,hA⟩:=K0d (ty:=o.type) ht hi i3 i1 (Nat.succ_pos _) i2 (Nat.succ_pos _) hzs hX (A05 s) hsrc hroom
  have hg:a.eval p = .slice (some ⟨g0,o0,none⟩) n0 c0:=g
  rw[←hg]at hrun
  obtain⟨H',s'⟩:=s.moved hm
  exact M6 (t01 ho ha hts hrun) ⟨_,_,_,v',_,_,_,hk _ _ hA,rfl,s',rfl,G6.refl _ _ _⟩
 ·exact he.elim
end
end Go.H
namespace Go.H
set_option linter.unusedVariables false
set_option linter.unusedSimpArgs false
section
variable {P:Program} {h0:Hp} {w0:World} {be:Nat->Nat} {oe:Nat->Value} {H:Hp} {st:St} {h:Hp} {a:Act} {w:World} {o:Oper} {K:AV->St->Hp->Prop} {Q:Exit->Act->World->Prop}
theorem L04:∀(ns cs:List Value) (off:Nat),off+ns.length<=cs.length->Y2 cs off ns=cs.take off++ns++cs.drop (off+ns.length)
 | [],cs,off,_=>by simp[Y2]
 |n::ns,cs,off,hl=>by
  simp only[List.length_cons]at hl
  rw[Y2,L04 ns (cs.set off n) (off+1) (by simp;omega)]
  rw[List.take_set,List.drop_set_of_lt (by omega)]
  have h1:(cs.take (off+1)).set off n=cs.take off ++ [n]:=by
   rw[List.take_succ_eq_append_getElem (by omega),List.set_append_right _ _ (by simp;omega)]
   have:off-(cs.take off).length=0:=by simp;omega
   rw[this]
   simp
  rw[h1]
  simp only[List.length_cons,List.append_assoc,List.cons_append,List.nil_append]
  rw[show off+1+ns.length=off+(ns.length+1) from by omega]
theorem H07(off:Nat):∀(l:List Value) (k:Nat) (arr:Array Value),((l.zipIdx k).foldl (λcs p=>cs.setIfInBounds (off+p.2) p.1) arr).toList=Y2 arr.toList (off+k) l
 | [],k,arr=>rfl
 |x::l,k,arr=>by
  simp only[List.zipIdx_cons,List.foldl_cons,Y2]
  rw[H07 off l (k+1)]
  simp[Nat.add_assoc]
theorem H0a(v:Value)(off:Nat)(arr:Array Value):(v.cells.zipIdx.foldl (λcs (p:Value×Nat)=>cs.setIfInBounds (off+p.2) p.1) arr).toList=Y2 arr.toList off v.cells.toList:=by
 rw[←Array.foldl_toList,Array.toList_zipIdx]
 exact H07 off v.cells.toList 0 arr
def g06(a:Act)(sz:Nat):Nat->List (Nat×Operand)->List (List Value)->Prop
 |_,[],[]=>True
 |i,(j,x)::r,c::cs=>j=i/\c=(a.eval x).cells.toList/\c.length=sz/\(∀ v∈c,v.oneCell'=true)/\g06 a sz (i+1) r cs
 |_,_,_=>False
theorem g06.all{sz:Nat}:∀ {i:Nat} {l:List (Nat×Operand)} {xs:List (List Value)},g06 a sz i l xs->(∀ x∈xs,x.length=sz/\∀ v∈x,v.oneCell'=true)/\l.length=xs.length
 |_,[],[],_=>by simp
 |i,(j,x)::r,c::cs,h=>by
  have ih:=g06.all h.2.2.2.2
  refine⟨λy hy=>?_,by simp[ih.2]⟩
  rcases List.mem_cons.1 hy with rfl|hy
  ·exact⟨h.2.2.1,h.2.2.2.1⟩
  ·exact ih.1 y hy
 |_,[],_::_,h=>h.elim
 |_,_::_,[],h=>h.elim
theorem I0a{sz:Nat}:∀(l:List (Nat×Operand)) (xs:List (List Value)) (i:Nat) (arr:Array Value),g06 a sz i l xs->(i+l.length)*sz<=arr.size ->
  ∃ arr',Instr.fill (λi=>some (i*sz,sz)) arr (l.map λp=>(p.1,a.eval p.2))=some arr'/\arr'.toList=arr.toList.take (i*sz)++xs.flatten++arr.toList.drop ((i+l.length)*sz)
 | [],[],i,arr,_,hl=>⟨arr,rfl,by simp⟩
 |(j,x)::r,c::cs,i,arr,h,hl=>by
  obtain⟨rfl,hc,hlen,_,hr⟩:=h
  have hsz:(a.eval x).cells.size=sz:=by rw[←hlen,hc];simp
  have hbound:j*sz+sz<=arr.size:=by
   refine Nat.le_trans ?_ hl
   simp only[List.length_cons]
   rw[←Nat.succ_mul]
   exact Nat.mul_le_mul_right _ (by omega)
  have h2:=H0a (a.eval x) (j*sz) arr
  rw[←hc]at h2
  have hsp:=L04 c arr.toList (j*sz) (by rw[hlen];simpa using hbound)
  have hsz2:((a.eval x).cells.zipIdx.foldl (λcs (p:Value×Nat)=>cs.setIfInBounds (j*sz+p.2) p.1) arr).size=arr.size:=by
   rw[←Array.length_toList,h2,A6];simp
  obtain⟨arr',h3,h4⟩:=I0a r cs (j+1) ((a.eval x).cells.zipIdx.foldl (λcs (p:Value×Nat)=>cs.setIfInBounds (j*sz+p.2) p.1) arr) hr (by
   rw[hsz2];simp only[List.length_cons]at hl;rw[show j+1+r.length=j+(r.length+1) from by omega];exact hl)
  refine⟨arr',?_,?_⟩
  ·simp only[List.map_cons,Instr.fill,hsz,ne_eq,not_true_eq_false,decide_false,Bool.false_or,decide_eq_true_eq]
   rw[if_neg (by omega)]
   exact h3
  ·rw[h4,h2,hsp,hlen]
   have e1:(arr.toList.take (j*sz)++c++arr.toList.drop (j*sz+sz)).take ((j+1)*sz)=arr.toList.take (j*sz)++c:=by
    rw[List.take_append_of_le_length,List.take_of_length_le]
    ·simp only[List.length_append,List.length_take,hlen,Array.length_toList,Nat.add_mul];omega
    ·simp only[List.length_append,List.length_take,hlen,Array.length_toList,Nat.add_mul];omega
   have e2:(arr.toList.take (j*sz)++c++arr.toList.drop (j*sz+sz)).drop ((j+1+r.length)*sz)=arr.toList.drop ((j+(r.length+1))*sz):=by
    have hAC:(arr.toList.take (j*sz)++c).length=j*sz+sz:=by simp only[List.length_append,List.length_take,hlen,Array.length_toList];omega
    rw[List.drop_append,List.drop_eq_nil_of_le (by rw[hAC];simp only[Nat.add_mul];omega),hAC,List.nil_append,List.drop_drop]
    congr 1
    simp only[Nat.add_mul]
    omega
   simp only[List.length_cons,List.flatten_cons]
   rw[e1,e2]
   simp
 | [],_::_,_,_,h,_=>h.elim
 |_::_,[],_,_,h,_=>h.elim
theorem E09{sz:Nat}:∀(l:List (Nat×Operand)) (i:Nat) {st:St} {h:Hp} {K:List (List Value)->St->Hp->Prop},Sim P h0 w0 be oe H st h a w->L0e sz i l st h K ->
  ∃ xs st' h',K xs st' h'/\Sim P h0 w0 be oe H st' h' a w/\G6 st be oe st' be oe/\g06 a sz i l xs
 | [],i,st,h,K,s,he=>⟨[],st,h,he,s,G6.refl _ _ _,trivial⟩
 |(j,x)::r,i,st,h,K,s,he=>by
  simp only[L0e]at he
  split at he
  ·rename_i hb
   have hij:=Nat.eq_of_beq_eq_true hb
   obtain⟨st1,h1,e1,s1,g1⟩:=r01 s (s.rdO x) he
   split at e1
   ·rename_i hl ho
    obtain⟨xs,st2,h2,e2,s2,g2,p2⟩:=E09 r (i+1) s1 e1
    exact⟨_,st2,h2,e2,s2,g1.trans g2,hij.symm,rfl,f01 _ _ hl,l02 _ ho,p2⟩
   ·exact e1.elim
  ·exact he.elim
theorem j0c(s:Sim P h0 w0 be oe H st h a w){t n:Nat}{ps:Array (Nat×Operand)}{e sz by_:Nat}{z:Value}(ho:o.op = .buildSlice t n ps)(hte:H9 P t=some e)(hs:s5 P e=some (sz+1))
  (hz:w9 P e=some z) (hn:Nat.beq n ps.size=true) (hm:Nat.ble (n*(sz+1)) 16777216=true)
  (he:L0e (sz+1) 0 ps.toList st h λxs st h=>newOwn st e (sz+1) by_ true xs λav st=>K av st h):o.wp P a w (Nx P h0 w0 st be oe K a o.dst) Q:=by
 obtain⟨xs,st1,h1,e1,s1,g1,p1⟩:=E09 _ _ s he
 obtain⟨hall,hlen⟩:=p1.all
 have hn':n=xs.length:=by rw[←hlen,Nat.eq_of_beq_eq_true hn];simp
 have hm':=Nat.le_of_ble_eq_true hm
 have hw:wpS P (execOp a.eval o) H (λnx H'=>∃ b arr,H b=none/\nx = .value (.slice (some ⟨b,0,none⟩) xs.length xs.length)/\H'=H.set b (.cells arr e (0,0))/\arr.toList=xs.flatten/\arr.size=xs.length*(sz+1)):=by
  unfold execOp;rw[ho]
  refine J6 _ _ _ ?_
  have main:∀ arr:Array Value,arr.size=xs.length*(sz+1)->∃ arr',Instr.fill (λi=>some (i*(sz+1),sz+1)) arr (ps.toList.map λp=>(p.1,a.eval p.2))=some arr'/\arr'.toList=xs.flatten/\arr'.size=xs.length*(sz+1):=by
   intro arr ha
   obtain⟨arr',f1,f2⟩:=I0a ps.toList xs 0 arr p1 (by rw[hlen,ha];simp)
   refine⟨arr',f1,?_,?_⟩
   ·rw[f2,hlen];simp[ha]
   ·rw[←Array.length_toList,f2,hlen]
    simp[ha,s00 xs (λx hx=>(hall x hx).1)]
  have hgt : ¬ (n*(sz+1)>2 ^ 24):=Nat.not_lt.2 hm'
  simp only[Instr.buildSlice,M1,I2 (i8 hte),K8 hs,if_neg hgt,Q1]
  have hmap:(ps.map λx=>(x.1,a.eval x.2)).toList=ps.toList.map λp=>(p.1,a.eval p.2):=by simp
  by_cases h00:n*(sz+1)=0
  ·simp only[if_pos h00,Q1]
   obtain⟨arr',f1,f2,f3⟩:=main ((Array.range (n*(sz+1))).map λi=>(#[]:Array Value)[i % (#[]:Array Value).size]!) (by simp[hn'])
   rw[show(Array.map (λx=>(x.1,a.eval x.2)) ps).toList=ps.toList.map λp=>(p.1,a.eval p.2) from by simp]
   simp only[f1,M1,newRow,newObj,wpS,Q1]
   exact λb hb=>⟨b,arr',hb,by rw[hn'],rfl,f2,f3⟩
  ·simp only[if_neg h00,M1,C05 hz,Q1]
   obtain⟨arr',f1,f2,f3⟩:=main ((Array.range (n*(sz+1))).map λi=>z.cells[i % z.cells.size]!) (by simp[hn'])
   rw[show(Array.map (λx=>(x.1,a.eval x.2)) ps).toList=ps.toList.map λp=>(p.1,a.eval p.2) from by simp]
   simp only[f1,M1,newRow,newObj,wpS,Q1]
   exact λb hb=>⟨b,arr',hb,by rw[hn'],rfl,f2,f3⟩
 obtain⟨nx,H',w',hr,⟨b,arr,hb,rfl,rfl,f2,f3⟩,hmv⟩:=A8 _ _ _ s1.mv.vis hw
 have hmax:xs.length<=maxLen:=by
  have:xs.length<=xs.length*(sz+1):=Nat.le_mul_of_pos_right _ (Nat.succ_pos _)
  rw[hn']at hm'
  unfold maxLen;omega
 rw[C08]at e1
 obtain⟨s',gr⟩:=s1.newOwn (nn:=true) (by_:=by_) (λx y hx=>by rw[Hp.set_other _ _ (λe=>by subst e;rw[hb]at hx;cases hx)];exact hx) hmv
  (G0a s1.sub hb hall (Nat.le_refl _) hmax f3 (by rw[f2,List.take_of_length_le (by rw[s00 xs (λx hx=>(hall x hx).1)];exact Nat.le_refl _)])) (λg hg=>by simp[Value.ownBlock]at hg;rw[←hg];exact hb)
 refine M6 hr ⟨_,_,h1,_,_,_,_,e1,rfl,s',?_,g1.trans gr⟩
 refine⟨0,?_,Nat.le_refl _,λ_=>by simp⟩
 simp[stamp,X00]
theorem Z02{sz:Nat}(zl:List Value)(hz:zl.length=sz)(hp:0<sz):∀(l j:Nat),j<l*sz->(List.replicate l zl).flatten[j]?=zl[j % sz]?
 |0,j,h=>by simp at h
 |l+1,j,h=>by
  simp only[List.replicate_succ,List.flatten_cons]
  have h':j<l*sz+sz:=by rw[Nat.add_mul,Nat.one_mul]at h;exact h
  by_cases hj:j<sz
  ·rw[List.getElem?_append_left (by omega),Nat.mod_eq_of_lt hj]
  ·rw[List.getElem?_append_right (by omega),hz,Z02 zl hz hp l (j-sz) (by omega),←Nat.mod_eq_sub_mod (a:=j) (by omega)]
theorem A0j{sz:Nat}(z:Value)(hz:z.cells.toList.length=sz)(hp:0<sz)(l n:Nat)(hl:l*sz<=n):(madeCells z.cells n).toList.take (l*sz)=(List.replicate l z.cells.toList).flatten:=by
 have hz':z.cells.size=sz:=by simpa using hz
 apply List.ext_getElem?
 intro j
 rw[List.getElem?_take]
 by_cases hj:j<l*sz
 ·rw[if_pos hj,Z02 _ hz hp l j hj]
  have hm:j % sz<z.cells.size:=by rw[hz'];exact Nat.mod_lt _ hp
  simp only[madeCells,hz',Array.toList_map,Array.toList_range,List.getElem?_map,List.getElem?_range (show j<n from by omega),Option.map_some,Array.getElem?_toList,Array.getElem?_eq_getElem hm]
  congr 1
  simp[hm]
 ·rw[if_neg hj]
  symm
  apply List.getElem?_eq_none
  have:(List.replicate l z.cells.toList).flatten.length=l*sz:=by
   rw[s00 (sz:=sz) _ (λx hx=>by rw[List.eq_of_mem_replicate hx];exact hz)];simp
  omega
theorem M0d(s:Sim P h0 w0 be oe H st h a w){t e sz by_:Nat}{l c:Operand}{z:Value}{kl kc:IntKind}{nl nc:Int}(ho:o.op = .makeSlice t l c)(hte:H9 P t=some e)
  (hs:s5 P e=some (sz+1)) (hb:U06 P e=some by_) (hz:w9 P e=some z) (hl:rdO st l = .val (.int kl nl)) (hc:rdO st c = .val (.int kc nc))
  (hzl:F04 z.cells.toList (sz+1)=true) (hone:P02 z.cells.toList=true) (hbd:0<=nl/\nl<=nc/\nc*by_<=140737488355328/\nc<=9223372036854775807)
  (he:newOwn st e (sz+1) by_ true (List.replicate nl.toNat z.cells.toList) λav st=>K av st h):o.wp P a w (Nx P h0 w0 st be oe K a o.dst) Q:=by
 obtain⟨i,hi,i1,i2,i3⟩:=W06 hs hb hz
 have gl:a.eval l = .int kl nl:=by have:=s.rdO l;rw[hl]at this;exact this
 have gc:a.eval c = .int kc nc:=by have:=s.rdO c;rw[hc]at this;exact this
 obtain⟨b1,b2,b3,b4⟩:=hbd
 have hlen:=f01 _ _ hzl
 have hrun:=run_make (P:=P) w t e i z (i8 hte) hi i3 kl kc nl nc b1 b2 (by rw[i2,Int.mul_comm];omega) b4
 have hr:(execOp a.eval o).run P w = .ok (.value (.slice (some ⟨w.heap.size,0,none⟩) nl.toNat nc.toNat)) (w.alloc (.cells (madeCells z.cells (nc.toNat*i.size)) e)):=by
  unfold execOp;rw[ho]
  simp only[gl,gc,Sem.run_bind,hrun,Result.andThen_ok,Sem.run_pure]
 have hmv:P2 H w (H.set w.heap.size (.cells (madeCells z.cells (nc.toNat*i.size)) e (0,0))) (w.alloc (.cells (madeCells z.cells (nc.toNat*i.size)) e)):=P2.new s.mv.vis _ rfl
 have hfl:(List.replicate nl.toNat z.cells.toList).length=nl.toNat:=by simp
 have hO:=G0a (h:=h) (H:=H) (e:=e) (sz:=sz+1) (nn:=true) (cap:=nc.toNat) (xs:=List.replicate nl.toNat z.cells.toList) (cur:=madeCells z.cells (nc.toNat*i.size)) s.sub (Y00 s.mv.vis)
  (λx hx=>by rw[List.eq_of_mem_replicate hx];exact⟨hlen,l02 _ hone⟩) (by simp;omega) (by unfold maxLen;omega) (by rw[size_madeCells,i1])
  (by rw[hfl,i1];exact A0j z hlen (Nat.succ_pos _) _ _ (Nat.mul_le_mul_right _ (by omega)))
 rw[hfl]at hO
 rw[C08]at he
 obtain⟨s',gr⟩:=s.newOwn (by_:=by_) (λx y hx=>by rw[Hp.set_other _ _ (λe=>by subst e;rw[Y00 s.mv.vis]at hx;cases hx)];exact hx) hmv hO
  (λg hg=>by simp[Value.ownBlock]at hg;rw[←hg];exact Y00 s.mv.vis)
 refine M6 hr ⟨_,_,h,_,_,_,_,he,rfl,s',?_,gr⟩
 refine⟨0,?_,Nat.le_refl _,λ_=>by simp⟩
 simp[stamp,X00]
end
end Go.H
namespace Go.H
set_option linter.unusedVariables false
set_option linter.unusedSimpArgs false
section
variable {P:Program} {h0:Hp} {w0:World} {be:Nat->Nat} {oe:Nat->Value} {H:Hp} {st:St} {h:Hp} {a:Act} {w:World} {o:Oper} {K:AV->St->Hp->Prop} {Q:Exit->Act->World->Prop}
theorem N0d(s:Sim P h0 w0 be oe H st h a w){t:TypeId}{x i:Operand}(ho:o.op = .indexAddr t x i)
  (he:match rdO st i with
  | .val (.int _ j)=>match H9 P t with
   |some e=>match s5 P e with
    |some sz=>match rdO st x with
     | .val (.slice a n c)=>InB (.slice a n c) j/\K (.hel (.slice a n c) j sz 0) st h
     | .own i k=>match nth st.ow i with
      |some ⟨_,.live _ sz' _ _ xs⟩=>match Nat.beq sz' sz with
       |true=>(0<=j/\j<(xs.length:Int))/\K (.oel i k j sz 0) st h
       |false=>False
      |_=>False
     |_=>False
    |none=>False
   |none=>match rdO st x,C0k P t j with
    | .box i off,some fo=>K (.box i (off+fo)) st h
    | .hel s i sz k,some fo=>K (.hel s i sz (k+fo)) st h
    | .oel i s j sz k,some fo=>K (.oel i s j sz (k+fo)) st h
    |_,_=>False
  |_=>False):o.wp P a w (Nx P h0 w0 st be oe K a o.dst) Q:=by
 have gi:=s.rdO i
 have gx:=s.rdO x
 split at he
 rotate_left
 ·exact he.elim
 rename_i k j hi
 rw[hi]at gi
 split at he
 rotate_left
 ·split at he
  ·rename_i ii off fo h1 h2
   rw[h1]at gx
   exact Z5 s (av := .box ii (off+fo)) (J04 ho h2 gx.2 gi) ⟨gx.1,rfl⟩ he
  ·rename_i sl ii sz k' fo h1 h2
   rw[h1]at gx
   obtain⟨b,o',n,c,e1,e2⟩:=gx
   refine Z5 s (av := .hel sl ii sz (k'+fo)) (J04 ho h2 e2 gi) ⟨b,o',n,c,e1,?_⟩ he
   simp[Nat.add_assoc]
  ·rename_i ii s0 jj sz k' fo h1 h2
   rw[h1]at gx
   obtain⟨e,sz',by_,nn,xs,hn⟩:=H0d h1
   obtain⟨gg,n,c,e1,e2⟩:=gx.oel_cur hn
   obtain⟨t0,g1,g2,g3⟩:=gx
   refine Z5 s (av := .oel ii s0 jj sz (k'+fo)) (J04 ho h2 e2 gi) ⟨t0,g1,g2,λ_=>⟨gg,n,c,e1,by simp[Nat.add_assoc]⟩⟩ he
  ·exact he.elim
 rename_i e hte
 split at he
 rotate_left
 ·exact he.elim
 rename_i sz hs
 split at he
 ·rename_i ad n c hr
  rw[hr]at gx
  obtain⟨⟨b,off,n',c',e1,b1,b2⟩,hk⟩:=he
  cases e1
  exact Z5 s (av := .hel _ j sz 0) (exec_indexAddr ho hte hs gx gi b1 b2) ⟨b,off,n,c,rfl,by simp⟩ hk
 ·rename_i ii kk hr
  obtain⟨e0,sz0,by0,nn0,xs,hn⟩:=I04 hr
  rw[hr]at gx
  simp only[hn]at he
  split at he
  ·rename_i hb
   have hsz:=Nat.eq_of_beq_eq_true hb
   subst hsz
   obtain⟨⟨b1,b2⟩,hk⟩:=he
   have hown:=s.own ii _ _ _ _ _ _ hn
   rcases hown.2 with⟨_,hx,_⟩|⟨g,cap,cur,hv,_⟩
   ·rw[hx]at b2;simp at b2;omega
   ·have hx:=gx.own_cur hn
    rw[hv]at hx
    refine Z5 s (av := .oel ii kk j sz0 0) (exec_indexAddr ho hte hs hx gi b1 b2) ⟨kk,by simp[stamp,hn],Nat.le_refl _,λ_=>⟨g,xs.length,cap,hv,by simp⟩⟩ hk
  ·exact he.elim
 ·exact he.elim
theorem h06{sz:Nat}:∀(xs:List (List Value)) (k:Nat),(∀ x∈xs,x.length=sz)->(xs.take k).flatten=xs.flatten.take (k*sz)
 | [],k,_=>by simp
 |x::xs,0,_=>by simp
 |x::xs,k+1,hl=>by
  have hx:=hl x mS
  simp only[List.take_succ_cons,List.flatten_cons]
  rw[h06 xs k (λy hy=>hl y (mC _ hy)),List.take_append (l₁:=x),List.take_of_length_le (l:=x) (by rw[hx,Nat.add_mul];omega),hx,Nat.add_mul,Nat.one_mul,Nat.add_sub_cancel]
theorem D0c{sz:Nat}:∀(xs:List (List Value)) (k:Nat),(∀ x∈xs,x.length=sz)->(xs.drop k).flatten=xs.flatten.drop (k*sz)
 | [],k,_=>by simp
 |x::xs,0,_=>by simp
 |x::xs,k+1,hl=>by
  have hx:=hl x mS
  simp only[List.drop_succ_cons,List.flatten_cons]
  rw[D0c xs k (λy hy=>hl y (mC _ hy)),List.drop_append (l₁:=x),List.drop_of_length_le (l:=x) (by rw[hx,Nat.add_mul];omega),hx,Nat.add_mul,Nat.one_mul,Nat.add_sub_cancel,List.nil_append]
def a03(a:Act)(d:Int)(x:Option Operand)(l:Int):Prop:=match x with
 |none=>l=d
 |some y=>∃ k,a.eval y = .int k l
theorem M04(s:Sim P h0 w0 be oe H st h a w){d l:Int}{x:Option Operand}(he:q03 d (x.map (rdO st))=some l):a03 a d x l:=by
 cases x with
 |none=>simp only[Option.map_none,q03,Option.some.injEq]at he;exact he.symm
 |some y =>
  have g:=s.rdO y
  simp only[Option.map_some]at he
  cases hr:rdO st y with
  |val v =>
   rw[hr]at he g
   cases v<;>simp only[q03,Option.some.injEq]at he<;>first|(subst he;exact⟨_,g⟩)|cases he
  |_=>rw[hr]at he;cases he
theorem i06{x:Value}{k:IntKind}{i:Int}{y:Nat}{code:BoundsCode}(hx:x = .int k i)(h1:0<=i)(h2:i<=(y:Int))(Kn:Nat->Hp->Prop):wpS P (Instr.sliceBound x y code) H Kn=Kn i.toNat H:=by
 subst hx
 simp only[Instr.sliceBound,asIntOf,M1,Q1,h1,h2,and_self,if_true]
theorem J0a{isS:Bool}{n c:Nat}{lo hi:Option Operand}{l m:Int}(hl:a03 a 0 lo l)(hm:a03 a n hi m)(h1:0<=l)(h2:l<=m)(h3:m<=(n:Int))(hnc:n<=c)
  (Kn:Nat×Nat×Nat->Hp->Prop):wpS P (Instr.sliceBounds isS n c (lo.map a.eval) (hi.map a.eval) none) H Kn=Kn (l.toNat,m.toNat,c) H:=by
 have hml:l<=(m.toNat:Int):=by omega
 cases lo with
 |none =>
  have hl0:l=0:=hl
  subst hl0
  cases hi with
  |none =>
   have hm0:m=(n:Int):=hm
   subst hm0
   simp only[Instr.sliceBounds,Option.map_none,M1,Q1];rfl
  |some y =>
   obtain⟨k,hy⟩:=hm
   simp only[Instr.sliceBounds,Option.map_none,Option.map_some,M1,Q1,i06 hy (by omega) (show m<=(c:Int) by omega)];rfl
 |some x =>
  obtain⟨k,hx⟩:=hl
  cases hi with
  |none =>
   have hm0:m=(n:Int):=hm
   subst hm0
   simp only[Instr.sliceBounds,Option.map_none,Option.map_some,M1,Q1,i06 hx h1 (show l<=((n:Nat):Int) by omega)];rfl
  |some y =>
   obtain⟨k',hy⟩:=hm
   simp only[Instr.sliceBounds,Option.map_some,M1,Q1,i06 hy (by omega) (show m<=(c:Int) by omega),i06 hx h1 hml]
theorem exec_slice{t e sz:Nat}{x:Operand}{lo hi:Option Operand}{ad:Option Addr}{n c:Nat}{l m:Int}(ho:o.op = .slice t x lo hi none)(hte:H9 P t=some e)(hs:s5 P e=some sz)
  (hx:a.eval x = .slice ad n c) (hl:a03 a 0 lo l) (hm:a03 a n hi m) (h1:0<=l) (h2:l<=m) (h3:m<=(n:Int)) (hnc:n<=c) :
  ∀ Kn:Next->Hp->Prop,Kn (.value (.slice (if c=l.toNat then ad else ad.map (·.add (l.toNat*sz))) (m.toNat-l.toNat) (c-l.toNat))) H->wpS P (execOp a.eval o) H Kn:=by
 intro Kn hk
 unfold execOp;rw[ho]
 refine J6 _ _ _ ?_
 simp only[Instr.sliceAt,M1,I2 (i8 hte),Instr.slice,hx,Option.map_none]
 rw[J0a hl hm h1 h2 h3 hnc]
 simp only[K8 hs,Q1]
 exact hk
theorem B0j(s:Sim P h0 w0 be oe H st h a w){t e sz:Nat}{x:Operand}{lo hi:Option Operand}{ad:Option Addr}{n c:Nat}(ho:o.op = .slice t x lo hi none)(hte:H9 P t=some e)(hs:s5 P e=some sz)
  (hr:rdO st x = .val (.slice ad n c)) (he:P0g sz (.slice ad n c) n (lo.map (rdO st)) (hi.map (rdO st)) st h K):o.wp P a w (Nx P h0 w0 st be oe K a o.dst) Q:=by
 have gx:=s.rdO x
 rw[hr]at gx
 unfold P0g at he
 split at he
 rotate_left
 ·exact he.elim
 rename_i l m hl hm
 obtain⟨⟨h1,h2,h3⟩,xs,hS,hk⟩:=he
 obtain⟨hall,ad',n',c',e1,hn,hnc,hc⟩:=hS
 cases e1
 have hlen:((xs.take m.toNat).drop l.toNat).length=m.toNat-l.toNat:=by simp;omega
 have hnew:SlE h sz (.slice (if c=l.toNat then ad else ad.map (·.add (l.toNat*sz))) (m.toNat-l.toNat) (c-l.toNat)) ((xs.take m.toNat).drop l.toNat):=by
  refine⟨λy hy=>hall y (List.mem_of_mem_take (List.mem_of_mem_drop hy)),_,_,_,rfl,hlen.symm,by omega,?_⟩
  rcases hc with hc|⟨b,off,rfl,hcell⟩
  ·left
   rw[List.flatten_eq_nil_iff]at hc ⊢
   exact λy hy=>hc y (List.mem_of_mem_take (List.mem_of_mem_drop hy))
  ·by_cases hcl:c=l.toNat
   ·left
    have:(xs.take m.toNat).drop l.toNat = []:=List.eq_nil_of_length_eq_zero (by rw[hlen];omega)
    rw[this];rfl
   ·right
    rw[if_neg hcl]
    refine⟨b,off+l.toNat*sz,by simp[d00],λj v hj=>?_⟩
    have hx:=s00 xs (λx hx=>(hall x hx).1)
    rw[Nat.add_assoc]
    refine hcell _ _ ?_
    have e1:(xs.take m.toNat).flatten=xs.flatten.take (m.toNat*sz):=h06 xs _ (λx hx=>(hall x hx).1)
    have e2:((xs.take m.toNat).drop l.toNat).flatten=((xs.take m.toNat).flatten).drop (l.toNat*sz):=D0c _ _ (λy hy=>(hall y (List.mem_of_mem_take hy)).1)
    rw[e2,e1,List.getElem?_drop,List.getElem?_take]at hj
    split at hj
    ·exact hj
    ·cases hj
 exact Z5 s (av := .val _) (exec_slice ho hte hs gx (M04 s hl) (M04 s hm) h1 h2 h3 hnc) rfl (hk _ hnew λ_ _ _ e=>by cases e;rfl)
theorem C0j(s:Sim P h0 w0 be oe H st h a w){t e sz:Nat}{x:Operand}{lo hi:Option Operand}{i k:Nat}(ho:o.op = .slice t x lo hi none)(hte:H9 P t=some e)(hs:s5 P e=some sz)
  (hr:rdO st x = .own i k) (he:N0g i (lo.map (rdO st)) (hi.map (rdO st)) st h K):o.wp P a w (Nx P h0 w0 st be oe K a o.dst) Q:=by
 have gx:=s.rdO x
 rw[hr]at gx
 obtain⟨e0,sz0,by0,nn0,xs,hn⟩:=I04 hr
 unfold N0g at he
 split at he
 rotate_left
 ·exact he.elim
 rename_i kk m hlo hhi
 simp only[hn]at he
 obtain⟨⟨b1,b2⟩,hk⟩:=he
 have hlo':lo=none:=by cases lo<;>simp at hlo;rfl
 subst hlo'
 have hm:a03 a (xs.length:Int) hi m:=by
  cases hi with
  |none=>simp at hhi
  |some y =>
   have g:=s.rdO y
   simp only[Option.map_some,Option.some.injEq]at hhi
   rw[hhi]at g
   exact⟨kk,g⟩
 have hown:=s.own i _ _ _ _ _ _ hn
 have hx:=gx.own_cur hn
 have hsame:∀ v,v=oe i->v.ownBlock=(oe i).ownBlock:=λv hv=>by rw[hv]
 have main:∃ v,(∀ Kn:Next->Hp->Prop,Kn (.value v) H->wpS P (execOp a.eval o) H Kn)/\v.ownBlock=(oe i).ownBlock/\c04 h H v e0 sz0 nn0 (xs.take m.toNat):=by
  have hall:∀ y∈xs.take m.toNat,y.length=sz0/\∀ v∈y,v.oneCell'=true:=λy hy=>hown.1 y (List.mem_of_mem_take hy)
  rcases hown.2 with⟨h1,h2,h3⟩|⟨g,cap,cur,h1,h2,h3,h4,h5,h6,h7⟩
  ·rw[h1]at hx
   subst h2
   have hm0:m=0:=by simp at b2;omega
   subst hm0
   refine⟨_,exec_slice ho hte hs hx (l:=0) rfl hm (by omega) (by omega) (by simp) (Nat.le_refl _),?_,hall,.inl ⟨by simp,by simp,h3⟩⟩
   rw[h1];simp[Value.ownBlock]
  ·rw[h1]at hx
   refine⟨.slice (some ⟨g,0,none⟩) m.toNat cap,λKn hk=>exec_slice ho hte hs hx (l:=0) rfl hm (by omega) b1 b2 h4 Kn ?_,by rw[h1];rfl,hall,.inr ⟨g,cap,cur,?_,h2,h3,?_,h5,h6,?_⟩⟩
   ·have:(if cap=Int.toNat 0 then some (⟨g,0,none⟩:Addr)else(some (⟨g,0,none⟩:Addr)).map (·.add (Int.toNat 0*sz)))=some ⟨g,0,none⟩:=by
     simp[Addr.add]
    rw[this]
    simpa using hk
   ·have:(xs.take m.toNat).length=m.toNat:=by simp;omega
    rw[this]
   ·simp;omega
   ·have hl:(xs.take m.toNat).length=m.toNat:=by simp;omega
    rw[hl]
    have e1:(xs.take m.toNat).flatten=xs.flatten.take (m.toNat*sz0):=h06 xs _ (λx hx=>(hown.1 x hx).1)
    rw[e1,←h7,List.take_take]
    congr 1
    rw[Nat.min_eq_left (Nat.mul_le_mul_right _ (by omega))]
 obtain⟨v,hw,hb,hO⟩:=main
 obtain⟨nx,H',w',hrun,⟨rfl,rfl⟩,hmv⟩:=A8 _ _ _ s.mv.vis (hw (λn H'=>n = .value v/\H'=H) ⟨rfl,rfl⟩)
 obtain⟨s',gr⟩:=s.updOwn (s1:=k+1) (by_:=by0) hn (Nat.le_succ _) (λe=>absurd e (Nat.succ_ne_self k)) hmv (λ_ _ _=>rfl) hO (λg hg => .inl (by rw[←hb];exact hg))
 refine M6 hrun ⟨_,_,h,v,_,_,_,hk,rfl,s',?_,gr⟩
 refine⟨k+1,?_,Nat.le_refl _,λ_=>by simp⟩
 simp[stamp,w6 _ _ _ (r00 hn)]
theorem exec_cutStr{t:TypeId}{x:Operand}{lo hi:Option Operand}{b:ByteArray}{l m:Int}(ho:o.op = .slice t x lo hi none)(hu:P.underlying t=some .string)
  (hx:a.eval x = .string b) (hl:a03 a 0 lo l) (hm:a03 a b.size hi m) (h1:0<=l) (h2:l<=m) (h3:m<=(b.size:Int)) :
  ∀ Kn:Next->Hp->Prop,Kn (.value (.string (b.extract l.toNat m.toNat))) H->wpS P (execOp a.eval o) H Kn:=by
 intro Kn hk
 unfold execOp;rw[ho]
 refine J6 _ _ _ ?_
 simp only[Instr.sliceAt,M1,I2 hu,Instr.slice,hx,Option.map_none,Option.isSome_none,Bool.false_eq_true,if_false,Q1]
 rw[J0a hl hm h1 h2 h3 (Nat.le_refl _)]
 exact hk
theorem exec_index{t:TypeId}{x i:Operand}{b:ByteArray}{k:IntKind}{j:Int}{c:UInt8}(ho:o.op = .index t x i)(hu:P.underlying t=some .string)(hx:a.eval x = .string b)(hi:a.eval i = .int k j)
  (h1:0<=j) (hc:b[j.toNat]?=some c):∀ Kn:Next->Hp->Prop,Kn (.value (.int .u8 c.toNat)) H->wpS P (execOp a.eval o) H Kn:=by
 intro Kn hk
 unfold execOp;rw[ho]
 refine J6 _ _ _ ?_
 simp only[Instr.index,hx,hi,asIntOf,M1,Q1,I2 hu,h1,if_true,hc]
 exact hk
theorem exec_quo{t t':TypeId}{x y:Operand}{b c:Int}(ho:o.op = .binOp .quo t x y t')(hx:a.eval x = .int .i64 b)(hy:a.eval y = .int .i64 c)(hl:c≠0):
  ∀ Kn:Next->Hp->Prop,Kn (.value (.int .i64 (IntKind.i64.wrap (b.tdiv c)))) H->wpS P (execOp a.eval o) H Kn:=by
 intro Kn hk
 unfold execOp;rw[ho]
 refine J6 _ _ _ ?_
 simp only[hx,hy,eqGuard,M1,Bool.not_false,if_true,Q1,binOp,Go.Op.intDiv,if_neg hl,ne_eq,not_true_eq_false,if_false]
 exact hk
theorem exec_rem{t t':TypeId}{x y:Operand}{b c:Int}(ho:o.op = .binOp .rem t x y t')(hx:a.eval x = .int .i64 b)(hy:a.eval y = .int .i64 c)(hl:c≠0):
  ∀ Kn:Next->Hp->Prop,Kn (.value (.int .i64 (b.tmod c))) H->wpS P (execOp a.eval o) H Kn:=by
 intro Kn hk
 unfold execOp;rw[ho]
 refine J6 _ _ _ ?_
 simp only[hx,hy,eqGuard,M1,Bool.not_false,if_true,Q1,binOp,Go.Op.intDiv,if_neg hl,ne_eq,not_true_eq_false,if_false]
 exact hk
theorem X0k{t t':TypeId}{x y:Operand}{b c:Int}(ho:o.op = .binOp .shl t x y t')(hx:a.eval x = .int .i64 b)(hy:a.eval y = .int .i64 c)(hl:0<=c):
  ∀ Kn:Next->Hp->Prop,Kn (.value (.int .i64 (IntKind.i64.wrap (b*2 ^ min c.toNat 64)))) H->wpS P (execOp a.eval o) H Kn:=by
 intro Kn hk
 unfold execOp;rw[ho]
 refine J6 _ _ _ ?_
 have hn : ¬ c<0:=by omega
 simp only[hx,hy,eqGuard,M1,Bool.not_false,if_true,Q1,binOp,Go.Op.shift,if_neg hn,IntKind.bits]
 exact hk
theorem Y0k{t t':TypeId}{x y:Operand}{b c:Int}(ho:o.op = .binOp .shr t x y t')(hx:a.eval x = .int .i64 b)(hy:a.eval y = .int .i64 c)(hl:0<=c):
  ∀ Kn:Next->Hp->Prop,Kn (.value (.int .i64 (b.fdiv (2 ^ min c.toNat 64)))) H->wpS P (execOp a.eval o) H Kn:=by
 intro Kn hk
 unfold execOp;rw[ho]
 refine J6 _ _ _ ?_
 have hn : ¬ c<0:=by omega
 simp only[hx,hy,eqGuard,M1,Bool.not_false,if_true,Q1,binOp,Go.Op.shift,if_neg hn,IntKind.bits]
 exact hk
theorem exec_cat{t t':TypeId}{x y:Operand}{b c:ByteArray}(ho:o.op = .binOp .add t x y t')(hx:a.eval x = .string b)(hy:a.eval y = .string c)(hl:b.size+c.size<=9223372036854775807):
  ∀ Kn:Next->Hp->Prop,Kn (.value (.string (b++c))) H->wpS P (execOp a.eval o) H Kn:=by
 intro Kn hk
 unfold execOp;rw[ho]
 refine J6 _ _ _ ?_
 have hm : ¬ (((b.size+c.size:Nat):Int)>IntKind.i64.max):=by
  have:IntKind.i64.max=9223372036854775807:=by decide
  rw[this];omega
 simp only[hx,hy,eqGuard,M1,Bool.not_false,if_true,Q1,binOp,Go.Op.stringOp,if_neg hm]
 exact hk
end
end Go.H
namespace Go.H
set_option linter.unusedVariables false
set_option linter.unusedSimpArgs false
section
variable {P:Program} {h0:Hp} {w0:World} {be:Nat->Nat} {oe:Nat->Value} {H:Hp} {st:St} {h:Hp} {a:Act} {w:World} {o:Oper} {K:AV->St->Hp->Prop} {Q:Exit->Act->World->Prop}
theorem F09:∀(ns c r:List Value) (k:Nat),k+ns.length<=c.length->Y2 (c++r) k ns=Y2 c k ns++r
 | [],c,r,k,_=>rfl
 |n::ns,c,r,k,hl=>by
  simp only[List.length_cons]at hl
  simp only[Y2]
  rw[List.set_append_left _ _ (by omega),F09 ns _ r (k+1) (by simp;omega)]
theorem I07:∀(ns x l:List Value) (k:Nat),Y2 (x++l) (x.length+k) ns=x++Y2 l k ns
 | [],x,l,k=>rfl
 |n::ns,x,l,k=>by
  simp only[Y2]
  rw[List.set_append_right _ _ (by omega),Nat.add_sub_cancel_left,Nat.add_assoc,I07 ns x _ (k+1)]
theorem E05{sz:Nat}(ns:List Value)(k:Nat):∀(xs:List (List Value)) (i:Nat) (c:List Value),(∀ x∈xs,x.length=sz)->xs[i]?=some c->k+ns.length<=c.length ->
  (xs.set i (Y2 c k ns)).flatten=Y2 xs.flatten (i*sz+k) ns
 | [],i,c,_,h,_=>by simp at h
 |x::xs,0,c,hl,h,hk=>by
  simp at h;subst h
  simp only[List.set_cons_zero,List.flatten_cons,Nat.zero_mul,Nat.zero_add]
  rw[F09 ns x _ k hk]
 |x::xs,i+1,c,hl,h,hk=>by
  simp at h
  have hx:=hl x mS
  simp only[List.set_cons_succ,List.flatten_cons]
  rw[E05 ns k xs i c (λy hy=>hl y (mC _ hy)) h hk]
  rw[show(i+1)*sz+k=x.length+(i*sz+k) from by rw[hx,Nat.add_mul];omega,I07]
theorem t03:∀(ns cs:List Value) (off N:Nat),(Y2 cs off ns).take N=Y2 (cs.take N) off ns
 | [],cs,off,N=>rfl
 |n::ns,cs,off,N=>by
  simp only[Y2]
  rw[t03 ns _ (off+1) N,List.take_set]
theorem K0a:∀(ns cs:List Value) (off:Nat) (v:Value),v∈Y2 cs off ns->v∈cs∨v∈ns
 | [],cs,off,v,h => .inl h
 |n::ns,cs,off,v,h=>by
  rcases K0a ns _ (off+1) v h with h|h
  ·rcases List.mem_or_eq_of_mem_set h with h|h
   ·exact .inl h
   ·exact .inr (by rw[h];exact mS)
  ·exact .inr (mC _ h)
theorem O0d(s:Sim P h0 w0 be oe H st h a w){t:TypeId}{p x:Operand}{i s0:Nat}{idx:Int}{sz k:Nat}(ho:o.op = .store t p x)(hr:rdO st p = .oel i s0 idx sz k)
  (he:rfy (rdO st x) st h λv st h=>match nth st.ow i,s5 P t with
   |some ⟨s',.live e sz' by_ nn xs⟩,some n=>match F04 v.cells.toList n,P02 v.cells.toList,Nat.beq s' s0,Nat.beq sz' sz with
    |true,true,true,true=>∃ c,xs[idx.toNat]?=some c/\t0j c k v.cells.toList λc' =>
      K (.val undef) { st with ow:=n9 st.ow i ⟨s',.live e sz' by_ nn (xs.set idx.toNat c')⟩ } h
    |_,_,_,_=>False
   |_,_=>False):o.wp P a w (Nx P h0 w0 st be oe K a o.dst) Q:=by
 have gp:=s.rdO p
 rw[hr]at gp
 obtain⟨st1,h1,e1,s1,g1⟩:=r01 s (s.rdO x) he
 have gp1:=gp.grow g1
 split at e1
 rotate_left
 ·exact e1.elim
 rename_i s' e sz' by_ nn xs n hn hs
 split at e1
 rotate_left
 ·exact e1.elim
 rename_i hl hone hb1 hb2
 have hst:=Nat.eq_of_beq_eq_true hb1
 have hsz:=Nat.eq_of_beq_eq_true hb2
 subst hst;subst hsz
 obtain⟨c,hc,e2⟩:=e1
 unfold t0j at e2
 split at e2
 rotate_left
 ·exact e2.elim
 rename_i hfit
 have hfit:=Nat.le_of_ble_eq_true hfit
 have hlen:=f01 _ _ hl
 have hone':=l02 _ hone
 obtain⟨g,n',c',hg,hx⟩:=gp1.oel_cur hn
 have hown:=s1.own i _ _ _ _ _ _ hn
 rcases hown.2 with⟨hv,_⟩|⟨g',cap,cur,hv,hg1,hg2,hnc,hcm,hcs,htake⟩
 ·rw[hv]at hg;cases hg
 rw[hv]at hg;cases hg
 have hci:=(List.getElem?_eq_some_iff.1 hc)
 have hcl:c.length=sz':=(hown.1 c (List.mem_of_getElem? hc)).1
 have hb:idx.toNat*sz'+k+n<=cur.toList.length:=by
  have:(idx.toNat+1)*sz'<=c'*sz':=Nat.mul_le_mul_right _ (Nat.le_trans hci.1 hnc)
  rw[Nat.add_mul]at this
  simp only[Array.length_toList,hcs]
  omega
 have hw:=K04 (H:=H) (P:=P) (a:=a) (cur:=cur.toList) ho hs hx hlen hone' (by simpa using hg2) hb
 obtain⟨nx,H',w',hr',⟨rfl,rfl⟩,hm⟩:=A8 _ _ _ s1.mv.vis (hw (λn H'=>n = .skip/\H'=_) ⟨rfl,rfl⟩)
 rw[K00]at e2
 have hO:c04 h1 (H.set g (.cells (Y2 cur.toList (idx.toNat*sz'+k) (a.eval x).cells.toList).toArray e (0,0))) (oe i) e sz' nn (xs.set idx.toNat (Y2 c k (a.eval x).cells.toList)):=by
  refine⟨λy hy=>?_,.inr ⟨g,c',_,by simpa using hv,hg1,Hp.set_same _ _ _,by simpa using hnc,hcm,by simp[A6,hcs],?_⟩⟩
  ·rcases List.mem_or_eq_of_mem_set hy with hy|rfl
   ·exact hown.1 y hy
   ·refine⟨by rw[A6,hcl],λv hv'=>?_⟩
    rcases K0a _ _ _ _ hv' with h'|h'
    ·exact(hown.1 c (List.mem_of_getElem? hc)).2 v h'
    ·exact hone' v h'
  ·rw[E05 (sz:=sz') _ _ xs idx.toNat c (λx hx=>(hown.1 x hx).1) hc hfit,←htake]
   simp only[List.length_set]
   rw[t03]
 obtain⟨s'',gr⟩:=s1.updOwn (s1:=s') (by_:=by_) hn (Nat.le_refl _) (λ_=>rfl) hm (λb hb' _=>Hp.set_other _ _ (λe=>hb' (by rw[hv,e];rfl))) hO (λg' hg' => .inl hg')
 exact f06 hr' ⟨_,_,h1,_,_,_,_,e2,rfl,s'',rfl,g1.trans gr⟩
theorem P0d(s:Sim P h0 w0 be oe H st h a w){t:TypeId}{p x:Operand}{sl:Value}{idx:Int}{sz k:Nat}{v:Value}(ho:o.op = .store t p x)(hr:rdO st p = .hel sl idx sz k)
    (hx:rdO st x = .val v) (hs:s5 P t=some 1)
    (he : ∃ b of n cp cur ty, (sl = .slice (some ⟨b, of, none⟩) n cp ∧ 0 ≤ idx ∧ h b = some (.cells cur ty (0, 0)) ∧ of + (idx.toNat * sz + k) < cur.size ∧ Z01 v) ∧
            K (.val undef) st (h.set b (.cells (cur.setIfInBounds (of+(idx.toNat*sz+k)) v) ty (0,0)))):o.wp P a w (Nx P h0 w0 st be oe K a o.dst) Q:=by
  have gp:=s.rdO p
  rw[hr]at gp
  have gx:a.eval x=v:=by have:=s.rdO x;rw[hx]at this;exact this
  obtain⟨b,off,n,cp,cur,ty,⟨e1,_,hb,hlt,hone⟩,hk⟩:=he
  obtain⟨b',off',n',cp',e2,e3⟩:=gp
  rw[e1]at e2;cases e2
  have hcells:v.cells = #[v]:=by cases v<;>simp_all [Z01,Value.cells]
  have hone':v.oneCell'=true:=by cases v<;>simp_all [Z01,Value.oneCell']
  have hw:=K04 (H:=h) (P:=P) (a:=a) (cur:=cur.toList) ho hs e3 (by rw[gx,hcells];rfl) (by rw[gx,hcells];simpa using hone') (by simpa using hb) (by simp;omega)
  obtain⟨nx,h',w',hr',⟨rfl,rfl⟩,hm⟩:=A8 _ _ _ (A05 s) (hw (λn h'=>n = .skip/\h'=_) ⟨rfl,rfl⟩)
  obtain⟨H',s'⟩:=s.moved hm
  have harr:(Y2 cur.toList (off+(idx.toNat*sz+k)) (a.eval x).cells.toList).toArray=cur.setIfInBounds (off+(idx.toNat*sz+k)) v:=by
    rw[gx,hcells]
    apply Array.ext'
    simp[Y2]
  rw[harr]at s'
  exact f06 hr' ⟨_,_,_,_,_,_,_,hk,rfl,s',rfl,G6.refl _ _ _⟩
theorem G06(s:Sim P h0 w0 be oe H st h a w){t:TypeId}{p x:Operand}{sl:Value}{idx:Int}{sz k n:Nat}{new:List Value}(ho:o.op = .store t p x)(hr:rdO st p = .hel sl idx sz k)
  (hx:(a.eval x).cells.toList=new) (hs:s5 P t=some n) (hl:F04 new n=true) (h1:P02 new=true)
  (he:R01 h sl idx (idx.toNat*sz+k) new λh'=>K (.val undef) st h'):o.wp P a w (Nx P h0 w0 st be oe K a o.dst) Q:=by
 have gp:=s.rdO p
 rw[hr]at gp
 obtain⟨b,off,n',cp,cur,ty,⟨e1,_,hb,hlt⟩,hk⟩:=he
 obtain⟨b',off',n2,cp',e2,e3⟩:=gp
 rw[e1]at e2;cases e2
 have hlen:=f01 _ _ hl
 have hw:=K04 (H:=h) (P:=P) (a:=a) (cur:=cur.toList) ho hs e3 (by rw[hx];exact hlen) (by rw[hx];exact l02 _ h1) (by simpa using hb) (by simp;omega)
 obtain⟨nx,h',w',hr',⟨rfl,rfl⟩,hm⟩:=A8 _ _ _ (A05 s) (hw (λn h'=>n = .skip/\h'=_) ⟨rfl,rfl⟩)
 obtain⟨H',s'⟩:=s.moved hm
 rw[K00]at hk
 rw[hx]at s'
 exact f06 hr' ⟨_,_,_,_,_,_,_,hk,rfl,s',rfl,G6.refl _ _ _⟩
theorem H06:∀(fs:List Field),V03 P fs=true->∃ places,fs.mapM (λf:Field=>(P.info? f.type).map λi=>(f.offset,i.size))=some places /\
  ∀(k:Nat) (f:Field) (n:Nat),fs[k]?=some f->s5 P f.type=some n->places[k]?=some (f.offset,n)
 | [],_=>⟨[],rfl,by simp⟩
 |f::r,h=>by
  simp only[V03]at h
  split at h
  ·rename_i m hm
   obtain⟨places,h1,h2⟩:=H06 r h
   unfold s5 at hm
   split at hm
   ·rename_i i hi
    cases hm
    refine⟨(f.offset,i.size)::places,by simp[List.mapM_cons,hi,h1],λk g n hk hn=>?_⟩
    cases k with
    |zero =>
     simp at hk
     subst hk
     unfold s5 at hn
     rw[hi]at hn
     cases hn
     simp
    |succ k=>simpa using h2 k g n (by simpa using hk) hn
   ·cases hm
  ·cases h
theorem J07{fs:Array Field}{places:List (Nat×Nat)}(hp:∀(k:Nat) (f:Field) (n:Nat),fs.toList[k]?=some f->s5 P f.type=some n->places[k]?=some (f.offset,n)){rd:Operand->AV}
  (hrd:∀ x cs,R8 (rd x)=some cs->V1 st oe cs (a.eval x).cells.toList):∀(l:List (Nat×Operand)) {cs:List a5} {vs:List Value} {K:List a5->Prop},V1 st oe cs vs->u05 P fs rd l cs K ->
  ∃ cs' vs',K cs'/\V1 st oe cs' vs'/\Instr.fill (places.toArray[·]?) vs.toArray (l.map λp=>(p.1,a.eval p.2))=some vs'.toArray
 | [],cs,vs,K,g,he=>⟨cs,vs,he,g,rfl⟩
 |(i,x)::r,cs,vs,K,g,he=>by
  simp only[u05]at he
  split at he
  rotate_left
  ·exact he.elim
  rename_i f new hf hn
  split at he
  rotate_left
  ·exact he.elim
  rename_i n hs
  split at he
  rotate_left
  ·exact he.elim
  rename_i hl hb
  have hlen:=f01 _ _ hl
  have hle:=Nat.le_of_ble_eq_true hb
  have gx:=hrd x new hn
  have hpl:=hp i f n (by simpa using hf) hs
  have hcl:=g.length
  have hxl:=gx.length
  obtain⟨cs',vs',k1,k2,k3⟩:=J07 hp hrd r (g.splice gx) he
  refine⟨cs',vs',k1,k2,?_⟩
  have hsz:(a.eval x).cells.size=n:=by rw[←hlen,hxl];simp
  simp only[List.map_cons,Instr.fill,List.getElem?_toArray,hpl,hsz,ne_eq,not_true_eq_false,decide_false,Bool.false_or,decide_eq_true_eq]
  rw[if_neg (by simp;omega)]
  have h2:=H0a (a.eval x) f.offset vs.toArray
  have h3:((a.eval x).cells.zipIdx.foldl (λcs (p:Value×Nat)=>cs.setIfInBounds (f.offset+p.2) p.1) vs.toArray)=(Y2 vs f.offset (a.eval x).cells.toList).toArray:=by
   rw[←h2]
  rw[show((a.eval x).cells.zipIdx.foldl (λcs (x:Value×Nat)=>match x with|(c,j)=>cs.setIfInBounds (f.offset+j) c) vs.toArray)=(Y2 vs f.offset (a.eval x).cells.toList).toArray from h3]
  simpa using k3
theorem g0f(s:Sim P h0 w0 be oe H st h a w){t:TypeId}{ps:Array (Nat×Operand)}{fs:Array Field}{z:Value}{rd:Operand->AV}{K':AV->Prop}(ho:o.op = .build t ps)(hu:P.underlying t=some (.struct fs))
  (hz:w9 P t=some z) (ha:V03 P fs.toList=true) (hrd:∀ x cs,R8 (rd x)=some cs->V1 st oe cs (a.eval x).cells.toList)
  (he:u05 P fs rd ps.toList (vals z.cells.toList) λcs=>K' (.agg cs)) :
  ∃ av v,K' av/\M2 st be oe av v/\∀ w:World,(execOp a.eval o).run P w = .ok (.value v) w:=by
 obtain⟨places,h1,h2⟩:=H06 fs.toList ha
 obtain⟨cs',vs',k1,k2,k3⟩:=J07 (st:=st) (oe:=oe) (a:=a) h2 hrd ps.toList (V1.vals st oe z.cells.toList) he
 have hz':=hz
 unfold w9 at hz'
 split at hz'
 rotate_left
 ·cases hz'
 rename_i i hi
 have hb:P.built t (ps.map λx=>(x.1,a.eval x.2)).toList=some vs'.toArray:=by
  unfold Program.built
  simp only[hi,hu,hz',h1]
  rw[show(Array.map (λx=>(x.1,a.eval x.2)) ps).toList=ps.toList.map λp=>(p.1,a.eval p.2) from by simp]
  simpa using k3
 refine⟨_,.agg vs'.toArray,k1,⟨vs',rfl,k2⟩,λw=>?_⟩
 unfold execOp;rw[ho]
 simp only[Sem.run_bind,run_build w t _ _ hb,Result.andThen_ok,Sem.run_pure]
theorem I06{sz:Nat}{rd:Operand->AV}
  (hrd:∀ x cs,R8 (rd x)=some cs->V1 st oe cs (a.eval x).cells.toList):∀(l:List (Nat×Operand)) {cs:List a5} {vs:List Value} {K:List a5->Prop},V1 st oe cs vs->t07 sz rd l cs K ->
  ∃ cs' vs',K cs'/\V1 st oe cs' vs'/\Instr.fill (λi=>some (i*sz,sz)) vs.toArray (l.map λp=>(p.1,a.eval p.2))=some vs'.toArray
 | [],cs,vs,K,g,he=>⟨cs,vs,he,g,rfl⟩
 |(i,x)::r,cs,vs,K,g,he=>by
  simp only[t07]at he
  split at he
  rotate_left
  ·exact he.elim
  rename_i new hn
  split at he
  rotate_left
  ·exact he.elim
  rename_i hl hb
  have hlen:=f01 _ _ hl
  have hle:=Nat.le_of_ble_eq_true hb
  have gx:=hrd x new hn
  have hcl:=g.length
  have hxl:=gx.length
  obtain⟨cs',vs',k1,k2,k3⟩:=I06 hrd r (g.splice gx) he
  refine⟨cs',vs',k1,k2,?_⟩
  have hsz:(a.eval x).cells.size=sz:=by rw[←hlen,hxl];simp
  simp only[List.map_cons,Instr.fill,hsz,ne_eq,not_true_eq_false,decide_false,Bool.false_or,decide_eq_true_eq]
  rw[if_neg (by simp;omega)]
  have h2:=H0a (a.eval x) (i*sz) vs.toArray
  have h3:((a.eval x).cells.zipIdx.foldl (λcs (p:Value×Nat)=>cs.setIfInBounds (i*sz+p.2) p.1) vs.toArray)=(Y2 vs (i*sz) (a.eval x).cells.toList).toArray:=by
   rw[←h2]
  rw[show((a.eval x).cells.zipIdx.foldl (λcs (x:Value×Nat)=>match x with|(c,j)=>cs.setIfInBounds (i*sz+j) c) vs.toArray)=(Y2 vs (i*sz) (a.eval x).cells.toList).toArray from h3]
  simpa using k3
theorem h0f(s:Sim P h0 w0 be oe H st h a w){t e:TypeId}{n sz:Nat}{ps:Array (Nat×Operand)}{z:Value}{rd:Operand->AV}{K':AV->Prop}(ho:o.op = .build t ps)(hu:P.underlying t=some (.array n e))
  (hz:w9 P t=some z) (hs:s5 P e=some sz) (hrd:∀ x cs,R8 (rd x)=some cs->V1 st oe cs (a.eval x).cells.toList)
  (he:t07 sz rd ps.toList (vals z.cells.toList) λcs=>K' (.agg cs)) :
  ∃ av v,K' av/\M2 st be oe av v/\∀ w:World,(execOp a.eval o).run P w = .ok (.value v) w:=by
 obtain⟨cs',vs',k1,k2,k3⟩:=I06 (st:=st) (oe:=oe) (a:=a) hrd ps.toList (V1.vals st oe z.cells.toList) he
 have hz':=hz
 unfold w9 at hz'
 split at hz'
 rotate_left
 ·cases hz'
 rename_i i hi
 unfold s5 at hs
 split at hs
 rotate_left
 ·cases hs
 rename_i ie hie
 cases hs
 have hb:P.built t (ps.map λx=>(x.1,a.eval x.2)).toList=some vs'.toArray:=by
  unfold Program.built
  simp only[hi,hu,hz',hie]
  rw[show(Array.map (λx=>(x.1,a.eval x.2)) ps).toList=ps.toList.map λp=>(p.1,a.eval p.2) from by simp]
  simpa using k3
 refine⟨_,.agg vs'.toArray,k1,⟨vs',rfl,k2⟩,λw=>?_⟩
 unfold execOp;rw[ho]
 simp only[Sem.run_bind,run_build w t _ _ hb,Result.andThen_ok,Sem.run_pure]
theorem k0c(s:Sim P h0 w0 be oe H st h a w){x:Operand}{cs:List a5}(he:t05 (rdO st x)=some cs):∃ vs:List Value,a.eval x = .agg vs.toArray/\V1 st oe cs vs:=by
 have g:=s.rdO x
 cases hr:rdO st x with
 |val v =>
  rw[hr]at he g
  cases v<;>simp only[t05,Option.some.injEq]at he<;>first|(subst he;exact⟨_,by rw[show a.eval x=_ from g],V1.vals _ _ _⟩)|cases he
 |agg cs' =>
  rw[hr]at he g
  simp only[t05,Option.some.injEq]at he
  subst he
  exact g
 |_=>rw[hr]at he;cases he
theorem Z0k(s:Sim P h0 w0 be oe H st h a w){t:TypeId}{x:Operand}{k:Nat}{cs:List a5}{fs:Array Field}{f:Field}(ho:o.op = .field t x k)(hc:t05 (rdO st x)=some cs)
  (hu:P.underlying t=some (.struct fs)) (hf:fs[k]?=some f) (he:n03 P f.type cs f.offset λav=>K av st h):o.wp P a w (Nx P h0 w0 st be oe K a o.dst) Q:=by
 obtain⟨vs,hx,g⟩:=k0c s hc
 unfold n03 at he
 have fin:∀(av:AV) (v:Value),K av st h->M2 st be oe av v->(∀ Kn:Value->Hp->Prop,Kn v H->wpS P (part f.type vs.toArray f.offset) H Kn)->o.wp P a w (Nx P h0 w0 st be oe K a o.dst) Q:=by
  intro av v hk hg hw
  refine Z5 s (λKn hk'=>?_) hg hk
  unfold execOp;rw[ho]
  refine J6 _ _ _ ?_
  simp only[Instr.field,M1,I2 hu,hf,hx,asAgg,Q1]
  exact hw _ hk'
 split at he
 ·rename_i hag
  split at he
  ·rename_i n hn
   split at he
   ·refine fin _ (.agg ((vs.drop f.offset).take n).toArray) he ⟨_,rfl,(g.drop _).take _⟩ λKn hk=>?_
    simp only[part,M1,e04 hag,if_true,K8 hn,Q1]
    have:vs.toArray.extract f.offset (f.offset+n)=((vs.drop f.offset).take n).toArray:=by
     apply Array.ext'
     simp[List.take_drop]
    rw[this]
    exact hk
   ·exact he.elim
  ·exact he.elim
 ·rename_i hag
  split at he
  ·rename_i c hn
   obtain⟨v,hv,gc⟩:=g.nth hn
   refine fin _ v he (M2.ofCell gc) λKn hk=>?_
   simp only[part,M1,e04 hag,Bool.false_eq_true,if_false]
   have:vs.toArray[f.offset]?=some v:=by simpa using hv
   simp only[this,Q1]
   exact hk
  ·exact he.elim
 ·exact he.elim
theorem K07{t:TypeId}{e:TypeId}{x:Operand}{as:Array Operand}{ts:Array TypeId}{ad:Option Addr}{n c:Nat}(ho:o.op = .call { callee := .builtin .len,args:=as,argTypes:=ts })(ha:as = #[x])(hts:ts = #[t])
  (hte:H9 P t=some e) (hx:a.eval x = .slice ad n c) (w:World):(execOp a.eval o).run P w = .ok (.value (.int .i64 n)) w:=by
 subst ha;subst hts
 unfold execOp;rw[ho]
 simp only[resolve,invoke,builtin,Builtin.len_,Sem.run_bind,Sem.run_pure,Result.andThen_ok,List.map_toArray,List.map_cons,List.map_nil,hx,List.getElem?_toArray,List.getElem?_cons_zero,run_underlying (i8 hte),goInt]
end
end Go.H
namespace Go.H
set_option linter.unusedVariables false
set_option linter.unusedSimpArgs false
section
variable {P:Program} {h0:Hp} {w0:World} {be:Nat->Nat} {oe:Nat->Value} {H:Hp} {st:St} {h:Hp} {a:Act} {w:World} {o:Oper} {K:AV->St->Hp->Prop} {Q:Exit->Act->World->Prop}
theorem X06(s:Sim P h0 w0 be oe H st h a w){av:AV}{v:Value}(hr:∀ w:World,(execOp a.eval o).run P w = .ok (.value v) w)(g:M2 st be oe av v)(hk:K av st h):o.wp P a w (Nx P h0 w0 st be oe K a o.dst) Q :=
 M6 (hr w) ⟨av,st,h,v,be,oe,H,hk,rfl,s,g,G6.refl _ _ _⟩
set_option maxHeartbeats 1000000 in
theorem M9(s:Sim P h0 w0 be oe H st h a w)(he:O7 P o st h K):o.wp P a w (Nx P h0 w0 st be oe K a o.dst) Q:=by
 cases ho:o.op with
 |move x=>simp only[O7,ho]at he;exact e0i s (.inl ho) he
 |assign x=>simp only[O7,ho]at he;exact e0i s (.inr ho) he
 |box t x =>
  simp only[O7,ho]at he
  split at he
  ·rename_i cs hc;exact i0o s ho hc he
  ·exact he.elim
 |alloc t =>
  simp only[O7,ho]at he
  split at he
  ·rename_i z hz;exact W0k s ho hz he
  ·exact he.elim
 |fieldAddr t x k=>simp only[O7,ho]at he;exact I0d s ho he
 |indexAddr t x i=>simp only[O7,ho]at he;exact N0d s ho he
 |load t x =>
  simp only[O7,ho]at he
  split at he
  ·rename_i i off hr
   split at he
   ·rename_i cs ty hn;exact d0f s ho hr hn he
   ·exact he.elim
  ·rename_i sl idx sz k hr
   obtain⟨c,hc,hk⟩:=he
   exact e0f s ho hr hc hk
  ·rename_i i s0 idx sz k hr
   split at he
   ·rename_i st1 e sz' by_ nn xs hn
    split at he
    ·rename_i hb
     have hsz:=Nat.eq_of_beq_eq_true hb
     subst hsz
     obtain⟨c,hc,hk⟩:=he
     exact f0f s ho hr hn hc hk
    ·exact he.elim
   ·exact he.elim
  ·exact T7 s he
 |store t p x =>
  simp only[O7,ho]at he
  split at he
  ·rename_i i off hr
   split at he
   ·rename_i cs ty new n hn hc hs
    split at he
    ·rename_i hl h1;exact J0d s ho hr hn hc hs hl h1 he
    ·exact he.elim
   ·exact he.elim
  ·rename_i i s0 idx sz k hr
   exact O0d s ho hr he
  ·rename_i sl idx sz k hr
   split at he
   ·rename_i v hx
    split at he
    ·rename_i hs;exact P0d s ho hr hx hs he
    ·rename_i n _ hs
     split at he
     ·rename_i hl h1
      exact G06 s ho hr (by have:=s.rdO x;rw[hx]at this;rw[show a.eval x=v from this]) hs hl h1 he
     ·exact he.elim
    ·exact he.elim
   ·rename_i cs hx
    split at he
    ·rename_i n new hs hv
     split at he
     ·rename_i hl h1
      refine G06 s ho hr ?_ hs hl h1 he
      have g:=s.rdO x
      rw[hx]at g
      obtain⟨vs,g1,g2⟩:=g
      rw[g1,B05 hv g2]
      rfl
     ·exact he.elim
    ·exact he.elim
   ·exact he.elim
  ·exact T7 s he
 |build t ps =>
  simp only[O7,ho]at he
  split at he
  ·rename_i fs z hu hz
   split at he
   ·rename_i ha
    obtain⟨av,v,k1,k2,k3⟩:=g0f (K':=λav=>K av st h) s ho hu hz ha (λx cs hc=>F02 s hc) he
    exact X06 s k3 k2 k1
   ·exact he.elim
  ·rename_i n e z hu hz
   split at he
   ·rename_i sz hs
    obtain⟨av,v,k1,k2,k3⟩:=h0f (K':=λav=>K av st h) s ho hu hz hs (λx cs hc=>F02 s hc) he
    exact X06 s k3 k2 k1
   ·exact he.elim
  ·exact he.elim
 |buildSlice t n ps =>
  simp only[O7,ho]at he
  split at he
  ·rename_i e hte
   split at he
   ·rename_i sz by_ z hs hb hz
    split at he
    ·rename_i hn hm hl;exact j0c s ho hte hs hz hn hm he
    ·exact he.elim
   ·exact he.elim
  ·exact he.elim
 |makeSlice t l c =>
  simp only[O7,ho]at he
  split at he
  ·rename_i e hte
   split at he
   ·rename_i sz by_ z kl nl kc nc hs hb hz hl hc
    split at he
    ·rename_i hzl hone;exact M0d s ho hte hs hb hz hl hc hzl hone he.1 he.2
    ·exact he.elim
   ·exact he.elim
  ·exact he.elim
 |field t x k =>
  simp only[O7,ho]at he
  split at he
  ·rename_i cs fs hc hu
   split at he
   ·rename_i f hf;exact Z0k s ho hc hu hf he
   ·exact he.elim
  ·exact he.elim
 |slice t x lo hi mx =>
  cases mx with
  |some m=>simp only[O7,ho]at he;exact o9 s he
  |none =>
   simp only[O7,ho]at he
   split at he
   ·rename_i i k hr
    split at he
    ·rename_i e hte
     split at he
     ·rename_i sz hs;exact C0j s ho hte hs hr he
     ·exact he.elim
    ·exact he.elim
   ·rename_i ad n c hr
    split at he
    ·rename_i e hte
     split at he
     ·rename_i sz hs;exact B0j s ho hte hs hr he
     ·exact he.elim
    ·exact he.elim
   ·rename_i b hr
    split at he
    ·rename_i hu
     unfold J0k at he
     split at he
     ·rename_i l m hl hm
      have gx:a.eval x = .string b:=by have:=s.rdO x;rw[hr]at this;exact this
      obtain⟨⟨h1,h2,h3⟩,hk⟩:=he
      exact Z5 s (av := .val _) (exec_cutStr ho hu gx (M04 s hl) (M04 s hm) h1 h2 h3) rfl hk
     ·exact he.elim
    ·exact he.elim
   ·exact he.elim
 |index t x i =>
  simp only[O7,ho]at he
  split at he
  ·rename_i b k j hx hi hu
   have gx:a.eval x = .string b:=by have:=s.rdO x;rw[hx]at this;exact this
   have gi:a.eval i = .int k j:=by have:=s.rdO i;rw[hi]at this;exact this
   obtain⟨c,⟨h1,h2⟩,hk⟩:=he
   exact Z5 s (av := .val _) (exec_index ho hu gx gi h1 h2) rfl hk
  ·exact T7 s he
 |binOp op t x y t' =>
  cases op with
  |add =>
   simp only[O7,ho]at he
   split at he
   ·rename_i b c hx hy
    have gx:a.eval x = .string b:=by have:=s.rdO x;rw[hx]at this;exact this
    have gy:a.eval y = .string c:=by have:=s.rdO y;rw[hy]at this;exact this
    exact Z5 s (av := .val _) (exec_cat ho gx gy he.1) rfl he.2
   ·exact T7 s he
  |quo =>
   simp only[O7,ho]at he
   split at he
   ·rename_i b c hx hy
    have gx:a.eval x = .int .i64 b:=by have:=s.rdO x;rw[hx]at this;exact this
    have gy:a.eval y = .int .i64 c:=by have:=s.rdO y;rw[hy]at this;exact this
    exact Z5 s (av := .val _) (exec_quo ho gx gy he.1) rfl he.2
   ·exact T7 s he
  |rem =>
   simp only[O7,ho]at he
   split at he
   ·rename_i b c hx hy
    have gx:a.eval x = .int .i64 b:=by have:=s.rdO x;rw[hx]at this;exact this
    have gy:a.eval y = .int .i64 c:=by have:=s.rdO y;rw[hy]at this;exact this
    exact Z5 s (av := .val _) (exec_rem ho gx gy he.1) rfl he.2
   ·exact T7 s he
  |shl =>
   simp only[O7,ho]at he
   split at he
   ·rename_i b c hx hy
    have gx:a.eval x = .int .i64 b:=by have:=s.rdO x;rw[hx]at this;exact this
    have gy:a.eval y = .int .i64 c:=by have:=s.rdO y;rw[hy]at this;exact this
    exact Z5 s (av := .val _) (X0k ho gx gy he.1) rfl he.2
   ·exact T7 s he
  |shr =>
   simp only[O7,ho]at he
   split at he
   ·rename_i b c hx hy
    have gx:a.eval x = .int .i64 b:=by have:=s.rdO x;rw[hx]at this;exact this
    have gy:a.eval y = .int .i64 c:=by have:=s.rdO y;rw[hy]at this;exact this
    exact Z5 s (av := .val _) (Y0k ho gx gy he.1) rfl he.2
   ·exact T7 s he
  |eql =>
   simp only[O7,ho]at he
   split at he
   ·rename_i xs ys hx hy
    obtain⟨b,h1,hk⟩:=he
    exact X06 s (av := .val _) (h1 _ (L6 hx (s.rdO x)) (L6 hy (s.rdO y))) rfl hk
   ·rename_i a0 n0 m0 hx hy
    obtain⟨b,h1,hk⟩:=he
    exact X06 s (av := .val _) (h1 _ (L6 hx (s.rdO x)) (L6 hy (s.rdO y))) rfl hk
   ·exact o9 s he
  |neq =>
   simp only[O7,ho]at he
   split at he
   ·rename_i xs ys hx hy
    obtain⟨b,h1,hk⟩:=he
    exact X06 s (av := .val _) (h1 _ (L6 hx (s.rdO x)) (L6 hy (s.rdO y))) rfl hk
   ·exact o9 s he
  |_=>simp only[O7,ho]at he;exact o9 s he
 |convert tf tt x =>
  simp only[O7,ho]at he
  split at he
  ·rename_i i k hr
   split at he
   ·rename_i s0 e0 sz by_ nn xs e hn hu1 hu2
    split at he
    ·rename_i hu3
     obtain⟨ns,hxs,hk⟩:=he
     obtain⟨e1,sz1,by1,nn1,xs1,hn1⟩:=I04 hr
     have g:=s.rdO x
     rw[hr]at g
     have hx:=g.own_cur hn1
     have hown:=s.own i _ _ _ _ _ _ hn
     have run:(execOp a.eval o).run P w = .ok (.value (.string (strOfNums ns))) w:=by
      unfold execOp
      rw[ho]
      rcases hown.2 with⟨hv,hxe,_⟩|⟨g',cap,cur,hv,_,hH,hc1,hc2,hc3,hcur⟩
      ·rw[hxe]at hxs
       have hns:ns = []:=by cases ns with
        |nil=>rfl
        |cons n r=>cases hxs
       subst hns
       rw[hv]at hx
       simp only[hx,Sem.run_bind,run_convert_bytes_nil w tf e hu1 hu3 0 0 tt hu2,Result.andThen_ok,Sem.run_pure]
       rfl
      ·rw[hv]at hx
       have hl:ns.length=xs.length:=by rw[hxs];simp
       have hcell:∀ j,j<xs.length->w.cell? ⟨g',0+j,none⟩=some (.int .u8 (ns.getD j 0)):=λj hj=>by
        have hsz:sz=1:=by
         have:=(hown.1 _ (List.getElem_mem hj)).1
         rw[←this]
         simp only[hxs,List.getElem_map]
         rfl
        subst hsz
        have hf:xs.flatten=ns.map (Value.int .u8):=by
         rw[hxs]
         clear hxs hl hj hn hown hcur hk
         induction ns with
         |nil=>rfl
         |cons n r ih=>simp[ih]
        have hwc:=V0k s _ _ hH
        have h2:=congrArg (λl:List Value=>l[j]?) (hcur.trans hf)
        simp only[List.getElem?_take,Nat.mul_one,if_pos hj,List.getElem?_map,Array.getElem?_toList]at h2
        simp only[World.cell?,hwc,Nat.zero_add]
        rw[if_neg (by simp),h2]
        simp[List.getD_eq_getElem?_getD,List.getElem?_eq_getElem (show j<ns.length by omega)]
       simp only[hx,Sem.run_bind,run_convert_bytes_arg w tf e hu1 hu3 g' 0 xs.length cap ns hl hcell tt hu2,Result.andThen_ok,Sem.run_pure]
     exact M6 run ⟨_,_,_,_,_,_,_,hk,rfl,s,rfl,G6.refl _ _ _⟩
    ·exact he.elim
   ·exact o9 s he
  ·exact o9 s he
 |call c =>
  obtain⟨cal,as,ts⟩:=c
  cases cal with
  |builtin b =>
   cases b with
   |len =>
    simp only[O7,ho]at he
    split at he
    ·rename_i x t ha ht
     have ha':as = #[x]:=by apply Array.ext';simpa using ha
     have ht':ts = #[t]:=by apply Array.ext';simpa using ht
     split at he
     ·rename_i i k hr
      split at he
      ·rename_i s0 e sz by_ nn xs e' hn hte
       obtain⟨e1,sz1,by1,nn1,xs1,hn1⟩:=I04 hr
       have g:=s.rdO x
       rw[hr]at g
       have hx:=g.own_cur hn1
       have hown:=s.own i _ _ _ _ _ _ hn
       rcases hown.2 with⟨hv,hxs,_⟩|⟨g',cap,cur,hv,_⟩
       ·rw[hv]at hx
        refine X06 s (av := .val _) (K07 ho ha' ht' hte hx) ?_ he
        rw[hxs];rfl
       ·rw[hv]at hx
        exact X06 s (av := .val _) (K07 ho ha' ht' hte hx) rfl he
      ·exact he.elim
     ·exact T7 s he
    ·exact he.elim
   |append =>
    simp only[O7,ho]at he
    split at he
    ·rename_i x y t t' ha ht
     split at he
     ·rename_i hb
      have:=Nat.eq_of_beq_eq_true hb
      subst this
      exact z0j s ho (by apply Array.ext';simpa using ha) (by apply Array.ext';simpa using ht) he
     ·exact he.elim
    ·exact he.elim
   |_=>simp only[O7,ho]at he;exact o9 s he
  |value f=>simp only[O7,ho]at he;exact o9 s he
  |invoke r m=>simp only[O7,ho]at he;exact o9 s he
 |lookup _ _ _ _=>simp only[O7,ho]at he;exact V06 s he
 |mapUpdate _ _ _ _=>simp only[O7,ho]at he;exact V06 s he
 |insert _ _ _ _=>simp only[O7,ho]at he;exact V06 s he
 |_=>simp only[O7,ho]at he;exact o9 s he
end
end Go.H
