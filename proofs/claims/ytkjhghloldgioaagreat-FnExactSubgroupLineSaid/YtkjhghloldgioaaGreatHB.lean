/- The library of the walks, part HB: plain laws over the model. -/
import Derived.Test.YtkjhghloldgioaaGreatH3
import Derived.Laws.Tables
namespace Go.H
set_option linter.unusedVariables false
theorem l04{α:Type}:∀(l:List α) (k:Nat),nth l k=l[k]?
 | [],k=>by simp[nth]
 |x::r,0=>by simp[nth]
 |x::r,k+1=>by simp[nth,l04 r k]
theorem F09{α:Type}:∀(l:List α) (k:Nat) (x:α),r00 l k x=l.set k x
 | [],k,x=>by simp[r00]
 |y::r,0,x=>by simp[r00]
 |y::r,k+1,x=>by simp[r00,F09 r k x]
theorem Z6{α:Type}(l:List α)(k:Nat)(x:α)(hk:k<l.length)(j:Nat):nth (r00 l k x) j=if j=k then some x else nth l j:=by
 rw[l04,l04,F09,List.getElem?_set]
 by_cases e:k=j
 ·subst e;simp[hk]
 ·simp[e,Ne.symm e]
theorem F01{α:Type}{l:List α}{k:Nat}{x:α}(h:nth l k=some x):k<l.length:=by
 rw[l04]at h
 exact(List.getElem?_eq_some_iff.1 h).1
theorem k02{α:Type}(l:List α)(x:α)(j:Nat):nth (l ++ [x]) j=if j=l.length then some x else nth l j:=by
 rw[l04,l04,List.getElem?_append]
 by_cases e:j<l.length
 ·simp[e,Nat.ne_of_lt e]
 ·by_cases e2:j=l.length
  ·subst e2;simp
  ·rw[if_neg e,if_neg e2]
   have h1:l[j]?=none:=List.getElem?_eq_none (by omega)
   rw[h1,List.getElem?_eq_none]
   simp;omega
theorem U04{α:Type}(l:List α)(k:Nat)(x:α):(r00 l k x).length=l.length:=by rw[F09];simp
def stamp(st:St)(i:Nat):Option Nat:=match nth st.ow i with
 |some o=>some o.stamp
 |none=>none
def l0d(st:St)(oe:Nat->Value):l5->Value->Prop
 | .val v,x=>x=v
 | .own i k,x=>∃ s,stamp st i=some s/\k<=s/\(k=s->x=oe i)
def U1(st:St)(oe:Nat->Value):List l5->List Value->Prop
 | [],[]=>True
 |c::cs,v::vs=>l0d st oe c v/\U1 st oe cs vs
 |_,_=>False
def C2(st:St)(be:Nat->Nat)(oe:Nat->Value):AV->Value->Prop
 | .val v,x=>x=v
 | .own i k,x=>∃ s,stamp st i=some s/\k<=s/\(k=s->x=oe i)
 | .box i off,x=>i<st.bx.length/\x=ptr (be i) off
 | .hel s idx sz k,x=>∃ b o n c,s = .slice (some ⟨b,o,none⟩) n c/\x=ptr b (o+(idx.toNat*sz+k))
 | .oel i st0 idx sz k,x=>∃ s,stamp st i=some s/\st0<=s/\(st0=s->∃ g n c,oe i = .slice (some ⟨g,0,none⟩) n c/\x=ptr g (idx.toNat*sz+k))
 | .agg cs,x=>∃ vs,x = .agg vs.toArray/\U1 st oe cs vs
 | .dead,_=>True
structure M6 (st:St) (be:Nat->Nat) (oe:Nat->Value) (st':St) (be':Nat->Nat) (oe':Nat->Value):Prop where
 bl:st.bx.length<=st'.bx.length
 be:∀ i,i<st.bx.length->be' i=be i
 sm:∀ i s,stamp st i=some s->∃ s',stamp st' i=some s'/\s<=s'/\(s'=s->oe' i=oe i)
theorem M6.refl(st:St)(be:Nat->Nat)(oe:Nat->Value):M6 st be oe st be oe :=
 ⟨Nat.le_refl _,λ_ _=>rfl,λi s h=>⟨s,h,Nat.le_refl _,λ_=>rfl⟩⟩
theorem l0d.grow{st st':St}{be be':Nat->Nat}{oe oe':Nat->Value}(g:M6 st be oe st' be' oe'){c:l5}{x:Value}(h:l0d st oe c x):l0d st' oe' c x:=by
 cases c with
 |val v=>exact h
 |own i k =>
  obtain⟨s,h1,h2,h3⟩:=h
  obtain⟨s',g1,g2,g3⟩:=g.sm i s h1
  exact⟨s',g1,Nat.le_trans h2 g2,λe=>by rw[g3 (by omega)];exact h3 (by omega)⟩
theorem U1.grow{st st':St}{be be':Nat->Nat}{oe oe':Nat->Value}(g:M6 st be oe st' be' oe'):∀ {cs:List l5} {vs:List Value},U1 st oe cs vs->U1 st' oe' cs vs
 | [],[],_=>trivial
 |_::_,_::_,h=>⟨h.1.grow g,U1.grow g h.2⟩
 | [],_::_,h=>h.elim
 |_::_,[],h=>h.elim
theorem C2.grow{st st':St}{be be':Nat->Nat}{oe oe':Nat->Value}(g:M6 st be oe st' be' oe'){av:AV}{x:Value}(h:C2 st be oe av x):C2 st' be' oe' av x:=by
 cases av with
 |val v=>exact h
 |own i k =>
  obtain⟨s,h1,h2,h3⟩:=h
  obtain⟨s',g1,g2,g3⟩:=g.sm i s h1
  exact⟨s',g1,Nat.le_trans h2 g2,λe=>by rw[g3 (by omega)];exact h3 (by omega)⟩
 |box i off=>exact⟨Nat.lt_of_lt_of_le h.1 g.bl,by rw[g.be i h.1];exact h.2⟩
 |hel s idx sz k=>exact h
 |oel i st0 idx sz k =>
  obtain⟨s,h1,h2,h3⟩:=h
  obtain⟨s',g1,g2,g3⟩:=g.sm i s h1
  exact⟨s',g1,Nat.le_trans h2 g2,λe=>by rw[g3 (by omega)];exact h3 (by omega)⟩
 |agg cs=>obtain⟨vs,h1,h2⟩:=h;exact⟨vs,h1,h2.grow g⟩
 |dead=>trivial
theorem U1.length{st:St}{oe:Nat->Value}:∀ {cs:List l5} {vs:List Value},U1 st oe cs vs->cs.length=vs.length
 | [],[],_=>rfl
 |_::_,_::_,h=>by simp[U1.length h.2]
 | [],_::_,h=>h.elim
 |_::_,[],h=>h.elim
theorem U1.vals(st:St)(oe:Nat->Value):∀(vs:List Value),U1 st oe (vals vs) vs
 | []=>trivial
 |_::r=>⟨rfl,U1.vals st oe r⟩
theorem U1.nth{st:St}{oe:Nat->Value}:∀ {cs:List l5} {vs:List Value} {k:Nat} {c:l5},U1 st oe cs vs->nth cs k=some c->∃ v,vs[k]?=some v/\l0d st oe c v
 | [],_,k,c,_,h=>by simp[H.nth]at h
 |c0::cs,v0::vs,0,c,h,hn=>by simp[H.nth]at hn;subst hn;exact⟨v0,by simp,h.1⟩
 |c0::cs,v0::vs,k+1,c,h,hn=>by
  simp[H.nth]at hn
  obtain⟨v,h1,h2⟩:=U1.nth h.2 hn
  exact⟨v,by simpa using h1,h2⟩
 |_::_,[],_,_,h,_=>h.elim
theorem U1.drop{st:St}{oe:Nat->Value}:∀ {cs:List l5} {vs:List Value} (k:Nat),U1 st oe cs vs->U1 st oe (cs.drop k) (vs.drop k)
 |cs,vs,0,h=>by simpa using h
 | [],[],k+1,h=>by simpa using h
 |_::cs,_::vs,k+1,h=>by simpa using U1.drop k h.2
 | [],_::_,_+1,h=>h.elim
 |_::_,[],_+1,h=>h.elim
theorem U1.take{st:St}{oe:Nat->Value}:∀ {cs:List l5} {vs:List Value} (k:Nat),U1 st oe cs vs->U1 st oe (cs.take k) (vs.take k)
 |cs,vs,0,h=>by simp[U1]
 | [],[],k+1,h=>by simp[U1]
 |_::cs,_::vs,k+1,h=>by simpa [U1] using ⟨h.1,U1.take k h.2⟩
 | [],_::_,_+1,h=>h.elim
 |_::_,[],_+1,h=>h.elim
theorem U1.upd{st:St}{oe:Nat->Value}:∀ {cs:List l5} {vs:List Value} {k:Nat} {c:l5} {v:Value},U1 st oe cs vs->l0d st oe c v->U1 st oe (r00 cs k c) (vs.set k v)
 | [],[],k,c,v,h,hc=>by simp[r00,U1]
 |_::cs,_::vs,0,c,v,h,hc=>⟨hc,h.2⟩
 |_::cs,_::vs,k+1,c,v,h,hc=>⟨h.1,U1.upd h.2 hc⟩
 | [],_::_,_,_,_,h,_=>h.elim
 |_::_,[],_,_,_,h,_=>h.elim
def U2:List Value->Nat->List Value->List Value
 |cs,_,[]=>cs
 |cs,off,x::r=>U2 (cs.set off x) (off+1) r
theorem U1.splice{st:St}{oe:Nat->Value}:∀ {new:List l5} {ns:List Value} {cs:List l5} {vs:List Value} {off:Nat},U1 st oe cs vs->U1 st oe new ns->U1 st oe (splice cs off new) (U2 vs off ns)
 | [],[],cs,vs,off,h,_=>h
 |c::new,v::ns,cs,vs,off,h,hn=>by
  simp only[H.splice,U2]
  exact U1.splice (h.upd hn.1) hn.2
 | [],_::_,_,_,_,_,h=>h.elim
 |_::_,[],_,_,_,_,h=>h.elim
theorem H8:∀(ns vs:List Value) (off:Nat),(U2 vs off ns).length=vs.length
 | [],vs,off=>rfl
 |n::ns,vs,off=>by simp[U2,H8 ns]
def E05(h H:Hp)(v:Value)(e:TypeId)(sz:Nat)(nn:Bool)(xs:List (List Value)):Prop :=
  (∀ x∈xs,x.length=sz/\∀ v∈x,v.oneCell'=true) /\
  ((v = .slice none 0 0/\xs = []/\nn=false) ∨
   ∃ g cap cur,v = .slice (some ⟨g,0,none⟩) xs.length cap/\h g=none/\H g=some (.cells cur e (0,0)) /\
     xs.length<=cap/\cap<=maxLen/\cur.size=cap*sz/\cur.toList.take (xs.length*sz)=xs.flatten)
structure Sim (P:Program) (h0:Hp) (w0:World) (be:Nat->Nat) (oe:Nat->Value) (H:Hp) (st:St) (h:Hp) (a:Act) (w:World):Prop where
 mv:P2 h0 w0 H w
 sub:∀ b o,h b=some o->H b=some o
 box:∀ i cs ty,nth st.bx i=some (.live cs ty)->h (be i)=none/\∃ vs,U1 st oe cs vs/\H (be i)=some (.cells vs.toArray ty (0,0))
 pub:∀ i b,nth st.bx i=some (.publ b)->be i=b
 own:∀ i s e sz by_ nn xs,nth st.ow i=some ⟨s,.live e sz by_ nn xs⟩->E05 h H (oe i) e sz nn xs
 frz:∀ i s v,nth st.ow i=some ⟨s,.frozen v⟩->oe i=v
 bb:∀ i j cs ty cs' ty',nth st.bx i=some (.live cs ty)->nth st.bx j=some (.live cs' ty')->be i=be j->i=j
 oo:∀ i j s e sz by_ nn xs s' e' sz' by' nn' xs' g,nth st.ow i=some ⟨s,.live e sz by_ nn xs⟩->nth st.ow j=some ⟨s',.live e' sz' by' nn' xs'⟩ ->
  (oe i).ownBlock=some g->(oe j).ownBlock=some g->i=j
 bo:∀ i cs ty j s e sz by_ nn xs,nth st.bx i=some (.live cs ty)->nth st.ow j=some ⟨s,.live e sz by_ nn xs⟩->(oe j).ownBlock≠some (be i)
 dfr:a.defers = []
 siz:a.tmps.size=st.n
 fr:∀ s,C2 st be oe (Z2 st.fr s) (a.tmps.getD s undef)
section
variable {P:Program} {h0:Hp} {w0:World} {be:Nat->Nat} {oe:Nat->Value} {H:Hp} {st:St} {h:Hp} {a:Act} {w:World}
theorem E05.block{h H:Hp}{v:Value}{e sz:Nat}{nn:Bool}{xs:List (List Value)}(o:E05 h H v e sz nn xs){g:Nat}(hg:v.ownBlock=some g):
  h g=none/\∃ cap cur,v = .slice (some ⟨g,0,none⟩) xs.length cap/\H g=some (.cells cur e (0,0)):=by
 rcases o.2 with⟨rfl,_⟩|⟨g',cap,cur,rfl,h1,h2,_⟩
 ·simp[Value.ownBlock]at hg
 ·simp[Value.ownBlock]at hg
  subst hg
  exact⟨h1,cap,cur,rfl,h2⟩
theorem E05.keep{h h' H H':Hp}{v:Value}{e sz:Nat}{nn:Bool}{xs:List (List Value)}(o:E05 h H v e sz nn xs)
  (hk:∀ g,v.ownBlock=some g->H' g=H g/\h' g=none):E05 h' H' v e sz nn xs:=by
 refine⟨o.1,?_⟩
 rcases o.2 with hn|⟨g,cap,cur,rfl,h1,h2,r⟩
 ·exact .inl hn
 ·obtain⟨k1,k2⟩:=hk g rfl
  exact .inr ⟨g,cap,cur,rfl,k2,by rw[k1];exact h2,r⟩
theorem f0o(s:Sim P h0 w0 be oe H st h a w):Vis H w:=s.mv.vis
theorem c07(s:Sim P h0 w0 be oe H st h a w):Vis h w:=λb o hb=>s.mv.vis b o (s.sub b o hb)
theorem Sim.moved(s:Sim P h0 w0 be oe H st h a w){h':Hp}{w':World}(m:P2 h w h' w'):∃ H',Sim P h0 w0 be oe H' st h' a w':=by
 let H':Hp:=λb=>match h' b with
  |some o=>some o
  |none=>match h b with
   |some _=>none
   |none=>H b
 have hpriv:∀ b,h b=none->H b≠none->H' b=H b/\h' b=none:=by
  intro b hb hH
  have hlt:b<w.heap.size:=s.mv.vis.lt hH
  have hn:h' b=none:=m.none_of hlt hb
  exact⟨by simp[H',hn,hb],hn⟩
 have hmv:P2 H w H' w':=by
  refine⟨m.os,m.tape,m.output,m.size,?_,?_,?_,m.fz,m.dn⟩
  ·intro b hb hH
   have:h b=none:=by
    cases hc:h b with
    |none=>rfl
    |some o=>rw[s.sub b o hc]at hH;cases hH
   exact m.keep b hb this
  ·intro b o ho
   simp only[H']at ho
   split at ho
   ·rename_i x hx;cases ho;exact m.vis b _ hx
   ·split at ho
    ·cases ho
    ·rename_i hx hb
     have hlt:b<w.heap.size:=s.mv.vis.lt (by rw[ho];simp)
     rw[m.keep b hlt hb]
     exact s.mv.vis b o ho
  ·intro b hb
   simp only[H']at hb
   split at hb
   ·rename_i x hx
    rcases m.fresh b (by simp[hx])with h1|h1
    ·left
     cases hc:h b with
     |none=>exact absurd hc h1
     |some o=>rw[s.sub b o hc];simp
    ·exact .inr h1
   ·split at hb
    ·exact absurd rfl hb
    ·exact .inl hb
 refine⟨H',⟨s.mv.trans hmv,?_,?_,s.pub,?_,s.frz,s.bb,s.oo,s.bo,s.dfr,s.siz,s.fr⟩⟩
 ·intro b o ho;simp[H',ho]
 ·intro i cs ty hi
  obtain⟨h1,vs,h2,h3⟩:=s.box i cs ty hi
  obtain⟨k1,k2⟩:=hpriv (be i) h1 (by rw[h3];simp)
  exact⟨k2,vs,h2,by rw[k1];exact h3⟩
 ·intro i s' e sz by_ nn xs hi
  refine(s.own i s' e sz by_ nn xs hi).keep λg hg=>?_
  obtain⟨h1,cap,cur,_,h3⟩:=(s.own i s' e sz by_ nn xs hi).block hg
  exact hpriv g h1 (by rw[h3];simp)
theorem T3(d:Nat)(av:AV)(r:List (Nat×AV))(s:Nat):Z2 ((d,av)::r) s=if d=s then av else Z2 r s:=by
 simp only[Z2]
 cases h:Nat.beq d s with
 |true=>simp[Nat.eq_of_beq_eq_true h]
 |false=>simp[Nat.ne_of_beq_eq_false h]
theorem Sim.put(s:Sim P h0 w0 be oe H st h a w){d:Nat}{av:AV}{v:Value}(hd:d<st.n)(hg:C2 st be oe av v):
  Sim P h0 w0 be oe H { st with fr:=(d,av)::st.fr } h (a.put (some d) v) w:=by
 have gr:M6 st be oe { st with fr:=(d,av)::st.fr } be oe:=⟨Nat.le_refl _,λ_ _=>rfl,λi s h=>⟨s,h,Nat.le_refl _,λ_=>rfl⟩⟩
 refine⟨s.mv,s.sub,λi cs ty hi=>?_,s.pub,s.own,s.frz,s.bb,s.oo,s.bo,s.dfr,by simp[Act.put,s.siz],?_⟩
 ·obtain⟨h1,vs,h2,h3⟩:=s.box i cs ty hi
  exact⟨h1,vs,h2.grow gr,h3⟩
 intro t
 refine C2.grow gr ?_
 rw[T3]
 by_cases e:d=t
 ·subst e
  rw[if_pos rfl]
  have:(a.put (some d) v).tmps.getD d undef=v:=by simp[Act.put,s.siz,hd]
  rw[this]
  exact hg
 ·rw[if_neg e]
  have:(a.put (some d) v).tmps.getD t undef=a.tmps.getD t undef:=by simp[Act.put,Array.getElem?_setIfInBounds_ne e]
  rw[this]
  exact s.fr t
theorem Sim.newBox(s:Sim P h0 w0 be oe H st h a w){cs:List l5}{vs:List Value}{t:TypeId}{b:Nat}{w':World}(hg:U1 st oe cs vs)(hb:H b=none)
  (m:P2 H w (H.set b (.cells vs.toArray t (0,0))) w') :
  let be':=λj=>if j=st.bx.length then b else be j
  let st':St := { st with bx:=st.bx ++ [.live cs t] }
  Sim P h0 w0 be' oe (H.set b (.cells vs.toArray t (0,0))) st' h a w'/\M6 st be oe st' be' oe:=by
 intro be' st'
 have hhb:h b=none:=by
  cases hc:h b with
  |none=>rfl
  |some o=>rw[s.sub b o hc]at hb;cases hb
 have gr:M6 st be oe st' be' oe:=by
  refine⟨by simp[st'],λi hi=>?_,λi s hs=>⟨s,hs,Nat.le_refl _,λ_=>rfl⟩⟩
  simp[be',Nat.ne_of_lt hi]
 have hne:∀ x,H x≠none->x≠b:=λx hx e=>by subst e;exact hx hb
 have old:∀ i cs ty,nth st.bx i=some (.live cs ty)->be' i=be i:=λi cs ty hi=>by simp[be',Nat.ne_of_lt (F01 hi)]
 have cases_:∀ i x,nth st'.bx i=some x->(i=st.bx.length/\x = .live cs t)∨(i≠st.bx.length/\nth st.bx i=some x):=by
  intro i x hi
  simp only[st',k02]at hi
  split at hi
  ·rename_i e;simp at hi;exact .inl ⟨e,hi.symm⟩
  ·rename_i e;exact .inr ⟨e,hi⟩
 have Hb:∀ i cs ty,nth st.bx i=some (.live cs ty)->be i≠b:=λi cs ty hi=>by
  obtain⟨_,vs,_,h3⟩:=s.box i cs ty hi
  exact hne _ (by rw[h3];simp)
 have Ho:∀ i s' e sz by_ nn xs g,nth st.ow i=some ⟨s',.live e sz by_ nn xs⟩->(oe i).ownBlock=some g->g≠b:=λi s' e sz by_ nn xs g hi hg=>by
  obtain⟨_,_,_,_,h3⟩:=(s.own i s' e sz by_ nn xs hi).block hg
  exact hne _ (by rw[h3];simp)
 refine⟨⟨s.mv.trans m,?_,?_,?_,?_,s.frz,?_,s.oo,?_,s.dfr,s.siz,λt=>(s.fr t).grow gr⟩,gr⟩
 ·intro x o hx
  rw[Hp.set_other _ _ (hne x (by rw[s.sub x o hx];simp))]
  exact s.sub x o hx
 ·intro i cs' ty hi
  rcases cases_ i _ hi with⟨rfl,e⟩|⟨e,hi'⟩
  ·cases e
   exact⟨by simp[be',hhb],vs,hg.grow gr,by simp[be',Hp.set]⟩
  ·obtain⟨h1,vs',h2,h3⟩:=s.box i cs' ty hi'
   rw[old i cs' ty hi']
   exact⟨h1,vs',h2.grow gr,by rw[Hp.set_other _ _ (Hb i cs' ty hi')];exact h3⟩
 ·intro i b' hi
  rcases cases_ i _ hi with⟨_,e⟩|⟨e,hi'⟩
  ·cases e
  ·simp[be',e,s.pub i b' hi']
 ·intro i s' e sz by_ nn xs hi
  refine(s.own i s' e sz by_ nn xs hi).keep λg hg'=>?_
  obtain⟨h1,cap,cur,_,h3⟩:=(s.own i s' e sz by_ nn xs hi).block hg'
  exact⟨Hp.set_other _ _ (Ho i s' e sz by_ nn xs g hi hg'),h1⟩
 ·intro i j cs1 ty1 cs2 ty2 hi hj e
  rcases cases_ i _ hi with⟨rfl,e1⟩|⟨e1,hi'⟩<;>rcases cases_ j _ hj with⟨rfl,e2⟩|⟨e2,hj'⟩
  ·rfl
  ·rw[old j _ _ hj']at e;simp[be']at e;exact absurd e.symm (Hb j _ _ hj')
  ·rw[old i _ _ hi']at e;simp[be']at e;exact absurd e (Hb i _ _ hi')
  ·rw[old i _ _ hi',old j _ _ hj']at e;exact s.bb i j _ _ _ _ hi' hj' e
 ·intro i cs1 ty1 j s' e sz by_ nn xs hi hj hc
  rcases cases_ i _ hi with⟨rfl,e1⟩|⟨e1,hi'⟩
  ·simp[be']at hc;exact Ho j _ _ _ _ _ _ _ hj hc rfl
  ·rw[old i _ _ hi']at hc;exact s.bo i _ _ j _ _ _ _ _ _ hi' hj hc
theorem Sim.updBox(s:Sim P h0 w0 be oe H st h a w){i:Nat}{cs0 cs:List l5}{vs:List Value}{t:TypeId}{w':World}(hi:nth st.bx i=some (.live cs0 t))
  (hg:U1 st oe cs vs) (m:P2 H w (H.set (be i) (.cells vs.toArray t (0,0))) w') :
  Sim P h0 w0 be oe (H.set (be i) (.cells vs.toArray t (0,0))) { st with bx:=r00 st.bx i (.live cs t) } h a w'/\M6 st be oe { st with bx:=r00 st.bx i (.live cs t) } be oe:=by
 have gr:M6 st be oe { st with bx:=r00 st.bx i (.live cs t) } be oe :=
  ⟨by simp[U04],λ_ _=>rfl,λi s hs=>⟨s,hs,Nat.le_refl _,λ_=>rfl⟩⟩
 have hh:=(s.box i cs0 t hi).1
 have cases_:∀ j x,nth (r00 st.bx i (.live cs t)) j=some x->(j=i/\x = .live cs t)∨(j≠i/\nth st.bx j=some x):=by
  intro j x hj
  rw[Z6 _ _ _ (F01 hi)]at hj
  split at hj
  ·rename_i e;simp at hj;exact .inl ⟨e,hj.symm⟩
  ·rename_i e;exact .inr ⟨e,hj⟩
 refine⟨⟨s.mv.trans m,?_,?_,?_,?_,s.frz,?_,s.oo,?_,s.dfr,s.siz,λt=>(s.fr t).grow gr⟩,gr⟩
 ·intro x o hx
  have:x≠be i:=λe=>by subst e;rw[hh]at hx;cases hx
  rw[Hp.set_other _ _ this];exact s.sub x o hx
 ·intro j cs' ty hj
  rcases cases_ j _ hj with⟨rfl,e⟩|⟨e,hj'⟩
  ·cases e;exact⟨hh,vs,hg.grow gr,by simp[Hp.set]⟩
  ·obtain⟨h1,vs',h2,h3⟩:=s.box j cs' ty hj'
   have:be j≠be i:=λe'=>e (s.bb j i _ _ _ _ hj' hi e')
   exact⟨h1,vs',h2.grow gr,by rw[Hp.set_other _ _ this];exact h3⟩
 ·intro j b hj
  rcases cases_ j _ hj with⟨_,e⟩|⟨e,hj'⟩
  ·cases e
  ·exact s.pub j b hj'
 ·intro j s' e sz by_ nn xs hj
  refine(s.own j s' e sz by_ nn xs hj).keep λg hg'=>?_
  obtain⟨h1,cap,cur,_,h3⟩:=(s.own j s' e sz by_ nn xs hj).block hg'
  exact⟨Hp.set_other _ _ (λe'=>by subst e';exact s.bo i _ _ j _ _ _ _ _ _ hi hj hg'),h1⟩
 ·intro x y cs1 ty1 cs2 ty2 hx hy e
  rcases cases_ x _ hx with⟨rfl,e1⟩|⟨e1,hx'⟩<;>rcases cases_ y _ hy with⟨rfl,e2⟩|⟨e2,hy'⟩
  ·rfl
  ·exact s.bb _ _ _ _ _ _ hi hy' e
  ·exact s.bb _ _ _ _ _ _ hx' hi e
  ·exact s.bb _ _ _ _ _ _ hx' hy' e
 ·intro x cs1 ty1 j s' e sz by_ nn xs hx hj
  rcases cases_ x _ hx with⟨rfl,e1⟩|⟨e1,hx'⟩
  ·exact s.bo _ _ _ j _ _ _ _ _ _ hi hj
  ·exact s.bo _ _ _ j _ _ _ _ _ _ hx' hj
end
end Go.H
namespace Go.H
set_option linter.unusedVariables false
section
variable {P:Program} {h0:Hp} {w0:World} {be:Nat->Nat} {oe:Nat->Value} {H:Hp} {st:St} {h:Hp} {a:Act} {w:World}
theorem k0k(st:St)(o:Own)(i s:Nat)(hs:stamp st i=some s):stamp { st with ow:=st.ow ++ [o] } i=some s:=by
 unfold stamp at *
 have hl:i<st.ow.length:=by
  cases hn:nth st.ow i with
  |none=>rw[hn]at hs;cases hs
  |some x=>exact F01 hn
 rw[show nth ({ st with ow:=st.ow ++ [o] }:St).ow i=nth st.ow i from by rw[k02,if_neg (Nat.ne_of_lt hl)]]
 exact hs
theorem Sim.newOwn(s:Sim P h0 w0 be oe H st h a w){v:Value}{e sz by_:Nat}{nn:Bool}{xs:List (List Value)}{H':Hp}{w':World}
  (hH:∀ b o,H b=some o->H' b=some o) (m:P2 H w H' w') (ho:E05 h H' v e sz nn xs) (hnew:∀ g,v.ownBlock=some g->H g=none) :
  let oe':=λj=>if j=st.ow.length then v else oe j
  let st':St := { st with ow:=st.ow ++ [⟨0,.live e sz by_ nn xs⟩] }
  Sim P h0 w0 be oe' H' st' h a w'/\M6 st be oe st' be oe':=by
 intro oe' st'
 have gr:M6 st be oe st' be oe':=by
  refine⟨Nat.le_refl _,λ_ _=>rfl,λi s hs=>⟨s,k0k st _ i s hs,Nat.le_refl _,λ_=>?_⟩⟩
  have hl:i<st.ow.length:=by
   unfold stamp at hs
   cases hn:nth st.ow i with
   |none=>rw[hn]at hs;cases hs
   |some x=>exact F01 hn
  simp[oe',Nat.ne_of_lt hl]
 have cases_:∀ i x,nth st'.ow i=some x->(i=st.ow.length/\x=⟨0,.live e sz by_ nn xs⟩)∨(i≠st.ow.length/\nth st.ow i=some x):=by
  intro i x hi
  simp only[st',k02]at hi
  split at hi
  ·rename_i e;simp at hi;exact .inl ⟨e,hi.symm⟩
  ·rename_i e;exact .inr ⟨e,hi⟩
 have keepB:∀ b,H b≠none->H' b=H b:=by
  intro b hb
  cases hc:H b with
  |none=>exact absurd hc hb
  |some o=>exact hH b o hc
 refine⟨⟨s.mv.trans m,λb o hb=>hH b o (s.sub b o hb),?_,s.pub,?_,?_,s.bb,?_,?_,s.dfr,s.siz,λt=>(s.fr t).grow gr⟩,gr⟩
 ·intro i cs ty hi
  obtain⟨h1,vs,h2,h3⟩:=s.box i cs ty hi
  exact⟨h1,vs,h2.grow gr,hH _ _ h3⟩
 ·intro i s' e1 sz1 by1 nn1 xs1 hi
  rcases cases_ i _ hi with⟨rfl,e2⟩|⟨e2,hi'⟩
  ·cases e2
   simp only[oe',if_pos rfl]
   exact ho
  ·simp only[oe',if_neg e2]
   refine(s.own i _ _ _ _ _ _ hi').keep λg hg=>?_
   obtain⟨h1,cap,cur,_,h3⟩:=(s.own i _ _ _ _ _ _ hi').block hg
   exact⟨keepB g (by rw[h3];simp),h1⟩
 ·intro i s' v' hi
  rcases cases_ i _ hi with⟨rfl,e2⟩|⟨e2,hi'⟩
  ·cases e2
  ·simp only[oe',if_neg e2];exact s.frz i s' v' hi'
 ·intro i j s1 e1 sz1 by1 nn1 xs1 s2 e2 sz2 by2 nn2 xs2 g hi hj gi gj
  have hv:∀ k s1 e1 sz1 by1 nn1 xs1,nth st.ow k=some ⟨s1,.live e1 sz1 by1 nn1 xs1⟩->(oe k).ownBlock=some g->v.ownBlock≠some g:=λk _ _ _ _ _ _ hk hg hc=>by
   obtain⟨h1,cap,cur,_,h3⟩:=(s.own k _ _ _ _ _ _ hk).block hg
   rw[hnew g hc]at h3;cases h3
  rcases cases_ i _ hi with⟨rfl,e3⟩|⟨e3,hi'⟩<;>rcases cases_ j _ hj with⟨rfl,e4⟩|⟨e4,hj'⟩
  ·rfl
  ·simp only[oe',if_pos rfl]at gi;simp only[oe',if_neg e4]at gj;exact absurd gi (hv j _ _ _ _ _ _ hj' gj)
  ·simp only[oe',if_neg e3]at gi;simp only[oe',if_pos rfl]at gj;exact absurd gj (hv i _ _ _ _ _ _ hi' gi)
  ·simp only[oe',if_neg e3]at gi;simp only[oe',if_neg e4]at gj;exact s.oo i j _ _ _ _ _ _ _ _ _ _ _ _ g hi' hj' gi gj
 ·intro i cs ty j s1 e1 sz1 by1 nn1 xs1 hi hj hc
  rcases cases_ j _ hj with⟨rfl,e4⟩|⟨e4,hj'⟩
  ·simp only[oe',if_pos rfl]at hc
   obtain⟨_,vs,_,h3⟩:=s.box i cs ty hi
   rw[hnew _ hc]at h3;cases h3
  ·simp only[oe',if_neg e4]at hc;exact s.bo i cs ty j _ _ _ _ _ _ hi hj' hc
theorem Sim.updOwn(s:Sim P h0 w0 be oe H st h a w){i s0 e0 sz0 by0:Nat}{nn0:Bool}{xs0:List (List Value)}(hi:nth st.ow i=some ⟨s0,.live e0 sz0 by0 nn0 xs0⟩)
  {v:Value} {s1 e sz by_:Nat} {nn:Bool} {xs:List (List Value)} {H':Hp} {w':World} (hs:s0<=s1) (hv:s1=s0->v=oe i)
  (m:P2 H w H' w') (hk:∀ b,(oe i).ownBlock≠some b->H b≠none->H' b=H b) (ho:E05 h H' v e sz nn xs)
  (hnew:∀ g,v.ownBlock=some g->(oe i).ownBlock=some g∨H g=none) :
  let oe':=λj=>if j=i then v else oe j
  let st':St := { st with ow:=r00 st.ow i ⟨s1,.live e sz by_ nn xs⟩ }
  Sim P h0 w0 be oe' H' st' h a w'/\M6 st be oe st' be oe':=by
 intro oe' st'
 have hlt:=F01 hi
 have gr:M6 st be oe st' be oe':=by
  refine⟨Nat.le_refl _,λ_ _=>rfl,λj t ht=>?_⟩
  unfold stamp at ht ⊢
  simp only[st',Z6 _ _ _ hlt]
  by_cases e1:j=i
  ·subst e1
   rw[hi]at ht
   simp at ht
   subst ht
   refine⟨s1,by simp,hs,λe2=>?_⟩
   simp only[oe',if_pos rfl];exact hv e2
  ·rw[if_neg e1]
   refine⟨t,ht,Nat.le_refl _,λ_=>?_⟩
   simp only[oe',if_neg e1]
 have cases_:∀ j x,nth st'.ow j=some x->(j=i/\x=⟨s1,.live e sz by_ nn xs⟩)∨(j≠i/\nth st.ow j=some x):=by
  intro j x hj
  simp only[st',Z6 _ _ _ hlt]at hj
  split at hj
  ·rename_i e;simp at hj;exact .inl ⟨e,hj.symm⟩
  ·rename_i e;exact .inr ⟨e,hj⟩
 have hblk:∀ g,(oe i).ownBlock=some g->h g=none:=λg hg=>((s.own i _ _ _ _ _ _ hi).block hg).1
 have other:∀ j s1 e1 sz1 by1 nn1 xs1 g,j≠i->nth st.ow j=some ⟨s1,.live e1 sz1 by1 nn1 xs1⟩->(oe j).ownBlock=some g->(oe i).ownBlock≠some g/\v.ownBlock≠some g:=by
  intro j s1 e1 sz1 by1 nn1 xs1 g hne hj hg
  have h1:(oe i).ownBlock≠some g:=λhc=>hne (s.oo j i _ _ _ _ _ _ _ _ _ _ _ _ g hj hi hg hc)
  refine⟨h1,λhc=>?_⟩
  rcases hnew g hc with h2|h2
  ·exact h1 h2
  ·obtain⟨_,cap,cur,_,h3⟩:=(s.own j _ _ _ _ _ _ hj).block hg
   rw[h2]at h3;cases h3
 have bx_:∀ k cs ty,nth st.bx k=some (.live cs ty)->(oe i).ownBlock≠some (be k)/\v.ownBlock≠some (be k):=by
  intro k cs ty hk'
  have h1:=s.bo k cs ty i _ _ _ _ _ _ hk' hi
  refine⟨h1,λhc=>?_⟩
  rcases hnew _ hc with h2|h2
  ·exact h1 h2
  ·obtain⟨_,vs,_,h3⟩:=s.box k cs ty hk'
   rw[h2]at h3;cases h3
 refine⟨⟨s.mv.trans m,?_,?_,s.pub,?_,?_,s.bb,?_,?_,s.dfr,s.siz,λt=>(s.fr t).grow gr⟩,gr⟩
 ·intro b o hb
  have hH:=s.sub b o hb
  rw[hk b (λhc=>by rw[hblk b hc]at hb;cases hb) (by rw[hH];simp)]
  exact hH
 ·intro k cs ty hk'
  obtain⟨h1,vs,h2,h3⟩:=s.box k cs ty hk'
  exact⟨h1,vs,h2.grow gr,by rw[hk _ (bx_ k cs ty hk').1 (by rw[h3];simp)];exact h3⟩
 ·intro j s' e1 sz1 by1 nn1 xs1 hj
  rcases cases_ j _ hj with⟨rfl,e2⟩|⟨e2,hj'⟩
  ·cases e2
   simp only[oe',if_pos rfl]
   exact ho
  ·simp only[oe',if_neg e2]
   refine(s.own j _ _ _ _ _ _ hj').keep λg hg=>?_
   obtain⟨h1,cap,cur,_,h3⟩:=(s.own j _ _ _ _ _ _ hj').block hg
   exact⟨hk g (other j _ _ _ _ _ _ g e2 hj' hg).1 (by rw[h3];simp),h1⟩
 ·intro j s' v' hj
  rcases cases_ j _ hj with⟨rfl,e2⟩|⟨e2,hj'⟩
  ·cases e2
  ·simp only[oe',if_neg e2];exact s.frz j s' v' hj'
 ·intro x y s1 e1 sz1 by1 nn1 xs1 s2 e2 sz2 by2 nn2 xs2 g hx hy gx gy
  rcases cases_ x _ hx with⟨rfl,e3⟩|⟨e3,hx'⟩<;>rcases cases_ y _ hy with⟨rfl,e4⟩|⟨e4,hy'⟩
  ·rfl
  ·simp only[oe',if_pos rfl]at gx;simp only[oe',if_neg e4]at gy;exact absurd gx (other y _ _ _ _ _ _ g e4 hy' gy).2
  ·simp only[oe',if_neg e3]at gx;simp only[oe',if_pos rfl]at gy;exact absurd gy (other x _ _ _ _ _ _ g e3 hx' gx).2
  ·simp only[oe',if_neg e3]at gx;simp only[oe',if_neg e4]at gy;exact s.oo x y _ _ _ _ _ _ _ _ _ _ _ _ g hx' hy' gx gy
 ·intro k cs ty j s1 e1 sz1 by1 nn1 xs1 hk' hj hc
  rcases cases_ j _ hj with⟨rfl,e4⟩|⟨e4,hj'⟩
  ·simp only[oe',if_pos rfl]at hc;exact(bx_ k cs ty hk').2 hc
  ·simp only[oe',if_neg e4]at hc;exact s.bo k cs ty j _ _ _ _ _ _ hk' hj' hc
theorem Sim.freeze(s:Sim P h0 w0 be oe H st h a w){i s0 e sz by_:Nat}{nn:Bool}{xs:List (List Value)}(hi:nth st.ow i=some ⟨s0,.live e sz by_ nn xs⟩):
  ∃ h',U0 h h' (oe i) e sz nn xs/\Sim P h0 w0 be oe H { st with ow:=r00 st.ow i ⟨s0,.frozen (oe i)⟩ } h' a w /\
   M6 st be oe { st with ow:=r00 st.ow i ⟨s0,.frozen (oe i)⟩ } be oe:=by
 have hlt:=F01 hi
 have ho:=s.own i _ _ _ _ _ _ hi
 have gr:M6 st be oe { st with ow:=r00 st.ow i ⟨s0,.frozen (oe i)⟩ } be oe:=by
  refine⟨Nat.le_refl _,λ_ _=>rfl,λj t ht=>⟨t,?_,Nat.le_refl _,λ_=>rfl⟩⟩
  unfold stamp at ht ⊢
  simp only[Z6 _ _ _ hlt]
  by_cases e1:j=i
  ·subst e1;rw[hi]at ht;simpa using ht
  ·rw[if_neg e1];exact ht
 have cases_:∀ j x,nth (r00 st.ow i ⟨s0,.frozen (oe i)⟩) j=some x->(j=i/\x=⟨s0,.frozen (oe i)⟩)∨(j≠i/\nth st.ow j=some x):=by
  intro j x hj
  simp only[Z6 _ _ _ hlt]at hj
  split at hj
  ·rename_i e;simp at hj;exact .inl ⟨e,hj.symm⟩
  ·rename_i e;exact .inr ⟨e,hj⟩
 have main:∀ h',(∀ b,(oe i).ownBlock≠some b->h' b=h b)->(∀ b o,h' b=some o->H b=some o) ->
   Sim P h0 w0 be oe H { st with ow:=r00 st.ow i ⟨s0,.frozen (oe i)⟩ } h' a w:=by
  intro h' hk hsub
  refine⟨s.mv,hsub,?_,s.pub,?_,?_,s.bb,?_,?_,s.dfr,s.siz,λt=>(s.fr t).grow gr⟩
  ·intro k cs ty hk'
   obtain⟨h1,vs,h2,h3⟩:=s.box k cs ty hk'
   exact⟨by rw[hk _ (s.bo k cs ty i _ _ _ _ _ _ hk' hi)];exact h1,vs,h2.grow gr,h3⟩
  ·intro j s' e1 sz1 by1 nn1 xs1 hj
   rcases cases_ j _ hj with⟨rfl,e2⟩|⟨e2,hj'⟩
   ·cases e2
   ·refine(s.own j _ _ _ _ _ _ hj').keep λg hg=>⟨rfl,?_⟩
    rw[hk g (λhc=>e2 (s.oo j i _ _ _ _ _ _ _ _ _ _ _ _ g hj' hi hg hc))]
    exact((s.own j _ _ _ _ _ _ hj').block hg).1
  ·intro j s' v' hj
   rcases cases_ j _ hj with⟨rfl,e2⟩|⟨e2,hj'⟩
   ·cases e2;rfl
   ·exact s.frz j s' v' hj'
  ·intro x y s1 e1 sz1 by1 nn1 xs1 s2 e2 sz2 by2 nn2 xs2 g hx hy gx gy
   rcases cases_ x _ hx with⟨rfl,e3⟩|⟨e3,hx'⟩<;>rcases cases_ y _ hy with⟨rfl,e4⟩|⟨e4,hy'⟩
   ·rfl
   ·cases e3
   ·cases e4
   ·exact s.oo x y _ _ _ _ _ _ _ _ _ _ _ _ g hx' hy' gx gy
  ·intro k cs ty j s1 e1 sz1 by1 nn1 xs1 hk' hj hc
   rcases cases_ j _ hj with⟨rfl,e4⟩|⟨e4,hj'⟩
   ·cases e4
   ·exact s.bo k cs ty j _ _ _ _ _ _ hk' hj' hc
 rcases ho.2 with⟨hv,hx,hn⟩|⟨g,cap,cur,hv,h1,h2,r⟩
 ·exact⟨h,⟨ho.1,.inl ⟨hv,hx,hn,rfl⟩⟩,main h (λ_ _=>rfl) s.sub,gr⟩
 ·refine⟨h.set g (.cells cur e (0,0)),⟨ho.1,.inr ⟨g,cap,cur,hv,h1,rfl,r⟩⟩,main _ ?_ ?_,gr⟩
  ·intro b hb
   exact Hp.set_other _ _ (λe'=>hb (by rw[hv];simp[Value.ownBlock,e']))
  ·intro b o hb
   by_cases e':b=g
   ·subst e';simp[Hp.set]at hb;subst hb;exact h2
   ·rw[Hp.set_other _ _ e']at hb;exact s.sub b o hb
theorem Sim.publ(s:Sim P h0 w0 be oe H st h a w){i:Nat}{cs:List l5}{ty:TypeId}(hi:nth st.bx i=some (.live cs ty)){vs:List Value}
  (hH:H (be i)=some (.cells vs.toArray ty (0,0))) :
  h (be i)=none/\Sim P h0 w0 be oe H { st with bx:=r00 st.bx i (.publ (be i)) } (h.set (be i) (.cells vs.toArray ty (0,0))) a w /\
   M6 st be oe { st with bx:=r00 st.bx i (.publ (be i)) } be oe:=by
 have hlt:=F01 hi
 have hh:=(s.box i cs ty hi).1
 have gr:M6 st be oe { st with bx:=r00 st.bx i (.publ (be i)) } be oe :=
  ⟨by simp[U04],λ_ _=>rfl,λj t ht=>⟨t,ht,Nat.le_refl _,λ_=>rfl⟩⟩
 have cases_:∀ j x,nth (r00 st.bx i (.publ (be i))) j=some x->(j=i/\x = .publ (be i))∨(j≠i/\nth st.bx j=some x):=by
  intro j x hj
  simp only[Z6 _ _ _ hlt]at hj
  split at hj
  ·rename_i e;simp at hj;exact .inl ⟨e,hj.symm⟩
  ·rename_i e;exact .inr ⟨e,hj⟩
 refine⟨hh,⟨s.mv,?_,?_,?_,?_,s.frz,?_,s.oo,?_,s.dfr,s.siz,λt=>(s.fr t).grow gr⟩,gr⟩
 ·intro b o hb
  by_cases e':b=be i
  ·subst e';simp[Hp.set]at hb;subst hb;exact hH
  ·rw[Hp.set_other _ _ e']at hb;exact s.sub b o hb
 ·intro k cs' ty' hk
  rcases cases_ k _ hk with⟨rfl,e⟩|⟨e,hk'⟩
  ·cases e
  ·obtain⟨h1,vs',h2,h3⟩:=s.box k cs' ty' hk'
   exact⟨by rw[Hp.set_other _ _ (λe'=>e (s.bb k i _ _ _ _ hk' hi e'))];exact h1,vs',h2.grow gr,h3⟩
 ·intro k b hk
  rcases cases_ k _ hk with⟨rfl,e⟩|⟨e,hk'⟩
  ·cases e;rfl
  ·exact s.pub k b hk'
 ·intro j s' e1 sz1 by1 nn1 xs1 hj
  refine(s.own j _ _ _ _ _ _ hj).keep λg hg=>⟨rfl,?_⟩
  rw[Hp.set_other _ _ (λe'=>by subst e';exact s.bo i cs ty j _ _ _ _ _ _ hi hj hg)]
  exact((s.own j _ _ _ _ _ _ hj).block hg).1
 ·intro x y cs1 ty1 cs2 ty2 hx hy e
  rcases cases_ x _ hx with⟨_,e1⟩|⟨e1,hx'⟩
  ·cases e1
  rcases cases_ y _ hy with⟨_,e2⟩|⟨e2,hy'⟩
  ·cases e2
  exact s.bb _ _ _ _ _ _ hx' hy' e
 ·intro x cs1 ty1 j s' e sz by_ nn xs hx hj
  rcases cases_ x _ hx with⟨_,e1⟩|⟨e1,hx'⟩
  ·cases e1
  ·exact s.bo _ _ _ j _ _ _ _ _ _ hx' hj
theorem Sim.rdA(s:Sim P h0 w0 be oe H st h a w){av:AV}{x:Value}(g:C2 st be oe av x):C2 st be oe (rdA st av) x:=by
 cases av with
 |own i k =>
  simp only[Go.H.rdA]
  split
  ·rename_i s' o hn
   split
   ·rename_i hb
    have hk:=Nat.eq_of_beq_eq_true hb
    split
    ·exact g
    ·rename_i v
     obtain⟨t,h1,_,h3⟩:=g
     have:t=s':=by simp[stamp,hn]at h1;exact h1.symm
     subst this
     have:=h3 hk.symm
     rw[s.frz i _ v hn]at this
     exact this
   ·trivial
  ·trivial
 |box i off =>
  simp only[Go.H.rdA]
  split
  ·exact g
  ·rename_i b hn
   have:=g.2
   rw[s.pub i b hn]at this
   exact this
  ·trivial
 |oel i k idx sz f =>
  simp only[Go.H.rdA]
  split
  ·split
   ·exact g
   ·trivial
  ·trivial
 |_=>exact g
theorem Sim.rdO(s:Sim P h0 w0 be oe H st h a w)(x:Operand):C2 st be oe (rdO st x) (a.eval x):=by
 cases x with
 |tmp t=>exact s.rdA (s.fr t)
 |const v=>rfl
 |global g=>trivial
 |func f=>rfl
theorem b06{st:St}{av:AV}{i k:Nat}(h:Go.H.rdA st av = .own i k):∃ e sz by_ nn xs,nth st.ow i=some ⟨k,.live e sz by_ nn xs⟩:=by
 cases av with
 |own j l =>
  simp only[Go.H.rdA]at h
  split at h
  ·rename_i s' o hn
   split at h
   ·rename_i hb
    split at h
    ·cases h
     rw[Nat.eq_of_beq_eq_true hb]at hn
     exact⟨_,_,_,_,_,hn⟩
    ·cases h
   ·cases h
  ·cases h
 |box j off=>simp only[Go.H.rdA]at h;split at h<;>cases h
 |oel j l idx sz f=>simp only[Go.H.rdA]at h;split at h<;>(try split at h)<;>cases h
 |_=>cases h
theorem c06{st:St}{x:Operand}{i k:Nat}(h:Go.H.rdO st x = .own i k):∃ e sz by_ nn xs,nth st.ow i=some ⟨k,.live e sz by_ nn xs⟩:=by
 cases x with
 |tmp t=>exact b06 h
 |_=>cases h
theorem P0g{st:St}{av:AV}{i k:Nat}{idx:Int}{sz f:Nat}(h:Go.H.rdA st av = .oel i k idx sz f):∃ e sz' by_ nn xs,nth st.ow i=some ⟨k,.live e sz' by_ nn xs⟩:=by
 cases av with
 |own j l=>simp only[Go.H.rdA]at h;split at h<;>(try split at h)<;>(try split at h)<;>cases h
 |box j off=>simp only[Go.H.rdA]at h;split at h<;>cases h
 |oel j l idx sz f =>
  simp only[Go.H.rdA]at h
  split at h
  ·rename_i s' e1 sz1 by1 nn1 xs1 hn
   split at h
   ·rename_i hb
    cases h
    rw[Nat.eq_of_beq_eq_true hb]at hn
    exact⟨_,_,_,_,_,hn⟩
   ·cases h
  ·cases h
 |_=>cases h
theorem Q0g{st:St}{x:Operand}{i k:Nat}{idx:Int}{sz f:Nat}(h:Go.H.rdO st x = .oel i k idx sz f):∃ e sz' by_ nn xs,nth st.ow i=some ⟨k,.live e sz' by_ nn xs⟩:=by
 cases x with
 |tmp t=>exact P0g h
 |_=>cases h
theorem C2.own_cur{st:St}{be:Nat->Nat}{oe:Nat->Value}{i k:Nat}{x:Value}{o:OSt}(g:C2 st be oe (.own i k) x)(hn:nth st.ow i=some ⟨k,o⟩):x=oe i:=by
 obtain⟨s,h1,_,h3⟩:=g
 have:s=k:=by simp[stamp,hn]at h1;exact h1.symm
 exact h3 this.symm
theorem C2.oel_cur{st:St}{be:Nat->Nat}{oe:Nat->Value}{i k:Nat}{idx:Int}{sz f:Nat}{x:Value}{o:OSt}(g:C2 st be oe (.oel i k idx sz f) x)(hn:nth st.ow i=some ⟨k,o⟩):
  ∃ g n c,oe i = .slice (some ⟨g,0,none⟩) n c/\x=ptr g (idx.toNat*sz+f):=by
 obtain⟨s,h1,_,h3⟩:=g
 have:s=k:=by simp[stamp,hn]at h1;exact h1.symm
 exact h3 this.symm
theorem d07{st:St}:∀ {cs:List l5} {vs ws:List Value},Y0c cs=some vs->U1 st oe cs ws->ws=vs
 | [],vs,[],h,_=>by cases h;rfl
 | [],vs,_::_,h,g=>g.elim
 | .val v::r,vs,[],h,g=>g.elim
 | .val v::r,vs,w::ws,h,g=>by
  simp only[Y0c]at h
  split at h
  ·rename_i vs' hr
   cases h
   obtain⟨g1,g2⟩:=g
   rw[d07 hr g2,show w=v from g1]
  ·cases h
 | .own i k::r,vs,ws,h,g=>by cases h
theorem i7{st:St}{av:AV}{v x:Value}(h:f04 av=some v)(g:C2 st be oe av x):x=v:=by
 cases av with
 |val u=>cases h;exact g
 |agg cs =>
  simp only[f04]at h
  split at h
  ·rename_i vs hv
   cases h
   obtain⟨ws,rfl,g2⟩:=g
   rw[d07 hv g2]
  ·cases h
 |_=>cases h
end
end Go.H
namespace Go.H
set_option linter.unusedVariables false
theorem G2{P:Program}{α β:Type}(s:Sem α)(f:α->Sem β):∀(h:Hp) (K:β->Hp->Prop),wpS P (s >>= f) h K=wpS P s h (λx h'=>wpS P (f x) h' K):=by
 change ∀(h:Hp) (K:β->Hp->Prop),wpS P (s.bind f) h K=wpS P s h (λx h'=>wpS P (f x) h' K)
 induction s with
 |pure a=>intro h K;rfl
 |load m a k ih=>intro h K;simp only[Sem.bind,wpS,ih]
 |store m a v k ih=>intro h K;simp only[Sem.bind,wpS,ih]
 |new o k ih=>intro h K;simp only[Sem.bind,wpS,ih]
 |shape r k ih=>intro h K;simp only[Sem.bind,wpS,ih]
 |freeze a n k ih=>intro h K;rfl
 |frozen a k ih=>intro h K;simp only[Sem.bind,wpS,ih]
 |getObj r k ih=>intro h K;simp only[Sem.bind,wpS,ih]
 |setObj r o k ih=>intro h K;simp only[Sem.bind,wpS,ih]
 |choose q k ih=>intro h K;simp only[Sem.bind,wpS,ih]
 |sys c k ih=>intro h K;rfl
 |program k ih=>intro h K;simp only[Sem.bind,wpS,ih]
 |mark m k ih=>intro h K;simp only[Sem.bind,wpS,ih]
 |halt x=>intro h K;rfl
theorem J2{P:Program}{α:Type}(x:α)(h:Hp)(K:α->Hp->Prop):wpS P (pure x) h K=K x h:=rfl
theorem n0l{P:Program}{α:Type}(s:Sem α){x:α}(he:evP P s=some x):∀ w:World,s.run P w = .ok x w:=by
 induction s with
 |pure a=>intro w;simp only[evP,Option.some.injEq]at he;subst he;rfl
 |program k ih=>intro w;exact ih _ he w
 |mark m k ih=>intro w;exact ih he w
 |_=>simp[evP]at he
theorem M07(ρ:Operand->Value):∀ l:List Operand,J0g ρ l=l.map ρ
 | []=>rfl
 |x::r=>by simp only[J0g,List.map_cons,M07 ρ r]
theorem o0l:∀ a b:List Value,O0n a b=a++b
 | [],b=>rfl
 |x::r,b=>by simp only[O0n,List.cons_append,o0l r b]
theorem F05:∀ l:List Operand,T06 l=l.map fun | .const _=>true|_=>false
 | []=>rfl
 | .const _::r=>by simp only[T06,List.map_cons,F05 r]
 | .tmp _::r=>by simp only[T06,List.map_cons,F05 r]
 | .global _::r=>by simp only[T06,List.map_cons,F05 r]
 | .func _::r=>by simp only[T06,List.map_cons,F05 r]
theorem G09(ρ:Operand->Value)(o:Oper):s0f ρ o=execOp ρ o:=by
 unfold s0f
 split
 ·rename_i c hop
  obtain⟨cal,as,ts⟩:=c
  split
  ·rename_i b hb
   simp only at hb
   subst hb
   unfold execOp
   rw[hop]
   simp only[resolve,M07,F05]
   rw[show(List.map ρ as.toList).toArray=as.map ρ from by apply Array.ext';simp]
   have hl:∀ f:Operand->Bool,(List.map f as.toList).toArray=as.map f:=λf=>by apply Array.ext';simp
   rw[hl]
   rfl
  ·rfl
 ·rename_i fn first captured hop
  unfold execOp
  rw[hop]
  simp only[M07]
  rw[show(List.map ρ first.toList).toArray=first.map ρ from by apply Array.ext';simp,show(List.map ρ captured.toList).toArray=captured.map ρ from by apply Array.ext';simp]
 ·rfl
theorem N07{P:Program}{ρ:Operand->Value}{o:Oper}{f:FuncId}{l:List Value}(hc:S06 ρ o=some (f,l))(ho:okF P f=true)(w:World):(execOp ρ o).run P w = .ok (.enter f l.toArray) w:=by
 unfold S06 at hc
 split at hc
 ·rename_i c hop
  obtain⟨cal,as,ts⟩:=c
  split at hc
  ·rename_i x hx
   simp only at hx
   subst hx
   split at hc
   ·rename_i f' first captured hv
    cases hc
    unfold okF at ho
    split at ho
    ·rename_i fn hf
     split at ho
     ·rename_i bd hb
      split at ho
      ·cases ho
      ·rename_i hn
       unfold execOp
       rw[hop]
       simp only[resolve,hv,Deferred.ofValue,Sem.run_bind,Sem.run_pure,Result.andThen_ok,invoke,callFunc,program,Sem.run,hf,hn,hb,Bool.false_eq_true,if_false,Option.isNone_some]
       congr 2
       apply Array.ext'
       simp[o0l,M07]
     ·cases ho
    ·cases ho
   ·cases hc
  ·cases hc
 ·cases hc
section
variable {P:Program} {h0:Hp} {w0:World} {be:Nat->Nat} {oe:Nat->Value} {H:Hp} {st:St} {h:Hp} {a:Act} {w:World}
theorem M6.trans{st st1 st2:St}{be be1 be2:Nat->Nat}{oe oe1 oe2:Nat->Value}(g:M6 st be oe st1 be1 oe1)(k:M6 st1 be1 oe1 st2 be2 oe2):M6 st be oe st2 be2 oe2:=by
 refine⟨Nat.le_trans g.bl k.bl,λi hi=>?_,λi s hs=>?_⟩
 ·rw[k.be i (Nat.lt_of_lt_of_le hi g.bl),g.be i hi]
 ·obtain⟨s1,a1,a2,a3⟩:=g.sm i s hs
  obtain⟨s2,b1,b2,b3⟩:=k.sm i s1 a1
  exact⟨s2,b1,Nat.le_trans a2 b2,λe=>by rw[b3 (by omega),a3 (by omega)]⟩
theorem H09(s:Sim P h0 w0 be oe H st h a w){i k:Nat}{x:Value}(g:∃ t,stamp st i=some t/\k<=t/\(k=t->x=oe i)){K:Value->St->Hp->Prop}
  (he:I0g i k st h K):∃ st' h',K x st' h'/\Sim P h0 w0 be oe H st' h' a w/\M6 st be oe st' be oe/\st'.bx=st.bx:=by
 unfold I0g at he
 obtain⟨t,g1,_,g3⟩:=g
 split at he
 ·rename_i s' e sz by_ nn xs hn
  split at he
  ·rename_i hb
   have hk:=Nat.eq_of_beq_eq_true hb
   have ht:t=s':=by simp[stamp,hn]at g1;exact g1.symm
   have hx:x=oe i:=g3 (by rw[ht,hk])
   obtain⟨h',f1,f2,f3⟩:=s.freeze hn
   rw[hx]
   exact⟨_,h',he _ _ f1,f2,f3,rfl⟩
  ·exact he.elim
 ·rename_i s' v hn
  split at he
  ·rename_i hb
   have hk:=Nat.eq_of_beq_eq_true hb
   have ht:t=s':=by simp[stamp,hn]at g1;exact g1.symm
   have hx:x=v:=by rw[g3 (by rw[ht,hk]),s.frz i _ v hn]
   rw[hx]
   exact⟨st,h,he,s,M6.refl _ _ _,rfl⟩
  ·exact he.elim
 ·exact he.elim
theorem J02:∀(cs:List l5) {st:St} {h:Hp} {vs:List Value} {K:List Value->St->Hp->Prop},Sim P h0 w0 be oe H st h a w->U1 st oe cs vs->R06 cs st h K ->
  ∃ st' h',K vs st' h'/\Sim P h0 w0 be oe H st' h' a w/\M6 st be oe st' be oe/\st'.bx=st.bx
 | [],st,h,[],K,s,_,he=>⟨st,h,he,s,M6.refl _ _ _,rfl⟩
 | .val v::r,st,h,x::vs,K,s,g,he=>by
  have hx:x=v:=g.1
  subst hx
  obtain⟨st',h',k1,k2⟩:=J02 r s g.2 he
  exact⟨st',h',k1,k2⟩
 | .own i k::r,st,h,x::vs,K,s,g,he=>by
  obtain⟨st1,h1,e1,s1,g1,hb1⟩:=H09 s g.1 he
  obtain⟨st2,h2,e2,s2,g2,hb2⟩:=J02 r s1 (g.2.grow g1) e1
  exact⟨st2,h2,e2,s2,g1.trans g2,hb2.trans hb1⟩
 | [],_,_,_::_,_,_,g,_=>g.elim
 |_::_,_,_,[],_,_,g,_=>g.elim
theorem B02(s:Sim P h0 w0 be oe H st h a w){av:AV}{x:Value}(g:C2 st be oe av x){K:Value->St->Hp->Prop}(he:rfy av st h K):
  ∃ st' h',K x st' h'/\Sim P h0 w0 be oe H st' h' a w/\M6 st be oe st' be oe:=by
 cases av with
 |val v=>have hx:x=v:=g;subst hx;exact⟨st,h,he,s,M6.refl _ _ _⟩
 |own i k=>obtain⟨st',h',k1,k2,k3,_⟩:=H09 s g he;exact⟨st',h',k1,k2,k3⟩
 |box i off =>
  have hx:=g.2
  simp only[rfy,N0n]at he
  split at he
  ·rename_i cells ty hn
   obtain⟨hb,vs,gv,hH⟩:=s.box i cells ty hn
   obtain⟨st1,h1,e1,s1,g1,eb⟩:=J02 cells s gv he
   have hn1:nth st1.bx i=some (.live cells ty):=by rw[eb];exact hn
   obtain⟨p1,p2,p3⟩:=s1.publ hn1 hH
   rw[hx]
   exact⟨_,_,e1 (be i) p1,p2,g1.trans p3⟩
  ·rename_i b hn
   rw[hx,s.pub i b hn]
   exact⟨st,h,he,s,M6.refl _ _ _⟩
  ·exact he.elim
 |agg cs =>
  obtain⟨vs,rfl,gv⟩:=g
  obtain⟨st',h',k1,k2,k3,_⟩:=J02 cs s gv he
  exact⟨st',h',k1,k2,k3⟩
 |_=>exact he.elim
theorem Z01:∀(l:List Operand) {st:St} {h:Hp} {K:List (Nat×Value)->St->Hp->Prop},Sim P h0 w0 be oe H st h a w->E0a l st h K ->
  ∃ vs st' h',K vs st' h'/\Sim P h0 w0 be oe H st' h' a w/\M6 st be oe st' be oe/\(∀ p∈vs,p.2=a.eval (.tmp p.1))/\(∀ x∈l,(∃ t v,x = .tmp t/\(t,v)∈vs)∨(∀ ws,rho ws x=a.eval x))
 | [],st,h,K,s,he=>⟨[],st,h,he,s,M6.refl _ _ _,by simp,by simp⟩
 | .tmp t::r,st,h,K,s,he=>by
  obtain⟨st1,h1,e1,s1,g1⟩:=B02 s (s.rdO (.tmp t)) he
  obtain⟨vs,st2,h2,e2,s2,g2,k1,k2⟩:=Z01 r s1 e1
  refine⟨_,st2,h2,e2,s2,g1.trans g2,?_,?_⟩
  ·intro p hp
   rcases List.mem_cons.1 hp with rfl|hp
   ·rfl
   ·exact k1 p hp
  ·intro x hx
   rcases List.mem_cons.1 hx with rfl|hx
   ·exact .inl ⟨t,_,rfl,mS⟩
   ·rcases k2 x hx with⟨t',v',rfl,hm⟩|hf
    ·exact .inl ⟨t',v',rfl,mC _ hm⟩
    ·exact .inr hf
 | .const v::r,st,h,K,s,he=>by
  obtain⟨vs,st2,h2,e2,s2,g2,k1,k2⟩:=Z01 r s he
  refine⟨vs,st2,h2,e2,s2,g2,k1,λx hx=>?_⟩
  rcases List.mem_cons.1 hx with rfl|hx
  ·exact .inr λ_=>rfl
  ·exact k2 x hx
 | .func f::r,st,h,K,s,he=>by
  obtain⟨vs,st2,h2,e2,s2,g2,k1,k2⟩:=Z01 r s he
  refine⟨vs,st2,h2,e2,s2,g2,k1,λx hx=>?_⟩
  rcases List.mem_cons.1 hx with rfl|hx
  ·exact .inr λ_=>rfl
  ·exact k2 x hx
 | .global _::_,_,_,_,_,he=>he.elim
theorem P0a:∀(vs:List (Nat×Value)) (t:Nat) (y:Value),(∀ p∈vs,p.1=t->p.2=y)->(∃ v,(t,v)∈vs)->f0l vs t=y
 | [],t,y,_,h=>by obtain⟨v,hv⟩:=h;cases hv
 |(k,v)::r,t,y,hall,h=>by
  simp only[f0l]
  split
  ·rename_i hb
   exact hall (k,v) mS (Nat.eq_of_beq_eq_true hb)
  ·rename_i hb
   refine P0a r t y (λp hp=>hall p (mC _ hp)) ?_
   obtain⟨u,hu⟩:=h
   rcases List.mem_cons.1 hu with e|hu
   ·cases e;exact absurd rfl (Nat.ne_of_beq_eq_false hb)
   ·exact⟨u,hu⟩
theorem O07{o:Oper}{vs:List (Nat×Value)}(hs:u09 o.op=false)(h1:∀ p∈vs,p.2=a.eval (.tmp p.1))
  (h2:∀ x∈o.op.operands.toList,(∃ t v,x = .tmp t/\(t,v)∈vs)∨(∀ ws,rho ws x=a.eval x)):execOp (rho vs) o=execOp a.eval o:=by
 refine execOp_congr o (λcs b he=>by rw[he]at hs;cases hs) λx hx=>?_
 rcases h2 x (by simpa using hx)with⟨t,v,rfl,hm⟩|hf
 ·exact P0a vs t _ (λp hp e=>by rw[h1 p hp,e]) ⟨v,hm⟩
 ·exact hf vs
def Nx(P:Program)(h0:Hp)(w0:World)(st0:St)(be0:Nat->Nat)(oe0:Nat->Value)(K:AV->St->Hp->Prop)(a:Act)(d:Option Tmp):Act->World->Prop:=λa' w' =>
 ∃ av st' h' v be oe H,K av st' h'/\a'=a.put d v/\Sim P h0 w0 be oe H st' h' a w'/\C2 st' be oe av v/\M6 st0 be0 oe0 st' be oe
theorem j7{o:Oper}{next:Act->World->Prop}{Q:Exit->Act->World->Prop}{v:Value}{w':World}(hr:(execOp a.eval o).run P w = .ok (.value v) w')
  (hn:next (a.put o.dst v) w'):o.wp P a w next Q:=by
 unfold Oper.wp;rw[hr];exact hn
theorem P07{o:Oper}{next:Act->World->Prop}{Q:Exit->Act->World->Prop}{w':World}(hr:(execOp a.eval o).run P w = .ok .skip w')
  (hn:next (a.put o.dst undef) w'):o.wp P a w next Q:=by
 unfold Oper.wp;rw[hr];exact hn
theorem m04{o:Oper}{vs:List (Nat×Value)}(h1:∀ p∈vs,p.2=a.eval (.tmp p.1))
  (h2:∀ x∈o.op.operands.toList,(∃ t v,x = .tmp t/\(t,v)∈vs)∨(∀ ws,rho ws x=a.eval x)):S06 (rho vs) o=S06 a.eval o:=by
 have key:∀ x∈o.op.operands.toList,rho vs x=a.eval x:=λx hx=>by
  rcases h2 x hx with⟨t,v,rfl,hm⟩|hf
  ·exact P0a vs t _ (λp hp e=>by rw[h1 p hp,e]) ⟨v,hm⟩
  ·exact hf vs
 unfold S06
 split
 ·rename_i c hop
  split
  ·rename_i x hx
   have hin:∀ y,y=x∨y∈c.args.toList->y∈o.op.operands.toList:=λy hy=>by
    rw[hop]
    simp only[Op.operands,Call.operands,hx]
    simpa using hy
   rw[key x (hin x (.inl rfl))]
   have:J0g (rho vs) c.args.toList=J0g a.eval c.args.toList:=by
    rw[M07,M07]
    exact List.map_congr_left λy hy=>key y (hin y (.inr hy))
   rw[this]
  ·rfl
 ·rfl
theorem I8(s:Sim P h0 w0 be oe H st h a w){o:Oper}{K:AV->St->Hp->Prop}{Q:Exit->Act->World->Prop}(he:v05 P o st h K):o.wp P a w (Nx P h0 w0 st be oe K a o.dst) Q:=by
 unfold v05 at he
 split at he
 ·exact he.elim
 rename_i hsel
 obtain⟨vs,st1,h1,e1,s1,gr,k1,k2⟩:=Z01 _ s he
 rw[G09,O07 hsel k1 k2,m04 k1 k2]at e1
 split at e1
 ·rename_i f l hcf
  split at e1
  ·rename_i hok
   unfold Oper.wp
   rw[N07 hcf hok,Oper.upon_enter]
   refine(e1.run w (c07 s1)).mono ?_
   rintro e w'' ⟨v,h3,rfl,hk,hm3⟩
   obtain⟨H3,s3⟩:=s1.moved hm3
   exact⟨.val v,st1,h3,v,be,oe,H3,hk,rfl,s3,rfl,gr⟩
  ·exact e1.elim
 ·obtain⟨n,h2,w',hr,hn,hm⟩:=J9 _ _ _ (c07 s1) e1
  obtain⟨H2,s2⟩:=s1.moved hm
  cases n with
  |value v=>exact j7 hr ⟨.val v,st1,h2,v,be,oe,H2,hn,rfl,s2,rfl,gr⟩
  |skip=>exact P07 hr ⟨.val undef,st1,h2,undef,be,oe,H2,hn,rfl,s2,rfl,gr⟩
  |_=>exact hn.elim
theorem Sim.still(s:Sim P h0 w0 be oe H st h a w){hf:Hp}{w':World}(hsub:∀ b o,hf b=some o->H b=some o)(m:P2 hf w hf w'):Sim P h0 w0 be oe H st h a w':=by
 refine⟨s.mv.trans ⟨m.os,m.tape,m.output,m.size,?_,?_,λb hb => .inl hb,m.fz,m.dn⟩,s.sub,s.box,s.pub,s.own,s.frz,s.bb,s.oo,s.bo,s.dfr,s.siz,s.fr⟩
 ·intro b hb hn
  refine m.keep b hb ?_
  cases hc:hf b with
  |none=>rfl
  |some o=>rw[hsub b o hc]at hn;cases hn
 ·intro b o hb
  cases hc:hf b with
  |some o' =>
   have:=hsub b o' hc
   rw[this]at hb;cases hb
   exact m.vis b _ hc
  |none=>rw[m.keep b (s.mv.vis.lt (by rw[hb];simp)) hc];exact s.mv.vis b o hb
theorem l0i(s:Sim P h0 w0 be oe H st h a w){o:Oper}{K:AV->St->Hp->Prop}{Q:Exit->Act->World->Prop}(he:P0n P o st h K):o.wp P a w (Nx P h0 w0 st be oe K a o.dst) Q:=by
 unfold P0n at he
 split at he
 ·exact he.elim
 rename_i hsel
 obtain⟨vs,st1,h1,e1,s1,_,k1,k2⟩:=Z01 _ s he
 rw[m04 k1 k2]at e1
 split at e1
 ·rename_i f l hcf
  split at e1
  ·rename_i hok
   unfold Oper.wp
   rw[N07 hcf hok,Oper.upon_enter]
   refine(e1.run w (c07 s1)).mono ?_
   rintro e w'' ⟨v,h3,rfl,⟨rfl,hk⟩,hm3⟩
   exact⟨.val v,st,h,v,be,oe,H,hk,rfl,s.still s1.sub hm3,rfl,M6.refl _ _ _⟩
  ·exact e1.elim
 ·exact e1.elim
theorem s00(s:Sim P h0 w0 be oe H st h a w){o:Oper}{K:AV->St->Hp->Prop}{Q:Exit->Act->World->Prop}(he:W0j P o st h K):o.wp P a w (Nx P h0 w0 st be oe K a o.dst) Q:=by
 unfold W0j at he
 split at he
 ·rcases he with he|he
  ·exact I8 s he
  ·exact l0i s he
 ·exact I8 s he
theorem O08(s:Sim P h0 w0 be oe H st h a w){o:Oper}{K:AV->St->Hp->Prop}{Q:Exit->Act->World->Prop}(he:R0n P o st h K):o.wp P a w (Nx P h0 w0 st be oe K a o.dst) Q:=by
 unfold R0n at he
 split at he
 ·exact he.elim
 rename_i hsel
 obtain⟨vs,st1,h1,e1,s1,gr,k1,k2⟩:=Z01 _ s he
 rw[m04 k1 k2]at e1
 split at e1
 ·exact e1.elim
 obtain⟨v,h2,e2,hk⟩:=e1
 have e3:=e2 (λn h'=>(n = .value v∨n = .skip/\v=undef)/\h'=h2) ⟨⟨.inl rfl,rfl⟩,λe=>⟨.inr ⟨rfl,e⟩,rfl⟩⟩
 rw[G09,O07 hsel k1 k2]at e3
 obtain⟨n,h2',w',hr,⟨hn,rfl⟩,hm⟩:=J9 _ _ _ (c07 s1) e3
 obtain⟨H2,s2⟩:=s1.moved hm
 rcases hn with rfl|⟨rfl,rfl⟩
 ·exact j7 hr ⟨.val v,st1,h2',v,be,oe,H2,hk,rfl,s2,rfl,gr⟩
 ·exact P07 hr ⟨.val undef,st1,h2',undef,be,oe,H2,hk,rfl,s2,rfl,gr⟩
end
end Go.H
namespace Go.H
set_option linter.unusedVariables false
section
variable {P:Program}
theorem C4{t:TypeId}{d:TypeDesc}(hu:P.underlying t=some d)(h:Hp)(K:TypeDesc->Hp->Prop):wpS P (underlying t) h K=K d h:=by
 simp only[underlying,program,G2,wpS,J2,hu]
theorem I09{t:TypeId}{i:TypeInfo}(hi:P.info? t=some i)(h:Hp)(K:TypeInfo->Hp->Prop):wpS P (typeInfo t) h K=K i h:=by
 simp only[typeInfo,program,G2,wpS,J2,hi]
theorem V00{t:TypeId}{n:Nat}(hs:E5 P t=some n)(h:Hp)(K:Nat->Hp->Prop):wpS P (sizeOf t) h K=K n h:=by
 unfold E5 at hs
 split at hs
 ·rename_i i hi
  simp only[sizeOf,G2,I09 hi,J2]
  cases hs;rfl
 ·cases hs
theorem J09{t:TypeId}{z:Value}(hz:z00 P t=some z)(h:Hp)(K:Value->Hp->Prop):wpS P (zeroValue t) h K=K z h:=by
 unfold z00 at hz
 split at hz
 ·rename_i i hi
  simp only[zeroValue,G2,I09 hi,hz,J2]
 ·cases hz
theorem Q07{t:TypeId}{b:Bool}(ha:G0g P t=some b)(h:Hp)(K:Bool->Hp->Prop):wpS P (isAgg t) h K=K b h:=by
 unfold G0g at ha
 split at ha
 ·rename_i hu;cases ha;simp only[isAgg,G2,C4 hu,J2]
 ·rename_i hu;cases ha;simp only[isAgg,G2,C4 hu,J2]
 ·rename_i d h1 h2 hu
  cases ha
  simp only[isAgg,G2,C4 hu]
  cases d<;>first|rfl|exact absurd hu (h1 _)|exact absurd hu (h2 _ _)
 ·cases ha
theorem V04{H:Hp}{b o:Nat}:∀(vs:List Value) (i:Nat) (acc:Array Value) (K:Array Value->Hp->Prop),(∀ j v,vs[j]?=some v->Hp.cell H b (o+i+j)=some v) ->
  K (acc++vs.toArray) H->wpS P (loadCellsFrom ⟨b,o,none⟩ i vs.length acc) H K
 | [],i,acc,K,_,hk=>by simpa [loadCellsFrom,J2] using hk
 |v::vs,i,acc,K,hc,hk=>by
  have h0:=hc 0 v (by simp)
  simp only[loadCellsFrom,List.length_cons,G2,load,wpS]
  have hadd:(⟨b,o,none⟩:Addr).add i=⟨b,o+i,none⟩:=by unfold Addr.add;split<;>simp_all
  rw[hadd]
  refine⟨v,⟨rfl,by simpa using h0⟩,V04 vs (i+1) (acc.push v) K ?_ ?_⟩
  ·intro j u hj
   have:=hc (j+1) u (by simpa using hj)
   rw[show o+(i+1)+j=o+i+(j+1) from by omega]
   exact this
  ·simpa using hk
theorem t02{α:Type}:∀(l:List α) (n:Nat),Z05 l n=true->l.length=n
 | [],0,_=>rfl
 |_::r,k+1,h=>by simp[t02 r k h]
 | [],_+1,h=>by cases h
 |_::_,0,h=>by cases h
variable {h0:Hp} {w0:World} {be:Nat->Nat} {oe:Nat->Value} {H:Hp} {st:St} {h:Hp} {a:Act} {w:World}
theorem C2.ofCell{st:St}{be:Nat->Nat}{oe:Nat->Value}{c:l5}{v:Value}(g:l0d st oe c v):C2 st be oe (ofCell c) v:=by
 cases c with
 |val u=>exact g
 |own i k=>exact g
theorem load_row{t:TypeId}{cs:List l5}{vs:List Value}{off:Nat}{K:AV->Prop}{b o:Nat}(he:d04 P t cs off K)(g:U1 st oe cs vs)
  (hc:∀ j v,vs[j]?=some v->Hp.cell H b (o+j)=some v):∃ av v,K av/\C2 st be oe av v/\∀ Kn:Value->Hp->Prop,Kn v H->wpS P (loadVar t ⟨b,o+off,none⟩) H Kn:=by
 unfold d04 at he
 split at he
 ·rename_i ha
  split at he
  ·rename_i n hn
   split at he
   ·rename_i hl
    have hlen:=t02 _ _ hl
    have g':=(g.drop off).take n
    refine⟨_,.agg ((vs.drop off).take n).toArray,he,⟨_,rfl,g'⟩,λKn hk=>?_⟩
    have hlv:((vs.drop off).take n).length=n:=by rw[←g'.length,hlen]
    simp only[loadVar,G2,Q07 ha,if_true,V00 hn,loadCells]
    have:=V04 (P:=P) (H:=H) (b:=b) (o:=o+off) ((vs.drop off).take n) 0 #[] (λx h'=>wpS P (pure (Value.agg x)) h' Kn) (λj v hj=>by
     rw[List.getElem?_take]at hj
     split at hj
     ·rw[List.getElem?_drop]at hj
      rw[show o+off+0+j=o+(off+j) from by omega]
      exact hc _ _ hj
     ·cases hj) (by simpa [J2] using hk)
    rw[hlv]at this
    exact this
   ·exact he.elim
  ·exact he.elim
 ·rename_i ha
  split at he
  ·rename_i c hn
   obtain⟨v,hv,gc⟩:=g.nth hn
   refine⟨_,v,he,C2.ofCell gc,λKn hk=>?_⟩
   simp only[loadVar,G2,Q07 ha,Bool.false_eq_true,if_false,load,wpS]
   exact⟨v,⟨trivial,hc _ _ hv⟩,hk⟩
  ·exact he.elim
 ·exact he.elim
theorem Hp.set_set(h:Hp)(b:Nat)(x y:Obj):(h.set b x).set b y=h.set b y:=by
 funext k;simp only[Hp.set];split<;>rfl
theorem t0r{v:Value}(h:v.oneCell'=true):I02 v:=by cases v<;>simp_all [Value.oneCell',I02]
theorem n04{b:Nat}{t:TypeId}:∀(ns:List Value) (cur:List Value) (off i:Nat) (K:Unit->Hp->Prop) (H:Hp),H b=some (.cells cur.toArray t (0,0)) ->
  off+i+ns.length<=cur.length->(∀ v∈ns,v.oneCell'=true)->K () (H.set b (.cells (U2 cur (off+i) ns).toArray t (0,0)))->wpS P (storeCells ⟨b,off,none⟩ ns i) H K
 | [],cur,off,i,K,H,hb,_,_,hk=>by
  have:H.set b (.cells cur.toArray t (0,0))=H:=by
   funext k;simp only[Hp.set];split
   ·rename_i e;rw[e,hb]
   ·rfl
  simp only[U2,this]at hk
  exact hk
 |n::ns,cur,off,i,K,H,hb,hl,h1,hk=>by
  simp only[storeCells,G2,store,wpS]
  have hadd:(⟨b,off,none⟩:Addr).add i=⟨b,off+i,none⟩:=by unfold Addr.add;split<;>simp_all
  rw[hadd]
  simp only[List.length_cons]at hl
  refine⟨cur.toArray,t,(0,0),⟨hb,rfl,by simp;omega,by simp,t0r (h1 n mS)⟩,?_⟩
  refine n04 (t:=t) ns (cur.set (off+i) n) off (i+1) K _ (by simp[Hp.set]) (by simp;omega) (λv hv=>h1 v (mC _ hv)) ?_
  rw[Hp.set_set]
  simpa [U2,Nat.add_assoc] using hk
theorem G05:∀(ns cs:List Value) (off:Nat),splice cs off ns=U2 cs off ns
 | [],cs,off=>rfl
 |n::ns,cs,off=>by simp only[splice,U2,F09,G05 ns]
theorem m0d(s:Sim P h0 w0 be oe H st h a w){i k:Nat}{e sz by_:Nat}{nn:Bool}{xs:List (List Value)}(hn:nth st.ow i=some ⟨k,.live e sz by_ nn xs⟩):∃ x n c,oe i = .slice x n c:=by
 rcases(s.own i _ _ _ _ _ _ hn).2 with⟨h1,_⟩|⟨g,cap,cur,h1,_⟩
 ·exact⟨_,_,_,h1⟩
 ·exact⟨_,_,_,h1⟩
theorem S03(s:Sim P h0 w0 be oe H st h a w){x:Operand}{cs:List l5}(he:b00 (rdO st x)=some cs):U1 st oe cs (a.eval x).cells.toList:=by
 have g:=s.rdO x
 cases hr:rdO st x with
 |val v =>
  rw[hr]at he g
  have hv:a.eval x=v:=g
  rw[hv]
  cases v<;>simp only[b00,Option.some.injEq]at he<;>first|(subst he;first|exact U1.vals _ _ _|exact⟨rfl,trivial⟩)|cases he
 |own i k =>
  rw[hr]at he g
  obtain⟨e,sz,by_,nn,xs,hn⟩:=c06 hr
  simp only[b00,Option.some.injEq]at he
  subst he
  have hx:a.eval x=oe i:=g.own_cur hn
  obtain⟨y,n,c,hy⟩:=m0d s hn
  rw[hx,hy]
  rw[hx,hy]at g
  exact⟨g,trivial⟩
 |agg cs' =>
  rw[hr]at he g
  simp only[b00,Option.some.injEq]at he
  subst he
  obtain⟨vs,hv,gv⟩:=g
  rw[hv]
  exact gv
 |_=>rw[hr]at he;cases he
theorem T03(s:Sim P h0 w0 be oe H st h a w):∀(cs:List l5) (vs:List Value),S04 st cs=true->U1 st oe cs vs->∀ v∈vs,v.oneCell'=true
 | [],[],_,_,v,hv=>by cases hv
 | .val u::r,x::vs,ha,g,v,hv=>by
  simp only[S04]at ha
  split at ha
  ·rename_i h1
   rcases List.mem_cons.1 hv with rfl|hv
   ·have:v=u:=g.1
    rw[this];exact h1
   ·exact T03 s r vs ha g.2 v hv
  ·cases ha
 | .own i k::r,x::vs,ha,g,v,hv=>by
  have gx:C2 st be oe (rdA st (.own i k)) x:=s.rdA (av := .own i k) g.1
  simp only[S04]at ha
  split at ha
  ·rename_i j l hj
   rcases List.mem_cons.1 hv with rfl|hv
   ·rw[hj]at gx
    obtain⟨e,sz,by_,nn,xs,hn⟩:=b06 hj
    obtain⟨y,n,c,hy⟩:=m0d s hn
    rw[gx.own_cur hn,hy];rfl
   ·exact T03 s r vs ha g.2 v hv
  ·rename_i u hu
   split at ha
   ·rename_i h1
    rcases List.mem_cons.1 hv with rfl|hv
    ·rw[hu]at gx
     have:v=u:=gx
     rw[this];exact h1
    ·exact T03 s r vs ha g.2 v hv
   ·cases ha
  ·cases ha
 | [],_::_,_,g,_,_=>g.elim
 |_::_,[],_,g,_,_=>g.elim
theorem s03:∀(vs:List Value),e04 vs=true->∀ v∈vs,v.oneCell'=true
 | [],_,v,hv=>by cases hv
 |x::r,ha,v,hv=>by
  simp only[e04]at ha
  split at ha
  ·rename_i h1
   rcases List.mem_cons.1 hv with rfl|hv
   ·exact h1
   ·exact s03 r ha v hv
  ·cases ha
end
end Go.H
namespace Go.H
set_option linter.unusedVariables false
section
variable {P:Program} {h0:Hp} {w0:World} {be:Nat->Nat} {oe:Nat->Value} {H:Hp} {st:St} {h:Hp} {a:Act} {w:World} {o:Oper} {K:AV->St->Hp->Prop} {Q:Exit->Act->World->Prop}
theorem t01(b o n:Nat):(⟨b,o,none⟩:Addr).add n=⟨b,o+n,none⟩:=by unfold Addr.add;split<;>simp_all
theorem J6(s:Sim P h0 w0 be oe H st h a w){av:AV}{v:Value}(hw:∀ Kn:Next->Hp->Prop,Kn (.value v) H->wpS P (execOp a.eval o) H Kn)(g:C2 st be oe av v)(hk:K av st h):
  o.wp P a w (Nx P h0 w0 st be oe K a o.dst) Q:=by
 obtain⟨n,H',w',hr,⟨rfl,rfl⟩,hm⟩:=J9 _ _ _ s.mv.vis (hw (λn H'=>n = .value v/\H'=H) ⟨rfl,rfl⟩)
 have s':Sim P h0 w0 be oe H' st h a w':=s.still (hf:=H') (λ_ _ hb=>hb) hm
 exact j7 hr ⟨av,st,h,v,be,oe,H',hk,rfl,s',g,M6.refl _ _ _⟩
theorem E7{P:Program}(s:Sem Value)(H:Hp)(Kn:Next->Hp->Prop)(h:wpS P s H (λv H=>Kn (.value v) H)):wpS P (do pure (Next.value (←s))) H Kn:=by
 rw[G2];exact h
theorem u0r{P:Program}(s:Sem Unit)(H:Hp)(Kn:Next->Hp->Prop)(h:wpS P s H (λ_ H=>Kn .skip H)):wpS P (do s;pure Next.skip) H Kn:=by
 rw[G2];exact h
theorem p0l(s:Sim P h0 w0 be oe H st h a w){x:Operand}(ho:o.op = .move x∨o.op = .assign x)(he:match rdO st x with | .dead=>False|a=>K a st h):o.wp P a w (Nx P h0 w0 st be oe K a o.dst) Q:=by
 have hk:K (rdO st x) st h:=by
  revert he;cases rdO st x<;>intro he<;>first|exact he|exact he.elim
 refine J6 s (v:=a.eval x) (λKn hk'=>?_) (s.rdO x) hk
 unfold execOp
 rcases ho with ho|ho<;>rw[ho]<;>exact hk'
theorem v0r(s:Sim P h0 w0 be oe H st h a w){t:TypeId}{x:Operand}(ho:o.op = .box t x){cs:List l5}(hc:b00 (rdO st x)=some cs)
  (he:newBox st cs t λav st=>K av st h):o.wp P a w (Nx P h0 w0 st be oe K a o.dst) Q:=by
 have g:=S03 s hc
 have hw:wpS P (execOp a.eval o) H (λn H'=>∃ b,H b=none/\n = .value (ptr b 0)/\H'=H.set b (.cells (a.eval x).cells t (0,0))):=by
  unfold execOp;rw[ho]
  refine E7 _ _ _ ?_
  simp only[Instr.box,newVar,newRow,newObj,G2,J2,wpS]
  exact λb hb=>⟨b,hb,rfl,rfl⟩
 obtain⟨n,H',w',hr,⟨b,hb,rfl,rfl⟩,hm⟩:=J9 _ _ _ s.mv.vis hw
 have harr:(a.eval x).cells=(a.eval x).cells.toList.toArray:=by simp
 rw[harr]at hm
 rw[G0a]at he
 obtain⟨s',gr⟩:=s.newBox g hb hm
 exact j7 hr ⟨_,_,h,_,_,_,_,he,rfl,s',⟨by simp,by simp⟩,gr⟩
theorem g0o(s:Sim P h0 w0 be oe H st h a w){t:TypeId}(ho:o.op = .alloc t){z:Value}(hz:z00 P t=some z)
  (he:newBox st (vals z.cells.toList) t λav st=>K av st h):o.wp P a w (Nx P h0 w0 st be oe K a o.dst) Q:=by
 have hw:wpS P (execOp a.eval o) H (λn H'=>∃ b,H b=none/\n = .value (ptr b 0)/\H'=H.set b (.cells z.cells t (0,0))):=by
  unfold execOp;rw[ho]
  refine E7 _ _ _ ?_
  simp only[Instr.alloc,newVar,newRow,newObj,G2,J09 hz,J2,wpS]
  exact λb hb=>⟨b,hb,rfl,rfl⟩
 obtain⟨n,H',w',hr,⟨b,hb,rfl,rfl⟩,hm⟩:=J9 _ _ _ s.mv.vis hw
 have harr:z.cells=z.cells.toList.toArray:=by simp
 rw[harr]at hm
 rw[G0a]at he
 obtain⟨s',gr⟩:=s.newBox (U1.vals st oe _) hb hm
 exact j7 hr ⟨_,_,h,_,_,_,_,he,rfl,s',⟨by simp,by simp⟩,gr⟩
theorem y0f{t:TypeId}{k fo:Nat}(ht:H0g P t k=some fo):∃ fs f n,P.underlying t=some (.struct fs)/\fs[k]?=some f/\E5 P f.type=some (n+1)/\f.offset=fo:=by
 unfold H0g at ht
 split at ht
 ·rename_i fs hu
  split at ht
  ·rename_i f hf
   split at ht
   ·rename_i n hn
    cases ht
    exact⟨fs,f,n,hu,hf,hn,rfl⟩
   ·cases ht
  ·cases ht
 ·cases ht
theorem G0m{t:TypeId}{j:Int}{fo:Nat}(ht:M0n P t j=some fo):∃ n e sz,P.underlying t=some (.array n e)/\E5 P e=some (sz+1)/\0<=j/\j<(n:Int)/\fo=j.toNat*(sz+1):=by
 unfold M0n at ht
 split at ht
 ·rename_i n e m hu
  split at ht
  ·rename_i sz hs hb
   cases ht
   refine⟨n,e,sz,hu,hs,Int.natCast_nonneg m,?_,rfl⟩
   have:m<n:=by simpa [Nat.blt_eq] using hb
   exact Int.ofNat_lt.2 this
  ·cases ht
 ·cases ht
theorem d06{t:TypeId}{x i:Operand}{k:IntKind}{j:Int}{fo b off:Nat}(ho:o.op = .indexAddr t x i)(ht:M0n P t j=some fo)(hx:a.eval x=ptr b off)(hi:a.eval i = .int k j):
  ∀ Kn:Next->Hp->Prop,Kn (.value (ptr b (off+fo))) H->wpS P (execOp a.eval o) H Kn:=by
 intro Kn hk
 obtain⟨n,e,sz,hu,hs,h1,h2,rfl⟩:=G0m ht
 unfold execOp;rw[ho]
 refine E7 _ _ _ ?_
 simp only[Instr.indexAt,hx,hi,asIntOf,G2,J2,C4 hu,h1,h2,and_self,if_true,V00 hs,t01,ptr,Instr.sureAddr]
 exact hk
theorem exec_fieldAddr{t:TypeId}{x:Operand}{k fo b off:Nat}(ho:o.op = .fieldAddr t x k)(ht:H0g P t k=some fo)(hx:a.eval x=ptr b off):
  ∀ Kn:Next->Hp->Prop,Kn (.value (ptr b (off+fo))) H->wpS P (execOp a.eval o) H Kn:=by
 intro Kn hk
 obtain⟨fs,f,n,hu,hf,hn,rfl⟩:=y0f ht
 unfold execOp;rw[ho]
 refine E7 _ _ _ ?_
 simp only[Instr.fieldAt,G2,C4 hu,hf,hx,ptr,Instr.sureAddr,J2,fieldPlace,V00 hn,Nat.add_one_ne_zero,if_false,t01]
 exact hk
theorem R0g(s:Sim P h0 w0 be oe H st h a w){t:TypeId}{x:Operand}{k:Nat}(ho:o.op = .fieldAddr t x k)
  (he:match rdO st x,H0g P t k with
  | .box i off,some fo=>K (.box i (off+fo)) st h
  | .hel s i sz k,some fo=>K (.hel s i sz (k+fo)) st h
  | .oel i s j sz k,some fo=>K (.oel i s j sz (k+fo)) st h
  | .val (.pointer (some ⟨b,off,none⟩)),some fo=>K (.val (ptr b (off+fo))) st h
  |_,_=>False):o.wp P a w (Nx P h0 w0 st be oe K a o.dst) Q:=by
 have g:=s.rdO x
 split at he
 ·rename_i i off fo h1 h2
  rw[h1]at g
  exact J6 s (av := .box i (off+fo)) (exec_fieldAddr ho h2 g.2) ⟨g.1,rfl⟩ he
 ·rename_i sl i sz k' fo h1 h2
  rw[h1]at g
  obtain⟨b,o',n,c,e1,e2⟩:=g
  refine J6 s (av := .hel sl i sz (k'+fo)) (exec_fieldAddr ho h2 e2) ⟨b,o',n,c,e1,?_⟩ he
  simp[Nat.add_assoc]
 ·rename_i i s0 j sz k' fo h1 h2
  rw[h1]at g
  obtain⟨e,sz',by_,nn,xs,hn⟩:=Q0g h1
  obtain⟨gg,n,c,e1,e2⟩:=g.oel_cur hn
  obtain⟨t0,g1,g2,g3⟩:=g
  refine J6 s (av := .oel i s0 j sz (k'+fo)) (exec_fieldAddr ho h2 e2) ⟨t0,g1,g2,λ_=>⟨gg,n,c,e1,by simp[Nat.add_assoc]⟩⟩ he
 ·rename_i b off fo h1 h2
  rw[h1]at g
  exact J6 s (av := .val (ptr b (off+fo))) (exec_fieldAddr (b:=b) (off:=off) ho h2 g) rfl he
 ·exact he.elim
theorem j9{t e:TypeId}(ht:S00 P t=some e):P.underlying t=some (.slice e):=by
 unfold S00 at ht
 split at ht
 ·rename_i hu;cases ht;exact hu
 ·cases ht
theorem exec_indexAddr{t e:TypeId}{x i:Operand}{k:IntKind}{j:Int}{sz b off n c:Nat}(ho:o.op = .indexAddr t x i)(ht:S00 P t=some e)(hs:E5 P e=some sz)
  (hx:a.eval x = .slice (some ⟨b,off,none⟩) n c) (hi:a.eval i = .int k j) (h1:0<=j) (h2:j<(n:Int)) :
  ∀ Kn:Next->Hp->Prop,Kn (.value (ptr b (off+j.toNat*sz))) H->wpS P (execOp a.eval o) H Kn:=by
 intro Kn hk
 have hu:=j9 ht
 unfold execOp;rw[ho]
 refine E7 _ _ _ ?_
 simp only[Instr.indexAt,hx,hi,asIntOf,G2,J2,C4 hu,h1,h2,and_self,if_true,V00 hs,t01]
 exact hk
theorem m0i(s:Sim P h0 w0 be oe H st h a w){t:TypeId}{x:Operand}{i off:Nat}{cs:List l5}{ty:TypeId}(ho:o.op = .load t x)(hr:rdO st x = .box i off)
  (hn:nth st.bx i=some (.live cs ty)) (he:d04 P t cs off λav=>K av st h):o.wp P a w (Nx P h0 w0 st be oe K a o.dst) Q:=by
 have g:=s.rdO x
 rw[hr]at g
 obtain⟨h1,vs,h2,h3⟩:=s.box i cs ty hn
 obtain⟨av,v,k1,k2,k3⟩:=load_row (H:=H) (b:=be i) (o:=0) (be:=be) he h2 (λj v hj=>by simp[Hp.cell,h3,hj])
 refine J6 s (λKn hk=>?_) k2 k1
 unfold execOp;rw[ho]
 refine E7 _ _ _ ?_
 rw[g.2]
 simp only[Instr.loadAt,ptr,Instr.sureAddr,G2,J2]
 simpa using k3 _ hk
theorem n0i(s:Sim P h0 w0 be oe H st h a w){t:TypeId}{x:Operand}{sl:Value}{idx:Int}{sz k:Nat}{c:List Value}(ho:o.op = .load t x)(hr:rdO st x = .hel sl idx sz k)
  (hc:d00 h sl sz idx c) (he:d04 P t (vals c) k λav=>K av st h):o.wp P a w (Nx P h0 w0 st be oe K a o.dst) Q:=by
 have g:=s.rdO x
 rw[hr]at g
 obtain⟨b,o',n,cp,e1,e2⟩:=g
 obtain⟨_,_,b',o'',n',cp',e3,hcell⟩:=hc
 rw[e1]at e3;cases e3
 obtain⟨av,v,k1,k2,k3⟩:=load_row (H:=H) (b:=b) (o:=o'+idx.toNat*sz) (be:=be) he (U1.vals st oe c) (λj v hj=>by
  have:=hcell j v hj
  unfold Hp.cell at this ⊢
  split at this
  ·rename_i ho';rw[s.sub _ _ ho'];exact this
  ·cases this)
 refine J6 s (λKn hk=>?_) k2 k1
 unfold execOp;rw[ho]
 refine E7 _ _ _ ?_
 rw[e2]
 simp only[Instr.loadAt,ptr,Instr.sureAddr,G2,J2]
 simpa [Nat.add_assoc] using k3 _ hk
theorem t03{sz:Nat}:∀(xs:List (List Value)) (i:Nat) (c:List Value),(∀ x∈xs,x.length=sz)->xs[i]?=some c->∀ j v,c[j]?=some v->xs.flatten[i*sz+j]?=some v
 | [],i,c,_,h,j,v,hv=>by simp at h
 |x::xs,0,c,hl,h,j,v,hv=>by
  simp at h;subst h
  simp only[List.flatten_cons,Nat.zero_mul,Nat.zero_add]
  rw[List.getElem?_append_left (List.getElem?_eq_some_iff.1 hv).1];exact hv
 |x::xs,i+1,c,hl,h,j,v,hv=>by
  simp at h
  have hx:=hl x mS
  have:=t03 xs i c (λy hy=>hl y (mC _ hy)) h j v hv
  simp only[List.flatten_cons]
  rw[List.getElem?_append_right (by rw[hx,Nat.add_mul];omega),hx]
  rw[show(i+1)*sz+j-sz=i*sz+j from by rw[Nat.add_mul];omega]
  exact this
theorem E05.cells{h H:Hp}{v:Value}{e sz:Nat}{nn:Bool}{xs:List (List Value)}(ho:E05 h H v e sz nn xs){g n c:Nat}(hv:v = .slice (some ⟨g,0,none⟩) n c):
  ∀ j u,xs.flatten[j]?=some u->Hp.cell H g j=some u:=by
 intro j u hj
 rcases ho.2 with⟨h1,_⟩|⟨g',cap,cur,h1,_,h2,_,_,_,htake⟩
 ·rw[h1]at hv;cases hv
 ·rw[h1]at hv;cases hv
  rw[←htake,List.getElem?_take]at hj
  split at hj
  ·simpa [Hp.cell,h2] using hj
  ·cases hj
theorem o0i(s:Sim P h0 w0 be oe H st h a w){t:TypeId}{x:Operand}{i st0:Nat}{idx:Int}{sz k:Nat}{st1 e by_:Nat}{nn:Bool}{xs:List (List Value)}{c:List Value}
  (ho:o.op = .load t x) (hr:rdO st x = .oel i st0 idx sz k) (hn:nth st.ow i=some ⟨st1,.live e sz by_ nn xs⟩)
  (hc:xs[idx.toNat]?=some c) (he:d04 P t (vals c) k λav=>K av st h):o.wp P a w (Nx P h0 w0 st be oe K a o.dst) Q:=by
 have g:=s.rdO x
 rw[hr]at g
 obtain⟨e',sz',by',nn',xs',hn'⟩:=Q0g hr
 obtain⟨gg,n,cp,e1,e2⟩:=g.oel_cur hn'
 have hown:=s.own i _ _ _ _ _ _ hn
 obtain⟨av,v,k1,k2,k3⟩:=load_row (H:=H) (b:=gg) (o:=idx.toNat*sz) (be:=be) he (U1.vals st oe c) (λj v hj =>
  hown.cells e1 _ _ (t03 xs _ c (λx hx=>(hown.1 x hx).1) hc j v hj))
 refine J6 s (λKn hk=>?_) k2 k1
 unfold execOp;rw[ho]
 refine E7 _ _ _ ?_
 rw[e2]
 simp only[Instr.loadAt,ptr,Instr.sureAddr,G2,J2]
 exact k3 _ hk
theorem e06{t:TypeId}{p x:Operand}{b off n:Nat}{cur:List Value}{ty:TypeId}(ho:o.op = .store t p x)(hs:E5 P t=some n)(hp:a.eval p=ptr b off)
  (hl:(a.eval x).cells.toList.length=n) (h1:∀ v∈(a.eval x).cells.toList,v.oneCell'=true) (hb:H b=some (.cells cur.toArray ty (0,0))) (hfit:off+n<=cur.length) :
  ∀ Kn:Next->Hp->Prop,Kn .skip (H.set b (.cells (U2 cur off (a.eval x).cells.toList).toArray ty (0,0)))->wpS P (execOp a.eval o) H Kn:=by
 intro Kn hk
 unfold execOp;rw[ho]
 refine u0r _ _ _ ?_
 rw[hp]
 have hsz:(a.eval x).cells.size=n:=by simpa using hl
 simp only[Instr.storeAt,ptr,Instr.sureAddr,G2,J2,storeVar,V00 hs,hsz,ne_eq,not_true_eq_false,if_false]
 refine n04 _ cur off 0 _ _ hb (by rw[hl];omega) h1 ?_
 exact hk
theorem S0g(s:Sim P h0 w0 be oe H st h a w){t:TypeId}{p x:Operand}{i off n:Nat}{cs new:List l5}{ty:TypeId}(ho:o.op = .store t p x)(hr:rdO st p = .box i off)
  (hn:nth st.bx i=some (.live cs ty)) (hc:b00 (rdO st x)=some new) (hs:E5 P t=some n) (hl:Z05 new n=true) (h1:S04 st new=true)
  (he:B0m cs off new λcs=>K (.val undef) { st with bx:=r00 st.bx i (.live cs ty) } h):o.wp P a w (Nx P h0 w0 st be oe K a o.dst) Q:=by
 have g:=s.rdO p
 rw[hr]at g
 have gx:=S03 s hc
 have h1':=T03 s _ _ h1 gx
 have hlen:=t02 _ _ hl
 obtain⟨hh,vs,h2,h3⟩:=s.box i cs ty hn
 unfold B0m at he
 split at he
 ·rename_i hfit
  have hfit:=Nat.le_of_ble_eq_true hfit
  have hxl:(a.eval x).cells.toList.length=n:=by rw[←gx.length,hlen]
  have hw:=e06 (H:=H) (P:=P) (a:=a) ho hs g.2 hxl h1' h3 (by rw[←h2.length];omega)
  obtain⟨nx,H',w',hr',⟨rfl,rfl⟩,hm⟩:=J9 _ _ _ s.mv.vis (hw (λn H'=>n = .skip/\H'=_) ⟨rfl,rfl⟩)
  obtain⟨s',gr⟩:=s.updBox hn (h2.splice gx) hm
  exact P07 hr' ⟨_,_,h,_,_,_,_,he,rfl,s',rfl,gr⟩
 ·exact he.elim
end
end Go.H
namespace Go.H
set_option linter.unusedVariables false
section
variable {P:Program} {h0:Hp} {w0:World} {be:Nat->Nat} {oe:Nat->Value} {H:Hp} {st:St} {h:Hp} {a:Act} {w:World} {o:Oper} {K:AV->St->Hp->Prop} {Q:Exit->Act->World->Prop}
theorem G01{sz:Nat}:∀(xs:List (List Value)),(∀ x∈xs,x.length=sz)->xs.flatten.length=xs.length*sz
 | [],_=>by simp
 |x::xs,hl=>by
  have:=G01 xs (λy hy=>hl y (mC _ hy))
  simp only[List.flatten_cons,List.length_append,hl x mS,this,List.length_cons,Nat.add_mul,Nat.one_mul]
  omega
def q0l(w:World)(y:Value)(sz:Nat)(ys:List (List Value)):Prop :=
 (∀ x∈ys,x.length=sz/\∀ v∈x,v.oneCell'=true) /\
 ((∃ ad c,y = .slice (some ad) ys.length c/\∀ j u,ys.flatten[j]?=some u->w.cell? (ad.add j)=some u)∨(∃ c,y = .slice none 0 c/\ys = []))
theorem P2.newD{H:Hp}{w:World}(hv:Vis H w)(x:Obj)(hz:Y0p x=true):P2 H w (H.set w.heap.size x) (w.drew.alloc x) :=
 (P2.drawn hv (w.drawn+1) (Nat.le_succ _)).trans (P2.new (w:=w.drew) hv x hz)
theorem l02{H:Hp}{w:World}(hv:Vis H w):H w.heap.size=none:=by
 cases hc:H w.heap.size with
 |none=>rfl
 |some x=>exact absurd (hv.lt (b:=w.heap.size) (by simp[hc])) (Nat.lt_irrefl _)
theorem n0d{h H:Hp}(hs:∀ b o,h b=some o->H b=some o){g:Nat}(hg:H g=none){e sz cap:Nat}{nn:Bool}{xs:List (List Value)}{cur:Array Value}
  (h1:∀ x∈xs,x.length=sz/\∀ v∈x,v.oneCell'=true) (h2:xs.length<=cap) (h3:cap<=maxLen) (h4:cur.size=cap*sz) (h5:cur.toList.take (xs.length*sz)=xs.flatten) :
  E05 h (H.set g (.cells cur e (0,0))) (.slice (some ⟨g,0,none⟩) xs.length cap) e sz nn xs:=by
 refine⟨h1,.inr ⟨g,cap,cur,rfl,?_,by simp[Hp.set],h2,h3,h4,h5⟩⟩
 cases hc:h g with
 |none=>rfl
 |some o=>rw[hs g o hc]at hg;cases hg
theorem V0b{t e ty sz by_:Nat}{i:TypeInfo}{z:Value}(ht:P.underlying t=some (.slice e))(hi:P.info? e=some i)(hz:i.zero=some z)(hsz:i.size=sz)(hp:0<sz)
  (hby:i.bytes=by_) (hb1:0<by_) (hzs:z.cells.size=sz) {v:Value} {nn:Bool} {xs:List (List Value)} (ho:E05 h H v e sz nn xs) (hv:Vis H w) (hsub:∀ b o,h b=some o->H b=some o)
  {y:Value} {ys:List (List Value)} (hy:q0l w y sz ys) (hr:W06 (xs.length+ys.length) by_) :
  ∃ v' w' H',(Builtin.append_ #[t,t] ty #[v,y]).run P w = .ok v' w'/\P2 H w H' w'/\E05 h H' v' e sz (nn || q03 ys) (xs++ys) /\
   (∀ b,v.ownBlock≠some b->H b≠none->H' b=H b)/\(∀ g,v'.ownBlock=some g->v.ownBlock=some g∨H g=none)/\(ys = []->v'=v):=by
 subst hsz
 subst hby
 have hlen:xs.length+ys.length<=140737488355328:=Nat.le_trans (Nat.le_mul_of_pos_right _ hb1) hr
 have hl63:((xs.length+ys.length:Nat):Int)<=9223372036854775807:=by omega
 have hall:∀ x∈xs++ys,x.length=i.size/\∀ v∈x,v.oneCell'=true:=λx hx=>by
  rcases List.mem_append.1 hx with hx|hx
  ·exact ho.1 x hx
  ·exact hy.1 x hx
 have hfx:=G01 xs (λx hx=>(ho.1 x hx).1)
 have hfy:=G01 ys (λx hx=>(hy.1 x hx).1)
 have hone:∀ u∈ys.flatten,u.oneCell'=true:=λu hu=>by
  obtain⟨x,hx,hux⟩:=List.mem_flatten.1 hu
  exact(hy.1 x hx).2 u hux
 have hcap:∀ old,grownCap w (xs.length+ys.length) old e<=maxLen:=λold=>grownCap_le_maxLen w _ old e (by unfold maxLen;omega)
 have grown:∀ old,E05 h (H.set w.heap.size (.cells (xs.flatten.toArray++ys.flatten.toArray++Builtin.zeroCells z.cells (grownCap w (xs.length+ys.length) old e-(xs.length+ys.length))) e (0,0)))
   (.slice (some ⟨w.heap.size,0,none⟩) (xs++ys).length (grownCap w (xs.length+ys.length) old e)) e i.size (nn || q03 ys) (xs++ys):=λold=>by
  have hge:=grownCap_ge w (xs.length+ys.length) old e
  refine n0d hsub (l02 hv) hall (by simpa using hge) (hcap old) ?_ ?_
  ·simp only[Array.size_append,List.size_toArray,hfx,hfy,size_zeroCells,hzs,←Nat.add_mul]
   congr 1;omega
  ·simp only[Array.toList_append,List.flatten_append,List.append_assoc,List.length_append]
   rw[←List.append_assoc,List.take_append_of_le_length (by simp[hfx,hfy,Nat.add_mul]),List.take_of_length_le (by simp[hfx,hfy,Nat.add_mul])]
 have hsame:ys = []->E05 h H v e i.size (nn || q03 ys) (xs++ys):=λhn=>by subst hn;simpa [q03] using ho
 have keepN:∀(x:Obj) b,v.ownBlock≠some b->H b≠none->(H.set w.heap.size x) b=H b:=λx b _ hb=>Hp.set_other _ _ (λe=>by subst e;exact hb (l02 hv))
 rcases hy.2 with⟨ad,c,rfl,hc⟩|⟨c,rfl,hys⟩
 ·rcases ho.2 with⟨rfl,rfl,rfl⟩|⟨g,cap,cur,rfl,hg1,hg2,hnc,hcm,hcs,htake⟩
  ·by_cases hm:ys.length=0
   ·have hys:ys = []:=List.eq_nil_of_length_eq_zero hm
    refine⟨_,w,H,?_,P2.refl hv,hsame hys,λ_ _ _=>rfl,λg hg => .inl hg,λ_=>rfl⟩
    simp[Builtin.append_,run_underlying ht,sizeOf,typeInfo,hi,Builtin.lenOf,Builtin.firstCells,loadCells,loadCellsFrom,hm]
   ·have hrun:=run_append_nil (P:=P) w t ty e i z ht hi hz ad ys.length c ys.flatten hfy hc (by omega) (by simp at hlen;omega) (by have:=hr;unfold W06 at this;simp at this;omega)
    have g0:=grown 0
    simp only[List.length_nil,Nat.zero_add,List.nil_append,List.flatten_nil]at g0
    simp only[Array.empty_append]at g0
    refine⟨_,_,_,hrun,P2.newD hv _ rfl,by simpa using g0,keepN _,λg hg => .inr ?_,λe=>by rw[e]at hm;simp at hm⟩
    simp[Value.ownBlock]at hg
    rw[←hg];exact l02 hv
  ·have hold:∀ j u,xs.flatten[j]?=some u->w.cell? ((⟨g,0,none⟩:Addr).add j)=some u:=λj u hj=>by
    rw[t01,Nat.zero_add]
    refine u05 hv rfl ?_
    exact ho.cells rfl j u hj
   by_cases hroom:xs.length+ys.length<=cap
   ·have hw:=hv _ _ hg2
    have hfit:xs.length*i.size+ys.flatten.length<=cur.size:=by rw[hfy,hcs,←Nat.add_mul];exact Nat.mul_le_mul_right _ hroom
    have hrun:=run_append_room (P:=P) w t ty e i ht hi g xs.length cap cur hw ad ys.length c ys.flatten hfy hc hone hroom hfit
    refine⟨_,_,H.set g (.cells (cur.toList.take (xs.length*i.size)++ys.flatten++cur.toList.drop (xs.length*i.size+ys.flatten.length)).toArray e (0,0)),hrun,
     P2.upd hv hg2 (λ_=>rfl) rfl rfl rfl (by simp) (setRow_heap w g cur _ e _ hw) (λk hk=>setRow_other w g k _ hk),?_,?_,λg' hg' => .inl hg',λhn=>by simp[hn]⟩
    ·refine⟨hall,.inr ⟨g,cap,_,by simp,hg1,Hp.set_same _ _ _,by simpa using hroom,hcm,?_,?_⟩⟩
     ·simp only[List.size_toArray,List.length_append,List.length_take,List.length_drop,Array.length_toList]
      omega
     ·rw[htake]
      simp only[List.flatten_append,List.length_append]
      rw[List.take_append_of_le_length (by simp[hfx,hfy,Nat.add_mul]),List.take_of_length_le (by simp[hfx,hfy,Nat.add_mul])]
    ·intro b hb _
     exact Hp.set_other _ _ (λe=>hb (by simp[Value.ownBlock,e]))
   ·have hrun:=run_append_grow (P:=P) w t ty e i z ht hi hz ⟨g,0,none⟩ xs.length cap xs.flatten hfx hold ad ys.length c ys.flatten hfy hc (by omega) hl63 (growslice_fits (by omega) hr)
    have g0:=grown cap
    refine⟨_,_,_,hrun,P2.newD hv _ rfl,by simpa using g0,keepN _,λg' hg' => .inr ?_,λhn=>by subst hn;simp at hroom;omega⟩
    simp[Value.ownBlock]at hg'
    rw[←hg'];exact l02 hv
 ·refine⟨v,w,H,?_,P2.refl hv,hsame hys,λ_ _ _=>rfl,λg hg => .inl hg,λ_=>rfl⟩
  rcases ho.2 with⟨rfl,_⟩|⟨g,cap,cur,rfl,_,_,hnc,_⟩
  ·simp[Builtin.append_,run_underlying ht,sizeOf,typeInfo,hi,Builtin.lenOf,Builtin.firstCells]
  ·simp[Builtin.append_,run_underlying ht,sizeOf,typeInfo,hi,Builtin.lenOf,Builtin.firstCells,hnc,storeCells]
theorem y08(b:Nat):∀(vs:List Value) (o:Nat) (w:World) (cur:Array Value) (ty:TypeId) (fz:Nat×Nat),w.heap[b]?=some (.cells cur ty fz)->(w.setCells b o vs).heap[b]?=some (.cells (U2 cur.toList o vs).toArray ty fz)
 | [],o,w,cur,ty,fz,h=>by simpa [World.setCells,U2] using h
 |v::r,o,w,cur,ty,fz,h=>by
  have h2:(w.setCell ⟨b,o,none⟩ v).heap[b]?=some (.cells (cur.setIfInBounds o v) ty fz):=by simp[World.setCell,Array.getElem?_modify,h]
  have:=y08 b r (o+1) _ _ _ _ h2
  simpa [World.setCells,U2] using this
theorem e07(b:Nat):∀(vs:List Value) (o:Nat) (w:World) (k:Nat),k≠b->(w.setCells b o vs).heap[k]?=w.heap[k]?
 | [],o,w,k,h=>rfl
 |v::r,o,w,k,h=>by
  rw[World.setCells,e07 b r (o+1) _ k h]
  simp only[World.setCell,Array.getElem?_modify]
  rw[if_neg (λe=>h e.symm)]
theorem W0b(b:Nat):∀(vs:List Value) (o:Nat) (w:World),(w.setCells b o vs).drawn=w.drawn
 | [],o,w=>rfl
 |v::r,o,w=>by
  rw[World.setCells,W0b b r (o+1)]
  unfold World.setCell
  split<;>rfl
theorem z08(b:Nat):∀(vs:List Value) (o:Nat) (w:World),(w.setCells b o vs).os=w.os/\(w.setCells b o vs).tape=w.tape/\(w.setCells b o vs).output=w.output/\(w.setCells b o vs).heap.size=w.heap.size
 | [],o,w=>⟨rfl,rfl,rfl,rfl⟩
 |v::r,o,w=>by
  obtain⟨h1,h2,h3,h4⟩:=z08 b r (o+1) (w.setCell ⟨b,o,none⟩ v)
  exact⟨h1,h2,h3,by rw[World.setCells,h4];simp[World.setCell]⟩
theorem f07:∀(ns vs:List Value) (off j:Nat),off+ns.length<=vs.length->(U2 vs off ns)[j]?=if off<=j/\j<off+ns.length then ns[j-off]? else vs[j]?
 | [],vs,off,j,h=>by
  simp only[U2,List.length_nil,Nat.add_zero]
  rw[if_neg (by omega)]
 |n::ns,vs,off,j,h=>by
  simp only[List.length_cons]at h
  rw[U2,f07 ns _ (off+1) j (by simp;omega)]
  simp only[List.length_cons]
  by_cases e:j=off
  ·subst e
   rw[if_neg (by omega),if_pos (by omega)]
   simp[show j<vs.length by omega]
  ·by_cases h1:off+1<=j/\j<off+1+ns.length
   ·rw[if_pos h1,if_pos (by omega),show j-off=(j-(off+1))+1 by omega,List.getElem?_cons_succ]
   ·rw[if_neg h1,if_neg (by omega),List.getElem?_set,if_neg (λh=>e h.symm)]
theorem T0g{t e ty sz by_:Nat}{i:TypeInfo}{z:Value}(ht:P.underlying t=some (.slice e))(hi:P.info? e=some i)(hz:i.zero=some z)(hsz:i.size=sz)(hp:0<sz)
  (hby:i.bytes=by_) (hb1:0<by_) (hzs:z.cells.size=sz) {g o n c:Nat} {xs:List (List Value)} (hX:C0m h sz (.slice (some ⟨g,o,none⟩) n c) xs) (hv:Vis h w)
  {y:Value} {ys:List (List Value)} (hy:q0l w y sz ys) (hr:W06 (xs.length+ys.length) by_) :
  ∃ v' w' h',(Builtin.append_ #[t,t] ty #[.slice (some ⟨g,o,none⟩) n c,y]).run P w = .ok v' w'/\P2 h w h' w'/\S0n h h' sz g v' (xs++ys):=by
 subst hsz
 subst hby
 have hlen:xs.length+ys.length<=140737488355328:=Nat.le_trans (Nat.le_mul_of_pos_right _ hb1) hr
 have hl63:((xs.length+ys.length:Nat):Int)<=9223372036854775807:=by omega
 obtain⟨hall0,g',o',c',cur,bt,e1,hnc,hcm,hcs,hg,hcell⟩:=hX
 cases e1
 have hall:∀ x∈xs++ys,x.length=i.size/\∀ v∈x,v.oneCell'=true:=λx hx=>by
  rcases List.mem_append.1 hx with hx|hx
  ·exact hall0 x hx
  ·exact hy.1 x hx
 have hfx:=G01 xs (λx hx=>(hall0 x hx).1)
 have hfy:=G01 ys (λx hx=>(hy.1 x hx).1)
 have hone:∀ u∈ys.flatten,u.oneCell'=true:=λu hu=>by
  obtain⟨x,hx,hux⟩:=List.mem_flatten.1 hu
  exact(hy.1 x hx).2 u hux
 have hsame:ys = []->S0n h h i.size g (.slice (some ⟨g,o,none⟩) xs.length c) (xs++ys):=λhn=>by
  subst hn
  rw[List.append_nil]
  exact⟨⟨hall0,g,o,c,cur,bt,rfl,hnc,hcm,hcs,hg,hcell⟩,g,o,_,c,rfl,.inl rfl,λ_ _=>rfl⟩
 have hw:=hv _ _ hg
 rcases hy.2 with⟨ad,cc,rfl,hc⟩|⟨cc,rfl,hys⟩
 ·by_cases hroom:xs.length+ys.length<=c
  ·have hfit:o+xs.length*i.size+ys.flatten.length<=cur.size:=by
    have:(xs.length+ys.length)*i.size<=c*i.size:=Nat.mul_le_mul_right _ hroom
    rw[Nat.add_mul]at this
    rw[hfy]
    omega
   have hin:∀ j,j<ys.flatten.length->(w.cell? ⟨g,o+xs.length*i.size+j,none⟩).isSome=true:=λj hj=>by
    simp only[World.cell?,hw]
    simp[show o+xs.length*i.size+j<cur.size by omega]
   have hfz:∀ j,j<ys.flatten.length->w.frozen? ⟨g,o+xs.length*i.size+j,none⟩=false:=λj hj=>by
    rw[W01 (o := .cells cur bt (0,0)) hw]
    simp[e01]
   have hrun:=run_append_room_cells (P:=P) w t ty e i ht hi g o xs.length c ad ys.length cc ys.flatten hfy hc hone hroom hin hfz
   have hsp:=y08 g ys.flatten (o+xs.length*i.size) w cur bt (0,0) hw
   obtain⟨q1,q2,q3,q4⟩:=z08 g ys.flatten (o+xs.length*i.size) w
   refine⟨_,_,h.set g (.cells (U2 cur.toList (o+xs.length*i.size) ys.flatten).toArray bt (0,0)),hrun,
    P2.upd hv hg (λ_=>rfl) q1 q2 q3 q4 hsp (λk hk=>e07 _ _ _ _ k hk) (Nat.le_of_eq (W0b _ _ _ _).symm),⟨hall,g,o,c,_,bt,by rw[List.length_append],by rw[List.length_append];exact hroom,hcm,?_,Hp.set_same _ _ _,λj u hj=>?_⟩,g,o,_,c,rfl,.inl rfl,λb hb=>Hp.set_other _ _ hb⟩
   ·simpa [H8] using hcs
   ·rw[List.flatten_append]at hj
    rw[List.getElem?_toArray,f07 _ _ _ _ (by simpa using hfit)]
    by_cases hlt:j<xs.flatten.length
    ·rw[List.getElem?_append_left hlt]at hj
     rw[if_neg (by omega),Array.getElem?_toList]
     exact hcell j u hj
    ·rw[List.getElem?_append_right (by omega)]at hj
     have hjl:=(List.getElem?_eq_some_iff.1 hj).1
     rw[if_pos (by omega),show o+j-(o+xs.length*i.size)=j-xs.flatten.length by omega]
     exact hj
  ·have hold:∀ j u,xs.flatten[j]?=some u->w.cell? ((⟨g,o,none⟩:Addr).add j)=some u:=λj u hj=>by
    rw[t01]
    refine u05 hv rfl ?_
    simp only[Hp.cell,hg]
    exact hcell j u hj
   have hrun:=run_append_grow (P:=P) w t ty e i z ht hi hz ⟨g,o,none⟩ xs.length c xs.flatten hfx hold ad ys.length cc ys.flatten hfy hc (by omega) hl63 (growslice_fits (by omega) hr)
   have hge:=grownCap_ge w (xs.length+ys.length) c e
   refine⟨_,_,_,hrun,P2.newD hv _ rfl,⟨hall,w.heap.size,0,grownCap w (xs.length+ys.length) c e,_,e,by rw[List.length_append],by rw[List.length_append];exact hge,grownCap_le_maxLen w _ c e (by unfold maxLen;omega),?_,Hp.set_same _ _ _,λj u hj=>?_⟩,w.heap.size,0,_,_,rfl,.inr (l02 hv),λb hb=>Hp.set_other _ _ hb⟩
   ·simp only[Array.size_append,List.size_toArray,hfx,hfy,size_zeroCells,hzs,←Nat.add_mul,Nat.zero_add]
    refine Nat.le_of_eq ?_
    congr 1;omega
   ·rw[List.flatten_append]at hj
    rw[Nat.zero_add,←Array.getElem?_toList]
    simp only[Array.toList_append]
    rw[List.getElem?_append_left (by simpa using (List.getElem?_eq_some_iff.1 hj).1)]
    exact hj
 ·refine⟨_,w,h,?_,P2.refl hv,hsame hys⟩
  simp[Builtin.append_,run_underlying ht,sizeOf,typeInfo,hi,Builtin.lenOf,Builtin.firstCells,hnc,storeCells]
theorem U0g{t e ty sz by_:Nat}{i:TypeInfo}{z:Value}(ht:P.underlying t=some (.slice e))(hi:P.info? e=some i)(hz:i.zero=some z)(hsz:i.size=sz)(_:0<sz)
  (hby:i.bytes=by_) (hb1:0<by_) (hzs:z.cells.size=sz) (hv:Vis h w)
  {y:Value} {ys:List (List Value)} (hy:q0l w y sz ys) (hne:q03 ys=true) (hr:W06 ys.length by_) :
  ∃ v' w' h',(Builtin.append_ #[t,t] ty #[.slice none 0 0,y]).run P w = .ok v' w'/\P2 h w h' w'/\Z0r h h' sz v' ys:=by
 subst hsz
 subst hby
 have hlen:ys.length<=140737488355328:=Nat.le_trans (Nat.le_mul_of_pos_right _ hb1) hr
 have hfy:=G01 ys (λx hx=>(hy.1 x hx).1)
 rcases hy.2 with⟨ad,c,rfl,hc⟩|⟨c,rfl,hys⟩
 ·by_cases hm:ys.length=0
  ·have hys:ys = []:=List.eq_nil_of_length_eq_zero hm
   subst hys;cases hne
  ·have hrun:=run_append_nil (P:=P) w t ty e i z ht hi hz ad ys.length c ys.flatten hfy hc (by omega) (by omega) (Nat.le_trans hr (by decide))
   have hge:=grownCap_ge w ys.length 0 e
   refine⟨_,_,_,hrun,P2.newD hv _ rfl,⟨hy.1,w.heap.size,0,grownCap w ys.length 0 e,_,e,rfl,hge,grownCap_le_maxLen w _ 0 e (by unfold maxLen;omega),?_,Hp.set_same _ _ _,λj u hj=>?_⟩,w.heap.size,0,_,_,rfl,l02 hv,λb hb=>Hp.set_other _ _ hb⟩
   ·simp only[Array.size_append,List.size_toArray,hfy,size_zeroCells,hzs,←Nat.add_mul,Nat.zero_add]
    refine Nat.le_of_eq ?_
    congr 1;omega
   ·rw[Nat.zero_add,←Array.getElem?_toList]
    simp only[Array.toList_append]
    rw[List.getElem?_append_left (by simpa using (List.getElem?_eq_some_iff.1 hj).1)]
    exact hj
 ·subst hys;cases hne
theorem P08{e sz by_:Nat}{z:Value}(h1:E5 P e=some sz)(h2:N08 P e=some by_)(h3:z00 P e=some z):∃ i,P.info? e=some i/\i.size=sz/\i.bytes=by_/\i.zero=some z:=by
 unfold E5 at h1
 unfold N08 at h2
 unfold z00 at h3
 cases hi:P.info? e with
 |none=>rw[hi]at h1;cases h1
 |some i=>rw[hi]at h1 h2 h3;exact⟨i,rfl,by simpa using h1,by simpa using h2,h3⟩
theorem o04(s:Sim P h0 w0 be oe H st h a w){sz:Nat}(hp:0<sz){b:Operand}{K:List (List Value)->Prop}(he:Z0c st h sz (rdO st b) K):∃ ys,K ys/\q0l w (a.eval b) sz ys:=by
 have g:=s.rdO b
 unfold Z0c at he
 split at he
 ·rename_i j k hr
  obtain⟨e1,sz1,by1,nn1,xs1,hn1⟩:=c06 hr
  rw[hr]at g
  simp only[hn1]at he
  split at he
  ·rename_i hb
   have hs1:=Nat.eq_of_beq_eq_true hb
   subst hs1
   refine⟨xs1,he,?_⟩
   have ho:=s.own j _ _ _ _ _ _ hn1
   rw[g.own_cur hn1]
   refine⟨ho.1,?_⟩
   rcases ho.2 with⟨h1,h2,_⟩|⟨gg,cap,cur,h1,h2,h3,_⟩
   ·exact .inr ⟨0,h1,h2⟩
   ·refine .inl ⟨⟨gg,0,none⟩,cap,h1,λj u hj=>?_⟩
    rw[t01,Nat.zero_add]
    exact u05 s.mv.vis rfl (ho.cells h1 j u hj)
  ·exact he.elim
 ·rename_i v hr
  rw[hr]at g
  obtain⟨ys,hs,hk⟩:=he
  refine⟨ys,hk,?_⟩
  have hv:a.eval b=v:=g
  rw[hv]
  obtain⟨h1,x,n,c,rfl,rfl,hc,h2⟩:=hs
  refine⟨h1,?_⟩
  rcases h2 with h2|⟨bb,oo,rfl,h3⟩
  ·cases x with
   |none =>
    have hys:ys = []:=by
     cases ys with
     |nil=>rfl
     |cons y r =>
      have hy:=(h1 y mS).1
      simp only[List.flatten_cons,List.append_eq_nil_iff]at h2
      rw[h2.1]at hy
      simp at hy
      omega
    subst hys;exact .inr ⟨c,rfl,rfl⟩
   |some ad=>exact .inl ⟨ad,c,rfl,λj u hj=>by rw[h2]at hj;simp at hj⟩
  ·refine .inl ⟨⟨bb,oo,none⟩,c,rfl,λj u hj=>?_⟩
   rw[t01]
   exact u05 (c07 s) rfl (h3 j u hj)
 ·exact he.elim
theorem C02{t:TypeId}{p q:Operand}{as:Array Operand}{ts:Array TypeId}(ho:o.op = .call { callee := .builtin .append,args:=as,argTypes:=ts })(ha:as = #[p,q])(hts:ts = #[t,t])
  {v':Value} {w':World} (hr:(Builtin.append_ #[t,t] o.type #[a.eval p,a.eval q]).run P w = .ok v' w'):(execOp a.eval o).run P w = .ok (.value v') w':=by
 subst ha;subst hts
 unfold execOp;rw[ho]
 simp only[resolve,invoke,builtin,Sem.run_bind,Sem.run_pure,Result.andThen_ok,List.map_toArray,List.map_cons,List.map_nil,hr]
theorem H0m(s:Sim P h0 w0 be oe H st h a w){t:TypeId}{p q:Operand}{as:Array Operand}{ts:Array TypeId}(ho:o.op = .call { callee := .builtin .append,args:=as,argTypes:=ts })
  (ha:as = #[p,q]) (hts:ts = #[t,t]) (he:a0d P t p q st h K):o.wp P a w (Nx P h0 w0 st be oe K a o.dst) Q:=by
 unfold a0d at he
 split at he
 rotate_left
 ·exact he.elim
 rename_i e hte
 split at he
 rotate_left
 ·exact he.elim
 rename_i sz by_ z hs hb hz
 split at he
 rotate_left
 ·exact he.elim
 rename_i hzl
 obtain⟨i,hi,i1,i2,i3⟩:=P08 hs hb hz
 have ht:=j9 hte
 have hzs:z.cells.size=sz+1:=by simpa using t02 _ _ hzl
 have g:=s.rdO p
 split at he
 ·rename_i j k hr
  obtain⟨e0,sz0,by0,nn0,xs0,hn⟩:=c06 hr
  rw[hr]at g
  simp only[hn]at he
  split at he
  ·rename_i hb1 hb2 hb3
   have he0:=Nat.eq_of_beq_eq_true hb1
   have hsz0:=Nat.eq_of_beq_eq_true hb2
   subst he0
   subst hsz0
   obtain⟨ys,⟨hroom,hk⟩,hsrc⟩:=o04 s (Nat.succ_pos sz) he
   have hown:=s.own j _ _ _ _ _ _ hn
   obtain⟨v',w',H',hrun,hm,hO,hkp,hnew,_⟩:=V0b (ty:=o.type) ht hi i3 i1 (Nat.succ_pos _) i2 (Nat.succ_pos _) hzs hown s.mv.vis s.sub hsrc hroom
   obtain⟨s',gr⟩:=s.updOwn (s1:=k+1) (by_:=by_+1) hn (Nat.le_succ _) (λe=>absurd e (Nat.succ_ne_self k)) hm hkp hO hnew
   rw[←g.own_cur hn]at hrun
   refine j7 (C02 ho ha hts hrun) ⟨_,_,h,v',_,_,_,hk,rfl,s',?_,gr⟩
   refine⟨k+1,?_,Nat.le_refl _,λ_=>by simp⟩
   simp[stamp,Z6 _ _ _ (F01 hn)]
  ·exact he.elim
 ·rename_i hr
  rw[hr]at g
  rcases he with he|he
  rotate_left
  ·obtain⟨ys,⟨⟨hne,hroom⟩,hk⟩,hsrc⟩:=o04 s (Nat.succ_pos sz) he
   obtain⟨v',w',h',hrun,hm,hA⟩:=U0g (ty:=o.type) ht hi i3 i1 (Nat.succ_pos _) i2 (Nat.succ_pos _) hzs (c07 s) hsrc hne hroom
   have hg:a.eval p = .slice none 0 0:=g
   rw[←hg]at hrun
   obtain⟨H',s'⟩:=s.moved hm
   exact j7 (C02 ho ha hts hrun) ⟨_,_,_,v',_,_,_,hk _ _ hA,rfl,s',rfl,M6.refl _ _ _⟩
  obtain⟨ys,⟨hroom,hk⟩,hsrc⟩:=o04 s (Nat.succ_pos sz) he
  have hnil:E05 h H (.slice none 0 0) e (sz+1) false []:=⟨by simp,.inl ⟨rfl,rfl,rfl⟩⟩
  obtain⟨v',w',H',hrun,hm,hO,hkp,hnew,_⟩:=V0b (ty:=o.type) ht hi i3 i1 (Nat.succ_pos _) i2 (Nat.succ_pos _) hzs hnil s.mv.vis s.sub hsrc (by simpa using hroom)
  simp only[Bool.false_or,List.nil_append]at hO
  have hnew':∀ g,v'.ownBlock=some g->H g=none:=λg hg=>(hnew g hg).resolve_left (by simp[Value.ownBlock])
  rw[F0a]at hk
  obtain⟨s',gr⟩:=s.newOwn (by_:=by_+1) (λb o hb=>by rw[hkp b (by simp[Value.ownBlock]) (by rw[hb];simp)];exact hb) hm hO hnew'
  have hg:a.eval p = .slice none 0 0:=g
  rw[←hg]at hrun
  refine j7 (C02 ho ha hts hrun) ⟨_,_,h,v',_,_,_,hk,rfl,s',?_,gr⟩
  refine⟨0,?_,Nat.le_refl _,λ_=>by simp⟩
  simp[stamp,k02]
 ·rename_i g0 o0 n0 c0 hr
  rw[hr]at g
  obtain⟨ys,⟨xs,hX,hroom,hk⟩,hsrc⟩:=o04 s (Nat.succ_pos sz) he
  obtain⟨v',w',h',hrun,hm,hA⟩:=T0g (ty:=o.type) ht hi i3 i1 (Nat.succ_pos _) i2 (Nat.succ_pos _) hzs hX (c07 s) hsrc hroom
  have hg:a.eval p = .slice (some ⟨g0,o0,none⟩) n0 c0:=g
  rw[←hg]at hrun
  obtain⟨H',s'⟩:=s.moved hm
  exact j7 (C02 ho ha hts hrun) ⟨_,_,_,v',_,_,_,hk _ _ hA,rfl,s',rfl,M6.refl _ _ _⟩
 ·exact he.elim
end
end Go.H
namespace Go.H
set_option linter.unusedVariables false
set_option linter.unusedSimpArgs false
section
variable {P:Program} {h0:Hp} {w0:World} {be:Nat->Nat} {oe:Nat->Value} {H:Hp} {st:St} {h:Hp} {a:Act} {w:World} {o:Oper} {K:AV->St->Hp->Prop} {Q:Exit->Act->World->Prop}
theorem f06:∀(ns cs:List Value) (off:Nat),off+ns.length<=cs.length->U2 cs off ns=cs.take off++ns++cs.drop (off+ns.length)
 | [],cs,off,_=>by simp[U2]
 |n::ns,cs,off,hl=>by
  simp only[List.length_cons]at hl
  rw[U2,f06 ns (cs.set off n) (off+1) (by simp;omega)]
  rw[List.take_set,List.drop_set_of_lt (by omega)]
  have h1:(cs.take (off+1)).set off n=cs.take off ++ [n]:=by
   rw[List.take_succ_eq_append_getElem (by omega),List.set_append_right _ _ (by simp;omega)]
   have:off-(cs.take off).length=0:=by simp;omega
   rw[this]
   simp
  rw[h1]
  simp only[List.length_cons,List.append_assoc,List.cons_append,List.nil_append]
  rw[show off+1+ns.length=off+(ns.length+1) from by omega]
theorem K09(off:Nat):∀(l:List Value) (k:Nat) (arr:Array Value),((l.zipIdx k).foldl (λcs p=>cs.setIfInBounds (off+p.2) p.1) arr).toList=U2 arr.toList (off+k) l
 | [],k,arr=>rfl
 |x::l,k,arr=>by
  simp only[List.zipIdx_cons,List.foldl_cons,U2]
  rw[K09 off l (k+1)]
  simp[Nat.add_assoc]
theorem o0d(v:Value)(off:Nat)(arr:Array Value):(v.cells.zipIdx.foldl (λcs (p:Value×Nat)=>cs.setIfInBounds (off+p.2) p.1) arr).toList=U2 arr.toList off v.cells.toList:=by
 rw[←Array.foldl_toList,Array.toList_zipIdx]
 exact K09 off v.cells.toList 0 arr
def R07(a:Act)(sz:Nat):Nat->List (Nat×Operand)->List (List Value)->Prop
 |_,[],[]=>True
 |i,(j,x)::r,c::cs=>j=i/\c=(a.eval x).cells.toList/\c.length=sz/\(∀ v∈c,v.oneCell'=true)/\R07 a sz (i+1) r cs
 |_,_,_=>False
theorem R07.all{sz:Nat}:∀ {i:Nat} {l:List (Nat×Operand)} {xs:List (List Value)},R07 a sz i l xs->(∀ x∈xs,x.length=sz/\∀ v∈x,v.oneCell'=true)/\l.length=xs.length
 |_,[],[],_=>by simp
 |i,(j,x)::r,c::cs,h=>by
  have ih:=R07.all h.2.2.2.2
  refine⟨λy hy=>?_,by simp[ih.2]⟩
  rcases List.mem_cons.1 hy with rfl|hy
  ·exact⟨h.2.2.1,h.2.2.2.1⟩
  ·exact ih.1 y hy
 |_,[],_::_,h=>h.elim
 |_,_::_,[],h=>h.elim
theorem p0d{sz:Nat}:∀(l:List (Nat×Operand)) (xs:List (List Value)) (i:Nat) (arr:Array Value),R07 a sz i l xs->(i+l.length)*sz<=arr.size ->
  ∃ arr',Instr.fill (λi=>some (i*sz,sz)) arr (l.map λp=>(p.1,a.eval p.2))=some arr'/\arr'.toList=arr.toList.take (i*sz)++xs.flatten++arr.toList.drop ((i+l.length)*sz)
 | [],[],i,arr,_,hl=>⟨arr,rfl,by simp⟩
 |(j,x)::r,c::cs,i,arr,h,hl=>by
  obtain⟨rfl,hc,hlen,_,hr⟩:=h
  have hsz:(a.eval x).cells.size=sz:=by rw[←hlen,hc];simp
  have hbound:j*sz+sz<=arr.size:=by
   refine Nat.le_trans ?_ hl
   simp only[List.length_cons]
   rw[←Nat.succ_mul]
   exact Nat.mul_le_mul_right _ (by omega)
  have h2:=o0d (a.eval x) (j*sz) arr
  rw[←hc]at h2
  have hsp:=f06 c arr.toList (j*sz) (by rw[hlen];simpa using hbound)
  have hsz2:((a.eval x).cells.zipIdx.foldl (λcs (p:Value×Nat)=>cs.setIfInBounds (j*sz+p.2) p.1) arr).size=arr.size:=by
   rw[←Array.length_toList,h2,H8];simp
  obtain⟨arr',h3,h4⟩:=p0d r cs (j+1) ((a.eval x).cells.zipIdx.foldl (λcs (p:Value×Nat)=>cs.setIfInBounds (j*sz+p.2) p.1) arr) hr (by
   rw[hsz2];simp only[List.length_cons]at hl;rw[show j+1+r.length=j+(r.length+1) from by omega];exact hl)
  refine⟨arr',?_,?_⟩
  ·simp only[List.map_cons,Instr.fill,hsz,ne_eq,not_true_eq_false,decide_false,Bool.false_or,decide_eq_true_eq]
   rw[if_neg (by omega)]
   exact h3
  ·rw[h4,h2,hsp,hlen]
   have e1:(arr.toList.take (j*sz)++c++arr.toList.drop (j*sz+sz)).take ((j+1)*sz)=arr.toList.take (j*sz)++c:=by
    rw[List.take_append_of_le_length,List.take_of_length_le]
    ·simp only[List.length_append,List.length_take,hlen,Array.length_toList,Nat.add_mul];omega
    ·simp only[List.length_append,List.length_take,hlen,Array.length_toList,Nat.add_mul];omega
   have e2:(arr.toList.take (j*sz)++c++arr.toList.drop (j*sz+sz)).drop ((j+1+r.length)*sz)=arr.toList.drop ((j+(r.length+1))*sz):=by
    have hAC:(arr.toList.take (j*sz)++c).length=j*sz+sz:=by simp only[List.length_append,List.length_take,hlen,Array.length_toList];omega
    rw[List.drop_append,List.drop_eq_nil_of_le (by rw[hAC];simp only[Nat.add_mul];omega),hAC,List.nil_append,List.drop_drop]
    congr 1
    simp only[Nat.add_mul]
    omega
   simp only[List.length_cons,List.flatten_cons]
   rw[e1,e2]
   simp
 | [],_::_,_,_,h,_=>h.elim
 |_::_,[],_,_,h,_=>h.elim
theorem X0b{sz:Nat}:∀(l:List (Nat×Operand)) (i:Nat) {st:St} {h:Hp} {K:List (List Value)->St->Hp->Prop},Sim P h0 w0 be oe H st h a w->V0h sz i l st h K ->
  ∃ xs st' h',K xs st' h'/\Sim P h0 w0 be oe H st' h' a w/\M6 st be oe st' be oe/\R07 a sz i l xs
 | [],i,st,h,K,s,he=>⟨[],st,h,he,s,M6.refl _ _ _,trivial⟩
 |(j,x)::r,i,st,h,K,s,he=>by
  simp only[V0h]at he
  split at he
  ·rename_i hb
   have hij:=Nat.eq_of_beq_eq_true hb
   obtain⟨st1,h1,e1,s1,g1⟩:=B02 s (s.rdO x) he
   split at e1
   ·rename_i hl ho
    obtain⟨xs,st2,h2,e2,s2,g2,p2⟩:=X0b r (i+1) s1 e1
    exact⟨_,st2,h2,e2,s2,g1.trans g2,hij.symm,rfl,t02 _ _ hl,s03 _ ho,p2⟩
   ·exact e1.elim
  ·exact he.elim
theorem c0f(s:Sim P h0 w0 be oe H st h a w){t n:Nat}{ps:Array (Nat×Operand)}{e sz by_:Nat}{z:Value}(ho:o.op = .buildSlice t n ps)(hte:S00 P t=some e)(hs:E5 P e=some (sz+1))
  (hz:z00 P e=some z) (hn:Nat.beq n ps.size=true) (hm:Nat.ble (n*(sz+1)) 16777216=true)
  (he:V0h (sz+1) 0 ps.toList st h λxs st h=>newOwn st e (sz+1) by_ true xs λav st=>K av st h):o.wp P a w (Nx P h0 w0 st be oe K a o.dst) Q:=by
 obtain⟨xs,st1,h1,e1,s1,g1,p1⟩:=X0b _ _ s he
 obtain⟨hall,hlen⟩:=p1.all
 have hn':n=xs.length:=by rw[←hlen,Nat.eq_of_beq_eq_true hn];simp
 have hm':=Nat.le_of_ble_eq_true hm
 have hw:wpS P (execOp a.eval o) H (λnx H'=>∃ b arr,H b=none/\nx = .value (.slice (some ⟨b,0,none⟩) xs.length xs.length)/\H'=H.set b (.cells arr e (0,0))/\arr.toList=xs.flatten/\arr.size=xs.length*(sz+1)):=by
  unfold execOp;rw[ho]
  refine E7 _ _ _ ?_
  have main:∀ arr:Array Value,arr.size=xs.length*(sz+1)->∃ arr',Instr.fill (λi=>some (i*(sz+1),sz+1)) arr (ps.toList.map λp=>(p.1,a.eval p.2))=some arr'/\arr'.toList=xs.flatten/\arr'.size=xs.length*(sz+1):=by
   intro arr ha
   obtain⟨arr',f1,f2⟩:=p0d ps.toList xs 0 arr p1 (by rw[hlen,ha];simp)
   refine⟨arr',f1,?_,?_⟩
   ·rw[f2,hlen];simp[ha]
   ·rw[←Array.length_toList,f2,hlen]
    simp[ha,G01 xs (λx hx=>(hall x hx).1)]
  have hgt : ¬ (n*(sz+1)>2 ^ 24):=Nat.not_lt.2 hm'
  simp only[Instr.buildSlice,G2,C4 (j9 hte),V00 hs,if_neg hgt,J2]
  have hmap:(ps.map λx=>(x.1,a.eval x.2)).toList=ps.toList.map λp=>(p.1,a.eval p.2):=by simp
  by_cases h00:n*(sz+1)=0
  ·simp only[if_pos h00,J2]
   obtain⟨arr',f1,f2,f3⟩:=main ((Array.range (n*(sz+1))).map λi=>(#[]:Array Value)[i % (#[]:Array Value).size]!) (by simp[hn'])
   rw[show(Array.map (λx=>(x.1,a.eval x.2)) ps).toList=ps.toList.map λp=>(p.1,a.eval p.2) from by simp]
   simp only[f1,G2,newRow,newObj,wpS,J2]
   exact λb hb=>⟨b,arr',hb,by rw[hn'],rfl,f2,f3⟩
  ·simp only[if_neg h00,G2,J09 hz,J2]
   obtain⟨arr',f1,f2,f3⟩:=main ((Array.range (n*(sz+1))).map λi=>z.cells[i % z.cells.size]!) (by simp[hn'])
   rw[show(Array.map (λx=>(x.1,a.eval x.2)) ps).toList=ps.toList.map λp=>(p.1,a.eval p.2) from by simp]
   simp only[f1,G2,newRow,newObj,wpS,J2]
   exact λb hb=>⟨b,arr',hb,by rw[hn'],rfl,f2,f3⟩
 obtain⟨nx,H',w',hr,⟨b,arr,hb,rfl,rfl,f2,f3⟩,hmv⟩:=J9 _ _ _ s1.mv.vis hw
 have hmax:xs.length<=maxLen:=by
  have:xs.length<=xs.length*(sz+1):=Nat.le_mul_of_pos_right _ (Nat.succ_pos _)
  rw[hn']at hm'
  unfold maxLen;omega
 rw[F0a]at e1
 obtain⟨s',gr⟩:=s1.newOwn (nn:=true) (by_:=by_) (λx y hx=>by rw[Hp.set_other _ _ (λe=>by subst e;rw[hb]at hx;cases hx)];exact hx) hmv
  (n0d s1.sub hb hall (Nat.le_refl _) hmax f3 (by rw[f2,List.take_of_length_le (by rw[G01 xs (λx hx=>(hall x hx).1)];exact Nat.le_refl _)])) (λg hg=>by simp[Value.ownBlock]at hg;rw[←hg];exact hb)
 refine j7 hr ⟨_,_,h1,_,_,_,_,e1,rfl,s',?_,g1.trans gr⟩
 refine⟨0,?_,Nat.le_refl _,λ_=>by simp⟩
 simp[stamp,k02]
theorem p04{sz:Nat}(zl:List Value)(hz:zl.length=sz)(hp:0<sz):∀(l j:Nat),j<l*sz->(List.replicate l zl).flatten[j]?=zl[j % sz]?
 |0,j,h=>by simp at h
 |l+1,j,h=>by
  simp only[List.replicate_succ,List.flatten_cons]
  have h':j<l*sz+sz:=by rw[Nat.add_mul,Nat.one_mul]at h;exact h
  by_cases hj:j<sz
  ·rw[List.getElem?_append_left (by omega),Nat.mod_eq_of_lt hj]
  ·rw[List.getElem?_append_right (by omega),hz,p04 zl hz hp l (j-sz) (by omega),←Nat.mod_eq_sub_mod (a:=j) (by omega)]
theorem I0m{sz:Nat}(z:Value)(hz:z.cells.toList.length=sz)(hp:0<sz)(l n:Nat)(hl:l*sz<=n):(madeCells z.cells n).toList.take (l*sz)=(List.replicate l z.cells.toList).flatten:=by
 have hz':z.cells.size=sz:=by simpa using hz
 apply List.ext_getElem?
 intro j
 rw[List.getElem?_take]
 by_cases hj:j<l*sz
 ·rw[if_pos hj,p04 _ hz hp l j hj]
  have hm:j % sz<z.cells.size:=by rw[hz'];exact Nat.mod_lt _ hp
  simp only[madeCells,hz',Array.toList_map,Array.toList_range,List.getElem?_map,List.getElem?_range (show j<n from by omega),Option.map_some,Array.getElem?_toList,Array.getElem?_eq_getElem hm]
  congr 1
  simp[hm]
 ·rw[if_neg hj]
  symm
  apply List.getElem?_eq_none
  have:(List.replicate l z.cells.toList).flatten.length=l*sz:=by
   rw[G01 (sz:=sz) _ (λx hx=>by rw[List.eq_of_mem_replicate hx];exact hz)];simp
  omega
theorem V0g(s:Sim P h0 w0 be oe H st h a w){t e sz by_:Nat}{l c:Operand}{z:Value}{kl kc:IntKind}{nl nc:Int}(ho:o.op = .makeSlice t l c)(hte:S00 P t=some e)
  (hs:E5 P e=some (sz+1)) (hb:N08 P e=some by_) (hz:z00 P e=some z) (hl:rdO st l = .val (.int kl nl)) (hc:rdO st c = .val (.int kc nc))
  (hzl:Z05 z.cells.toList (sz+1)=true) (hone:e04 z.cells.toList=true) (hbd:0<=nl/\nl<=nc/\nc*by_<=140737488355328/\nc<=9223372036854775807)
  (he:newOwn st e (sz+1) by_ true (List.replicate nl.toNat z.cells.toList) λav st=>K av st h):o.wp P a w (Nx P h0 w0 st be oe K a o.dst) Q:=by
 obtain⟨i,hi,i1,i2,i3⟩:=P08 hs hb hz
 have gl:a.eval l = .int kl nl:=by have:=s.rdO l;rw[hl]at this;exact this
 have gc:a.eval c = .int kc nc:=by have:=s.rdO c;rw[hc]at this;exact this
 obtain⟨b1,b2,b3,b4⟩:=hbd
 have hlen:=t02 _ _ hzl
 have hrun:=run_make (P:=P) w t e i z (j9 hte) hi i3 kl kc nl nc b1 b2 (by rw[i2,Int.mul_comm];omega) b4
 have hr:(execOp a.eval o).run P w = .ok (.value (.slice (some ⟨w.heap.size,0,none⟩) nl.toNat nc.toNat)) (w.alloc (.cells (madeCells z.cells (nc.toNat*i.size)) e)):=by
  unfold execOp;rw[ho]
  simp only[gl,gc,Sem.run_bind,hrun,Result.andThen_ok,Sem.run_pure]
 have hmv:P2 H w (H.set w.heap.size (.cells (madeCells z.cells (nc.toNat*i.size)) e (0,0))) (w.alloc (.cells (madeCells z.cells (nc.toNat*i.size)) e)):=P2.new s.mv.vis _ rfl
 have hfl:(List.replicate nl.toNat z.cells.toList).length=nl.toNat:=by simp
 have hO:=n0d (h:=h) (H:=H) (e:=e) (sz:=sz+1) (nn:=true) (cap:=nc.toNat) (xs:=List.replicate nl.toNat z.cells.toList) (cur:=madeCells z.cells (nc.toNat*i.size)) s.sub (l02 s.mv.vis)
  (λx hx=>by rw[List.eq_of_mem_replicate hx];exact⟨hlen,s03 _ hone⟩) (by simp;omega) (by unfold maxLen;omega) (by rw[size_madeCells,i1])
  (by rw[hfl,i1];exact I0m z hlen (Nat.succ_pos _) _ _ (Nat.mul_le_mul_right _ (by omega)))
 rw[hfl]at hO
 rw[F0a]at he
 obtain⟨s',gr⟩:=s.newOwn (by_:=by_) (λx y hx=>by rw[Hp.set_other _ _ (λe=>by subst e;rw[l02 s.mv.vis]at hx;cases hx)];exact hx) hmv hO
  (λg hg=>by simp[Value.ownBlock]at hg;rw[←hg];exact l02 s.mv.vis)
 refine j7 hr ⟨_,_,h,_,_,_,_,he,rfl,s',?_,gr⟩
 refine⟨0,?_,Nat.le_refl _,λ_=>by simp⟩
 simp[stamp,k02]
end
end Go.H
namespace Go.H
set_option linter.unusedVariables false
set_option linter.unusedSimpArgs false
section
variable {P:Program} {h0:Hp} {w0:World} {be:Nat->Nat} {oe:Nat->Value} {H:Hp} {st:St} {h:Hp} {a:Act} {w:World} {o:Oper} {K:AV->St->Hp->Prop} {Q:Exit->Act->World->Prop}
theorem W0g(s:Sim P h0 w0 be oe H st h a w){t:TypeId}{x i:Operand}(ho:o.op = .indexAddr t x i)
  (he:match rdO st i with
  | .val (.int _ j)=>match S00 P t with
   |some e=>match E5 P e with
    |some sz=>match rdO st x with
     | .val (.slice a n c)=>InB (.slice a n c) j/\K (.hel (.slice a n c) j sz 0) st h
     | .own i k=>match nth st.ow i with
      |some ⟨_,.live _ sz' _ _ xs⟩=>match Nat.beq sz' sz with
       |true=>(0<=j/\j<(xs.length:Int))/\K (.oel i k j sz 0) st h
       |false=>False
      |_=>False
     |_=>False
    |none=>False
   |none=>match rdO st x,M0n P t j with
    | .box i off,some fo=>K (.box i (off+fo)) st h
    | .hel s i sz k,some fo=>K (.hel s i sz (k+fo)) st h
    | .oel i s j sz k,some fo=>K (.oel i s j sz (k+fo)) st h
    |_,_=>False
  |_=>False):o.wp P a w (Nx P h0 w0 st be oe K a o.dst) Q:=by
 have gi:=s.rdO i
 have gx:=s.rdO x
 split at he
 rotate_left
 ·exact he.elim
 rename_i k j hi
 rw[hi]at gi
 split at he
 rotate_left
 ·split at he
  ·rename_i ii off fo h1 h2
   rw[h1]at gx
   exact J6 s (av := .box ii (off+fo)) (d06 ho h2 gx.2 gi) ⟨gx.1,rfl⟩ he
  ·rename_i sl ii sz k' fo h1 h2
   rw[h1]at gx
   obtain⟨b,o',n,c,e1,e2⟩:=gx
   refine J6 s (av := .hel sl ii sz (k'+fo)) (d06 ho h2 e2 gi) ⟨b,o',n,c,e1,?_⟩ he
   simp[Nat.add_assoc]
  ·rename_i ii s0 jj sz k' fo h1 h2
   rw[h1]at gx
   obtain⟨e,sz',by_,nn,xs,hn⟩:=Q0g h1
   obtain⟨gg,n,c,e1,e2⟩:=gx.oel_cur hn
   obtain⟨t0,g1,g2,g3⟩:=gx
   refine J6 s (av := .oel ii s0 jj sz (k'+fo)) (d06 ho h2 e2 gi) ⟨t0,g1,g2,λ_=>⟨gg,n,c,e1,by simp[Nat.add_assoc]⟩⟩ he
  ·exact he.elim
 rename_i e hte
 split at he
 rotate_left
 ·exact he.elim
 rename_i sz hs
 split at he
 ·rename_i ad n c hr
  rw[hr]at gx
  obtain⟨⟨b,off,n',c',e1,b1,b2⟩,hk⟩:=he
  cases e1
  exact J6 s (av := .hel _ j sz 0) (exec_indexAddr ho hte hs gx gi b1 b2) ⟨b,off,n,c,rfl,by simp⟩ hk
 ·rename_i ii kk hr
  obtain⟨e0,sz0,by0,nn0,xs,hn⟩:=c06 hr
  rw[hr]at gx
  simp only[hn]at he
  split at he
  ·rename_i hb
   have hsz:=Nat.eq_of_beq_eq_true hb
   subst hsz
   obtain⟨⟨b1,b2⟩,hk⟩:=he
   have hown:=s.own ii _ _ _ _ _ _ hn
   rcases hown.2 with⟨_,hx,_⟩|⟨g,cap,cur,hv,_⟩
   ·rw[hx]at b2;simp at b2;omega
   ·have hx:=gx.own_cur hn
    rw[hv]at hx
    refine J6 s (av := .oel ii kk j sz0 0) (exec_indexAddr ho hte hs hx gi b1 b2) ⟨kk,by simp[stamp,hn],Nat.le_refl _,λ_=>⟨g,xs.length,cap,hv,by simp⟩⟩ hk
  ·exact he.elim
 ·exact he.elim
theorem S07{sz:Nat}:∀(xs:List (List Value)) (k:Nat),(∀ x∈xs,x.length=sz)->(xs.take k).flatten=xs.flatten.take (k*sz)
 | [],k,_=>by simp
 |x::xs,0,_=>by simp
 |x::xs,k+1,hl=>by
  have hx:=hl x mS
  simp only[List.take_succ_cons,List.flatten_cons]
  rw[S07 xs k (λy hy=>hl y (mC _ hy)),List.take_append (l₁:=x),List.take_of_length_le (l:=x) (by rw[hx,Nat.add_mul];omega),hx,Nat.add_mul,Nat.one_mul,Nat.add_sub_cancel]
theorem z0f{sz:Nat}:∀(xs:List (List Value)) (k:Nat),(∀ x∈xs,x.length=sz)->(xs.drop k).flatten=xs.flatten.drop (k*sz)
 | [],k,_=>by simp
 |x::xs,0,_=>by simp
 |x::xs,k+1,hl=>by
  have hx:=hl x mS
  simp only[List.drop_succ_cons,List.flatten_cons]
  rw[z0f xs k (λy hy=>hl y (mC _ hy)),List.drop_append (l₁:=x),List.drop_of_length_le (l:=x) (by rw[hx,Nat.add_mul];omega),hx,Nat.add_mul,Nat.one_mul,Nat.add_sub_cancel,List.nil_append]
def q04(a:Act)(d:Int)(x:Option Operand)(l:Int):Prop:=match x with
 |none=>l=d
 |some y=>∃ k,a.eval y = .int k l
theorem g06(s:Sim P h0 w0 be oe H st h a w){d l:Int}{x:Option Operand}(he:T04 d (x.map (rdO st))=some l):q04 a d x l:=by
 cases x with
 |none=>simp only[Option.map_none,T04,Option.some.injEq]at he;exact he.symm
 |some y =>
  have g:=s.rdO y
  simp only[Option.map_some]at he
  cases hr:rdO st y with
  |val v =>
   rw[hr]at he g
   cases v<;>simp only[T04,Option.some.injEq]at he<;>first|(subst he;exact⟨_,g⟩)|cases he
  |_=>rw[hr]at he;cases he
theorem T07{x:Value}{k:IntKind}{i:Int}{y:Nat}{code:BoundsCode}(hx:x = .int k i)(h1:0<=i)(h2:i<=(y:Int))(Kn:Nat->Hp->Prop):wpS P (Instr.sliceBound x y code) H Kn=Kn i.toNat H:=by
 subst hx
 simp only[Instr.sliceBound,asIntOf,G2,J2,h1,h2,and_self,if_true]
theorem q0d{isS:Bool}{n c:Nat}{lo hi:Option Operand}{l m:Int}(hl:q04 a 0 lo l)(hm:q04 a n hi m)(h1:0<=l)(h2:l<=m)(h3:m<=(n:Int))(hnc:n<=c)
  (Kn:Nat×Nat×Nat->Hp->Prop):wpS P (Instr.sliceBounds isS n c (lo.map a.eval) (hi.map a.eval) none) H Kn=Kn (l.toNat,m.toNat,c) H:=by
 have hml:l<=(m.toNat:Int):=by omega
 cases lo with
 |none =>
  have hl0:l=0:=hl
  subst hl0
  cases hi with
  |none =>
   have hm0:m=(n:Int):=hm
   subst hm0
   simp only[Instr.sliceBounds,Option.map_none,G2,J2];rfl
  |some y =>
   obtain⟨k,hy⟩:=hm
   simp only[Instr.sliceBounds,Option.map_none,Option.map_some,G2,J2,T07 hy (by omega) (show m<=(c:Int) by omega)];rfl
 |some x =>
  obtain⟨k,hx⟩:=hl
  cases hi with
  |none =>
   have hm0:m=(n:Int):=hm
   subst hm0
   simp only[Instr.sliceBounds,Option.map_none,Option.map_some,G2,J2,T07 hx h1 (show l<=((n:Nat):Int) by omega)];rfl
  |some y =>
   obtain⟨k',hy⟩:=hm
   simp only[Instr.sliceBounds,Option.map_some,G2,J2,T07 hy (by omega) (show m<=(c:Int) by omega),T07 hx h1 hml]
theorem exec_slice{t e sz:Nat}{x:Operand}{lo hi:Option Operand}{ad:Option Addr}{n c:Nat}{l m:Int}(ho:o.op = .slice t x lo hi none)(hte:S00 P t=some e)(hs:E5 P e=some sz)
  (hx:a.eval x = .slice ad n c) (hl:q04 a 0 lo l) (hm:q04 a n hi m) (h1:0<=l) (h2:l<=m) (h3:m<=(n:Int)) (hnc:n<=c) :
  ∀ Kn:Next->Hp->Prop,Kn (.value (.slice (if c=l.toNat then ad else ad.map (·.add (l.toNat*sz))) (m.toNat-l.toNat) (c-l.toNat))) H->wpS P (execOp a.eval o) H Kn:=by
 intro Kn hk
 unfold execOp;rw[ho]
 refine E7 _ _ _ ?_
 simp only[Instr.sliceAt,G2,C4 (j9 hte),Instr.slice,hx,Option.map_none]
 rw[q0d hl hm h1 h2 h3 hnc]
 simp only[V00 hs,J2]
 exact hk
theorem J0m(s:Sim P h0 w0 be oe H st h a w){t e sz:Nat}{x:Operand}{lo hi:Option Operand}{ad:Option Addr}{n c:Nat}(ho:o.op = .slice t x lo hi none)(hte:S00 P t=some e)(hs:E5 P e=some sz)
  (hr:rdO st x = .val (.slice ad n c)) (he:a0k sz (.slice ad n c) n (lo.map (rdO st)) (hi.map (rdO st)) st h K):o.wp P a w (Nx P h0 w0 st be oe K a o.dst) Q:=by
 have gx:=s.rdO x
 rw[hr]at gx
 unfold a0k at he
 split at he
 rotate_left
 ·exact he.elim
 rename_i l m hl hm
 obtain⟨⟨h1,h2,h3⟩,xs,hS,hk⟩:=he
 obtain⟨hall,ad',n',c',e1,hn,hnc,hc⟩:=hS
 cases e1
 have hlen:((xs.take m.toNat).drop l.toNat).length=m.toNat-l.toNat:=by simp;omega
 have hnew:SlE h sz (.slice (if c=l.toNat then ad else ad.map (·.add (l.toNat*sz))) (m.toNat-l.toNat) (c-l.toNat)) ((xs.take m.toNat).drop l.toNat):=by
  refine⟨λy hy=>hall y (List.mem_of_mem_take (List.mem_of_mem_drop hy)),_,_,_,rfl,hlen.symm,by omega,?_⟩
  rcases hc with hc|⟨b,off,rfl,hcell⟩
  ·left
   rw[List.flatten_eq_nil_iff]at hc ⊢
   exact λy hy=>hc y (List.mem_of_mem_take (List.mem_of_mem_drop hy))
  ·by_cases hcl:c=l.toNat
   ·left
    have:(xs.take m.toNat).drop l.toNat = []:=List.eq_nil_of_length_eq_zero (by rw[hlen];omega)
    rw[this];rfl
   ·right
    rw[if_neg hcl]
    refine⟨b,off+l.toNat*sz,by simp[t01],λj v hj=>?_⟩
    have hx:=G01 xs (λx hx=>(hall x hx).1)
    rw[Nat.add_assoc]
    refine hcell _ _ ?_
    have e1:(xs.take m.toNat).flatten=xs.flatten.take (m.toNat*sz):=S07 xs _ (λx hx=>(hall x hx).1)
    have e2:((xs.take m.toNat).drop l.toNat).flatten=((xs.take m.toNat).flatten).drop (l.toNat*sz):=z0f _ _ (λy hy=>(hall y (List.mem_of_mem_take hy)).1)
    rw[e2,e1,List.getElem?_drop,List.getElem?_take]at hj
    split at hj
    ·exact hj
    ·cases hj
 exact J6 s (av := .val _) (exec_slice ho hte hs gx (g06 s hl) (g06 s hm) h1 h2 h3 hnc) rfl (hk _ hnew λ_ _ _ e=>by cases e;rfl)
theorem K0m(s:Sim P h0 w0 be oe H st h a w){t e sz:Nat}{x:Operand}{lo hi:Option Operand}{i k:Nat}(ho:o.op = .slice t x lo hi none)(hte:S00 P t=some e)(hs:E5 P e=some sz)
  (hr:rdO st x = .own i k) (he:Y0j i (lo.map (rdO st)) (hi.map (rdO st)) st h K):o.wp P a w (Nx P h0 w0 st be oe K a o.dst) Q:=by
 have gx:=s.rdO x
 rw[hr]at gx
 obtain⟨e0,sz0,by0,nn0,xs,hn⟩:=c06 hr
 unfold Y0j at he
 split at he
 rotate_left
 ·exact he.elim
 rename_i kk m hlo hhi
 simp only[hn]at he
 obtain⟨⟨b1,b2⟩,hk⟩:=he
 have hlo':lo=none:=by cases lo<;>simp at hlo;rfl
 subst hlo'
 have hm:q04 a (xs.length:Int) hi m:=by
  cases hi with
  |none=>simp at hhi
  |some y =>
   have g:=s.rdO y
   simp only[Option.map_some,Option.some.injEq]at hhi
   rw[hhi]at g
   exact⟨kk,g⟩
 have hown:=s.own i _ _ _ _ _ _ hn
 have hx:=gx.own_cur hn
 have hsame:∀ v,v=oe i->v.ownBlock=(oe i).ownBlock:=λv hv=>by rw[hv]
 have main:∃ v,(∀ Kn:Next->Hp->Prop,Kn (.value v) H->wpS P (execOp a.eval o) H Kn)/\v.ownBlock=(oe i).ownBlock/\E05 h H v e0 sz0 nn0 (xs.take m.toNat):=by
  have hall:∀ y∈xs.take m.toNat,y.length=sz0/\∀ v∈y,v.oneCell'=true:=λy hy=>hown.1 y (List.mem_of_mem_take hy)
  rcases hown.2 with⟨h1,h2,h3⟩|⟨g,cap,cur,h1,h2,h3,h4,h5,h6,h7⟩
  ·rw[h1]at hx
   subst h2
   have hm0:m=0:=by simp at b2;omega
   subst hm0
   refine⟨_,exec_slice ho hte hs hx (l:=0) rfl hm (by omega) (by omega) (by simp) (Nat.le_refl _),?_,hall,.inl ⟨by simp,by simp,h3⟩⟩
   rw[h1];simp[Value.ownBlock]
  ·rw[h1]at hx
   refine⟨.slice (some ⟨g,0,none⟩) m.toNat cap,λKn hk=>exec_slice ho hte hs hx (l:=0) rfl hm (by omega) b1 b2 h4 Kn ?_,by rw[h1];rfl,hall,.inr ⟨g,cap,cur,?_,h2,h3,?_,h5,h6,?_⟩⟩
   ·have:(if cap=Int.toNat 0 then some (⟨g,0,none⟩:Addr)else(some (⟨g,0,none⟩:Addr)).map (·.add (Int.toNat 0*sz)))=some ⟨g,0,none⟩:=by
     simp[Addr.add]
    rw[this]
    simpa using hk
   ·have:(xs.take m.toNat).length=m.toNat:=by simp;omega
    rw[this]
   ·simp;omega
   ·have hl:(xs.take m.toNat).length=m.toNat:=by simp;omega
    rw[hl]
    have e1:(xs.take m.toNat).flatten=xs.flatten.take (m.toNat*sz0):=S07 xs _ (λx hx=>(hown.1 x hx).1)
    rw[e1,←h7,List.take_take]
    congr 1
    rw[Nat.min_eq_left (Nat.mul_le_mul_right _ (by omega))]
 obtain⟨v,hw,hb,hO⟩:=main
 obtain⟨nx,H',w',hrun,⟨rfl,rfl⟩,hmv⟩:=J9 _ _ _ s.mv.vis (hw (λn H'=>n = .value v/\H'=H) ⟨rfl,rfl⟩)
 obtain⟨s',gr⟩:=s.updOwn (s1:=k+1) (by_:=by0) hn (Nat.le_succ _) (λe=>absurd e (Nat.succ_ne_self k)) hmv (λ_ _ _=>rfl) hO (λg hg => .inl (by rw[←hb];exact hg))
 refine j7 hrun ⟨_,_,h,v,_,_,_,hk,rfl,s',?_,gr⟩
 refine⟨k+1,?_,Nat.le_refl _,λ_=>by simp⟩
 simp[stamp,Z6 _ _ _ (F01 hn)]
theorem exec_cutStr{t:TypeId}{x:Operand}{lo hi:Option Operand}{b:ByteArray}{l m:Int}(ho:o.op = .slice t x lo hi none)(hu:P.underlying t=some .string)
  (hx:a.eval x = .string b) (hl:q04 a 0 lo l) (hm:q04 a b.size hi m) (h1:0<=l) (h2:l<=m) (h3:m<=(b.size:Int)) :
  ∀ Kn:Next->Hp->Prop,Kn (.value (.string (b.extract l.toNat m.toNat))) H->wpS P (execOp a.eval o) H Kn:=by
 intro Kn hk
 unfold execOp;rw[ho]
 refine E7 _ _ _ ?_
 simp only[Instr.sliceAt,G2,C4 hu,Instr.slice,hx,Option.map_none,Option.isSome_none,Bool.false_eq_true,if_false,J2]
 rw[q0d hl hm h1 h2 h3 (Nat.le_refl _)]
 exact hk
theorem exec_index{t:TypeId}{x i:Operand}{b:ByteArray}{k:IntKind}{j:Int}{c:UInt8}(ho:o.op = .index t x i)(hu:P.underlying t=some .string)(hx:a.eval x = .string b)(hi:a.eval i = .int k j)
  (h1:0<=j) (hc:b[j.toNat]?=some c):∀ Kn:Next->Hp->Prop,Kn (.value (.int .u8 c.toNat)) H->wpS P (execOp a.eval o) H Kn:=by
 intro Kn hk
 unfold execOp;rw[ho]
 refine E7 _ _ _ ?_
 simp only[Instr.index,hx,hi,asIntOf,G2,J2,C4 hu,h1,if_true,hc]
 exact hk
theorem exec_quo{t t':TypeId}{x y:Operand}{b c:Int}(ho:o.op = .binOp .quo t x y t')(hx:a.eval x = .int .i64 b)(hy:a.eval y = .int .i64 c)(hl:c≠0):
  ∀ Kn:Next->Hp->Prop,Kn (.value (.int .i64 (IntKind.i64.wrap (b.tdiv c)))) H->wpS P (execOp a.eval o) H Kn:=by
 intro Kn hk
 unfold execOp;rw[ho]
 refine E7 _ _ _ ?_
 simp only[hx,hy,eqGuard,G2,Bool.not_false,if_true,J2,binOp,Go.Op.intDiv,if_neg hl,ne_eq,not_true_eq_false,if_false]
 exact hk
theorem exec_rem{t t':TypeId}{x y:Operand}{b c:Int}(ho:o.op = .binOp .rem t x y t')(hx:a.eval x = .int .i64 b)(hy:a.eval y = .int .i64 c)(hl:c≠0):
  ∀ Kn:Next->Hp->Prop,Kn (.value (.int .i64 (b.tmod c))) H->wpS P (execOp a.eval o) H Kn:=by
 intro Kn hk
 unfold execOp;rw[ho]
 refine E7 _ _ _ ?_
 simp only[hx,hy,eqGuard,G2,Bool.not_false,if_true,J2,binOp,Go.Op.intDiv,if_neg hl,ne_eq,not_true_eq_false,if_false]
 exact hk
theorem h0o{t t':TypeId}{x y:Operand}{b c:Int}(ho:o.op = .binOp .shl t x y t')(hx:a.eval x = .int .i64 b)(hy:a.eval y = .int .i64 c)(hl:0<=c):
  ∀ Kn:Next->Hp->Prop,Kn (.value (.int .i64 (IntKind.i64.wrap (b*2 ^ min c.toNat 64)))) H->wpS P (execOp a.eval o) H Kn:=by
 intro Kn hk
 unfold execOp;rw[ho]
 refine E7 _ _ _ ?_
 have hn : ¬ c<0:=by omega
 simp only[hx,hy,eqGuard,G2,Bool.not_false,if_true,J2,binOp,Go.Op.shift,if_neg hn,IntKind.bits]
 exact hk
theorem i0o{t t':TypeId}{x y:Operand}{b c:Int}(ho:o.op = .binOp .shr t x y t')(hx:a.eval x = .int .i64 b)(hy:a.eval y = .int .i64 c)(hl:0<=c):
  ∀ Kn:Next->Hp->Prop,Kn (.value (.int .i64 (b.fdiv (2 ^ min c.toNat 64)))) H->wpS P (execOp a.eval o) H Kn:=by
 intro Kn hk
 unfold execOp;rw[ho]
 refine E7 _ _ _ ?_
 have hn : ¬ c<0:=by omega
 simp only[hx,hy,eqGuard,G2,Bool.not_false,if_true,J2,binOp,Go.Op.shift,if_neg hn,IntKind.bits]
 exact hk
theorem exec_cat{t t':TypeId}{x y:Operand}{b c:ByteArray}(ho:o.op = .binOp .add t x y t')(hx:a.eval x = .string b)(hy:a.eval y = .string c)(hl:b.size+c.size<=9223372036854775807):
  ∀ Kn:Next->Hp->Prop,Kn (.value (.string (b++c))) H->wpS P (execOp a.eval o) H Kn:=by
 intro Kn hk
 unfold execOp;rw[ho]
 refine E7 _ _ _ ?_
 have hm : ¬ (((b.size+c.size:Nat):Int)>IntKind.i64.max):=by
  have:IntKind.i64.max=9223372036854775807:=by decide
  rw[this];omega
 simp only[hx,hy,eqGuard,G2,Bool.not_false,if_true,J2,binOp,Go.Op.stringOp,if_neg hm]
 exact hk
end
end Go.H
namespace Go.H
set_option linter.unusedVariables false
set_option linter.unusedSimpArgs false
section
variable {P:Program} {h0:Hp} {w0:World} {be:Nat->Nat} {oe:Nat->Value} {H:Hp} {st:St} {h:Hp} {a:Act} {w:World} {o:Oper} {K:AV->St->Hp->Prop} {Q:Exit->Act->World->Prop}
theorem Y0b:∀(ns c r:List Value) (k:Nat),k+ns.length<=c.length->U2 (c++r) k ns=U2 c k ns++r
 | [],c,r,k,_=>rfl
 |n::ns,c,r,k,hl=>by
  simp only[List.length_cons]at hl
  simp only[U2]
  rw[List.set_append_left _ _ (by omega),Y0b ns _ r (k+1) (by simp;omega)]
theorem L09:∀(ns x l:List Value) (k:Nat),U2 (x++l) (x.length+k) ns=x++U2 l k ns
 | [],x,l,k=>rfl
 |n::ns,x,l,k=>by
  simp only[U2]
  rw[List.set_append_right _ _ (by omega),Nat.add_sub_cancel_left,Nat.add_assoc,L09 ns x _ (k+1)]
theorem g07{sz:Nat}(ns:List Value)(k:Nat):∀(xs:List (List Value)) (i:Nat) (c:List Value),(∀ x∈xs,x.length=sz)->xs[i]?=some c->k+ns.length<=c.length ->
  (xs.set i (U2 c k ns)).flatten=U2 xs.flatten (i*sz+k) ns
 | [],i,c,_,h,_=>by simp at h
 |x::xs,0,c,hl,h,hk=>by
  simp at h;subst h
  simp only[List.set_cons_zero,List.flatten_cons,Nat.zero_mul,Nat.zero_add]
  rw[Y0b ns x _ k hk]
 |x::xs,i+1,c,hl,h,hk=>by
  simp at h
  have hx:=hl x mS
  simp only[List.set_cons_succ,List.flatten_cons]
  rw[g07 ns k xs i c (λy hy=>hl y (mC _ hy)) h hk]
  rw[show(i+1)*sz+k=x.length+(i*sz+k) from by rw[hx,Nat.add_mul];omega,L09]
theorem W04:∀(ns cs:List Value) (off N:Nat),(U2 cs off ns).take N=U2 (cs.take N) off ns
 | [],cs,off,N=>rfl
 |n::ns,cs,off,N=>by
  simp only[U2]
  rw[W04 ns _ (off+1) N,List.take_set]
theorem r0d:∀(ns cs:List Value) (off:Nat) (v:Value),v∈U2 cs off ns->v∈cs∨v∈ns
 | [],cs,off,v,h => .inl h
 |n::ns,cs,off,v,h=>by
  rcases r0d ns _ (off+1) v h with h|h
  ·rcases List.mem_or_eq_of_mem_set h with h|h
   ·exact .inl h
   ·exact .inr (by rw[h];exact mS)
  ·exact .inr (mC _ h)
theorem X0g(s:Sim P h0 w0 be oe H st h a w){t:TypeId}{p x:Operand}{i s0:Nat}{idx:Int}{sz k:Nat}(ho:o.op = .store t p x)(hr:rdO st p = .oel i s0 idx sz k)
  (he:rfy (rdO st x) st h λv st h=>match nth st.ow i,E5 P t with
   |some ⟨s',.live e sz' by_ nn xs⟩,some n=>match Z05 v.cells.toList n,e04 v.cells.toList,Nat.beq s' s0,Nat.beq sz' sz with
    |true,true,true,true=>∃ c,xs[idx.toNat]?=some c/\B0m c k v.cells.toList λc' =>
      K (.val undef) { st with ow:=r00 st.ow i ⟨s',.live e sz' by_ nn (xs.set idx.toNat c')⟩ } h
    |_,_,_,_=>False
   |_,_=>False):o.wp P a w (Nx P h0 w0 st be oe K a o.dst) Q:=by
 have gp:=s.rdO p
 rw[hr]at gp
 obtain⟨st1,h1,e1,s1,g1⟩:=B02 s (s.rdO x) he
 have gp1:=gp.grow g1
 split at e1
 rotate_left
 ·exact e1.elim
 rename_i s' e sz' by_ nn xs n hn hs
 split at e1
 rotate_left
 ·exact e1.elim
 rename_i hl hone hb1 hb2
 have hst:=Nat.eq_of_beq_eq_true hb1
 have hsz:=Nat.eq_of_beq_eq_true hb2
 subst hst;subst hsz
 obtain⟨c,hc,e2⟩:=e1
 unfold B0m at e2
 split at e2
 rotate_left
 ·exact e2.elim
 rename_i hfit
 have hfit:=Nat.le_of_ble_eq_true hfit
 have hlen:=t02 _ _ hl
 have hone':=s03 _ hone
 obtain⟨g,n',c',hg,hx⟩:=gp1.oel_cur hn
 have hown:=s1.own i _ _ _ _ _ _ hn
 rcases hown.2 with⟨hv,_⟩|⟨g',cap,cur,hv,hg1,hg2,hnc,hcm,hcs,htake⟩
 ·rw[hv]at hg;cases hg
 rw[hv]at hg;cases hg
 have hci:=(List.getElem?_eq_some_iff.1 hc)
 have hcl:c.length=sz':=(hown.1 c (List.mem_of_getElem? hc)).1
 have hb:idx.toNat*sz'+k+n<=cur.toList.length:=by
  have:(idx.toNat+1)*sz'<=c'*sz':=Nat.mul_le_mul_right _ (Nat.le_trans hci.1 hnc)
  rw[Nat.add_mul]at this
  simp only[Array.length_toList,hcs]
  omega
 have hw:=e06 (H:=H) (P:=P) (a:=a) (cur:=cur.toList) ho hs hx hlen hone' (by simpa using hg2) hb
 obtain⟨nx,H',w',hr',⟨rfl,rfl⟩,hm⟩:=J9 _ _ _ s1.mv.vis (hw (λn H'=>n = .skip/\H'=_) ⟨rfl,rfl⟩)
 rw[G05]at e2
 have hO:E05 h1 (H.set g (.cells (U2 cur.toList (idx.toNat*sz'+k) (a.eval x).cells.toList).toArray e (0,0))) (oe i) e sz' nn (xs.set idx.toNat (U2 c k (a.eval x).cells.toList)):=by
  refine⟨λy hy=>?_,.inr ⟨g,c',_,by simpa using hv,hg1,Hp.set_same _ _ _,by simpa using hnc,hcm,by simp[H8,hcs],?_⟩⟩
  ·rcases List.mem_or_eq_of_mem_set hy with hy|rfl
   ·exact hown.1 y hy
   ·refine⟨by rw[H8,hcl],λv hv'=>?_⟩
    rcases r0d _ _ _ _ hv' with h'|h'
    ·exact(hown.1 c (List.mem_of_getElem? hc)).2 v h'
    ·exact hone' v h'
  ·rw[g07 (sz:=sz') _ _ xs idx.toNat c (λx hx=>(hown.1 x hx).1) hc hfit,←htake]
   simp only[List.length_set]
   rw[W04]
 obtain⟨s'',gr⟩:=s1.updOwn (s1:=s') (by_:=by_) hn (Nat.le_refl _) (λ_=>rfl) hm (λb hb' _=>Hp.set_other _ _ (λe=>hb' (by rw[hv,e];rfl))) hO (λg' hg' => .inl hg')
 exact P07 hr' ⟨_,_,h1,_,_,_,_,e2,rfl,s'',rfl,g1.trans gr⟩
theorem Y0g(s:Sim P h0 w0 be oe H st h a w){t:TypeId}{p x:Operand}{sl:Value}{idx:Int}{sz k:Nat}{v:Value}(ho:o.op = .store t p x)(hr:rdO st p = .hel sl idx sz k)
    (hx:rdO st x = .val v) (hs:E5 P t=some 1)
    (he : ∃ b of n cp cur ty, (sl = .slice (some ⟨b, of, none⟩) n cp ∧ 0 ≤ idx ∧ h b = some (.cells cur ty (0, 0)) ∧ of + (idx.toNat * sz + k) < cur.size ∧ I02 v) ∧
            K (.val undef) st (h.set b (.cells (cur.setIfInBounds (of+(idx.toNat*sz+k)) v) ty (0,0)))):o.wp P a w (Nx P h0 w0 st be oe K a o.dst) Q:=by
  have gp:=s.rdO p
  rw[hr]at gp
  have gx:a.eval x=v:=by have:=s.rdO x;rw[hx]at this;exact this
  obtain⟨b,off,n,cp,cur,ty,⟨e1,_,hb,hlt,hone⟩,hk⟩:=he
  obtain⟨b',off',n',cp',e2,e3⟩:=gp
  rw[e1]at e2;cases e2
  have hcells:v.cells = #[v]:=by cases v<;>simp_all [I02,Value.cells]
  have hone':v.oneCell'=true:=by cases v<;>simp_all [I02,Value.oneCell']
  have hw:=e06 (H:=h) (P:=P) (a:=a) (cur:=cur.toList) ho hs e3 (by rw[gx,hcells];rfl) (by rw[gx,hcells];simpa using hone') (by simpa using hb) (by simp;omega)
  obtain⟨nx,h',w',hr',⟨rfl,rfl⟩,hm⟩:=J9 _ _ _ (c07 s) (hw (λn h'=>n = .skip/\h'=_) ⟨rfl,rfl⟩)
  obtain⟨H',s'⟩:=s.moved hm
  have harr:(U2 cur.toList (off+(idx.toNat*sz+k)) (a.eval x).cells.toList).toArray=cur.setIfInBounds (off+(idx.toNat*sz+k)) v:=by
    rw[gx,hcells]
    apply Array.ext'
    simp[U2]
  rw[harr]at s'
  exact P07 hr' ⟨_,_,_,_,_,_,_,hk,rfl,s',rfl,M6.refl _ _ _⟩
theorem A08(s:Sim P h0 w0 be oe H st h a w){t:TypeId}{p x:Operand}{sl:Value}{idx:Int}{sz k n:Nat}{new:List Value}(ho:o.op = .store t p x)(hr:rdO st p = .hel sl idx sz k)
  (hx:(a.eval x).cells.toList=new) (hs:E5 P t=some n) (hl:Z05 new n=true) (h1:e04 new=true)
  (he:x05 h sl idx (idx.toNat*sz+k) new λh'=>K (.val undef) st h'):o.wp P a w (Nx P h0 w0 st be oe K a o.dst) Q:=by
 have gp:=s.rdO p
 rw[hr]at gp
 obtain⟨b,off,n',cp,cur,ty,⟨e1,_,hb,hlt⟩,hk⟩:=he
 obtain⟨b',off',n2,cp',e2,e3⟩:=gp
 rw[e1]at e2;cases e2
 have hlen:=t02 _ _ hl
 have hw:=e06 (H:=h) (P:=P) (a:=a) (cur:=cur.toList) ho hs e3 (by rw[hx];exact hlen) (by rw[hx];exact s03 _ h1) (by simpa using hb) (by simp;omega)
 obtain⟨nx,h',w',hr',⟨rfl,rfl⟩,hm⟩:=J9 _ _ _ (c07 s) (hw (λn h'=>n = .skip/\h'=_) ⟨rfl,rfl⟩)
 obtain⟨H',s'⟩:=s.moved hm
 rw[G05]at hk
 rw[hx]at s'
 exact P07 hr' ⟨_,_,_,_,_,_,_,hk,rfl,s',rfl,M6.refl _ _ _⟩
theorem B08:∀(fs:List Field),w05 P fs=true->∃ places,fs.mapM (λf:Field=>(P.info? f.type).map λi=>(f.offset,i.size))=some places /\
  ∀(k:Nat) (f:Field) (n:Nat),fs[k]?=some f->E5 P f.type=some n->places[k]?=some (f.offset,n)
 | [],_=>⟨[],rfl,by simp⟩
 |f::r,h=>by
  simp only[w05]at h
  split at h
  ·rename_i m hm
   obtain⟨places,h1,h2⟩:=B08 r h
   unfold E5 at hm
   split at hm
   ·rename_i i hi
    cases hm
    refine⟨(f.offset,i.size)::places,by simp[List.mapM_cons,hi,h1],λk g n hk hn=>?_⟩
    cases k with
    |zero =>
     simp at hk
     subst hk
     unfold E5 at hn
     rw[hi]at hn
     cases hn
     simp
    |succ k=>simpa using h2 k g n (by simpa using hk) hn
   ·cases hm
  ·cases h
theorem M09{fs:Array Field}{places:List (Nat×Nat)}(hp:∀(k:Nat) (f:Field) (n:Nat),fs.toList[k]?=some f->E5 P f.type=some n->places[k]?=some (f.offset,n)){rd:Operand->AV}
  (hrd:∀ x cs,b00 (rd x)=some cs->U1 st oe cs (a.eval x).cells.toList):∀(l:List (Nat×Operand)) {cs:List l5} {vs:List Value} {K:List l5->Prop},U1 st oe cs vs->V06 P fs rd l cs K ->
  ∃ cs' vs',K cs'/\U1 st oe cs' vs'/\Instr.fill (places.toArray[·]?) vs.toArray (l.map λp=>(p.1,a.eval p.2))=some vs'.toArray
 | [],cs,vs,K,g,he=>⟨cs,vs,he,g,rfl⟩
 |(i,x)::r,cs,vs,K,g,he=>by
  simp only[V06]at he
  split at he
  rotate_left
  ·exact he.elim
  rename_i f new hf hn
  split at he
  rotate_left
  ·exact he.elim
  rename_i n hs
  split at he
  rotate_left
  ·exact he.elim
  rename_i hl hb
  have hlen:=t02 _ _ hl
  have hle:=Nat.le_of_ble_eq_true hb
  have gx:=hrd x new hn
  have hpl:=hp i f n (by simpa using hf) hs
  have hcl:=g.length
  have hxl:=gx.length
  obtain⟨cs',vs',k1,k2,k3⟩:=M09 hp hrd r (g.splice gx) he
  refine⟨cs',vs',k1,k2,?_⟩
  have hsz:(a.eval x).cells.size=n:=by rw[←hlen,hxl];simp
  simp only[List.map_cons,Instr.fill,List.getElem?_toArray,hpl,hsz,ne_eq,not_true_eq_false,decide_false,Bool.false_or,decide_eq_true_eq]
  rw[if_neg (by simp;omega)]
  have h2:=o0d (a.eval x) f.offset vs.toArray
  have h3:((a.eval x).cells.zipIdx.foldl (λcs (p:Value×Nat)=>cs.setIfInBounds (f.offset+p.2) p.1) vs.toArray)=(U2 vs f.offset (a.eval x).cells.toList).toArray:=by
   rw[←h2]
  rw[show((a.eval x).cells.zipIdx.foldl (λcs (x:Value×Nat)=>match x with|(c,j)=>cs.setIfInBounds (f.offset+j) c) vs.toArray)=(U2 vs f.offset (a.eval x).cells.toList).toArray from h3]
  simpa using k3
theorem p0i(s:Sim P h0 w0 be oe H st h a w){t:TypeId}{ps:Array (Nat×Operand)}{fs:Array Field}{z:Value}{rd:Operand->AV}{K':AV->Prop}(ho:o.op = .build t ps)(hu:P.underlying t=some (.struct fs))
  (hz:z00 P t=some z) (ha:w05 P fs.toList=true) (hrd:∀ x cs,b00 (rd x)=some cs->U1 st oe cs (a.eval x).cells.toList)
  (he:V06 P fs rd ps.toList (vals z.cells.toList) λcs=>K' (.agg cs)) :
  ∃ av v,K' av/\C2 st be oe av v/\∀ w:World,(execOp a.eval o).run P w = .ok (.value v) w:=by
 obtain⟨places,h1,h2⟩:=B08 fs.toList ha
 obtain⟨cs',vs',k1,k2,k3⟩:=M09 (st:=st) (oe:=oe) (a:=a) h2 hrd ps.toList (U1.vals st oe z.cells.toList) he
 have hz':=hz
 unfold z00 at hz'
 split at hz'
 rotate_left
 ·cases hz'
 rename_i i hi
 have hb:P.built t (ps.map λx=>(x.1,a.eval x.2)).toList=some vs'.toArray:=by
  unfold Program.built
  simp only[hi,hu,hz',h1]
  rw[show(Array.map (λx=>(x.1,a.eval x.2)) ps).toList=ps.toList.map λp=>(p.1,a.eval p.2) from by simp]
  simpa using k3
 refine⟨_,.agg vs'.toArray,k1,⟨vs',rfl,k2⟩,λw=>?_⟩
 unfold execOp;rw[ho]
 simp only[Sem.run_bind,run_build w t _ _ hb,Result.andThen_ok,Sem.run_pure]
theorem C08{sz:Nat}{rd:Operand->AV}
  (hrd:∀ x cs,b00 (rd x)=some cs->U1 st oe cs (a.eval x).cells.toList):∀(l:List (Nat×Operand)) {cs:List l5} {vs:List Value} {K:List l5->Prop},U1 st oe cs vs->v09 sz rd l cs K ->
  ∃ cs' vs',K cs'/\U1 st oe cs' vs'/\Instr.fill (λi=>some (i*sz,sz)) vs.toArray (l.map λp=>(p.1,a.eval p.2))=some vs'.toArray
 | [],cs,vs,K,g,he=>⟨cs,vs,he,g,rfl⟩
 |(i,x)::r,cs,vs,K,g,he=>by
  simp only[v09]at he
  split at he
  rotate_left
  ·exact he.elim
  rename_i new hn
  split at he
  rotate_left
  ·exact he.elim
  rename_i hl hb
  have hlen:=t02 _ _ hl
  have hle:=Nat.le_of_ble_eq_true hb
  have gx:=hrd x new hn
  have hcl:=g.length
  have hxl:=gx.length
  obtain⟨cs',vs',k1,k2,k3⟩:=C08 hrd r (g.splice gx) he
  refine⟨cs',vs',k1,k2,?_⟩
  have hsz:(a.eval x).cells.size=sz:=by rw[←hlen,hxl];simp
  simp only[List.map_cons,Instr.fill,hsz,ne_eq,not_true_eq_false,decide_false,Bool.false_or,decide_eq_true_eq]
  rw[if_neg (by simp;omega)]
  have h2:=o0d (a.eval x) (i*sz) vs.toArray
  have h3:((a.eval x).cells.zipIdx.foldl (λcs (p:Value×Nat)=>cs.setIfInBounds (i*sz+p.2) p.1) vs.toArray)=(U2 vs (i*sz) (a.eval x).cells.toList).toArray:=by
   rw[←h2]
  rw[show((a.eval x).cells.zipIdx.foldl (λcs (x:Value×Nat)=>match x with|(c,j)=>cs.setIfInBounds (i*sz+j) c) vs.toArray)=(U2 vs (i*sz) (a.eval x).cells.toList).toArray from h3]
  simpa using k3
theorem q0i(s:Sim P h0 w0 be oe H st h a w){t e:TypeId}{n sz:Nat}{ps:Array (Nat×Operand)}{z:Value}{rd:Operand->AV}{K':AV->Prop}(ho:o.op = .build t ps)(hu:P.underlying t=some (.array n e))
  (hz:z00 P t=some z) (hs:E5 P e=some sz) (hrd:∀ x cs,b00 (rd x)=some cs->U1 st oe cs (a.eval x).cells.toList)
  (he:v09 sz rd ps.toList (vals z.cells.toList) λcs=>K' (.agg cs)) :
  ∃ av v,K' av/\C2 st be oe av v/\∀ w:World,(execOp a.eval o).run P w = .ok (.value v) w:=by
 obtain⟨cs',vs',k1,k2,k3⟩:=C08 (st:=st) (oe:=oe) (a:=a) hrd ps.toList (U1.vals st oe z.cells.toList) he
 have hz':=hz
 unfold z00 at hz'
 split at hz'
 rotate_left
 ·cases hz'
 rename_i i hi
 unfold E5 at hs
 split at hs
 rotate_left
 ·cases hs
 rename_i ie hie
 cases hs
 have hb:P.built t (ps.map λx=>(x.1,a.eval x.2)).toList=some vs'.toArray:=by
  unfold Program.built
  simp only[hi,hu,hz',hie]
  rw[show(Array.map (λx=>(x.1,a.eval x.2)) ps).toList=ps.toList.map λp=>(p.1,a.eval p.2) from by simp]
  simpa using k3
 refine⟨_,.agg vs'.toArray,k1,⟨vs',rfl,k2⟩,λw=>?_⟩
 unfold execOp;rw[ho]
 simp only[Sem.run_bind,run_build w t _ _ hb,Result.andThen_ok,Sem.run_pure]
theorem d0f(s:Sim P h0 w0 be oe H st h a w){x:Operand}{cs:List l5}(he:U06 (rdO st x)=some cs):∃ vs:List Value,a.eval x = .agg vs.toArray/\U1 st oe cs vs:=by
 have g:=s.rdO x
 cases hr:rdO st x with
 |val v =>
  rw[hr]at he g
  cases v<;>simp only[U06,Option.some.injEq]at he<;>first|(subst he;exact⟨_,by rw[show a.eval x=_ from g],U1.vals _ _ _⟩)|cases he
 |agg cs' =>
  rw[hr]at he g
  simp only[U06,Option.some.injEq]at he
  subst he
  exact g
 |_=>rw[hr]at he;cases he
theorem j0o(s:Sim P h0 w0 be oe H st h a w){t:TypeId}{x:Operand}{k:Nat}{cs:List l5}{fs:Array Field}{f:Field}(ho:o.op = .field t x k)(hc:U06 (rdO st x)=some cs)
  (hu:P.underlying t=some (.struct fs)) (hf:fs[k]?=some f) (he:d04 P f.type cs f.offset λav=>K av st h):o.wp P a w (Nx P h0 w0 st be oe K a o.dst) Q:=by
 obtain⟨vs,hx,g⟩:=d0f s hc
 unfold d04 at he
 have fin:∀(av:AV) (v:Value),K av st h->C2 st be oe av v->(∀ Kn:Value->Hp->Prop,Kn v H->wpS P (part f.type vs.toArray f.offset) H Kn)->o.wp P a w (Nx P h0 w0 st be oe K a o.dst) Q:=by
  intro av v hk hg hw
  refine J6 s (λKn hk'=>?_) hg hk
  unfold execOp;rw[ho]
  refine E7 _ _ _ ?_
  simp only[Instr.field,G2,C4 hu,hf,hx,asAgg,J2]
  exact hw _ hk'
 split at he
 ·rename_i hag
  split at he
  ·rename_i n hn
   split at he
   ·refine fin _ (.agg ((vs.drop f.offset).take n).toArray) he ⟨_,rfl,(g.drop _).take _⟩ λKn hk=>?_
    simp only[part,G2,Q07 hag,if_true,V00 hn,J2]
    have:vs.toArray.extract f.offset (f.offset+n)=((vs.drop f.offset).take n).toArray:=by
     apply Array.ext'
     simp[List.take_drop]
    rw[this]
    exact hk
   ·exact he.elim
  ·exact he.elim
 ·rename_i hag
  split at he
  ·rename_i c hn
   obtain⟨v,hv,gc⟩:=g.nth hn
   refine fin _ v he (C2.ofCell gc) λKn hk=>?_
   simp only[part,G2,Q07 hag,Bool.false_eq_true,if_false]
   have:vs.toArray[f.offset]?=some v:=by simpa using hv
   simp only[this,J2]
   exact hk
  ·exact he.elim
 ·exact he.elim
theorem N09{t:TypeId}{e:TypeId}{x:Operand}{as:Array Operand}{ts:Array TypeId}{ad:Option Addr}{n c:Nat}(ho:o.op = .call { callee := .builtin .len,args:=as,argTypes:=ts })(ha:as = #[x])(hts:ts = #[t])
  (hte:S00 P t=some e) (hx:a.eval x = .slice ad n c) (w:World):(execOp a.eval o).run P w = .ok (.value (.int .i64 n)) w:=by
 subst ha;subst hts
 unfold execOp;rw[ho]
 simp only[resolve,invoke,builtin,Builtin.len_,Sem.run_bind,Sem.run_pure,Result.andThen_ok,List.map_toArray,List.map_cons,List.map_nil,hx,List.getElem?_toArray,List.getElem?_cons_zero,run_underlying (j9 hte),goInt]
end
end Go.H
namespace Go.H
set_option linter.unusedVariables false
set_option linter.unusedSimpArgs false
section
variable {P:Program} {h0:Hp} {w0:World} {be:Nat->Nat} {oe:Nat->Value} {H:Hp} {st:St} {h:Hp} {a:Act} {w:World} {o:Oper} {K:AV->St->Hp->Prop} {Q:Exit->Act->World->Prop}
theorem Q08(s:Sim P h0 w0 be oe H st h a w){av:AV}{v:Value}(hr:∀ w:World,(execOp a.eval o).run P w = .ok (.value v) w)(g:C2 st be oe av v)(hk:K av st h):o.wp P a w (Nx P h0 w0 st be oe K a o.dst) Q :=
 j7 (hr w) ⟨av,st,h,v,be,oe,H,hk,rfl,s,g,M6.refl _ _ _⟩
set_option maxHeartbeats 1000000 in
theorem Q9(s:Sim P h0 w0 be oe H st h a w)(he:F7 P o st h K):o.wp P a w (Nx P h0 w0 st be oe K a o.dst) Q:=by
 cases ho:o.op with
 |move x=>simp only[F7,ho]at he;exact p0l s (.inl ho) he
 |assign x=>simp only[F7,ho]at he;exact p0l s (.inr ho) he
 |box t x =>
  simp only[F7,ho]at he
  split at he
  ·rename_i cs hc;exact v0r s ho hc he
  ·exact he.elim
 |alloc t =>
  simp only[F7,ho]at he
  split at he
  ·rename_i z hz;exact g0o s ho hz he
  ·exact he.elim
 |fieldAddr t x k=>simp only[F7,ho]at he;exact R0g s ho he
 |indexAddr t x i=>simp only[F7,ho]at he;exact W0g s ho he
 |load t x =>
  simp only[F7,ho]at he
  split at he
  ·rename_i i off hr
   split at he
   ·rename_i cs ty hn;exact m0i s ho hr hn he
   ·exact he.elim
  ·rename_i sl idx sz k hr
   obtain⟨c,hc,hk⟩:=he
   exact n0i s ho hr hc hk
  ·rename_i i s0 idx sz k hr
   split at he
   ·rename_i st1 e sz' by_ nn xs hn
    split at he
    ·rename_i hb
     have hsz:=Nat.eq_of_beq_eq_true hb
     subst hsz
     obtain⟨c,hc,hk⟩:=he
     exact o0i s ho hr hn hc hk
    ·exact he.elim
   ·exact he.elim
  ·exact I8 s he
 |store t p x =>
  simp only[F7,ho]at he
  split at he
  ·rename_i i off hr
   split at he
   ·rename_i cs ty new n hn hc hs
    split at he
    ·rename_i hl h1;exact S0g s ho hr hn hc hs hl h1 he
    ·exact he.elim
   ·exact he.elim
  ·rename_i i s0 idx sz k hr
   exact X0g s ho hr he
  ·rename_i sl idx sz k hr
   split at he
   ·rename_i v hx
    split at he
    ·rename_i hs;exact Y0g s ho hr hx hs he
    ·rename_i n _ hs
     split at he
     ·rename_i hl h1
      exact A08 s ho hr (by have:=s.rdO x;rw[hx]at this;rw[show a.eval x=v from this]) hs hl h1 he
     ·exact he.elim
    ·exact he.elim
   ·rename_i cs hx
    split at he
    ·rename_i n new hs hv
     split at he
     ·rename_i hl h1
      refine A08 s ho hr ?_ hs hl h1 he
      have g:=s.rdO x
      rw[hx]at g
      obtain⟨vs,g1,g2⟩:=g
      rw[g1,d07 hv g2]
      rfl
     ·exact he.elim
    ·exact he.elim
   ·exact he.elim
  ·exact I8 s he
 |build t ps =>
  simp only[F7,ho]at he
  split at he
  ·rename_i fs z hu hz
   split at he
   ·rename_i ha
    obtain⟨av,v,k1,k2,k3⟩:=p0i (K':=λav=>K av st h) s ho hu hz ha (λx cs hc=>S03 s hc) he
    exact Q08 s k3 k2 k1
   ·exact he.elim
  ·rename_i n e z hu hz
   split at he
   ·rename_i sz hs
    obtain⟨av,v,k1,k2,k3⟩:=q0i (K':=λav=>K av st h) s ho hu hz hs (λx cs hc=>S03 s hc) he
    exact Q08 s k3 k2 k1
   ·exact he.elim
  ·exact he.elim
 |buildSlice t n ps =>
  simp only[F7,ho]at he
  split at he
  ·rename_i e hte
   split at he
   ·rename_i sz by_ z hs hb hz
    split at he
    ·rename_i hn hm hl;exact c0f s ho hte hs hz hn hm he
    ·exact he.elim
   ·exact he.elim
  ·exact he.elim
 |makeSlice t l c =>
  simp only[F7,ho]at he
  split at he
  ·rename_i e hte
   split at he
   ·rename_i sz by_ z kl nl kc nc hs hb hz hl hc
    split at he
    ·rename_i hzl hone;exact V0g s ho hte hs hb hz hl hc hzl hone he.1 he.2
    ·exact he.elim
   ·exact he.elim
  ·exact he.elim
 |field t x k =>
  simp only[F7,ho]at he
  split at he
  ·rename_i cs fs hc hu
   split at he
   ·rename_i f hf;exact j0o s ho hc hu hf he
   ·exact he.elim
  ·exact he.elim
 |slice t x lo hi mx =>
  cases mx with
  |some m=>simp only[F7,ho]at he;exact s00 s he
  |none =>
   simp only[F7,ho]at he
   split at he
   ·rename_i i k hr
    split at he
    ·rename_i e hte
     split at he
     ·rename_i sz hs;exact K0m s ho hte hs hr he
     ·exact he.elim
    ·exact he.elim
   ·rename_i ad n c hr
    split at he
    ·rename_i e hte
     split at he
     ·rename_i sz hs;exact J0m s ho hte hs hr he
     ·exact he.elim
    ·exact he.elim
   ·rename_i b hr
    split at he
    ·rename_i hu
     unfold T0n at he
     split at he
     ·rename_i l m hl hm
      have gx:a.eval x = .string b:=by have:=s.rdO x;rw[hr]at this;exact this
      obtain⟨⟨h1,h2,h3⟩,hk⟩:=he
      exact J6 s (av := .val _) (exec_cutStr ho hu gx (g06 s hl) (g06 s hm) h1 h2 h3) rfl hk
     ·exact he.elim
    ·exact he.elim
   ·exact he.elim
 |index t x i =>
  simp only[F7,ho]at he
  split at he
  ·rename_i b k j hx hi hu
   have gx:a.eval x = .string b:=by have:=s.rdO x;rw[hx]at this;exact this
   have gi:a.eval i = .int k j:=by have:=s.rdO i;rw[hi]at this;exact this
   obtain⟨c,⟨h1,h2⟩,hk⟩:=he
   exact J6 s (av := .val _) (exec_index ho hu gx gi h1 h2) rfl hk
  ·exact I8 s he
 |binOp op t x y t' =>
  cases op with
  |add =>
   simp only[F7,ho]at he
   split at he
   ·rename_i b c hx hy
    have gx:a.eval x = .string b:=by have:=s.rdO x;rw[hx]at this;exact this
    have gy:a.eval y = .string c:=by have:=s.rdO y;rw[hy]at this;exact this
    exact J6 s (av := .val _) (exec_cat ho gx gy he.1) rfl he.2
   ·exact I8 s he
  |quo =>
   simp only[F7,ho]at he
   split at he
   ·rename_i b c hx hy
    have gx:a.eval x = .int .i64 b:=by have:=s.rdO x;rw[hx]at this;exact this
    have gy:a.eval y = .int .i64 c:=by have:=s.rdO y;rw[hy]at this;exact this
    exact J6 s (av := .val _) (exec_quo ho gx gy he.1) rfl he.2
   ·exact I8 s he
  |rem =>
   simp only[F7,ho]at he
   split at he
   ·rename_i b c hx hy
    have gx:a.eval x = .int .i64 b:=by have:=s.rdO x;rw[hx]at this;exact this
    have gy:a.eval y = .int .i64 c:=by have:=s.rdO y;rw[hy]at this;exact this
    exact J6 s (av := .val _) (exec_rem ho gx gy he.1) rfl he.2
   ·exact I8 s he
  |shl =>
   simp only[F7,ho]at he
   split at he
   ·rename_i b c hx hy
    have gx:a.eval x = .int .i64 b:=by have:=s.rdO x;rw[hx]at this;exact this
    have gy:a.eval y = .int .i64 c:=by have:=s.rdO y;rw[hy]at this;exact this
    exact J6 s (av := .val _) (h0o ho gx gy he.1) rfl he.2
   ·exact I8 s he
  |shr =>
   simp only[F7,ho]at he
   split at he
   ·rename_i b c hx hy
    have gx:a.eval x = .int .i64 b:=by have:=s.rdO x;rw[hx]at this;exact this
    have gy:a.eval y = .int .i64 c:=by have:=s.rdO y;rw[hy]at this;exact this
    exact J6 s (av := .val _) (i0o ho gx gy he.1) rfl he.2
   ·exact I8 s he
  |eql =>
   simp only[F7,ho]at he
   split at he
   ·rename_i xs ys hx hy
    obtain⟨b,h1,hk⟩:=he
    exact Q08 s (av := .val _) (h1 _ (i7 hx (s.rdO x)) (i7 hy (s.rdO y))) rfl hk
   ·rename_i a0 n0 m0 hx hy
    obtain⟨b,h1,hk⟩:=he
    exact Q08 s (av := .val _) (h1 _ (i7 hx (s.rdO x)) (i7 hy (s.rdO y))) rfl hk
   ·exact s00 s he
  |neq =>
   simp only[F7,ho]at he
   split at he
   ·rename_i xs ys hx hy
    obtain⟨b,h1,hk⟩:=he
    exact Q08 s (av := .val _) (h1 _ (i7 hx (s.rdO x)) (i7 hy (s.rdO y))) rfl hk
   ·exact s00 s he
  |_=>simp only[F7,ho]at he;exact s00 s he
 |convert tf tt x =>
  simp only[F7,ho]at he
  split at he
  ·rename_i i k hr
   split at he
   ·rename_i s0 e0 sz by_ nn xs e hn hu1 hu2
    split at he
    ·rename_i hu3
     obtain⟨ns,hxs,hk⟩:=he
     obtain⟨e1,sz1,by1,nn1,xs1,hn1⟩:=c06 hr
     have g:=s.rdO x
     rw[hr]at g
     have hx:=g.own_cur hn1
     have hown:=s.own i _ _ _ _ _ _ hn
     have run:(execOp a.eval o).run P w = .ok (.value (.string (strOfNums ns))) w:=by
      unfold execOp
      rw[ho]
      rcases hown.2 with⟨hv,hxe,_⟩|⟨g',cap,cur,hv,_,hH,hc1,hc2,hc3,hcur⟩
      ·rw[hxe]at hxs
       have hns:ns = []:=by cases ns with
        |nil=>rfl
        |cons n r=>cases hxs
       subst hns
       rw[hv]at hx
       simp only[hx,Sem.run_bind,run_convert_bytes_nil w tf e hu1 hu3 0 0 tt hu2,Result.andThen_ok,Sem.run_pure]
       rfl
      ·rw[hv]at hx
       have hl:ns.length=xs.length:=by rw[hxs];simp
       have hcell:∀ j,j<xs.length->w.cell? ⟨g',0+j,none⟩=some (.int .u8 (ns.getD j 0)):=λj hj=>by
        have hsz:sz=1:=by
         have:=(hown.1 _ (List.getElem_mem hj)).1
         rw[←this]
         simp only[hxs,List.getElem_map]
         rfl
        subst hsz
        have hf:xs.flatten=ns.map (Value.int .u8):=by
         rw[hxs]
         clear hxs hl hj hn hown hcur hk
         induction ns with
         |nil=>rfl
         |cons n r ih=>simp[ih]
        have hwc:=f0o s _ _ hH
        have h2:=congrArg (λl:List Value=>l[j]?) (hcur.trans hf)
        simp only[List.getElem?_take,Nat.mul_one,if_pos hj,List.getElem?_map,Array.getElem?_toList]at h2
        simp only[World.cell?,hwc,Nat.zero_add]
        rw[if_neg (by simp),h2]
        simp[List.getD_eq_getElem?_getD,List.getElem?_eq_getElem (show j<ns.length by omega)]
       simp only[hx,Sem.run_bind,run_convert_bytes_arg w tf e hu1 hu3 g' 0 xs.length cap ns hl hcell tt hu2,Result.andThen_ok,Sem.run_pure]
     exact j7 run ⟨_,_,_,_,_,_,_,hk,rfl,s,rfl,M6.refl _ _ _⟩
    ·exact he.elim
   ·exact s00 s he
  ·exact s00 s he
 |call c =>
  obtain⟨cal,as,ts⟩:=c
  cases cal with
  |builtin b =>
   cases b with
   |len =>
    simp only[F7,ho]at he
    split at he
    ·rename_i x t ha ht
     have ha':as = #[x]:=by apply Array.ext';simpa using ha
     have ht':ts = #[t]:=by apply Array.ext';simpa using ht
     split at he
     ·rename_i i k hr
      split at he
      ·rename_i s0 e sz by_ nn xs e' hn hte
       obtain⟨e1,sz1,by1,nn1,xs1,hn1⟩:=c06 hr
       have g:=s.rdO x
       rw[hr]at g
       have hx:=g.own_cur hn1
       have hown:=s.own i _ _ _ _ _ _ hn
       rcases hown.2 with⟨hv,hxs,_⟩|⟨g',cap,cur,hv,_⟩
       ·rw[hv]at hx
        refine Q08 s (av := .val _) (N09 ho ha' ht' hte hx) ?_ he
        rw[hxs];rfl
       ·rw[hv]at hx
        exact Q08 s (av := .val _) (N09 ho ha' ht' hte hx) rfl he
      ·exact he.elim
     ·exact I8 s he
    ·exact he.elim
   |append =>
    simp only[F7,ho]at he
    split at he
    ·rename_i x y t t' ha ht
     split at he
     ·rename_i hb
      have:=Nat.eq_of_beq_eq_true hb
      subst this
      exact H0m s ho (by apply Array.ext';simpa using ha) (by apply Array.ext';simpa using ht) he
     ·exact he.elim
    ·exact he.elim
   |_=>simp only[F7,ho]at he;exact s00 s he
  |value f=>simp only[F7,ho]at he;exact s00 s he
  |invoke r m=>simp only[F7,ho]at he;exact s00 s he
 |lookup _ _ _ _=>simp only[F7,ho]at he;exact O08 s he
 |mapUpdate _ _ _ _=>simp only[F7,ho]at he;exact O08 s he
 |insert _ _ _ _=>simp only[F7,ho]at he;exact O08 s he
 |_=>simp only[F7,ho]at he;exact s00 s he
end
end Go.H
