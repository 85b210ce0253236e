/- Plain laws over the model: a slice in fresh memory that loses a row in its place; what is fresh beside it stays. -/
import Derived.Test.YtkjhghloldgioaaGreatH40
namespace Go.H
set_option linter.unusedVariables false
theorem I0n(m k:Nat):(List.replicate m k).sum=m*k:=by
 induction m with
 |zero=>simp
 |succ m ih=>rw[List.replicate_succ,List.sum_cons,ih,Nat.succ_mul,Nat.add_comm]
theorem F3.drop{α β γ:Type}{p:α->β->γ->Prop}:∀ {as:List α} {bs:List β} {cs:List γ} (m:Nat),F3 p as bs cs->F3 p (as.drop m) (bs.drop m) (cs.drop m)
 | [],[],[],m,_=>by simp[F3]
 |a::as,b::bs,c::cs,0,h=>h
 |a::as,b::bs,c::cs,m+1,h=>by simp only[List.drop_succ_cons];exact F3.drop m h.2
theorem New.keep{β:Type}{r2:Wp β}{h0 h1 hh h h':Hp}{cs:List Value}{y:β}{g:Nat}(w:New r2 hh h cs y)(s01:Sub h0 h1)(sh:Sub h1 hh)(hg:h1 g≠none)(s:Sub h0 h'){g':Nat}(hgg:g'=g∨h g'=none)(hk:∀ b,b≠g'->h' b=h b):New r2 h0 h' cs y:=by
 obtain⟨B,w1,f,s1⟩:=w
 have hne:∀ b∈B,b≠g':=λb hb e=>by
  subst e
  rcases hgg with e1|hn
  ·have h2:=f.2 b hb
   rw[e1]at h2
   obtain⟨x,hx⟩:=Option.ne_none_iff_exists'.1 hg
   rw[sh _ _ hx]at h2;cases h2
  ·exact r2.dom w1 b hb hn
 refine⟨B,r2.frame w1 λb hb=>hk b (hne b hb),⟨f.1,λb hb=>?_⟩,s⟩
 have h2:=f.2 b hb
 cases ho:h0 b with
 |none=>rfl
 |some o=>rw[sh _ _ (s01 _ _ ho)]at h2;cases h2
theorem New.sndI{β:Type}{r2:Wp β}{h h':Hp}{a:Int}{cs:List Value}{x:Int}{y:β}(w:New (Wp.pair Wp.int r2) h h' (.int .i64 a::cs) (x,y)):New r2 h h' cs y:=by
 obtain⟨B,⟨c1,c2,B1,B2,e1,rfl,⟨⟨q1,_⟩,q2⟩,w2⟩,f,s⟩:=w
 have hl:c1.length=1:=by rw[q1];rfl
 match c1,hl with
 | [c],_ =>
  simp at e1
  rw[e1.2]
  refine⟨B2,w2,⟨(List.nodup_append.1 f.1).2.1,λb hb=>f.2 b (List.mem_append_right _ hb)⟩,s⟩
theorem New.drop{α:Type}{r:Wp α}{h0 h1 h:Hp}{a:Option Addr}{n c:Nat}{xs ys zs:List α}(w:New r.slice h0 h1 [.slice a n c] xs)(s:Sub h1 h){i j:Int}(c1:j07 xs 0 i=some ys)(c2:j07 xs j (xs.length:Int)=some zs)(hij:i<j):
  (∀ v,O0g r.sz (.slice a n c) (0:Int).toNat i.toNat v->v = .slice a ys.length c)/\((0:Int)<=0/\0<=i/\i<=(n:Int))/\(∀ h',Sub h h'->∃ vs,SlE h' r.sz (.slice a n c) vs) /\
  ∃ g o A C vs1 vs2,a=some ⟨g,o,none⟩/\(∀ v,O0g r.sz (.slice a n c) j.toNat (xs.length:Int).toNat v->v = .slice A zs.length C)/\(0<=j/\j<=(xs.length:Int)/\(xs.length:Int)<=(n:Int))/\zs.length<=C/\C<=9223372036854775807 /\
  u0j h r.sz (.slice (some ⟨g,o,none⟩) ys.length c) vs1/\SlE h r.sz (.slice A zs.length C) vs2/\vs1.length=ys.length/\vs2.length=zs.length /\
  ∀(h':Hp) (v':Value),I0k h h' r.sz g v' (vs1++vs2)->New r.slice h0 h' [v'] (ys++zs)/\(∃ a' n' c',v' = .slice a' n' c') /\
   ∀ {β:Type} (r2:Wp β) (hh:Hp) (cs:List Value) (y:β),New r2 hh h cs y->Sub h1 hh->New r2 h0 h' cs y:=by
 have hR:=w.r
 obtain⟨B,⟨v,vs,B1,Bs0,e1,⟨hall,hrow⟩,hF,rfl⟩,hB,hs⟩:=w
 cases e1
 obtain⟨⟨b1,b2,b3⟩,rfl⟩:=m04 c1
 obtain⟨⟨d1,d2,d3⟩,rfl⟩:=m04 c2
 have hl:=hF.lens
 rcases hrow with⟨e,rfl,_⟩|⟨g,o,c0,cur,ty,e,k1,k2,k3,rfl,k4,k5⟩
 ·exfalso
  have:xs.length=0:=by rw[←hl.1];rfl
  omega
 cases e
 have hn:vs.length=xs.length:=hl.1
 have hLi:(xs.take i.toNat).length=i.toNat:=by rw[List.length_take];omega
 have hF1:F3 (r.W h) vs xs Bs0:=c0b hF s
 have hg:=s g _ k3
 have hy:List.drop (0:Int).toNat (xs.take i.toNat)=xs.take i.toNat:=rfl
 have hz:List.drop j.toNat (xs.take (xs.length:Int).toNat)=xs.drop j.toNat:=by rw[show((xs.length:Int)).toNat=xs.length by omega,List.take_length]
 rw[hy,hz]
 have hLz:(xs.drop j.toNat).length=xs.length-j.toNat:=List.length_drop
 have fl1:∀ m:Nat,m<=vs.length->∀ q u,(vs.take m).flatten[q]?=some u->cur[o+q]?=some u:=λm hm q u hq=>by
  refine k4 q u ?_
  have:vs.flatten=(vs.take m).flatten++(vs.drop m).flatten:=by rw[←List.flatten_append,List.take_append_drop]
  rw[this,List.getElem?_append_left]
  ·exact hq
  ·exact(List.getElem?_eq_some_iff.1 hq).1
 have hsz:∀ m:Nat,m<=vs.length->(vs.take m).flatten.length=m*r.sz:=λm hm=>by
  rw[List.length_flatten]
  have:(vs.take m).map List.length=List.replicate m r.sz:=by
   apply List.ext_getElem
   ·rw[List.length_map,List.length_take,List.length_replicate];omega
   ·intro q q1 q2
    simp only[List.getElem_map,List.getElem_replicate]
    exact(hall _ (List.mem_of_mem_take (List.getElem_mem _))).1
  rw[this,I0n]
 have fl2:∀ q u,(vs.drop j.toNat).flatten[q]?=some u->cur[o+j.toNat*r.sz+q]?=some u:=λq u hq=>by
  have h3:vs.flatten=(vs.take j.toNat).flatten++(vs.drop j.toNat).flatten:=by rw[←List.flatten_append,List.take_append_drop]
  have h4:=hsz j.toNat (by omega)
  have:=k4 (j.toNat*r.sz+q) u (by
   rw[h3,List.getElem?_append_right (by omega),h4]
   rw[show j.toNat*r.sz+q-j.toNat*r.sz=q by omega];exact hq)
  rw[←this];congr 1;omega
 refine⟨λv hv=>?_,⟨by omega,b2,by omega⟩,λh' sh=>⟨vs,?_⟩,g,o,(if c=j.toNat then(some ⟨g,o,none⟩:Option Addr)else(some ⟨g,o,none⟩:Option Addr).map (·.add (j.toNat*r.sz))),c-j.toNat,vs.take i.toNat,vs.drop j.toNat,rfl,λv hv=>?_,⟨by omega,d2,by omega⟩,by omega,by omega,?_,?_,by rw[List.length_take,hLi];omega,by rw[List.length_drop,hLz];omega,?_⟩
 ·have:=hv _ _ _ rfl
  rw[this,hLi]
  simp only[Int.toNat_zero,Nat.zero_mul,Nat.sub_zero]
  split<;>simp[Addr.add]
 ·refine⟨hall,some ⟨g,o,none⟩,vs.length,c,rfl,rfl,k1,.inr ⟨g,o,rfl,λj u hj=>?_⟩⟩
  rw[Hp.cell,sh _ _ hg];exact k4 j u hj
 ·have:=hv _ _ _ rfl
  rw[this,hLz,show((xs.length:Int)).toNat=xs.length by omega]
 ·refine⟨λx hx=>hall x (List.mem_of_mem_take hx),g,o,c,cur,ty,?_,?_,by simpa [maxLen] using k2,k5,hg,fl1 _ (by omega)⟩
  ·rw[hLi,List.length_take,Nat.min_eq_left (by omega)]
  ·rw[List.length_take];omega
 ·refine⟨λx hx=>hall x (List.mem_of_mem_drop hx),_,_,_,rfl,by rw[hLz,List.length_drop,hn],by rw[hLz];omega,?_⟩
  by_cases hc:c=j.toNat
  ·left
   rw[List.drop_eq_nil_of_le (by omega)];rfl
  ·right
   rw[if_neg hc]
   refine⟨g,o+j.toNat*r.sz,by simp[Addr.add],λq u hq=>?_⟩
   rw[Hp.cell,hg];exact fl2 q u hq
 ·rintro h' v' ⟨⟨hall',g1,o1,c1',cur1,ty1,rfl,q1,q2,q3,q4,q5⟩,g',o',n',c',e',hgg,hkeep⟩
  cases e'
  have hB':=hB
  rw[c5,List.nodup_append]at hB'
  obtain⟨⟨_,hnd,hdis⟩,hfr⟩:=hB'
  have hg0:∀ b∈Bs0.flatten,b≠g:=λb hb e=>hdis g (List.mem_singleton.2 rfl) b hb e.symm
  have hne0:∀ b∈Bs0.flatten,b≠g1:=λb hb e=>by
   rcases hgg with rfl|hn
   ·exact hg0 b hb e
   ·exact l04 hF1 b hb (by rw[e];exact hn)
  have h0g:h0 g1=none:=by
   rcases hgg with rfl|hn
   ·exact hfr _ (List.mem_append_left _ (List.mem_singleton.2 rfl))
   ·cases ho:h0 g1 with
    |none=>rfl
    |some x=>rw[s _ _ (hs _ _ ho)]at hn;cases hn
  have hsub:Sub h0 h':=λb x hx=>by
   rw[hkeep b (λe=>by rw[e,h0g]at hx;cases hx)]
   exact s _ _ (hs _ _ hx)
  have hsl:(Bs0.take i.toNat++Bs0.drop j.toNat).Sublist Bs0:=by
   have h3:Bs0.drop j.toNat=(Bs0.drop i.toNat).drop (j.toNat-i.toNat):=by rw[List.drop_drop];congr 1;omega
   rw[h3]
   conv=>rhs;rw[←List.take_append_drop i.toNat Bs0]
   exact List.Sublist.append (List.Sublist.refl _) (List.drop_sublist _ _)
  have hfs:=c5.sublist (h:=h0) (Bs:=Bs0) ⟨hnd,λb hb=>hfr b (List.mem_append_right _ hb)⟩ hsl
  have hmem:∀ b∈(Bs0.take i.toNat++Bs0.drop j.toNat).flatten,b∈Bs0.flatten:=λb hb=>by
   obtain⟨B',hB',hb'⟩:=List.mem_flatten.1 hb
   exact List.mem_flatten.2 ⟨B',hsl.subset hB',hb'⟩
  have hFz:F3 (r.W h) (vs.take i.toNat++vs.drop j.toNat) (xs.take i.toNat++xs.drop j.toNat) (Bs0.take i.toNat++Bs0.drop j.toNat):=(F3.take _ hF1).append (F3.drop _ hF1)
  refine⟨⟨[g1]++(Bs0.take i.toNat++Bs0.drop j.toNat).flatten,⟨_,_,[g1],_,rfl,⟨hall',.inr ⟨g1,o1,c1',cur1,ty1,rfl,q1,by simpa [maxLen] using q2,q4,rfl,q5,q3⟩⟩,?_,rfl⟩,⟨?_,?_⟩,hsub⟩,⟨_,_,_,rfl⟩,?_⟩
  ·exact W01 hFz λb hb=>hkeep b (hne0 b (hmem b hb))
  ·rw[List.nodup_append]
   refine⟨by simp,hfs.1,λa ha b hb=>?_⟩
   simp only[List.mem_singleton]at ha
   subst ha
   exact λe=>hne0 b (hmem b hb) e.symm
  ·intro b hb
   rcases List.mem_append.1 hb with hb|hb
   ·simp only[List.mem_singleton]at hb;rw[hb];exact h0g
   ·exact hfs.2 b hb
  ·intro β r2 hh cs y wy sh
   exact New.keep wy hs sh (by rw[k3];simp) hsub hgg hkeep
theorem E0o{α:Type}{xs ys zs:List α}{i:Int}(hl:xs.length<=9223372036854775807)(c1:j07 xs 0 i=some ys)(c2:j07 xs (IntKind.i64.wrap (i+1)) (xs.length:Int)=some zs):i<IntKind.i64.wrap (i+1):=by
 obtain⟨⟨b1,b2,b3⟩,_⟩:=m04 c1
 obtain⟨⟨d1,d2,d3⟩,_⟩:=m04 c2
 simp only[IntKind.wrap,IntKind.bits,IntKind.signed,Bool.true_and]at d1 d2 ⊢
 split at d1<;>rename_i hb
 ·omega
 ·rw[if_neg hb]at d2 ⊢
  have : ¬ ((i+1) % 2 ^ 64 ≥ 2 ^ (64-1)):=by simpa using hb
  omega
theorem New.blk{α:Type}{r:Wp α}{h0 h1 H:Hp}{g o n c:Nat}{xs:List α}(w:New r.slice h0 h1 [.slice (some ⟨g,o,none⟩) n c] xs)(s:Sub h1 H)(hn:H g=none):False:=by
 obtain⟨B,⟨v,vs,B1,Bs0,e1,⟨hall,hrow⟩,hF,rfl⟩,hB,hs⟩:=w
 cases e1
 rcases hrow with⟨e,_⟩|⟨g0,o0,c0,cur,ty,e,k1,k2,k3,rfl,k4,k5⟩
 ·cases e
 cases e
 have:=s g _ k3
 rw[hn]at this;cases this
theorem New.two{α:Type}{r:Wp α}{h0 h:Hp}{a:Option Addr}{c:Nat}{xs:List α}(w:New r.slice h0 h [.slice a xs.length c] xs):(a=none/\c=0/\xs = [])∨∃ g o,a=some ⟨g,o,none⟩:=by
 obtain⟨B,⟨v,vs,B1,Bs0,e1,⟨hall,hrow⟩,hF,rfl⟩,hB,hs⟩:=w
 cases e1
 have hl:=hF.lens
 rcases hrow with⟨e,_⟩|⟨g0,o0,c0,cur,ty,e,_⟩
 ·simp only[Value.slice.injEq]at e
  exact .inl ⟨e.1,e.2.2,List.eq_nil_of_length_eq_zero e.2.1⟩
 ·simp only[Value.slice.injEq]at e
  exact .inr ⟨_,_,e.1⟩
theorem c5.older{h1 h2:Hp}(s:Sub h1 h2){B:List Nat}(f:c5 h2 B):c5 h1 [B].flatten:=by
 rw[List.flatten_cons,List.flatten_nil,List.append_nil]
 refine⟨f.1,λb hb=>?_⟩
 cases ho:h1 b with
 |none=>rfl
 |some o=>have:=s _ _ ho;rw[f.2 b hb]at this;cases this
def NB{α:Type}(r:Wp α)(h0 H:Hp)(cs:List Value)(x:α)(B:List Nat):Prop:=r.W H cs x B/\c5 h0 B
theorem NB.fin{α:Type}{r:Wp α}{h0 H:Hp}{cs:List Value}{x:α}{B:List Nat}(a:NB r h0 H cs x B)(s:Sub h0 H):New r h0 H cs x:=⟨B,a.1,a.2,s⟩
theorem NB.pair{α β:Type}{r:Wp α}{q:Wp β}{h0 H:Hp}{c1 c2:List Value}{x:α}{y:β}{B1 B2:List Nat}(a:NB r h0 H c1 x B1)(b:NB q h0 H c2 y B2)(d:∀ z∈B1,z ∉ B2):NB (r.pair q) h0 H (c1++c2) (x,y) (B1++B2) :=
 ⟨⟨c1,c2,B1,B2,rfl,rfl,a.1,b.1⟩,List.nodup_append.2 ⟨a.2.1,b.2.1,λz hz w hw e=>d z hz (by rw[e];exact hw)⟩,λz hz=>by
  rcases List.mem_append.1 hz with h|h
  ·exact a.2.2 z h
  ·exact b.2.2 z h⟩
theorem NB.mk{α:Type}{r:Wp α}{h0 h1 h2 H:Hp}{cs:List Value}{x:α}{B:List Nat}(w:r.W h2 cs x B)(s:Sub h2 H)(f:c5 h1 B)(t:Sub h0 h1):NB r h0 H cs x B :=
 ⟨Wp.sub w s,f.1,λb hb=>by
  cases ho:h0 b with
  |none=>rfl
  |some o=>have:=t _ _ ho;rw[f.2 b hb]at this;cases this⟩
theorem NB.int{h0 H:Hp}{x:Int}(hx:O0 x):NB Wp.int h0 H [.int .i64 x] x []:=⟨⟨⟨rfl,hx⟩,rfl⟩,c5.nil _⟩
theorem NB.nil{α:Type}{r:Wp α}{h0 H:Hp}:NB r.slice h0 H [.slice none 0 0] [] []:=⟨⟨_,[],[],[],rfl,⟨by simp,.inl ⟨rfl,rfl,rfl⟩⟩,trivial,rfl⟩,c5.nil _⟩
theorem NB.d0{B:List Nat}:∀ z∈([]:List Nat),z ∉ B:=λz hz=>by cases hz
def Mid{α:Type}(r:Wp α)(h0 h:Hp)(g o n c i j:Nat)(xs:List α)(h':Hp):Prop:=∃ vs Bs cur ty,
 ((∀ x∈vs,x.length=r.sz/\∀ v∈x,v.oneCell'=true)/\n=vs.length/\vs.length<=c/\c<=9223372036854775807/\h g=some (.cells cur ty (0,0)) /\
  (∀ j u,vs.flatten[j]?=some u->cur[o+j]?=some u)/\o+c*r.sz<=cur.size) /\
 F3 (r.W h) vs xs Bs/\c5 h0 ([g]++Bs.flatten)/\Sub h0 h /\
 ∃ u,vs[j]?=some u/\h'=h.set g (.cells (splice cur.toList (o+i*r.sz) u).toArray ty (0,0))
theorem H0g{sz:Nat}:∀(vs:List (List Value)) (i:Nat) (u:List Value),(∀ x∈vs,x.length=sz)->vs[i]?=some u->∀ k v,u[k]?=some v->vs.flatten[i*sz+k]?=some v
 | [],_,_,_,h=>by simp at h
 |x::r,0,u,hl,h=>by
  intro k v hk
  simp only[List.getElem?_cons_zero,Option.some.injEq]at h
  subst h
  have:k<x.length:=(List.getElem?_eq_some_iff.1 hk).1
  rw[List.flatten_cons,Nat.zero_mul,Nat.zero_add,List.getElem?_append_left this];exact hk
 |x::r,i+1,u,hl,h=>by
  intro k v hk
  have h2:=H0g r i u (λy hy=>hl y (mC _ hy)) (by simpa using h) k v hk
  have h3:=hl x (List.mem_cons_self)
  rw[List.flatten_cons,List.getElem?_append_right (by rw[h3,Nat.add_mul];omega),h3,show(i+1)*sz+k-sz=i*sz+k by rw[Nat.add_mul];omega];exact h2
theorem D0m{sz:Nat}{h:Hp}{g o n c:Nat}{cur:Array Value}{ty:TypeId}{vs:List (List Value)}(hl:∀ x∈vs,x.length=sz)(hg:h g=some (.cells cur ty (0,0)))(hc:∀ j u,vs.flatten[j]?=some u->cur[o+j]?=some u)
  {idx:Int} {new:List Value} (he:I6 h (.slice (some ⟨g,o,none⟩) n c) sz idx new) (hi:idx.toNat<vs.length):vs[idx.toNat]?=some new:=by
 obtain⟨e1,_,b,o',n',c',e2,e3⟩:=he
 cases e2
 have hu:vs[idx.toNat]?=some vs[idx.toNat]:=List.getElem?_eq_getElem hi
 rw[hu]
 have hlen:=hl _ (List.getElem_mem hi)
 refine congrArg some (List.ext_getElem? λk=>?_)
 by_cases hk:k<sz
 ·obtain⟨v,hv⟩:∃ v,new[k]?=some v:=⟨_,List.getElem?_eq_getElem (by omega)⟩
  obtain⟨u,hu2⟩:∃ u,(vs[idx.toNat])[k]?=some u:=⟨_,List.getElem?_eq_getElem (l:=vs[idx.toNat]) (by omega)⟩
  have a:=e3 k v hv
  have b:=hc _ _ (H0g vs _ _ hl hu k u hu2)
  rw[←Nat.add_assoc]at b
  have a2:cur[o+idx.toNat*sz+k]?=some v:=by simpa [Hp.cell,hg] using a
  rw[hv,hu2,←a2,b]
 ·rw[List.getElem?_eq_none (by omega),List.getElem?_eq_none (by omega)]
theorem New.swap1{α:Type}{r:Wp α}{h0 h1 h:Hp}{g o n c:Nat}{xs:List α}(w:New r.slice h0 h1 [.slice (some ⟨g,o,none⟩) n c] xs)(s:Sub h1 h){ii jj:Int}{x y:α}(gi_:gi xs ii=some x)(gj:gi xs jj=some y){new:List Value}
  (he:I6 h (.slice (some ⟨g,o,none⟩) n c) r.sz jj new) {K:Hp->Prop} {off:Nat} (ho:off=ii.toNat*r.sz)
  (hk:∀ h',Mid r h0 h g o n c ii.toNat jj.toNat xs h'->K h'):R01 h (.slice (some ⟨g,o,none⟩) n c) ii off new K:=by
 subst ho
 obtain⟨B,⟨v,vs,B1,Bs0,e1,⟨hall,hrow⟩,hF,rfl⟩,hB,hs⟩:=w
 cases e1
 rcases hrow with⟨e,_⟩|⟨g0,o0,c0,cur,ty,e,k1,k2,k3,rfl,k4,k5⟩
 ·cases e
 cases e
 have hl:=hF.lens
 have hg:=s g _ k3
 have hi:=L09 gi_
 have hj:=L09 gj
 have hr:=D0m (λx hx=>(hall x hx).1) hg k4 he (by omega)
 have hn:=(hall new (List.mem_of_getElem? hr)).1
 have hfit:o+ii.toNat*r.sz+new.length<=cur.size:=by
  have:(ii.toNat+1)*r.sz<=c*r.sz:=Nat.mul_le_mul_right _ (by omega)
  rw[Nat.add_mul,Nat.one_mul]at this
  omega
 exact⟨g,o,_,c,cur,ty,⟨rfl,hi.2,hg,hfit⟩,hk _ ⟨vs,Bs0,cur,ty,⟨hall,rfl,k1,k2,hg,k4,k5⟩,c0b hF s,hB,λa x ha=>s _ _ (hs _ _ ha),new,hr,rfl⟩⟩
theorem New.swap2{α:Type}{r:Wp α}{h0 h k:Hp}{g o n c:Nat}{xs:List α}{ii jj:Int}(m:Mid r h0 h g o n c ii.toNat jj.toNat xs k){x y:α}(gi_:gi xs ii=some x)(gj:gi xs jj=some y){new:List Value}
  (he:I6 h (.slice (some ⟨g,o,none⟩) n c) r.sz ii new) {K:Hp->Prop} {off:Nat} (ho:off=jj.toNat*r.sz)
  (hk:∀ h',New r.slice h0 h' [.slice (some ⟨g,o,none⟩) n c] ((xs.set ii.toNat y).set jj.toNat x)->(∀ b,b≠g->h' b=h b)->h g≠none->K h'):R01 k (.slice (some ⟨g,o,none⟩) n c) jj off new K:=by
 subst ho
 obtain⟨vs,Bs,cur,ty,⟨hall,rfl,k1,k2,hg,k4,k5⟩,hF,hB,hs,u,hu,rfl⟩:=m
 have hl:=hF.lens
 have hi:=L09 gi_
 have hj:=L09 gj
 have hr:=D0m (λx hx=>(hall x hx).1) hg k4 he (by omega)
 have hn:=(hall new (List.mem_of_getElem? hr)).1
 have hun:=(hall u (List.mem_of_getElem? hu)).1
 have fit:∀ q,q<vs.length->o+q*r.sz+r.sz<=cur.size:=λq hq=>by
  have:(q+1)*r.sz<=c*r.sz:=Nat.mul_le_mul_right _ (by omega)
  rw[Nat.add_mul,Nat.one_mul]at this
  omega
 have f1:=fit ii.toNat (by omega)
 have f2:=fit jj.toNat (by omega)
 have l1:(splice cur.toList (o+ii.toNat*r.sz) u).length=cur.size:=by rw[K00,A6];simp
 have hfr:∀ b∈Bs.flatten,b≠g:=λb hb e=>by
  have:=hB.1;rw[List.nodup_append]at this
  exact this.2.2 g (List.mem_singleton.2 rfl) b hb e.symm
 have hxs:xs[ii.toNat]?=some x:=(n0a gi_).2
 have hys:xs[jj.toNat]?=some y:=(n0a gj).2
 obtain⟨a1,c1,q1,q2,q3⟩:=F3.get hF hxs
 obtain⟨a2,c2,p1,p2,p3⟩:=F3.get hF hys
 rw[hr]at q1;cases q1
 rw[hu]at p1;cases p1
 have hm1:∀ b∈c1,b∈Bs.flatten:=λb hb=>List.mem_flatten.2 ⟨c1,List.mem_of_getElem? q2,hb⟩
 have hm2:∀ b∈c2,b∈Bs.flatten:=λb hb=>List.mem_flatten.2 ⟨c2,List.mem_of_getElem? p2,hb⟩
 refine⟨g,o,_,c,_,ty,⟨rfl,hj.2,Hp.set_same _ _ _,by simp only[List.size_toArray];rw[l1];omega⟩,hk _ ?_ (λb hb=>by rw[Hp.set_other _ _ hb,Hp.set_other _ _ hb]) (by rw[hg];simp)⟩
 have fr:∀ b,b≠g->(Hp.set (Hp.set h g (.cells (splice cur.toList (o+ii.toNat*r.sz) u).toArray ty (0,0))) g (.cells (splice (splice cur.toList (o+ii.toNat*r.sz) u).toArray.toList (o+jj.toNat*r.sz) new).toArray ty (0,0))) b=h b:=λb hb=>by
  rw[Hp.set_other _ _ hb,Hp.set_other _ _ hb]
 have hb1:ii.toNat<Bs.length:=by omega
 have hb2:jj.toNat<Bs.length:=by omega
 rw[List.getElem?_eq_getElem hb1]at q2;rw[List.getElem?_eq_getElem hb2]at p2
 obtain rfl:=oJ q2
 obtain rfl:=oJ p2
 have hp:((Bs.set ii.toNat Bs[jj.toNat]).set jj.toNat Bs[ii.toNat]).Perm Bs:=List.set_set_perm hb1 hb2
 have hB2:c5 h0 ([g]++((Bs.set ii.toNat Bs[jj.toNat]).set jj.toNat Bs[ii.toNat]).flatten):=by
  have:=c5.perm (h:=h0) (Bs:=[g]::Bs) (Bs':=[g]::((Bs.set ii.toNat Bs[jj.toNat]).set jj.toNat Bs[ii.toNat])) (by simpa using hB) (List.Perm.cons _ hp)
  simpa using this
 refine⟨_,⟨_,(vs.set ii.toNat u).set jj.toNat new,[g],(Bs.set ii.toNat Bs[jj.toNat]).set jj.toNat Bs[ii.toNat],rfl,⟨?_,.inr ⟨g,o,c,_,ty,by simp,by simpa using k1,k2,Hp.set_same _ _ _,rfl,λq v hq=>?_,?_⟩⟩,?_,rfl⟩,hB2,?_⟩
 ·intro z hz
  rcases List.mem_or_eq_of_mem_set hz with hz|rfl
  ·rcases List.mem_or_eq_of_mem_set hz with hz|rfl
   ·exact hall z hz
   ·exact hall _ (List.mem_of_getElem? hu)
  ·exact hall _ (List.mem_of_getElem? hr)
 ·have hal:∀ x∈vs.set ii.toNat u,x.length=r.sz:=λz hz=>by
   rcases List.mem_or_eq_of_mem_set hz with hz|rfl
   ·exact(hall z hz).1
   ·exact hun
  rw[l06 _ _ new q hal (by simp;omega) hn,l06 vs _ u q (λx hx=>(hall x hx).1) (by omega) hun]at hq
  rw[List.getElem?_toArray,K00,n02 _ _ _ _ (by show o+jj.toNat*r.sz+new.length<=(splice cur.toList (o+ii.toNat*r.sz) u).length;rw[l1];omega)]
  by_cases hc:jj.toNat*r.sz<=q/\q<jj.toNat*r.sz+r.sz
  ·rw[if_pos hc]at hq
   rw[if_pos (by omega),show o+q-(o+jj.toNat*r.sz)=q-jj.toNat*r.sz by omega];exact hq
  ·rw[if_neg hc]at hq
   rw[if_neg (by omega)]
   rw[K00,n02 _ _ _ _ (by simp;omega)]
   by_cases hc2:ii.toNat*r.sz<=q/\q<ii.toNat*r.sz+r.sz
   ·rw[if_pos hc2]at hq
    rw[if_pos (by omega),show o+q-(o+ii.toNat*r.sz)=q-ii.toNat*r.sz by omega];exact hq
   ·rw[if_neg hc2]at hq
    rw[if_neg (by omega),Array.getElem?_toList];exact k4 q v hq
 ·rw[List.size_toArray,K00,A6];show o+c*r.sz<=(splice cur.toList (o+ii.toNat*r.sz) u).length;rw[l1];exact k5
 ·refine F3.set (r.frame q3 λb hb=>fr b (hfr b (hm1 b hb))) _ (F3.set (r.frame p3 λb hb=>fr b (hfr b (hm2 b hb))) _ (W01 hF λb hb=>fr b (hfr b hb)))
 ·intro b z hz
  have hbg:b≠g:=λe=>by have:=hB.2 g (List.mem_append_left _ (List.mem_singleton.2 rfl));rw[e,this]at hz;cases hz
  rw[fr b hbg];exact hs _ _ hz
theorem New.appN{α:Type}{r:Wp α}{h0 h1 h:Hp}(w:New r.slice h0 h1 [.slice none 0 0] [])(s:Sub h1 h){zs:List (List Value)}{ys:List α}{Bs:List (List Nat)}{h':Hp}{v':Value}(hz:F3 (r.W h) zs ys Bs)(hf:c5 h1 Bs.flatten)
  (ha:c0o h h' r.sz v' zs):New r.slice h0 h' [v'] ([]++ys)/\∃ g' o' n' c',v' = .slice (some ⟨g',o',none⟩) n' c':=by
 have hs:=w.sub
 obtain⟨⟨hall',g1,o1,c1,cur1,ty1,rfl,q1,q2,q3,q4,q5⟩,g',o',n',c',e',hgg,hkeep⟩:=ha
 cases e'
 have hne1:∀ b∈Bs.flatten,b≠g1:=λb hb e=>l04 hz b hb (by rw[e];exact hgg)
 have h0g:h0 g1=none:=by
  cases ho:h0 g1 with
  |none=>rfl
  |some x=>rw[s _ _ (hs _ _ ho)]at hgg;cases hgg
 refine⟨⟨[g1]++Bs.flatten,⟨_,zs,[g1],Bs,rfl,⟨hall',.inr ⟨g1,o1,c1,cur1,ty1,rfl,q1,by simpa [maxLen] using q2,q4,rfl,q5,q3⟩⟩,?_,rfl⟩,⟨?_,?_⟩,?_⟩,g1,o1,_,c1,rfl⟩
 ·exact W01 hz λb hb=>hkeep b (hne1 b hb)
 ·rw[List.nodup_append]
  refine⟨by simp,hf.1,λa ha b hb=>?_⟩
  simp only[List.mem_singleton]at ha
  subst ha
  exact λe=>hne1 b hb e.symm
 ·intro b hb
  rcases List.mem_append.1 hb with hb|hb
  ·simp only[List.mem_singleton]at hb;rw[hb];exact h0g
  ·have h2:=hf.2 b hb
   cases ho:h0 b with
   |none=>rfl
   |some x=>rw[hs _ _ ho]at h2;cases h2
 ·intro b x hx
  rw[hkeep b (λe=>by rw[e,h0g]at hx;cases hx)]
  exact s _ _ (hs _ _ hx)
theorem E0m{α β:Type}{xs:List α}{vs:List β}{by_:Nat}{y:Unit}(h:grd ((([]:List α).length+xs.length)*by_<=140737488355328)=some y)(hl:vs.length=xs.length):W03 vs.length by_:=by
 have:=A2 h
 rw[W03,hl];simpa using this
end Go.H
