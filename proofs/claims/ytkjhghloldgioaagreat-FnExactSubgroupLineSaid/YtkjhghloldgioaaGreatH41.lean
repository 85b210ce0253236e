/- Plain laws over the model: a slice in fresh memory that loses a row in its place; what is fresh beside it stays. -/
import Derived.Test.YtkjhghloldgioaaGreatH40
namespace Go.H
set_option linter.unusedVariables false
theorem M0q(m k:Nat):(List.replicate m k).sum=m*k:=by
 induction m with
 |zero=>simp
 |succ m ih=>rw[List.replicate_succ,List.sum_cons,ih,Nat.succ_mul,Nat.add_comm]
theorem F3.drop{α β γ:Type}{p:α->β->γ->Prop}:∀ {as:List α} {bs:List β} {cs:List γ} (m:Nat),F3 p as bs cs->F3 p (as.drop m) (bs.drop m) (cs.drop m)
 | [],[],[],m,_=>by simp[F3]
 |a::as,b::bs,c::cs,0,h=>h
 |a::as,b::bs,c::cs,m+1,h=>by simp only[List.drop_succ_cons];exact F3.drop m h.2
theorem New.keep{β:Type}{r2:Wp β}{h0 h1 hh h h':Hp}{cs:List Value}{y:β}{g:Nat}(w:New r2 hh h cs y)(s01:Sub h0 h1)(sh:Sub h1 hh)(hg:h1 g≠none)(s:Sub h0 h'){g':Nat}(hgg:g'=g∨h g'=none)(hk:∀ b,b≠g'->h' b=h b):New r2 h0 h' cs y:=by
 obtain⟨B,w1,f,s1⟩:=w
 have hne:∀ b∈B,b≠g':=λb hb e=>by
  subst e
  rcases hgg with e1|hn
  ·have h2:=f.2 b hb
   rw[e1]at h2
   obtain⟨x,hx⟩:=Option.ne_none_iff_exists'.1 hg
   rw[sh _ _ hx]at h2;cases h2
  ·exact r2.dom w1 b hb hn
 refine⟨B,r2.frame w1 λb hb=>hk b (hne b hb),⟨f.1,λb hb=>?_⟩,s⟩
 have h2:=f.2 b hb
 cases ho:h0 b with
 |none=>rfl
 |some o=>rw[sh _ _ (s01 _ _ ho)]at h2;cases h2
theorem New.sndI{β:Type}{r2:Wp β}{h h':Hp}{a:Int}{cs:List Value}{x:Int}{y:β}(w:New (Wp.pair Wp.int r2) h h' (.int .i64 a::cs) (x,y)):New r2 h h' cs y:=by
 obtain⟨B,⟨c1,c2,B1,B2,e1,rfl,⟨⟨q1,_⟩,q2⟩,w2⟩,f,s⟩:=w
 have hl:c1.length=1:=by rw[q1];rfl
 match c1,hl with
 | [c],_ =>
  simp at e1
  rw[e1.2]
  refine⟨B2,w2,⟨(List.nodup_append.1 f.1).2.1,λb hb=>f.2 b (List.mem_append_right _ hb)⟩,s⟩
theorem New.drop{α:Type}{r:Wp α}{h0 h1 h:Hp}{a:Option Addr}{n c:Nat}{xs ys zs:List α}(w:New r.slice h0 h1 [.slice a n c] xs)(s:Sub h1 h){i j:Int}(c1:p06 xs 0 i=some ys)(c2:p06 xs j (xs.length:Int)=some zs)(hij:i<j):
  (∀ v,Z0j r.sz (.slice a n c) (0:Int).toNat i.toNat v->v = .slice a ys.length c)/\((0:Int)<=0/\0<=i/\i<=(n:Int))/\(∀ h',Sub h h'->∃ vs,SlE h' r.sz (.slice a n c) vs) /\
  ∃ g o A C vs1 vs2,a=some ⟨g,o,none⟩/\(∀ v,Z0j r.sz (.slice a n c) j.toNat (xs.length:Int).toNat v->v = .slice A zs.length C)/\(0<=j/\j<=(xs.length:Int)/\(xs.length:Int)<=(n:Int))/\zs.length<=C/\C<=9223372036854775807 /\
  C0m h r.sz (.slice (some ⟨g,o,none⟩) ys.length c) vs1/\SlE h r.sz (.slice A zs.length C) vs2/\vs1.length=ys.length/\vs2.length=zs.length /\
  ∀(h':Hp) (v':Value),S0n h h' r.sz g v' (vs1++vs2)->New r.slice h0 h' [v'] (ys++zs)/\(∃ a' n' c',v' = .slice a' n' c') /\
   ∀ {β:Type} (r2:Wp β) (hh:Hp) (cs:List Value) (y:β),New r2 hh h cs y->Sub h1 hh->New r2 h0 h' cs y:=by
 have hR:=w.r
 obtain⟨B,⟨v,vs,B1,Bs0,e1,⟨hall,hrow⟩,hF,rfl⟩,hB,hs⟩:=w
 cases e1
 obtain⟨⟨b1,b2,b3⟩,rfl⟩:=L05 c1
 obtain⟨⟨d1,d2,d3⟩,rfl⟩:=L05 c2
 have hl:=hF.lens
 rcases hrow with⟨e,rfl,_⟩|⟨g,o,c0,cur,ty,e,k1,k2,k3,rfl,k4,k5⟩
 ·exfalso
  have:xs.length=0:=by rw[←hl.1];rfl
  omega
 cases e
 have hn:vs.length=xs.length:=hl.1
 have hLi:(xs.take i.toNat).length=i.toNat:=by rw[List.length_take];omega
 have hF1:F3 (r.W h) vs xs Bs0:=J0d hF s
 have hg:=s g _ k3
 have hy:List.drop (0:Int).toNat (xs.take i.toNat)=xs.take i.toNat:=rfl
 have hz:List.drop j.toNat (xs.take (xs.length:Int).toNat)=xs.drop j.toNat:=by rw[show((xs.length:Int)).toNat=xs.length by omega,List.take_length]
 rw[hy,hz]
 have hLz:(xs.drop j.toNat).length=xs.length-j.toNat:=List.length_drop
 have fl1:∀ m:Nat,m<=vs.length->∀ q u,(vs.take m).flatten[q]?=some u->cur[o+q]?=some u:=λm hm q u hq=>by
  refine k4 q u ?_
  have:vs.flatten=(vs.take m).flatten++(vs.drop m).flatten:=by rw[←List.flatten_append,List.take_append_drop]
  rw[this,List.getElem?_append_left]
  ·exact hq
  ·exact(List.getElem?_eq_some_iff.1 hq).1
 have hsz:∀ m:Nat,m<=vs.length->(vs.take m).flatten.length=m*r.sz:=λm hm=>by
  rw[List.length_flatten]
  have:(vs.take m).map List.length=List.replicate m r.sz:=by
   apply List.ext_getElem
   ·rw[List.length_map,List.length_take,List.length_replicate];omega
   ·intro q q1 q2
    simp only[List.getElem_map,List.getElem_replicate]
    exact(hall _ (List.mem_of_mem_take (List.getElem_mem _))).1
  rw[this,M0q]
 have fl2:∀ q u,(vs.drop j.toNat).flatten[q]?=some u->cur[o+j.toNat*r.sz+q]?=some u:=λq u hq=>by
  have h3:vs.flatten=(vs.take j.toNat).flatten++(vs.drop j.toNat).flatten:=by rw[←List.flatten_append,List.take_append_drop]
  have h4:=hsz j.toNat (by omega)
  have:=k4 (j.toNat*r.sz+q) u (by
   rw[h3,List.getElem?_append_right (by omega),h4]
   rw[show j.toNat*r.sz+q-j.toNat*r.sz=q by omega];exact hq)
  rw[←this];congr 1;omega
 refine⟨λv hv=>?_,⟨by omega,b2,by omega⟩,λh' sh=>⟨vs,?_⟩,g,o,(if c=j.toNat then(some ⟨g,o,none⟩:Option Addr)else(some ⟨g,o,none⟩:Option Addr).map (·.add (j.toNat*r.sz))),c-j.toNat,vs.take i.toNat,vs.drop j.toNat,rfl,λv hv=>?_,⟨by omega,d2,by omega⟩,by omega,by omega,?_,?_,by rw[List.length_take,hLi];omega,by rw[List.length_drop,hLz];omega,?_⟩
 ·have:=hv _ _ _ rfl
  rw[this,hLi]
  simp only[Int.toNat_zero,Nat.zero_mul,Nat.sub_zero]
  split<;>simp[Addr.add]
 ·refine⟨hall,some ⟨g,o,none⟩,vs.length,c,rfl,rfl,k1,.inr ⟨g,o,rfl,λj u hj=>?_⟩⟩
  rw[Hp.cell,sh _ _ hg];exact k4 j u hj
 ·have:=hv _ _ _ rfl
  rw[this,hLz,show((xs.length:Int)).toNat=xs.length by omega]
 ·refine⟨λx hx=>hall x (List.mem_of_mem_take hx),g,o,c,cur,ty,?_,?_,by simpa [maxLen] using k2,k5,hg,fl1 _ (by omega)⟩
  ·rw[hLi,List.length_take,Nat.min_eq_left (by omega)]
  ·rw[List.length_take];omega
 ·refine⟨λx hx=>hall x (List.mem_of_mem_drop hx),_,_,_,rfl,by rw[hLz,List.length_drop,hn],by rw[hLz];omega,?_⟩
  by_cases hc:c=j.toNat
  ·left
   rw[List.drop_eq_nil_of_le (by omega)];rfl
  ·right
   rw[if_neg hc]
   refine⟨g,o+j.toNat*r.sz,by simp[Addr.add],λq u hq=>?_⟩
   rw[Hp.cell,hg];exact fl2 q u hq
 ·rintro h' v' ⟨⟨hall',g1,o1,c1',cur1,ty1,rfl,q1,q2,q3,q4,q5⟩,g',o',n',c',e',hgg,hkeep⟩
  cases e'
  have hB':=hB
  rw[K6,List.nodup_append]at hB'
  obtain⟨⟨_,hnd,hdis⟩,hfr⟩:=hB'
  have hg0:∀ b∈Bs0.flatten,b≠g:=λb hb e=>hdis g (List.mem_singleton.2 rfl) b hb e.symm
  have hne0:∀ b∈Bs0.flatten,b≠g1:=λb hb e=>by
   rcases hgg with rfl|hn
   ·exact hg0 b hb e
   ·exact y04 hF1 b hb (by rw[e];exact hn)
  have h0g:h0 g1=none:=by
   rcases hgg with rfl|hn
   ·exact hfr _ (List.mem_append_left _ (List.mem_singleton.2 rfl))
   ·cases ho:h0 g1 with
    |none=>rfl
    |some x=>rw[s _ _ (hs _ _ ho)]at hn;cases hn
  have hsub:Sub h0 h':=λb x hx=>by
   rw[hkeep b (λe=>by rw[e,h0g]at hx;cases hx)]
   exact s _ _ (hs _ _ hx)
  have hsl:(Bs0.take i.toNat++Bs0.drop j.toNat).Sublist Bs0:=by
   have h3:Bs0.drop j.toNat=(Bs0.drop i.toNat).drop (j.toNat-i.toNat):=by rw[List.drop_drop];congr 1;omega
   rw[h3]
   conv=>rhs;rw[←List.take_append_drop i.toNat Bs0]
   exact List.Sublist.append (List.Sublist.refl _) (List.drop_sublist _ _)
  have hfs:=K6.sublist (h:=h0) (Bs:=Bs0) ⟨hnd,λb hb=>hfr b (List.mem_append_right _ hb)⟩ hsl
  have hmem:∀ b∈(Bs0.take i.toNat++Bs0.drop j.toNat).flatten,b∈Bs0.flatten:=λb hb=>by
   obtain⟨B',hB',hb'⟩:=List.mem_flatten.1 hb
   exact List.mem_flatten.2 ⟨B',hsl.subset hB',hb'⟩
  have hFz:F3 (r.W h) (vs.take i.toNat++vs.drop j.toNat) (xs.take i.toNat++xs.drop j.toNat) (Bs0.take i.toNat++Bs0.drop j.toNat):=(F3.take _ hF1).append (F3.drop _ hF1)
  refine⟨⟨[g1]++(Bs0.take i.toNat++Bs0.drop j.toNat).flatten,⟨_,_,[g1],_,rfl,⟨hall',.inr ⟨g1,o1,c1',cur1,ty1,rfl,q1,by simpa [maxLen] using q2,q4,rfl,q5,q3⟩⟩,?_,rfl⟩,⟨?_,?_⟩,hsub⟩,⟨_,_,_,rfl⟩,?_⟩
  ·exact z04 hFz λb hb=>hkeep b (hne0 b (hmem b hb))
  ·rw[List.nodup_append]
   refine⟨by simp,hfs.1,λa ha b hb=>?_⟩
   simp only[List.mem_singleton]at ha
   subst ha
   exact λe=>hne0 b (hmem b hb) e.symm
  ·intro b hb
   rcases List.mem_append.1 hb with hb|hb
   ·simp only[List.mem_singleton]at hb;rw[hb];exact h0g
   ·exact hfs.2 b hb
  ·intro β r2 hh cs y wy sh
   exact New.keep wy hs sh (by rw[k3];simp) hsub hgg hkeep
theorem Q0r{α:Type}{xs ys zs:List α}{i:Int}(hl:xs.length<=9223372036854775807)(c1:p06 xs 0 i=some ys)(c2:p06 xs (IntKind.i64.wrap (i+1)) (xs.length:Int)=some zs):i<IntKind.i64.wrap (i+1):=by
 obtain⟨⟨b1,b2,b3⟩,_⟩:=L05 c1
 obtain⟨⟨d1,d2,d3⟩,_⟩:=L05 c2
 simp only[IntKind.wrap,IntKind.bits,IntKind.signed,Bool.true_and]at d1 d2 ⊢
 split at d1<;>rename_i hb
 ·omega
 ·rw[if_neg hb]at d2 ⊢
  have : ¬ ((i+1) % 2 ^ 64 ≥ 2 ^ (64-1)):=by simpa using hb
  omega
theorem New.blk{α:Type}{r:Wp α}{h0 h1 H:Hp}{g o n c:Nat}{xs:List α}(w:New r.slice h0 h1 [.slice (some ⟨g,o,none⟩) n c] xs)(s:Sub h1 H)(hn:H g=none):False:=by
 obtain⟨B,⟨v,vs,B1,Bs0,e1,⟨hall,hrow⟩,hF,rfl⟩,hB,hs⟩:=w
 cases e1
 rcases hrow with⟨e,_⟩|⟨g0,o0,c0,cur,ty,e,k1,k2,k3,rfl,k4,k5⟩
 ·cases e
 cases e
 have:=s g _ k3
 rw[hn]at this;cases this
def NB{α:Type}(r:Wp α)(h0 H:Hp)(cs:List Value)(x:α)(B:List Nat):Prop:=r.W H cs x B/\K6 h0 B
theorem NB.fin{α:Type}{r:Wp α}{h0 H:Hp}{cs:List Value}{x:α}{B:List Nat}(a:NB r h0 H cs x B)(s:Sub h0 H):New r h0 H cs x:=⟨B,a.1,a.2,s⟩
theorem NB.pair{α β:Type}{r:Wp α}{q:Wp β}{h0 H:Hp}{c1 c2:List Value}{x:α}{y:β}{B1 B2:List Nat}(a:NB r h0 H c1 x B1)(b:NB q h0 H c2 y B2)(d:∀ z∈B1,z ∉ B2):NB (r.pair q) h0 H (c1++c2) (x,y) (B1++B2) :=
 ⟨⟨c1,c2,B1,B2,rfl,rfl,a.1,b.1⟩,List.nodup_append.2 ⟨a.2.1,b.2.1,λz hz w hw e=>d z hz (by rw[e];exact hw)⟩,λz hz=>by
  rcases List.mem_append.1 hz with h|h
  ·exact a.2.2 z h
  ·exact b.2.2 z h⟩
theorem NB.mk{α:Type}{r:Wp α}{h0 h1 h2 H:Hp}{cs:List Value}{x:α}{B:List Nat}(w:r.W h2 cs x B)(s:Sub h2 H)(f:K6 h1 B)(t:Sub h0 h1):NB r h0 H cs x B :=
 ⟨Wp.sub w s,f.1,λb hb=>by
  cases ho:h0 b with
  |none=>rfl
  |some o=>have:=t _ _ ho;rw[f.2 b hb]at this;cases this⟩
theorem NB.int{h0 H:Hp}{x:Int}(hx:P0 x):NB Wp.int h0 H [.int .i64 x] x []:=⟨⟨⟨rfl,hx⟩,rfl⟩,K6.nil _⟩
theorem NB.nil{α:Type}{r:Wp α}{h0 H:Hp}:NB r.slice h0 H [.slice none 0 0] [] []:=⟨⟨_,[],[],[],rfl,⟨by simp,.inl ⟨rfl,rfl,rfl⟩⟩,trivial,rfl⟩,K6.nil _⟩
theorem NB.d0{B:List Nat}:∀ z∈([]:List Nat),z ∉ B:=λz hz=>by cases hz
end Go.H
