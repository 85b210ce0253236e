/- Plain laws over the model: a slice in fresh memory that loses a row in its place; what is fresh beside it stays. -/
import Derived.Test.YtohcdjhocpakkaaGreatH40
namespace Go.H
set_option linter.unusedVariables false
theorem L0r(m k:Nat):(List.replicate m k).sum=m*k:=by
 induction m with
 |zero=>simp
 |succ m a=>rw[List.replicate_succ,List.sum_cons,a,Nat.succ_mul,Nat.add_comm]
theorem F3.drop{d f γ:Type}{p:d->f->γ->Prop}:∀ {as:List d} {bs:List f} {cs:List γ} (m:Nat),F3 p as bs cs->F3 p (as.drop m) (bs.drop m) (cs.drop m)
 | [],[],[],m,_=>by simp[F3]
 |a::as,b::bs,c::cs,0,h=>h
 |a::as,b::bs,c::cs,m+1,h=>by simp only[List.drop_succ_cons];exact F3.drop m h.2
theorem New.keep{p:Type}{i:Wp p}{h0 k l h j:Hp}{cs:List Value}{n:p}{g:Nat}(w:New i l h cs n)(C:Sub h0 k)(sh:Sub k l)(t:k g≠none)(s:Sub h0 j){d:Nat}(u:d=g∨h d=none)(v:∀ b,b≠d->j b=h b):New i h0 j cs n:=by
 obtain⟨B,m,f,s1⟩:=w
 have z:∀ b∈B,b≠d:=λb c e=>by
  subst e
  rcases u with q|y
  ·have a:=f.2 b c
   rw[q]at a
   obtain⟨x,A⟩:=Option.ne_none_iff_exists'.1 t
   rw[sh _ _ A]at a;cases a
  ·exact i.dom m b c y
 refine⟨B,i.frame m λb c=>v b (z b c),⟨f.1,λb c=>?_⟩,s⟩
 have a:=f.2 b c
 cases ho:h0 b with
 |none=>rfl
 |some o=>rw[sh _ _ (C _ _ ho)]at a;cases a
theorem New.sndI{l:Type}{j:Wp l}{h i:Hp}{a:Int}{cs:List Value}{x:Int}{k:l}(w:New (Wp.pair Wp.int j) h i (.int .i64 a::cs) (x,k)):New j h i cs k:=by
 obtain⟨B,⟨d,u,t,m,g,rfl,⟨⟨p,_⟩,v⟩,q⟩,f,s⟩:=w
 have o:d.length=1:=by rw[p];rfl
 match d,o with
 | [c],_ =>
  simp at g
  rw[g.2]
  refine⟨m,q,⟨(List.nodup_append.1 f.1).2.1,λb n=>f.2 b (List.mem_append_right _ n)⟩,s⟩
theorem New.drop{am:Type}{r:Wp am}{h0 H h:Hp}{a:Option Addr}{n c:Nat}{xs z y:List am}(w:New r.slice h0 H [.slice a n c] xs)(s:Sub H h){i j:Int}(aq:W03 xs 0 i=some z)(au:W03 xs j (xs.length:Int)=some y)(be:i<j):
  (∀ v,H0k r.sz (.slice a n c) (0:Int).toNat i.toNat v->v = .slice a z.length c)/\((0:Int)<=0/\0<=i/\i<=(n:Int))/\(∀ k,Sub h k->∃ vs,SlE k r.sz (.slice a n c) vs) /\
  ∃ g o A C S T,a=some ⟨g,o,none⟩/\(∀ v,H0k r.sz (.slice a n c) j.toNat (xs.length:Int).toNat v->v = .slice A y.length C)/\(0<=j/\j<=(xs.length:Int)/\(xs.length:Int)<=(n:Int))/\y.length<=C/\C<=9223372036854775807 /\
  i0n h r.sz (.slice (some ⟨g,o,none⟩) z.length c) S/\SlE h r.sz (.slice A y.length C) T/\S.length=z.length/\T.length=y.length /\
  ∀(k:Hp) (G:Value),x0o h k r.sz g G (S++T)->New r.slice h0 k [G] (z++y)/\(∃ ao aj X,G = .slice ao aj X) /\
   ∀ {V:Type} (R:Wp V) (N:Hp) (cs:List Value) (U:V),New R N h cs U->Sub H N->New R h0 k cs U:=by
 have bc:=w.r
 obtain⟨B,⟨v,vs,a0,f,ay,⟨F,aM⟩,Z,rfl⟩,aC,P⟩:=w
 cases ay
 obtain⟨⟨a1,ap,a2⟩,rfl⟩:=d06 aq
 obtain⟨⟨a4,aw,ba⟩,rfl⟩:=d06 au
 have ad:=Z.lens
 rcases aM with⟨e,rfl,_⟩|⟨g,o,a3,cur,ty,e,aQ,aR,ai,rfl,Q,aS⟩
 ·exfalso
  have:xs.length=0:=by rw[←ad.1];rfl
  omega
 cases e
 have p:vs.length=xs.length:=ad.1
 have K:(xs.take i.toNat).length=i.toNat:=by rw[List.length_take];omega
 have J:F3 (r.W h) vs xs f:=f0e Z s
 have L:=s g _ ai
 have aO:List.drop (0:Int).toNat (xs.take i.toNat)=xs.take i.toNat:=rfl
 have aP:List.drop j.toNat (xs.take (xs.length:Int).toNat)=xs.drop j.toNat:=by rw[show((xs.length:Int)).toNat=xs.length by omega,List.take_length]
 rw[aO,aP]
 have E:(xs.drop j.toNat).length=xs.length-j.toNat:=List.length_drop
 have az:∀ m:Nat,m<=vs.length->∀ q u,(vs.take m).flatten[q]?=some u->cur[o+q]?=some u:=λm aK q u t=>by
  refine Q q u ?_
  have:vs.flatten=(vs.take m).flatten++(vs.drop m).flatten:=by rw[←List.flatten_append,List.take_append_drop]
  rw[this,List.getElem?_append_left]
  ·exact t
  ·exact(List.getElem?_eq_some_iff.1 t).1
 have aN:∀ m:Nat,m<=vs.length->(vs.take m).flatten.length=m*r.sz:=λm aK=>by
  rw[List.length_flatten]
  have:(vs.take m).map List.length=List.replicate m r.sz:=by
   apply List.ext_getElem
   ·rw[List.length_map,List.length_take,List.length_replicate];omega
   ·intro q ak al
    simp only[List.getElem_map,List.getElem_replicate]
    exact(F _ (List.mem_of_mem_take (List.getElem_mem _))).1
  rw[this,L0r]
 have aA:∀ q u,(vs.drop j.toNat).flatten[q]?=some u->cur[o+j.toNat*r.sz+q]?=some u:=λq u t=>by
  have I:vs.flatten=(vs.take j.toNat).flatten++(vs.drop j.toNat).flatten:=by rw[←List.flatten_append,List.take_append_drop]
  have aB:=aN j.toNat (by omega)
  have:=Q (j.toNat*r.sz+q) u (by
   rw[I,List.getElem?_append_right (by omega),aB]
   rw[show j.toNat*r.sz+q-j.toNat*r.sz=q by omega];exact t)
  rw[←this];congr 1;omega
 refine⟨λv hv=>?_,⟨by omega,ap,by omega⟩,λk sh=>⟨vs,?_⟩,g,o,(if c=j.toNat then(some ⟨g,o,none⟩:Option Addr)else(some ⟨g,o,none⟩:Option Addr).map (·.add (j.toNat*r.sz))),c-j.toNat,vs.take i.toNat,vs.drop j.toNat,rfl,λv hv=>?_,⟨by omega,aw,by omega⟩,by omega,by omega,?_,?_,by rw[List.length_take,K];omega,by rw[List.length_drop,E];omega,?_⟩
 ·have:=hv _ _ _ rfl
  rw[this,K]
  simp only[Int.toNat_zero,Nat.zero_mul,Nat.sub_zero]
  split<;>simp[Addr.add]
 ·refine⟨F,some ⟨g,o,none⟩,vs.length,c,rfl,rfl,aQ,.inr ⟨g,o,rfl,λj u aJ=>?_⟩⟩
  rw[Hp.cell,sh _ _ L];exact Q j u aJ
 ·have:=hv _ _ _ rfl
  rw[this,E,show((xs.length:Int)).toNat=xs.length by omega]
 ·refine⟨λx l=>F x (List.mem_of_mem_take l),g,o,c,cur,ty,?_,?_,by simpa [maxLen] using aR,aS,L,az _ (by omega)⟩
  ·rw[K,List.length_take,Nat.min_eq_left (by omega)]
  ·rw[List.length_take];omega
 ·refine⟨λx l=>F x (List.mem_of_mem_drop l),_,_,_,rfl,by rw[E,List.length_drop,p],by rw[E];omega,?_⟩
  by_cases hc:c=j.toNat
  ·left
   rw[List.drop_eq_nil_of_le (by omega)];rfl
  ·right
   rw[if_neg hc]
   refine⟨g,o+j.toNat*r.sz,by simp[Addr.add],λq u t=>?_⟩
   rw[Hp.cell,L];exact aA q u t
 ·rintro k G ⟨⟨aE,g1,aU,ar,av,aY,rfl,ak,al,aV,aW,aX⟩,bb,bf,aj,X,ax,M,O⟩
  cases ax
  have D:=aC
  rw[c6,List.nodup_append]at D
  obtain⟨⟨_,aL,aG⟩,ab⟩:=D
  have aH:∀ b∈f.flatten,b≠g:=λb d e=>aG g (List.mem_singleton.2 rfl) b d e.symm
  have af:∀ b∈f.flatten,b≠g1:=λb d e=>by
   rcases M with rfl|p
   ·exact aH b d e
   ·exact Q07 J b d (by rw[e];exact p)
  have Y:h0 g1=none:=by
   rcases M with rfl|p
   ·exact ab _ (List.mem_append_left _ (List.mem_singleton.2 rfl))
   ·cases ho:h0 g1 with
    |none=>rfl
    |some x=>rw[s _ _ (P _ _ ho)]at p;cases p
  have ah:Sub h0 k:=λb x l=>by
   rw[O b (λe=>by rw[e,Y]at l;cases l)]
   exact s _ _ (P _ _ l)
  have ag:(f.take i.toNat++f.drop j.toNat).Sublist f:=by
   have I:f.drop j.toNat=(f.drop i.toNat).drop (j.toNat-i.toNat):=by rw[List.drop_drop];congr 1;omega
   rw[I]
   conv=>rhs;rw[←List.take_append_drop i.toNat f]
   exact List.Sublist.append (List.Sublist.refl _) (List.drop_sublist _ _)
  have ac:=c6.sublist (h:=h0) (Bs:=f) ⟨aL,λb d=>ab b (List.mem_append_right _ d)⟩ ag
  have ae:∀ b∈(f.take i.toNat++f.drop j.toNat).flatten,b∈f.flatten:=λb d=>by
   obtain⟨an,D,aF⟩:=List.mem_flatten.1 d
   exact List.mem_flatten.2 ⟨an,ag.subset D,aF⟩
  have aD:F3 (r.W h) (vs.take i.toNat++vs.drop j.toNat) (xs.take i.toNat++xs.drop j.toNat) (f.take i.toNat++f.drop j.toNat):=(F3.take _ J).append (F3.drop _ J)
  refine⟨⟨[g1]++(f.take i.toNat++f.drop j.toNat).flatten,⟨_,_,[g1],_,rfl,⟨aE,.inr ⟨g1,aU,ar,av,aY,rfl,ak,by simpa [maxLen] using al,aW,rfl,aX,aV⟩⟩,?_,rfl⟩,⟨?_,?_⟩,ah⟩,⟨_,_,_,rfl⟩,?_⟩
  ·exact O06 aD λb d=>O b (af b (ae b d))
  ·rw[List.nodup_append]
   refine⟨by simp,ac.1,λa aa b d=>?_⟩
   simp only[List.mem_singleton]at aa
   subst aa
   exact λe=>af b (ae b d) e.symm
  ·intro b d
   rcases List.mem_append.1 d with d|d
   ·simp only[List.mem_singleton]at d;rw[d];exact Y
   ·exact ac.2 b d
  ·intro V R N cs U aZ sh
   exact New.keep aZ P sh (by rw[ai];simp) ah M O
theorem B0q{j:Type}{xs g h:List j}{i:Int}(o:xs.length<=9223372036854775807)(d:W03 xs 0 i=some g)(f:W03 xs (IntKind.i64.wrap (i+1)) (xs.length:Int)=some h):i<IntKind.i64.wrap (i+1):=by
 obtain⟨⟨k,l,m⟩,_⟩:=d06 d
 obtain⟨⟨a,b,n⟩,_⟩:=d06 f
 simp only[IntKind.wrap,IntKind.bits,IntKind.signed,Bool.true_and]at a b ⊢
 split at a<;>rename_i c
 ·omega
 ·rw[if_neg c]at b ⊢
  have : ¬ ((i+1) % 2 ^ 64 ≥ 2 ^ (64-1)):=by simpa using c
  omega
theorem New.blk{b:Type}{r:Wp b}{h0 a H:Hp}{g o n c:Nat}{xs:List b}(w:New r.slice h0 a [.slice (some ⟨g,o,none⟩) n c] xs)(s:Sub a H)(f:H g=none):False:=by
 obtain⟨B,⟨v,vs,j,k,d,⟨t,h⟩,q,rfl⟩,p,u⟩:=w
 cases d
 rcases h with⟨e,_⟩|⟨m,C,l,cur,ty,e,x,y,i,rfl,z,A⟩
 ·cases e
 cases e
 have:=s g _ i
 rw[f]at this;cases this
theorem New.two{b:Type}{r:Wp b}{h0 h:Hp}{a:Option Addr}{c:Nat}{xs:List b}(w:New r.slice h0 h [.slice a xs.length c] xs):(a=none/\c=0/\xs = [])∨∃ g o,a=some ⟨g,o,none⟩:=by
 obtain⟨B,⟨v,vs,j,k,d,⟨p,i⟩,f,rfl⟩,n,s⟩:=w
 cases d
 have q:=f.lens
 rcases i with⟨e,_⟩|⟨m,t,l,cur,ty,e,_⟩
 ·simp only[Value.slice.injEq]at e
  exact .inl ⟨e.1,e.2.2,List.eq_nil_of_length_eq_zero e.2.1⟩
 ·simp only[Value.slice.injEq]at e
  exact .inr ⟨_,_,e.1⟩
def NB{a:Type}(r:Wp a)(h0 H:Hp)(cs:List Value)(x:a)(B:List Nat):Prop:=r.W H cs x B/\c6 h0 B
theorem NB.fin{b:Type}{r:Wp b}{h0 H:Hp}{cs:List Value}{x:b}{B:List Nat}(a:NB r h0 H cs x B)(s:Sub h0 H):New r h0 H cs x:=⟨B,a.1,a.2,s⟩
theorem NB.pair{l m:Type}{r:Wp l}{q:Wp m}{h0 H:Hp}{g i:List Value}{x:l}{k:m}{c f:List Nat}(a:NB r h0 H g x c)(b:NB q h0 H i k f)(d:∀ z∈c,z ∉ f):NB (r.pair q) h0 H (g++i) (x,k) (c++f) :=
 ⟨⟨g,i,c,f,rfl,rfl,a.1,b.1⟩,List.nodup_append.2 ⟨a.2.1,b.2.1,λz j w n e=>d z j (by rw[e];exact n)⟩,λz j=>by
  rcases List.mem_append.1 j with h|h
  ·exact a.2.2 z h
  ·exact b.2.2 z h⟩
theorem NB.mk{d:Type}{r:Wp d}{h0 a c H:Hp}{cs:List Value}{x:d}{B:List Nat}(w:r.W c cs x B)(s:Sub c H)(f:c6 a B)(t:Sub h0 a):NB r h0 H cs x B :=
 ⟨Wp.sub w s,f.1,λb g=>by
  cases ho:h0 b with
  |none=>rfl
  |some o=>have:=t _ _ ho;rw[f.2 b g]at this;cases this⟩
theorem NB.int{h0 H:Hp}{x:Int}(a:K0 x):NB Wp.int h0 H [.int .i64 x] x []:=⟨⟨⟨rfl,a⟩,rfl⟩,c6.nil _⟩
theorem NB.nil{a:Type}{r:Wp a}{h0 H:Hp}:NB r.slice h0 H [.slice none 0 0] [] []:=⟨⟨_,[],[],[],rfl,⟨by simp,.inl ⟨rfl,rfl,rfl⟩⟩,trivial,rfl⟩,c6.nil _⟩
theorem NB.d0{B:List Nat}:∀ z∈([]:List Nat),z ∉ B:=λz a=>by cases a
end Go.H
