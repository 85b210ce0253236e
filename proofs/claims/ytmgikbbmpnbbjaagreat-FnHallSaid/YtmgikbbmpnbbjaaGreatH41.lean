/- Plain laws over the model: a slice in fresh memory that loses a row in its place; what is fresh beside it stays. -/
import Derived.Test.YtmgikbbmpnbbjaaGreatH40
namespace Go.H
set_option linter.unusedVariables false
theorem I0r(m k:Nat):(List.replicate m k).sum=m*k:=by
 induction m with
 |zero=>simp
 |succ m a=>rw[List.replicate_succ,List.sum_cons,a,Nat.succ_mul,Nat.add_comm]
theorem F3.drop{d e f:Type}{p:d->e->f->Prop}:∀ {as:List d} {bs:List e} {cs:List f} (m:Nat),F3 p as bs cs->F3 p (as.drop m) (bs.drop m) (cs.drop m)
 | [],[],[],m,_=>by simp[F3]
 |a::as,b::bs,c::cs,0,h=>h
 |a::as,b::bs,c::cs,m+1,h=>by simp only[List.drop_succ_cons];exact F3.drop m h.2
theorem New.keep{m:Type}{i:Wp m}{h0 j k h h':Hp}{cs:List Value}{y:m}{g:Nat}(w:New i k h cs y)(A:Sub h0 j)(sh:Sub j k)(p:j g≠none)(z:Sub h0 h'){d:Nat}(q:d=g∨h d=none)(s:∀ b,b≠d->h' b=h b):New i h0 h' cs y:=by
 obtain⟨B,l,f,s1⟩:=w
 have u:∀ b∈B,b≠d:=λb c e=>by
  subst e
  rcases q with n|t
  ·have a:=f.2 b c
   rw[n]at a
   obtain⟨x,v⟩:=Option.ne_none_iff_exists'.1 p
   rw[sh _ _ v]at a;cases a
  ·exact i.dom l b c t
 refine⟨B,i.frame l λb c=>s b (u b c),⟨f.1,λb c=>?_⟩,z⟩
 have a:=f.2 b c
 cases ho:h0 b with
 |none=>rfl
 |some o=>rw[sh _ _ (A _ _ ho)]at a;cases a
theorem New.sndI{i:Type}{g:Wp i}{h h':Hp}{a:Int}{cs:List Value}{x:Int}{y:i}(w:New (Wp.pair Wp.int g) h h' (.int .i64 a::cs) (x,y)):New g h h' cs y:=by
 obtain⟨B,⟨d,q,p,j,e,rfl,⟨⟨m,_⟩,s⟩,o⟩,f,n⟩:=w
 have l:d.length=1:=by rw[m];rfl
 match d,l with
 | [c],_ =>
  simp at e
  rw[e.2]
  refine⟨j,o,⟨(List.nodup_append.1 f.1).2.1,λb k=>f.2 b (List.mem_append_right _ k)⟩,n⟩
theorem New.drop{an:Type}{r:Wp an}{h0 I h:Hp}{a:Option Addr}{n c:Nat}{xs z t:List an}(w:New r.slice h0 I [.slice a n c] xs)(G:Sub I h){i j:Int}(ar:W05 xs 0 i=some z)(av:W05 xs j (xs.length:Int)=some t)(bc:i<j):
  (∀ v,y0j r.sz (.slice a n c) (0:Int).toNat i.toNat v->v = .slice a z.length c)/\((0:Int)<=0/\0<=i/\i<=(n:Int))/\(∀ h',Sub h h'->∃ vs,SlE h' r.sz (.slice a n c) vs) /\
  ∃ g o A C U V,a=some ⟨g,o,none⟩/\(∀ v,y0j r.sz (.slice a n c) j.toNat (xs.length:Int).toNat v->v = .slice A t.length C)/\(0<=j/\j<=(xs.length:Int)/\(xs.length:Int)<=(n:Int))/\t.length<=C/\C<=9223372036854775807 /\
  x08 h r.sz (.slice (some ⟨g,o,none⟩) z.length c) U/\SlE h r.sz (.slice A t.length C) V/\U.length=z.length/\V.length=t.length /\
  ∀(h':Hp) (H:Value),w0a h h' r.sz g H (U++V)->New r.slice h0 h' [H] (z++t)/\(∃ ap ak Y,H = .slice ap ak Y) /\
   ∀ {X:Type} (T:Wp X) (O:Hp) (cs:List Value) (y:X),New T O h cs y->Sub I O->New T h0 h' cs y:=by
 have bb:=w.r
 obtain⟨B,⟨v,vs,a0,f,ay,⟨F,aM⟩,aa,rfl⟩,aC,Q⟩:=w
 cases ay
 obtain⟨⟨a1,aq,a2⟩,rfl⟩:=z05 ar
 obtain⟨⟨a4,aw,a5⟩,rfl⟩:=z05 av
 have ae:=aa.lens
 rcases aM with⟨e,rfl,_⟩|⟨g,o,a3,cur,ty,e,aQ,aR,aj,rfl,S,aS⟩
 ·exfalso
  have:xs.length=0:=by rw[←ae.1];rfl
  omega
 cases e
 have p:vs.length=xs.length:=ae.1
 have L:(xs.take i.toNat).length=i.toNat:=by rw[List.length_take];omega
 have K:F3 (r.W h) vs xs f:=f05 aa G
 have M:=G g _ aj
 have aO:List.drop (0:Int).toNat (xs.take i.toNat)=xs.take i.toNat:=rfl
 have aP:List.drop j.toNat (xs.take (xs.length:Int).toNat)=xs.drop j.toNat:=by rw[show((xs.length:Int)).toNat=xs.length by omega,List.take_length]
 rw[aO,aP]
 have E:(xs.drop j.toNat).length=xs.length-j.toNat:=List.length_drop
 have az:∀ m:Nat,m<=vs.length->∀ q u,(vs.take m).flatten[q]?=some u->cur[o+q]?=some u:=λm aK q u s=>by
  refine S q u ?_
  have:vs.flatten=(vs.take m).flatten++(vs.drop m).flatten:=by rw[←List.flatten_append,List.take_append_drop]
  rw[this,List.getElem?_append_left]
  ·exact s
  ·exact(List.getElem?_eq_some_iff.1 s).1
 have aN:∀ m:Nat,m<=vs.length->(vs.take m).flatten.length=m*r.sz:=λm aK=>by
  rw[List.length_flatten]
  have:(vs.take m).map List.length=List.replicate m r.sz:=by
   apply List.ext_getElem
   ·rw[List.length_map,List.length_take,List.length_replicate];omega
   ·intro q al am
    simp only[List.getElem_map,List.getElem_replicate]
    exact(F _ (List.mem_of_mem_take (List.getElem_mem _))).1
  rw[this,I0r]
 have aA:∀ q u,(vs.drop j.toNat).flatten[q]?=some u->cur[o+j.toNat*r.sz+q]?=some u:=λq u s=>by
  have J:vs.flatten=(vs.take j.toNat).flatten++(vs.drop j.toNat).flatten:=by rw[←List.flatten_append,List.take_append_drop]
  have aB:=aN j.toNat (by omega)
  have:=S (j.toNat*r.sz+q) u (by
   rw[J,List.getElem?_append_right (by omega),aB]
   rw[show j.toNat*r.sz+q-j.toNat*r.sz=q by omega];exact s)
  rw[←this];congr 1;omega
 refine⟨λv R=>?_,⟨by omega,aq,by omega⟩,λh' sh=>⟨vs,?_⟩,g,o,(if c=j.toNat then(some ⟨g,o,none⟩:Option Addr)else(some ⟨g,o,none⟩:Option Addr).map (·.add (j.toNat*r.sz))),c-j.toNat,vs.take i.toNat,vs.drop j.toNat,rfl,λv R=>?_,⟨by omega,aw,by omega⟩,by omega,by omega,?_,?_,by rw[List.length_take,L];omega,by rw[List.length_drop,E];omega,?_⟩
 ·have:=R _ _ _ rfl
  rw[this,L]
  simp only[Int.toNat_zero,Nat.zero_mul,Nat.sub_zero]
  split<;>simp[Addr.add]
 ·refine⟨F,some ⟨g,o,none⟩,vs.length,c,rfl,rfl,aQ,.inr ⟨g,o,rfl,λj u aJ=>?_⟩⟩
  rw[Hp.cell,sh _ _ M];exact S j u aJ
 ·have:=R _ _ _ rfl
  rw[this,E,show((xs.length:Int)).toNat=xs.length by omega]
 ·refine⟨λx k=>F x (List.mem_of_mem_take k),g,o,c,cur,ty,?_,?_,by simpa [maxLen] using aR,aS,M,az _ (by omega)⟩
  ·rw[L,List.length_take,Nat.min_eq_left (by omega)]
  ·rw[List.length_take];omega
 ·refine⟨λx k=>F x (List.mem_of_mem_drop k),_,_,_,rfl,by rw[E,List.length_drop,p],by rw[E];omega,?_⟩
  by_cases hc:c=j.toNat
  ·left
   rw[List.drop_eq_nil_of_le (by omega)];rfl
  ·right
   rw[if_neg hc]
   refine⟨g,o+j.toNat*r.sz,by simp[Addr.add],λq u s=>?_⟩
   rw[Hp.cell,M];exact aA q u s
 ·rintro h' H ⟨⟨aE,l,aU,au,K0m,aY,rfl,al,am,aV,aW,aX⟩,ba,bd,ak,Y,ax,N,P⟩
  cases ax
  have D:=aC
  rw[n4,List.nodup_append]at D
  obtain⟨⟨_,aL,aG⟩,ac⟩:=D
  have aH:∀ b∈f.flatten,b≠g:=λb d e=>aG g (List.mem_singleton.2 rfl) b d e.symm
  have ag:∀ b∈f.flatten,b≠l:=λb d e=>by
   rcases N with rfl|p
   ·exact aH b d e
   ·exact g07 K b d (by rw[e];exact p)
  have Z:h0 l=none:=by
   rcases N with rfl|p
   ·exact ac _ (List.mem_append_left _ (List.mem_singleton.2 rfl))
   ·cases ho:h0 l with
    |none=>rfl
    |some x=>rw[G _ _ (Q _ _ ho)]at p;cases p
  have ai:Sub h0 h':=λb x k=>by
   rw[P b (λe=>by rw[e,Z]at k;cases k)]
   exact G _ _ (Q _ _ k)
  have ah:(f.take i.toNat++f.drop j.toNat).Sublist f:=by
   have J:f.drop j.toNat=(f.drop i.toNat).drop (j.toNat-i.toNat):=by rw[List.drop_drop];congr 1;omega
   rw[J]
   conv=>rhs;rw[←List.take_append_drop i.toNat f]
   exact List.Sublist.append (List.Sublist.refl _) (List.drop_sublist _ _)
  have ad:=n4.sublist (h:=h0) (Bs:=f) ⟨aL,λb d=>ac b (List.mem_append_right _ d)⟩ ah
  have af:∀ b∈(f.take i.toNat++f.drop j.toNat).flatten,b∈f.flatten:=λb d=>by
   obtain⟨ao,D,aF⟩:=List.mem_flatten.1 d
   exact List.mem_flatten.2 ⟨ao,ah.subset D,aF⟩
  have aD:F3 (r.W h) (vs.take i.toNat++vs.drop j.toNat) (xs.take i.toNat++xs.drop j.toNat) (f.take i.toNat++f.drop j.toNat):=(F3.take _ K).append (F3.drop _ K)
  refine⟨⟨[l]++(f.take i.toNat++f.drop j.toNat).flatten,⟨_,_,[l],_,rfl,⟨aE,.inr ⟨l,aU,au,K0m,aY,rfl,al,by simpa [maxLen] using am,aW,rfl,aX,aV⟩⟩,?_,rfl⟩,⟨?_,?_⟩,ai⟩,⟨_,_,_,rfl⟩,?_⟩
  ·exact S07 aD λb d=>P b (ag b (af b d))
  ·rw[List.nodup_append]
   refine⟨by simp,ad.1,λa ab b d=>?_⟩
   simp only[List.mem_singleton]at ab
   subst ab
   exact λe=>ag b (af b d) e.symm
  ·intro b d
   rcases List.mem_append.1 d with d|d
   ·simp only[List.mem_singleton]at d;rw[d];exact Z
   ·exact ad.2 b d
  ·intro X T O cs y aZ sh
   exact New.keep aZ Q sh (by rw[aj];simp) ai N P
theorem f0t{h:Type}{xs f g:List h}{i:Int}(n:xs.length<=9223372036854775807)(d:W05 xs 0 i=some f)(e:W05 xs (IntKind.i64.wrap (i+1)) (xs.length:Int)=some g):i<IntKind.i64.wrap (i+1):=by
 obtain⟨⟨j,k,l⟩,_⟩:=z05 d
 obtain⟨⟨a,b,m⟩,_⟩:=z05 e
 simp only[IntKind.wrap,IntKind.bits,IntKind.signed,Bool.true_and]at a b ⊢
 split at a<;>rename_i c
 ·omega
 ·rw[if_neg c]at b ⊢
  have : ¬ ((i+1) % 2 ^ 64 ≥ 2 ^ (64-1)):=by simpa using c
  omega
theorem New.blk{b:Type}{r:Wp b}{h0 a H:Hp}{g o n c:Nat}{xs:List b}(w:New r.slice h0 a [.slice (some ⟨g,o,none⟩) n c] xs)(j:Sub a H)(f:H g=none):False:=by
 obtain⟨B,⟨v,vs,k,l,d,⟨t,h⟩,s,rfl⟩,q,u⟩:=w
 cases d
 rcases h with⟨e,_⟩|⟨p,C,m,cur,ty,e,x,y,i,rfl,z,A⟩
 ·cases e
 cases e
 have:=j g _ i
 rw[f]at this;cases this
theorem New.two{b:Type}{r:Wp b}{h0 h:Hp}{a:Option Addr}{c:Nat}{xs:List b}(w:New r.slice h0 h [.slice a xs.length c] xs):(a=none/\c=0/\xs = [])∨∃ g o,a=some ⟨g,o,none⟩:=by
 obtain⟨B,⟨v,vs,j,k,d,⟨p,i⟩,f,rfl⟩,n,s⟩:=w
 cases d
 have q:=f.lens
 rcases i with⟨e,_⟩|⟨m,t,l,cur,ty,e,_⟩
 ·simp only[Value.slice.injEq]at e
  exact .inl ⟨e.1,e.2.2,List.eq_nil_of_length_eq_zero e.2.1⟩
 ·simp only[Value.slice.injEq]at e
  exact .inr ⟨_,_,e.1⟩
def NB{a:Type}(r:Wp a)(h0 H:Hp)(cs:List Value)(x:a)(B:List Nat):Prop:=r.W H cs x B/\n4 h0 B
theorem NB.fin{b:Type}{r:Wp b}{h0 H:Hp}{cs:List Value}{x:b}{B:List Nat}(a:NB r h0 H cs x B)(c:Sub h0 H):New r h0 H cs x:=⟨B,a.1,a.2,c⟩
theorem NB.pair{k l:Type}{r:Wp k}{q:Wp l}{h0 H:Hp}{g i:List Value}{x:k}{y:l}{c f:List Nat}(a:NB r h0 H g x c)(b:NB q h0 H i y f)(d:∀ z∈c,z ∉ f):NB (r.pair q) h0 H (g++i) (x,y) (c++f) :=
 ⟨⟨g,i,c,f,rfl,rfl,a.1,b.1⟩,List.nodup_append.2 ⟨a.2.1,b.2.1,λz j w m e=>d z j (by rw[e];exact m)⟩,λz j=>by
  rcases List.mem_append.1 j with h|h
  ·exact a.2.2 z h
  ·exact b.2.2 z h⟩
theorem NB.mk{d:Type}{r:Wp d}{h0 a c H:Hp}{cs:List Value}{x:d}{B:List Nat}(w:r.W c cs x B)(g:Sub c H)(f:n4 a B)(t:Sub h0 a):NB r h0 H cs x B :=
 ⟨Wp.sub w g,f.1,λb e=>by
  cases ho:h0 b with
  |none=>rfl
  |some o=>have:=t _ _ ho;rw[f.2 b e]at this;cases this⟩
theorem NB.int{h0 H:Hp}{x:Int}(a:I0 x):NB Wp.int h0 H [.int .i64 x] x []:=⟨⟨⟨rfl,a⟩,rfl⟩,n4.nil _⟩
theorem NB.nil{a:Type}{r:Wp a}{h0 H:Hp}:NB r.slice h0 H [.slice none 0 0] [] []:=⟨⟨_,[],[],[],rfl,⟨by simp,.inl ⟨rfl,rfl,rfl⟩⟩,trivial,rfl⟩,n4.nil _⟩
theorem NB.d0{B:List Nat}:∀ z∈([]:List Nat),z ∉ B:=λz a=>by cases a
theorem F3.stepB{o s:Type}{p q:o->s->List Nat->Prop}:∀ {as:List o} {bs:List s} {Bs:List (List Nat)} {i:Nat} {a:o} {b:s} {c g:List Nat},F3 p as bs Bs->Bs.flatten.Nodup->Bs[i]?=some c->q a b g ->
  (∀ a b d,d∈Bs->(∀ y∈d,y ∉ c)->p a b d->q a b d)->F3 q (as.set i a) (bs.set i b) (Bs.set i g)
 |v::as,x::bs,z::cs,0,a,b,c,g,h,e,f,l,k=>by
  cases f
  rw[List.flatten_cons,List.nodup_append]at e
  exact⟨l,h.2.mono λu w d j A=>k u w d (mC _ j) (λy m n=>e.2.2 y n y (List.mem_flatten.2 ⟨d,j,m⟩) rfl) A⟩
 |v::as,x::bs,z::cs,i+1,a,b,c,g,h,e,f,l,k=>by
  rw[List.flatten_cons,List.nodup_append]at e
  have t:cs[i]?=some c:=by simpa using f
  refine⟨k _ _ _ mS (λy m n=>e.2.2 y m y (List.mem_flatten.2 ⟨c,List.mem_of_getElem? t,n⟩) rfl) h.1,F3.stepB h.2 e.2.1 t l λa b d j=>k a b d (mC _ j)⟩
 | [],[],[],i,_,_,_,_,h,_,f,_,_=>by simp at f
 | [],[],_::_,_,_,_,_,_,h,_,_,_,_=>h.elim
 | [],_::_,_,_,_,_,_,_,h,_,_,_,_=>h.elim
 |_::_,[],_,_,_,_,_,_,h,_,_,_,_=>h.elim
 |_::_,_::_,[],_,_,_,_,_,h,_,_,_,_=>h.elim
theorem f0i{c f:List Nat}(o:f.Nodup):∀(Bs:List (List Nat)) (i:Nat),Bs.flatten.Nodup->Bs[i]?=some c->(∀ b∈f,b∈c∨b ∉ Bs.flatten)->(Bs.set i f).flatten.Nodup/\∀ b∈(Bs.set i f).flatten,b∈Bs.flatten∨b∈f
 | [],i,h,j,_=>by simp at j
 |B::Bs,0,h,j,k=>by
  cases j
  rw[List.flatten_cons,List.nodup_append]at h
  refine⟨?_,λb d=>?_⟩
  ·rw[List.set_cons_zero,List.flatten_cons,List.nodup_append]
   refine⟨o,h.2.1,λa g b d e=>?_⟩
   subst e
   rcases k a g with h'|h'
   ·exact h.2.2 a h' a d rfl
   ·exact h' (by rw[List.flatten_cons];exact List.mem_append_right _ d)
  ·rw[List.set_cons_zero,List.flatten_cons]at d
   rcases List.mem_append.1 d with h'|h'
   ·exact .inr h'
   ·exact .inl (by rw[List.flatten_cons];exact List.mem_append_right _ h')
 |B::Bs,i+1,h,j,k=>by
  have n:Bs[i]?=some c:=by simpa using j
  have q:∀ b∈c,b∈Bs.flatten:=λb d=>List.mem_flatten.2 ⟨c,List.mem_of_getElem? n,d⟩
  rw[List.flatten_cons,List.nodup_append]at h
  obtain⟨p,m⟩:=f0i o Bs i h.2.1 n λb d=>(k b d).imp id λh' s=>h' (by rw[List.flatten_cons];exact List.mem_append_right _ s)
  refine⟨?_,λb d=>?_⟩
  ·rw[List.set_cons_succ,List.flatten_cons,List.nodup_append]
   refine⟨h.1,p,λa g b d e=>?_⟩
   subst e
   rcases m a d with h'|h'
   ·exact h.2.2 a g a h' rfl
   ·rcases k a h' with l|l
    ·exact h.2.2 a g a (q a l) rfl
    ·exact l (by rw[List.flatten_cons];exact List.mem_append_left _ g)
  ·rw[List.set_cons_succ,List.flatten_cons]at d
   rcases List.mem_append.1 d with h'|h'
   ·exact .inl (by rw[List.flatten_cons];exact List.mem_append_left _ h')
   ·rcases m b h' with h'|h'
    ·exact .inl (by rw[List.flatten_cons];exact List.mem_append_right _ h')
    ·exact .inr h'
theorem t0a{h:Hp}{g o:Nat}{n c:Nat}{x:List Int}{B:List Nat}(w:Wp.int.slice.W h [.slice (some ⟨g,o,none⟩) n c] x B):B = [g]:=by
 obtain⟨v,vs,p,a,d,⟨t,k⟩,j,rfl⟩:=w
 cases d
 have l:a.flatten = []:=by
  have:∀(vs:List (List Value)) (x:List Int) (Bs:List (List Nat)),F3 (Wp.int.W h) vs x Bs->Bs.flatten = []:=λvs=>by
   induction vs with
   |nil=>intro x Bs f;cases x<;>cases Bs<;>first|rfl|exact f.elim
   |cons v vs m =>
    intro x Bs f
    cases x with
    |nil=>cases Bs<;>exact f.elim
    |cons y x =>
     cases Bs with
     |nil=>exact f.elim
     |cons b Bs=>rw[List.flatten_cons,m x Bs f.2,f.1.2];rfl
  exact this _ _ _ j
 rcases k with⟨e,_⟩|⟨s,u,q,cur,ty,e,_,_,_,i,_⟩
 ·cases e
 ·cases e
  rw[l,i];rfl
theorem New.appE{h0 h:Hp}{rows:List (List Value)}{xs:List (List Int)}{Bs:List (List Nat)}(f:F3 (Wp.int.slice.W h) rows xs Bs)(fr:n4 h0 Bs.flatten)(ad:Sub h0 h){i:Int}{x:List Int}{a:Option Addr}{c:Nat}
  (v:gi xs i=some x) (O:rows[i.toNat]?=some [.slice a x.length c]) (ne:0<x.length) :
  ∃ g o,a=some ⟨g,o,none⟩/\∃ vs,x08 h 1 (.slice (some ⟨g,o,none⟩) x.length c) vs/\vs.length=x.length/\∀ t j s h',F2 (Wp.int.R h) t j->w0a h h' 1 g s (vs++t) ->
   ∃ k p n,s = .slice (some ⟨k,p,none⟩) (x++j).length n/\Sub h0 h'/\(∃ B,F3 (Wp.int.slice.W h') (rows.set i.toNat [.slice (some ⟨k,p,none⟩) (x++j).length n]) (xs.set i.toNat (x++j)) B/\n4 h0 B.flatten) /\
    Wp.int.slice.R h' [.slice (some ⟨k,p,none⟩) (x++j).length n] (x++j)/\(x++j).length<=9223372036854775807:=by
 obtain⟨_,v⟩:=C0b v
 obtain⟨cs,m,C,q,w⟩:=f.get v
 rw[O]at C;cases C
 have Q:n4 h0 m:=⟨(List.pairwise_flatten.1 fr.1).1 m (List.mem_of_getElem? q),λb l=>fr.2 b (List.mem_flatten.2 ⟨m,List.mem_of_getElem? q,l⟩)⟩
 have N:New Wp.int.slice h0 h [.slice a x.length c] x:=⟨m,w,Q,ad⟩
 rcases New.two N with⟨_,_,Y⟩|⟨g,o,rfl⟩
 ·rw[Y]at ne;cases ne
 have G:m = [g]:=t0a w
 obtain⟨vs,ac,aa,L⟩:=New.app N (Sub.refl h)
 refine⟨g,o,rfl,vs,ac,aa,λt j s h' Z E=>?_⟩
 obtain⟨u,k,p,ai,n,rfl⟩:=L t j (j.map λ_=>[]) h' s (F3.ofPlain (W01 _) Z) n4.ofPlain E
 obtain⟨_,ag,aj,J,af,M,F,U⟩:=E
 cases M
 obtain⟨rfl,V⟩:=Sl.len u.r
 have S:=u.r
 obtain⟨A,K,D,ae⟩:=u
 have P:A = [k]:=t0a K
 obtain⟨ab,J⟩:=f0i D.1 Bs i.toNat fr.1 q λb l=>by
  rw[P,List.mem_singleton]at l
  subst l
  rcases F with rfl|z
  ·exact .inl (by rw[G];exact List.mem_singleton.2 rfl)
  ·exact .inr λX=>g07 f b X z
 refine⟨k,p,n,rfl,ae,⟨Bs.set i.toNat A,F3.stepB f fr.1 q K (λa b d ah T H=>Wp.int.slice.frame H λy I=>U y λe=>?_),ab,λb l=>?_⟩,S,V⟩
 ·subst e
  rcases F with rfl|z
  ·exact T y I (by rw[G];exact List.mem_singleton.2 rfl)
  ·exact Wp.int.slice.dom H y I z
 ·rcases J b l with h'|h'
  ·exact fr.2 b h'
  ·exact D.2 b h'
theorem F2.ofLen{c d:Type}:∀ {as:List c} {bs:List d},as.length=bs.length->F2 (λ_ _=>True) as bs
 | [],[],_=>trivial
 |a::as,b::bs,h=>⟨trivial,F2.ofLen (by simpa using h)⟩
 | [],b::bs,h=>by simp at h
 |a::as,[],h=>by simp at h
end Go.H
