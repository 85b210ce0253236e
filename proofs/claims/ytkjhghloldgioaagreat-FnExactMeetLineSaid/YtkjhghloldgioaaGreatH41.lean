/- Plain laws over the model: a slice in fresh memory that loses a row in its place; what is fresh beside it stays. -/
import Derived.Test.YtkjhghloldgioaaGreatH40
namespace Go.H
set_option linter.unusedVariables false
theorem x0s(m k:Nat):(List.replicate m k).sum=m*k:=by
 induction m with
 |zero=>simp
 |succ m a=>rw[List.replicate_succ,List.sum_cons,a,Nat.succ_mul,Nat.add_comm]
theorem F3.drop{d e f:Type}{p:d->e->f->Prop}:∀ {as:List d} {bs:List e} {cs:List f} (m:Nat),F3 p as bs cs->F3 p (as.drop m) (bs.drop m) (cs.drop m)
 | [],[],[],m,_=>by simp[F3]
 |a::as,b::bs,c::cs,0,h=>h
 |a::as,b::bs,c::cs,m+1,h=>by simp only[List.drop_succ_cons];exact F3.drop m h.2
theorem New.keep{n:Type}{i:Wp n}{h0 k l h j:Hp}{cs:List Value}{y:n}{g:Nat}(w:New i l h cs y)(C:Sub h0 k)(sh:Sub k l)(q:k g≠none)(s:Sub h0 j){d:Nat}(t:d=g∨h d=none)(u:∀ b,b≠d->j b=h b):New i h0 j cs y:=by
 obtain⟨B,m,f,s1⟩:=w
 have z:∀ b∈B,b≠d:=λb c e=>by
  subst e
  rcases t with p|v
  ·have a:=f.2 b c
   rw[p]at a
   obtain⟨x,A⟩:=Option.ne_none_iff_exists'.1 q
   rw[sh _ _ A]at a;cases a
  ·exact i.dom m b c v
 refine⟨B,i.frame m λb c=>u b (z b c),⟨f.1,λb c=>?_⟩,s⟩
 have a:=f.2 b c
 cases ho:h0 b with
 |none=>rfl
 |some o=>rw[sh _ _ (C _ _ ho)]at a;cases a
theorem New.sndI{j:Type}{i:Wp j}{h g:Hp}{a:Int}{cs:List Value}{x:Int}{y:j}(w:New (Wp.pair Wp.int i) h g (.int .i64 a::cs) (x,y)):New i h g cs y:=by
 obtain⟨B,⟨d,q,p,k,e,rfl,⟨⟨n,_⟩,t⟩,o⟩,f,s⟩:=w
 have m:d.length=1:=by rw[n];rfl
 match d,m with
 | [c],_ =>
  simp at e
  rw[e.2]
  refine⟨k,o,⟨(List.nodup_append.1 f.1).2.1,λb l=>f.2 b (List.mem_append_right _ l)⟩,s⟩
theorem New.drop{ao:Type}{r:Wp ao}{h0 J h:Hp}{a:Option Addr}{n c:Nat}{xs E D:List ao}(w:New r.slice h0 J [.slice a n c] xs)(s:Sub J h){i j:Int}(au:D06 xs 0 i=some E)(aw:D06 xs j (xs.length:Int)=some D)(be:i<j):
  (∀ v,g0l r.sz (.slice a n c) (0:Int).toNat i.toNat v->v = .slice a E.length c)/\((0:Int)<=0/\0<=i/\i<=(n:Int))/\(∀ k,Sub h k->∃ vs,SlE k r.sz (.slice a n c) vs) /\
  ∃ g o A C V X,a=some ⟨g,o,none⟩/\(∀ v,g0l r.sz (.slice a n c) j.toNat (xs.length:Int).toNat v->v = .slice A D.length C)/\(0<=j/\j<=(xs.length:Int)/\(xs.length:Int)<=(n:Int))/\D.length<=C/\C<=9223372036854775807 /\
  M0n h r.sz (.slice (some ⟨g,o,none⟩) E.length c) V/\SlE h r.sz (.slice A D.length C) X/\V.length=E.length/\X.length=D.length /\
  ∀(k:Hp) (I:Value),b0p h k r.sz g I (V++X)->New r.slice h0 k [I] (E++D)/\(∃ aq al Z,I = .slice aq al Z) /\
   ∀ {Y:Type} (U:Wp Y) (P:Hp) (cs:List Value) (y:Y),New U P h cs y->Sub J P->New U h0 k cs y:=by
 have bd:=w.r
 obtain⟨B,⟨v,vs,a1,f,aA,⟨H,aO⟩,ab,rfl⟩,aE,R⟩:=w
 cases aA
 obtain⟨⟨a2,ar,a3⟩,rfl⟩:=X05 au
 obtain⟨⟨ba,ay,bb⟩,rfl⟩:=X05 aw
 have af:=ab.lens
 rcases aO with⟨e,rfl,_⟩|⟨g,o,a4,cur,ty,e,aS,aT,ak,rfl,T,aU⟩
 ·exfalso
  have:xs.length=0:=by rw[←af.1];rfl
  omega
 cases e
 have t:vs.length=xs.length:=af.1
 have M:(xs.take i.toNat).length=i.toNat:=by rw[List.length_take];omega
 have L:F3 (r.W h) vs xs f:=Y0d ab s
 have N:=s g _ ak
 have aQ:List.drop (0:Int).toNat (xs.take i.toNat)=xs.take i.toNat:=rfl
 have aR:List.drop j.toNat (xs.take (xs.length:Int).toNat)=xs.drop j.toNat:=by rw[show((xs.length:Int)).toNat=xs.length by omega,List.take_length]
 rw[aQ,aR]
 have G:(xs.drop j.toNat).length=xs.length-j.toNat:=List.length_drop
 have aB:∀ m:Nat,m<=vs.length->∀ q u,(vs.take m).flatten[q]?=some u->cur[o+q]?=some u:=λm aM q u z=>by
  refine T q u ?_
  have:vs.flatten=(vs.take m).flatten++(vs.drop m).flatten:=by rw[←List.flatten_append,List.take_append_drop]
  rw[this,List.getElem?_append_left]
  ·exact z
  ·exact(List.getElem?_eq_some_iff.1 z).1
 have aP:∀ m:Nat,m<=vs.length->(vs.take m).flatten.length=m*r.sz:=λm aM=>by
  rw[List.length_flatten]
  have:(vs.take m).map List.length=List.replicate m r.sz:=by
   apply List.ext_getElem
   ·rw[List.length_map,List.length_take,List.length_replicate];omega
   ·intro q am an
    simp only[List.getElem_map,List.getElem_replicate]
    exact(H _ (List.mem_of_mem_take (List.getElem_mem _))).1
  rw[this,x0s]
 have aC:∀ q u,(vs.drop j.toNat).flatten[q]?=some u->cur[o+j.toNat*r.sz+q]?=some u:=λq u z=>by
  have K:vs.flatten=(vs.take j.toNat).flatten++(vs.drop j.toNat).flatten:=by rw[←List.flatten_append,List.take_append_drop]
  have aD:=aP j.toNat (by omega)
  have:=T (j.toNat*r.sz+q) u (by
   rw[K,List.getElem?_append_right (by omega),aD]
   rw[show j.toNat*r.sz+q-j.toNat*r.sz=q by omega];exact z)
  rw[←this];congr 1;omega
 refine⟨λv S=>?_,⟨by omega,ar,by omega⟩,λk sh=>⟨vs,?_⟩,g,o,(if c=j.toNat then(some ⟨g,o,none⟩:Option Addr)else(some ⟨g,o,none⟩:Option Addr).map (·.add (j.toNat*r.sz))),c-j.toNat,vs.take i.toNat,vs.drop j.toNat,rfl,λv S=>?_,⟨by omega,ay,by omega⟩,by omega,by omega,?_,?_,by rw[List.length_take,M];omega,by rw[List.length_drop,G];omega,?_⟩
 ·have:=S _ _ _ rfl
  rw[this,M]
  simp only[Int.toNat_zero,Nat.zero_mul,Nat.sub_zero]
  split<;>simp[Addr.add]
 ·refine⟨H,some ⟨g,o,none⟩,vs.length,c,rfl,rfl,aS,.inr ⟨g,o,rfl,λj u aL=>?_⟩⟩
  rw[Hp.cell,sh _ _ N];exact T j u aL
 ·have:=S _ _ _ rfl
  rw[this,G,show((xs.length:Int)).toNat=xs.length by omega]
 ·refine⟨λx l=>H x (List.mem_of_mem_take l),g,o,c,cur,ty,?_,?_,by simpa [maxLen] using aT,aU,N,aB _ (by omega)⟩
  ·rw[M,List.length_take,Nat.min_eq_left (by omega)]
  ·rw[List.length_take];omega
 ·refine⟨λx l=>H x (List.mem_of_mem_drop l),_,_,_,rfl,by rw[G,List.length_drop,t],by rw[G];omega,?_⟩
  by_cases hc:c=j.toNat
  ·left
   rw[List.drop_eq_nil_of_le (by omega)];rfl
  ·right
   rw[if_neg hc]
   refine⟨g,o+j.toNat*r.sz,by simp[Addr.add],λq u z=>?_⟩
   rw[Hp.cell,N];exact aC q u z
 ·rintro k I ⟨⟨aG,p,aV,av,ax,aZ,rfl,am,an,aW,aX,aY⟩,bc,bf,al,Z,az,O,Q⟩
  cases az
  have F:=aE
  rw[K7,List.nodup_append]at F
  obtain⟨⟨_,aN,aJ⟩,ad⟩:=F
  have aK:∀ b∈f.flatten,b≠g:=λb d e=>aJ g (List.mem_singleton.2 rfl) b d e.symm
  have ah:∀ b∈f.flatten,b≠p:=λb d e=>by
   rcases O with rfl|t
   ·exact aK b d e
   ·exact K04 L b d (by rw[e];exact t)
  have aa:h0 p=none:=by
   rcases O with rfl|t
   ·exact ad _ (List.mem_append_left _ (List.mem_singleton.2 rfl))
   ·cases ho:h0 p with
    |none=>rfl
    |some x=>rw[s _ _ (R _ _ ho)]at t;cases t
  have aj:Sub h0 k:=λb x l=>by
   rw[Q b (λe=>by rw[e,aa]at l;cases l)]
   exact s _ _ (R _ _ l)
  have ai:(f.take i.toNat++f.drop j.toNat).Sublist f:=by
   have K:f.drop j.toNat=(f.drop i.toNat).drop (j.toNat-i.toNat):=by rw[List.drop_drop];congr 1;omega
   rw[K]
   conv=>rhs;rw[←List.take_append_drop i.toNat f]
   exact List.Sublist.append (List.Sublist.refl _) (List.drop_sublist _ _)
  have ae:=K7.sublist (h:=h0) (Bs:=f) ⟨aN,λb d=>ad b (List.mem_append_right _ d)⟩ ai
  have ag:∀ b∈(f.take i.toNat++f.drop j.toNat).flatten,b∈f.flatten:=λb d=>by
   obtain⟨ap,F,aH⟩:=List.mem_flatten.1 d
   exact List.mem_flatten.2 ⟨ap,ai.subset F,aH⟩
  have aF:F3 (r.W h) (vs.take i.toNat++vs.drop j.toNat) (xs.take i.toNat++xs.drop j.toNat) (f.take i.toNat++f.drop j.toNat):=(F3.take _ L).append (F3.drop _ L)
  refine⟨⟨[p]++(f.take i.toNat++f.drop j.toNat).flatten,⟨_,_,[p],_,rfl,⟨aG,.inr ⟨p,aV,av,ax,aZ,rfl,am,by simpa [maxLen] using an,aX,rfl,aY,aW⟩⟩,?_,rfl⟩,⟨?_,?_⟩,aj⟩,⟨_,_,_,rfl⟩,?_⟩
  ·exact L04 aF λb d=>Q b (ah b (ag b d))
  ·rw[List.nodup_append]
   refine⟨by simp,ae.1,λa ac b d=>?_⟩
   simp only[List.mem_singleton]at ac
   subst ac
   exact λe=>ah b (ag b d) e.symm
  ·intro b d
   rcases List.mem_append.1 d with d|d
   ·simp only[List.mem_singleton]at d;rw[d];exact aa
   ·exact ae.2 b d
  ·intro Y U P cs y a0 sh
   exact New.keep a0 R sh (by rw[ak];simp) aj O Q
theorem E0t{h:Type}{xs f g:List h}{i:Int}(n:xs.length<=9223372036854775807)(d:D06 xs 0 i=some f)(e:D06 xs (IntKind.i64.wrap (i+1)) (xs.length:Int)=some g):i<IntKind.i64.wrap (i+1):=by
 obtain⟨⟨j,k,l⟩,_⟩:=X05 d
 obtain⟨⟨a,b,m⟩,_⟩:=X05 e
 simp only[IntKind.wrap,IntKind.bits,IntKind.signed,Bool.true_and]at a b ⊢
 split at a<;>rename_i c
 ·omega
 ·rw[if_neg c]at b ⊢
  have : ¬ ((i+1) % 2 ^ 64 ≥ 2 ^ (64-1)):=by simpa using c
  omega
theorem New.blk{b:Type}{r:Wp b}{h0 a H:Hp}{g o n c:Nat}{xs:List b}(w:New r.slice h0 a [.slice (some ⟨g,o,none⟩) n c] xs)(s:Sub a H)(f:H g=none):False:=by
 obtain⟨B,⟨v,vs,j,k,d,⟨t,h⟩,q,rfl⟩,p,u⟩:=w
 cases d
 rcases h with⟨e,_⟩|⟨m,C,l,cur,ty,e,x,y,i,rfl,z,A⟩
 ·cases e
 cases e
 have:=s g _ i
 rw[f]at this;cases this
theorem New.two{b:Type}{r:Wp b}{h0 h:Hp}{a:Option Addr}{c:Nat}{xs:List b}(w:New r.slice h0 h [.slice a xs.length c] xs):(a=none/\c=0/\xs = [])∨∃ g o,a=some ⟨g,o,none⟩:=by
 obtain⟨B,⟨v,vs,j,k,d,⟨p,i⟩,f,rfl⟩,n,s⟩:=w
 cases d
 have q:=f.lens
 rcases i with⟨e,_⟩|⟨m,t,l,cur,ty,e,_⟩
 ·simp only[Value.slice.injEq]at e
  exact .inl ⟨e.1,e.2.2,List.eq_nil_of_length_eq_zero e.2.1⟩
 ·simp only[Value.slice.injEq]at e
  exact .inr ⟨_,_,e.1⟩
def NB{a:Type}(r:Wp a)(h0 H:Hp)(cs:List Value)(x:a)(B:List Nat):Prop:=r.W H cs x B/\K7 h0 B
theorem NB.fin{b:Type}{r:Wp b}{h0 H:Hp}{cs:List Value}{x:b}{B:List Nat}(a:NB r h0 H cs x B)(s:Sub h0 H):New r h0 H cs x:=⟨B,a.1,a.2,s⟩
theorem NB.pair{k l:Type}{r:Wp k}{q:Wp l}{h0 H:Hp}{g i:List Value}{x:k}{y:l}{c f:List Nat}(a:NB r h0 H g x c)(b:NB q h0 H i y f)(d:∀ z∈c,z ∉ f):NB (r.pair q) h0 H (g++i) (x,y) (c++f) :=
 ⟨⟨g,i,c,f,rfl,rfl,a.1,b.1⟩,List.nodup_append.2 ⟨a.2.1,b.2.1,λz j w m e=>d z j (by rw[e];exact m)⟩,λz j=>by
  rcases List.mem_append.1 j with h|h
  ·exact a.2.2 z h
  ·exact b.2.2 z h⟩
theorem NB.mk{d:Type}{r:Wp d}{h0 a c H:Hp}{cs:List Value}{x:d}{B:List Nat}(w:r.W c cs x B)(s:Sub c H)(f:K7 a B)(t:Sub h0 a):NB r h0 H cs x B :=
 ⟨Wp.sub w s,f.1,λb e=>by
  cases ho:h0 b with
  |none=>rfl
  |some o=>have:=t _ _ ho;rw[f.2 b e]at this;cases this⟩
theorem NB.int{h0 H:Hp}{x:Int}(a:I0 x):NB Wp.int h0 H [.int .i64 x] x []:=⟨⟨⟨rfl,a⟩,rfl⟩,K7.nil _⟩
theorem NB.nil{a:Type}{r:Wp a}{h0 H:Hp}:NB r.slice h0 H [.slice none 0 0] [] []:=⟨⟨_,[],[],[],rfl,⟨by simp,.inl ⟨rfl,rfl,rfl⟩⟩,trivial,rfl⟩,K7.nil _⟩
theorem NB.d0{B:List Nat}:∀ z∈([]:List Nat),z ∉ B:=λz a=>by cases a
end Go.H
