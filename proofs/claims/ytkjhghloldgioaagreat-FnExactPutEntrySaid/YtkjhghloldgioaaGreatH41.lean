/- Plain laws over the model: a slice in fresh memory that loses a row in its place; what is fresh beside it stays. -/
import Derived.Test.YtkjhghloldgioaaGreatH40
namespace Go.H
set_option linter.unusedVariables false
theorem j0h(m k:Nat):(List.replicate m k).sum=m*k:=by
 induction m with
 |zero=>simp
 |succ m a=>rw[List.replicate_succ,List.sum_cons,a,Nat.succ_mul,Nat.add_comm]
theorem F3.drop{d e f:Type}{p:d->e->f->Prop}:∀ {as:List d} {bs:List e} {cs:List f} (m:Nat),F3 p as bs cs->F3 p (as.drop m) (bs.drop m) (cs.drop m)
 | [],[],[],m,_=>by simp[F3]
 |a::as,b::bs,c::cs,0,h=>h
 |a::as,b::bs,c::cs,m+1,h=>by simp only[List.drop_succ_cons];exact F3.drop m h.2
theorem New.keep{p:Type}{i:Wp p}{h0 k l h j:Hp}{cs:List Value}{n:p}{g:Nat}(w:New i l h cs n)(C:Sub h0 k)(sh:Sub k l)(s:k g≠none)(A:Sub h0 j){d:Nat}(t:d=g∨h d=none)(u:∀ b,b≠d->j b=h b):New i h0 j cs n:=by
 obtain⟨B,m,f,s1⟩:=w
 have y:∀ b∈B,b≠d:=λb c e=>by
  subst e
  rcases t with q|v
  ·have a:=f.2 b c
   rw[q]at a
   obtain⟨x,z⟩:=Option.ne_none_iff_exists'.1 s
   rw[sh _ _ z]at a;cases a
  ·exact i.dom m b c v
 refine⟨B,i.frame m λb c=>u b (y b c),⟨f.1,λb c=>?_⟩,A⟩
 have a:=f.2 b c
 cases ho:h0 b with
 |none=>rfl
 |some o=>rw[sh _ _ (C _ _ ho)]at a;cases a
theorem New.sndI{k:Type}{i:Wp k}{h g:Hp}{a:Int}{cs:List Value}{x:Int}{j:k}(w:New (Wp.pair Wp.int i) h g (.int .i64 a::cs) (x,j)):New i h g cs j:=by
 obtain⟨B,⟨d,t,s,l,e,rfl,⟨⟨o,_⟩,u⟩,q⟩,f,p⟩:=w
 have n:d.length=1:=by rw[o];rfl
 match d,n with
 | [c],_ =>
  simp at e
  rw[e.2]
  refine⟨l,q,⟨(List.nodup_append.1 f.1).2.1,λb m=>f.2 b (List.mem_append_right _ m)⟩,p⟩
theorem New.drop{ao:Type}{r:Wp ao}{h0 I h:Hp}{a:Option Addr}{n c:Nat}{xs z y:List ao}(w:New r.slice h0 I [.slice a n c] xs)(G:Sub I h){i j:Int}(au:M04 xs 0 i=some z)(aw:M04 xs j (xs.length:Int)=some y)(be:i<j):
  (∀ v,K0b r.sz (.slice a n c) (0:Int).toNat i.toNat v->v = .slice a z.length c)/\((0:Int)<=0/\0<=i/\i<=(n:Int))/\(∀ k,Sub h k->∃ vs,SlE k r.sz (.slice a n c) vs) /\
  ∃ g o A C U V,a=some ⟨g,o,none⟩/\(∀ v,K0b r.sz (.slice a n c) j.toNat (xs.length:Int).toNat v->v = .slice A y.length C)/\(0<=j/\j<=(xs.length:Int)/\(xs.length:Int)<=(n:Int))/\y.length<=C/\C<=9223372036854775807 /\
  S0d h r.sz (.slice (some ⟨g,o,none⟩) z.length c) U/\SlE h r.sz (.slice A y.length C) V/\U.length=z.length/\V.length=y.length /\
  ∀(k:Hp) (H:Value),T0e h k r.sz g H (U++V)->New r.slice h0 k [H] (z++y)/\(∃ aq al Z,H = .slice aq al Z) /\
   ∀ {Y:Type} (T:Wp Y) (O:Hp) (cs:List Value) (X:Y),New T O h cs X->Sub I O->New T h0 k cs X:=by
 have bd:=w.r
 obtain⟨B,⟨v,vs,a1,f,aA,⟨F,aO⟩,ab,rfl⟩,aE,Q⟩:=w
 cases aA
 obtain⟨⟨a2,ar,a3⟩,rfl⟩:=B01 au
 obtain⟨⟨ba,ay,bb⟩,rfl⟩:=B01 aw
 have af:=ab.lens
 rcases aO with⟨e,rfl,_⟩|⟨g,o,a4,cur,ty,e,aS,aT,ak,rfl,S,aU⟩
 ·exfalso
  have:xs.length=0:=by rw[←af.1];rfl
  omega
 cases e
 have s:vs.length=xs.length:=af.1
 have L:(xs.take i.toNat).length=i.toNat:=by rw[List.length_take];omega
 have K:F3 (r.W h) vs xs f:=t07 ab G
 have M:=G g _ ak
 have aQ:List.drop (0:Int).toNat (xs.take i.toNat)=xs.take i.toNat:=rfl
 have aR:List.drop j.toNat (xs.take (xs.length:Int).toNat)=xs.drop j.toNat:=by rw[show((xs.length:Int)).toNat=xs.length by omega,List.take_length]
 rw[aQ,aR]
 have E:(xs.drop j.toNat).length=xs.length-j.toNat:=List.length_drop
 have aB:∀ m:Nat,m<=vs.length->∀ q u,(vs.take m).flatten[q]?=some u->cur[o+q]?=some u:=λm aM q u t=>by
  refine S q u ?_
  have:vs.flatten=(vs.take m).flatten++(vs.drop m).flatten:=by rw[←List.flatten_append,List.take_append_drop]
  rw[this,List.getElem?_append_left]
  ·exact t
  ·exact(List.getElem?_eq_some_iff.1 t).1
 have aP:∀ m:Nat,m<=vs.length->(vs.take m).flatten.length=m*r.sz:=λm aM=>by
  rw[List.length_flatten]
  have:(vs.take m).map List.length=List.replicate m r.sz:=by
   apply List.ext_getElem
   ·rw[List.length_map,List.length_take,List.length_replicate];omega
   ·intro q am an
    simp only[List.getElem_map,List.getElem_replicate]
    exact(F _ (List.mem_of_mem_take (List.getElem_mem _))).1
  rw[this,j0h]
 have aC:∀ q u,(vs.drop j.toNat).flatten[q]?=some u->cur[o+j.toNat*r.sz+q]?=some u:=λq u t=>by
  have J:vs.flatten=(vs.take j.toNat).flatten++(vs.drop j.toNat).flatten:=by rw[←List.flatten_append,List.take_append_drop]
  have aD:=aP j.toNat (by omega)
  have:=S (j.toNat*r.sz+q) u (by
   rw[J,List.getElem?_append_right (by omega),aD]
   rw[show j.toNat*r.sz+q-j.toNat*r.sz=q by omega];exact t)
  rw[←this];congr 1;omega
 refine⟨λv R=>?_,⟨by omega,ar,by omega⟩,λk sh=>⟨vs,?_⟩,g,o,(if c=j.toNat then(some ⟨g,o,none⟩:Option Addr)else(some ⟨g,o,none⟩:Option Addr).map (·.add (j.toNat*r.sz))),c-j.toNat,vs.take i.toNat,vs.drop j.toNat,rfl,λv R=>?_,⟨by omega,ay,by omega⟩,by omega,by omega,?_,?_,by rw[List.length_take,L];omega,by rw[List.length_drop,E];omega,?_⟩
 ·have:=R _ _ _ rfl
  rw[this,L]
  simp only[Int.toNat_zero,Nat.zero_mul,Nat.sub_zero]
  split<;>simp[Addr.add]
 ·refine⟨F,some ⟨g,o,none⟩,vs.length,c,rfl,rfl,aS,.inr ⟨g,o,rfl,λj u aL=>?_⟩⟩
  rw[Hp.cell,sh _ _ M];exact S j u aL
 ·have:=R _ _ _ rfl
  rw[this,E,show((xs.length:Int)).toNat=xs.length by omega]
 ·refine⟨λx l=>F x (List.mem_of_mem_take l),g,o,c,cur,ty,?_,?_,by simpa [maxLen] using aT,aU,M,aB _ (by omega)⟩
  ·rw[L,List.length_take,Nat.min_eq_left (by omega)]
  ·rw[List.length_take];omega
 ·refine⟨λx l=>F x (List.mem_of_mem_drop l),_,_,_,rfl,by rw[E,List.length_drop,s],by rw[E];omega,?_⟩
  by_cases hc:c=j.toNat
  ·left
   rw[List.drop_eq_nil_of_le (by omega)];rfl
  ·right
   rw[if_neg hc]
   refine⟨g,o+j.toNat*r.sz,by simp[Addr.add],λq u t=>?_⟩
   rw[Hp.cell,M];exact aC q u t
 ·rintro k H ⟨⟨aG,p,aV,av,ax,aZ,rfl,am,an,aW,aX,aY⟩,bc,bf,al,Z,az,N,P⟩
  cases az
  have D:=aE
  rw[Z3,List.nodup_append]at D
  obtain⟨⟨_,aN,aJ⟩,ad⟩:=D
  have aK:∀ b∈f.flatten,b≠g:=λb d e=>aJ g (List.mem_singleton.2 rfl) b d e.symm
  have ah:∀ b∈f.flatten,b≠p:=λb d e=>by
   rcases N with rfl|s
   ·exact aK b d e
   ·exact A01 K b d (by rw[e];exact s)
  have aa:h0 p=none:=by
   rcases N with rfl|s
   ·exact ad _ (List.mem_append_left _ (List.mem_singleton.2 rfl))
   ·cases ho:h0 p with
    |none=>rfl
    |some x=>rw[G _ _ (Q _ _ ho)]at s;cases s
  have aj:Sub h0 k:=λb x l=>by
   rw[P b (λe=>by rw[e,aa]at l;cases l)]
   exact G _ _ (Q _ _ l)
  have ai:(f.take i.toNat++f.drop j.toNat).Sublist f:=by
   have J:f.drop j.toNat=(f.drop i.toNat).drop (j.toNat-i.toNat):=by rw[List.drop_drop];congr 1;omega
   rw[J]
   conv=>rhs;rw[←List.take_append_drop i.toNat f]
   exact List.Sublist.append (List.Sublist.refl _) (List.drop_sublist _ _)
  have ae:=Z3.sublist (h:=h0) (Bs:=f) ⟨aN,λb d=>ad b (List.mem_append_right _ d)⟩ ai
  have ag:∀ b∈(f.take i.toNat++f.drop j.toNat).flatten,b∈f.flatten:=λb d=>by
   obtain⟨ap,D,aH⟩:=List.mem_flatten.1 d
   exact List.mem_flatten.2 ⟨ap,ai.subset D,aH⟩
  have aF:F3 (r.W h) (vs.take i.toNat++vs.drop j.toNat) (xs.take i.toNat++xs.drop j.toNat) (f.take i.toNat++f.drop j.toNat):=(F3.take _ K).append (F3.drop _ K)
  refine⟨⟨[p]++(f.take i.toNat++f.drop j.toNat).flatten,⟨_,_,[p],_,rfl,⟨aG,.inr ⟨p,aV,av,ax,aZ,rfl,am,by simpa [maxLen] using an,aX,rfl,aY,aW⟩⟩,?_,rfl⟩,⟨?_,?_⟩,aj⟩,⟨_,_,_,rfl⟩,?_⟩
  ·exact A9 aF λb d=>P b (ah b (ag b d))
  ·rw[List.nodup_append]
   refine⟨by simp,ae.1,λa ac b d=>?_⟩
   simp only[List.mem_singleton]at ac
   subst ac
   exact λe=>ah b (ag b d) e.symm
  ·intro b d
   rcases List.mem_append.1 d with d|d
   ·simp only[List.mem_singleton]at d;rw[d];exact aa
   ·exact ae.2 b d
  ·intro Y T O cs X a0 sh
   exact New.keep a0 Q sh (by rw[ak];simp) aj N P
theorem f0i{h:Type}{xs f g:List h}{i:Int}(n:xs.length<=9223372036854775807)(d:M04 xs 0 i=some f)(e:M04 xs (IntKind.i64.wrap (i+1)) (xs.length:Int)=some g):i<IntKind.i64.wrap (i+1):=by
 obtain⟨⟨j,k,l⟩,_⟩:=B01 d
 obtain⟨⟨a,b,m⟩,_⟩:=B01 e
 simp only[IntKind.wrap,IntKind.bits,IntKind.signed,Bool.true_and]at a b ⊢
 split at a<;>rename_i c
 ·omega
 ·rw[if_neg c]at b ⊢
  have : ¬ ((i+1) % 2 ^ 64 ≥ 2 ^ (64-1)):=by simpa using c
  omega
theorem New.two{b:Type}{r:Wp b}{h0 h:Hp}{a:Option Addr}{c:Nat}{xs:List b}(w:New r.slice h0 h [.slice a xs.length c] xs):(a=none/\c=0/\xs = [])∨∃ g o,a=some ⟨g,o,none⟩:=by
 obtain⟨B,⟨v,vs,j,k,d,⟨p,i⟩,f,rfl⟩,n,s⟩:=w
 cases d
 have q:=f.lens
 rcases i with⟨e,_⟩|⟨m,t,l,cur,ty,e,_⟩
 ·simp only[Value.slice.injEq]at e
  exact .inl ⟨e.1,e.2.2,List.eq_nil_of_length_eq_zero e.2.1⟩
 ·simp only[Value.slice.injEq]at e
  exact .inr ⟨_,_,e.1⟩
theorem Z3.older{a c:Hp}(e:Sub a c){B:List Nat}(f:Z3 c B):Z3 a [B].flatten:=by
 rw[List.flatten_cons,List.flatten_nil,List.append_nil]
 refine⟨f.1,λb d=>?_⟩
 cases ho:a b with
 |none=>rfl
 |some o=>have:=e _ _ ho;rw[f.2 b d]at this;cases this
def NB{a:Type}(r:Wp a)(h0 H:Hp)(cs:List Value)(x:a)(B:List Nat):Prop:=r.W H cs x B/\Z3 h0 B
theorem NB.fin{b:Type}{r:Wp b}{h0 H:Hp}{cs:List Value}{x:b}{B:List Nat}(a:NB r h0 H cs x B)(c:Sub h0 H):New r h0 H cs x:=⟨B,a.1,a.2,c⟩
theorem NB.pair{l m:Type}{r:Wp l}{q:Wp m}{h0 H:Hp}{g i:List Value}{x:l}{k:m}{c f:List Nat}(a:NB r h0 H g x c)(b:NB q h0 H i k f)(d:∀ z∈c,z ∉ f):NB (r.pair q) h0 H (g++i) (x,k) (c++f) :=
 ⟨⟨g,i,c,f,rfl,rfl,a.1,b.1⟩,List.nodup_append.2 ⟨a.2.1,b.2.1,λz j w n e=>d z j (by rw[e];exact n)⟩,λz j=>by
  rcases List.mem_append.1 j with h|h
  ·exact a.2.2 z h
  ·exact b.2.2 z h⟩
theorem NB.mk{d:Type}{r:Wp d}{h0 a c H:Hp}{cs:List Value}{x:d}{B:List Nat}(w:r.W c cs x B)(g:Sub c H)(f:Z3 a B)(t:Sub h0 a):NB r h0 H cs x B :=
 ⟨Wp.sub w g,f.1,λb e=>by
  cases ho:h0 b with
  |none=>rfl
  |some o=>have:=t _ _ ho;rw[f.2 b e]at this;cases this⟩
theorem NB.int{h0 H:Hp}{x:Int}(a:Q0 x):NB Wp.int h0 H [.int .i64 x] x []:=⟨⟨⟨rfl,a⟩,rfl⟩,Z3.nil _⟩
theorem NB.nil{a:Type}{r:Wp a}{h0 H:Hp}:NB r.slice h0 H [.slice none 0 0] [] []:=⟨⟨_,[],[],[],rfl,⟨by simp,.inl ⟨rfl,rfl,rfl⟩⟩,trivial,rfl⟩,Z3.nil _⟩
theorem NB.d0{B:List Nat}:∀ z∈([]:List Nat),z ∉ B:=λz a=>by cases a
def Mid{a:Type}(r:Wp a)(h0 h:Hp)(g o n c i j:Nat)(xs:List a)(b:Hp):Prop:=∃ vs Bs cur ty,
 ((∀ x∈vs,x.length=r.sz/\∀ v∈x,v.oneCell'=true)/\n=vs.length/\vs.length<=c/\c<=9223372036854775807/\h g=some (.cells cur ty (0,0)) /\
  (∀ j u,vs.flatten[j]?=some u->cur[o+j]?=some u)/\o+c*r.sz<=cur.size) /\
 F3 (r.W h) vs xs Bs/\Z3 h0 ([g]++Bs.flatten)/\Sub h0 h /\
 ∃ u,vs[j]?=some u/\b=h.set g (.cells (splice cur.toList (o+i*r.sz) u).toArray ty (0,0))
theorem D0b{sz:Nat}:∀(vs:List (List Value)) (i:Nat) (u:List Value),(∀ x∈vs,x.length=sz)->vs[i]?=some u->∀ k v,u[k]?=some v->vs.flatten[i*sz+k]?=some v
 | [],_,_,_,h=>by simp at h
 |x::r,0,u,b,h=>by
  intro k v a
  simp only[List.getElem?_cons_zero,Option.some.injEq]at h
  subst h
  have:k<x.length:=(List.getElem?_eq_some_iff.1 a).1
  rw[List.flatten_cons,Nat.zero_mul,Nat.zero_add,List.getElem?_append_left this];exact a
 |x::r,i+1,u,b,h=>by
  intro k v a
  have d:=D0b r i u (λf e=>b f (mC _ e)) (by simpa using h) k v a
  have c:=b x (List.mem_cons_self)
  rw[List.flatten_cons,List.getElem?_append_right (by rw[c,Nat.add_mul];omega),c,show(i+1)*sz+k-sz=i*sz+k by rw[Nat.add_mul];omega];exact d
theorem n0g{sz:Nat}{h:Hp}{g o n c:Nat}{cur:Array Value}{ty:TypeId}{vs:List (List Value)}(e:∀ x∈vs,x.length=sz)(y:h g=some (.cells cur ty (0,0)))(t:∀ j u,vs.flatten[j]?=some u->cur[o+j]?=some u)
  {idx:Int} {new:List Value} (w:V4 h (.slice (some ⟨g,o,none⟩) n c) sz idx new) (d:idx.toNat<vs.length):vs[idx.toNat]?=some new:=by
 obtain⟨A,_,b,D,C,z,q,s⟩:=w
 cases q
 have f:vs[idx.toNat]?=some vs[idx.toNat]:=List.getElem?_eq_getElem d
 rw[f]
 have B:=e _ (List.getElem_mem d)
 refine congrArg some (List.ext_getElem? λk=>?_)
 by_cases hk:k<sz
 ·obtain⟨v,m⟩:∃ v,new[k]?=some v:=⟨_,List.getElem?_eq_getElem (by omega)⟩
  obtain⟨u,i⟩:∃ u,(vs[idx.toNat])[k]?=some u:=⟨_,List.getElem?_eq_getElem (l:=vs[idx.toNat]) (by omega)⟩
  have a:=s k v m
  have b:=t _ _ (D0b vs _ _ e f k u i)
  rw[←Nat.add_assoc]at b
  have p:cur[o+idx.toNat*sz+k]?=some v:=by simpa [Hp.cell,y] using a
  rw[m,i,←p,b]
 ·rw[List.getElem?_eq_none (by omega),List.getElem?_eq_none (by omega)]
theorem New.swap1{k:Type}{r:Wp k}{h0 m h:Hp}{g o n c:Nat}{xs:List k}(w:New r.slice h0 m [.slice (some ⟨g,o,none⟩) n c] xs)(j:Sub m h){b i:Int}{x Q:k}(y:gi xs b=some x)(z:gi xs i=some Q){new:List Value}
  (D:V4 h (.slice (some ⟨g,o,none⟩) n c) r.sz i new) {K:Hp->Prop} {off:Nat} (H:off=b.toNat*r.sz)
  (G:∀ l,Mid r h0 h g o n c b.toNat i.toNat xs l->K l):r9 h (.slice (some ⟨g,o,none⟩) n c) b off new K:=by
 subst H
 obtain⟨B,⟨v,vs,R,t,u,⟨d,I⟩,p,rfl⟩,A,J⟩:=w
 cases u
 rcases I with⟨e,_⟩|⟨T,X,S,cur,ty,e,M,N,O,rfl,s,P⟩
 ·cases e
 cases e
 have V:=p.lens
 have f:=j g _ O
 have F:=R08 y
 have U:=R08 z
 have q:=n0g (λx L=>(d x L).1) f s D (by omega)
 have W:=(d new (List.mem_of_getElem? q)).1
 have E:o+b.toNat*r.sz+new.length<=cur.size:=by
  have:(b.toNat+1)*r.sz<=c*r.sz:=Nat.mul_le_mul_right _ (by omega)
  rw[Nat.add_mul,Nat.one_mul]at this
  omega
 exact⟨g,o,_,c,cur,ty,⟨rfl,F.2,f,E⟩,G _ ⟨vs,t,cur,ty,⟨d,rfl,M,N,f,s,P⟩,t07 p j,A,λa x C=>j _ _ (J _ _ C),new,q,rfl⟩⟩
theorem New.swap2{G:Type}{r:Wp G}{h0 h k:Hp}{g o n c:Nat}{xs:List G}{a d:Int}(m:Mid r h0 h g o n c a.toNat d.toNat xs k){x F:G}(L:gi xs a=some x)(M:gi xs d=some F){new:List Value}
  (X:V4 h (.slice (some ⟨g,o,none⟩) n c) r.sz a new) {K:Hp->Prop} {off:Nat} (ad:off=d.toNat*r.sz)
  (Z:∀ s,New r.slice h0 s [.slice (some ⟨g,o,none⟩) n c] ((xs.set a.toNat F).set d.toNat x)->(∀ b,b≠g->s b=h b)->h g≠none->K s):r9 k (.slice (some ⟨g,o,none⟩) n c) d off new K:=by
 subst ad
 obtain⟨vs,Bs,cur,ty,⟨l,rfl,ai,aj,P,R,ak⟩,p,t,af,u,A,rfl⟩:=m
 have ar:=p.lens
 have aq:=R08 L
 have Y:=R08 M
 have y:=n0g (λx B=>(l x B).1) P R X (by omega)
 have ac:=(l new (List.mem_of_getElem? y)).1
 have Q:=(l u (List.mem_of_getElem? A)).1
 have J:∀ q,q<vs.length->o+q*r.sz+r.sz<=cur.size:=λq j=>by
  have:(q+1)*r.sz<=c*r.sz:=Nat.mul_le_mul_right _ (by omega)
  rw[Nat.add_mul,Nat.one_mul]at this
  omega
 have ap:=J a.toNat (by omega)
 have f2:=J d.toNat (by omega)
 have C:(splice cur.toList (o+a.toNat*r.sz) u).length=cur.size:=by rw[n8,R4];simp
 have w:∀ b∈Bs.flatten,b≠g:=λb f e=>by
  have:=t.1;rw[List.nodup_append]at this
  exact this.2.2 g (List.mem_singleton.2 rfl) b f e.symm
 have ag:xs[a.toNat]?=some x:=(D06 L).2
 have ah:xs[d.toNat]?=some F:=(D06 M).2
 obtain⟨an,H,T,E,am⟩:=F3.get p ag
 obtain⟨ao,I,S,D,al⟩:=F3.get p ah
 rw[y]at T;cases T
 rw[A]at S;cases S
 have aa:∀ b∈H,b∈Bs.flatten:=λb f=>List.mem_flatten.2 ⟨H,List.mem_of_getElem? E,f⟩
 have ab:∀ b∈I,b∈Bs.flatten:=λb f=>List.mem_flatten.2 ⟨I,List.mem_of_getElem? D,f⟩
 refine⟨g,o,_,c,_,ty,⟨rfl,Y.2,Hp.set_same _ _ _,by simp only[List.size_toArray];rw[C];omega⟩,Z _ ?_ (λb f=>by rw[Hp.set_other _ _ f,Hp.set_other _ _ f]) (by rw[P];simp)⟩
 have fr:∀ b,b≠g->(Hp.set (Hp.set h g (.cells (splice cur.toList (o+a.toNat*r.sz) u).toArray ty (0,0))) g (.cells (splice (splice cur.toList (o+a.toNat*r.sz) u).toArray.toList (o+d.toNat*r.sz) new).toArray ty (0,0))) b=h b:=λb f=>by
  rw[Hp.set_other _ _ f,Hp.set_other _ _ f]
 have N:a.toNat<Bs.length:=by omega
 have O:d.toNat<Bs.length:=by omega
 rw[List.getElem?_eq_getElem N]at E;rw[List.getElem?_eq_getElem O]at D
 obtain rfl:=oJ E
 obtain rfl:=oJ D
 have ae:((Bs.set a.toNat Bs[d.toNat]).set d.toNat Bs[a.toNat]).Perm Bs:=List.set_set_perm N O
 have U:Z3 h0 ([g]++((Bs.set a.toNat Bs[d.toNat]).set d.toNat Bs[a.toNat]).flatten):=by
  have:=Z3.perm (h:=h0) (Bs:=[g]::Bs) (Bs':=[g]::((Bs.set a.toNat Bs[d.toNat]).set d.toNat Bs[a.toNat])) (by simpa using t) (List.Perm.cons _ ae)
  simpa using this
 refine⟨_,⟨_,(vs.set a.toNat u).set d.toNat new,[g],(Bs.set a.toNat Bs[d.toNat]).set d.toNat Bs[a.toNat],rfl,⟨?_,.inr ⟨g,o,c,_,ty,by simp,by simpa using ai,aj,Hp.set_same _ _ _,rfl,λq v j=>?_,?_⟩⟩,?_,rfl⟩,U,?_⟩
 ·intro z i
  rcases List.mem_or_eq_of_mem_set i with i|rfl
  ·rcases List.mem_or_eq_of_mem_set i with i|rfl
   ·exact l z i
   ·exact l _ (List.mem_of_getElem? A)
  ·exact l _ (List.mem_of_getElem? y)
 ·have V:∀ x∈vs.set a.toNat u,x.length=r.sz:=λz i=>by
   rcases List.mem_or_eq_of_mem_set i with i|rfl
   ·exact(l z i).1
   ·exact Q
  rw[k03 _ _ new q V (by simp;omega) ac,k03 vs _ u q (λx B=>(l x B).1) (by omega) Q]at j
  rw[List.getElem?_toArray,n8,O9 _ _ _ _ (by show o+d.toNat*r.sz+new.length<=(splice cur.toList (o+a.toNat*r.sz) u).length;rw[C];omega)]
  by_cases hc:d.toNat*r.sz<=q/\q<d.toNat*r.sz+r.sz
  ·rw[if_pos hc]at j
   rw[if_pos (by omega),show o+q-(o+d.toNat*r.sz)=q-d.toNat*r.sz by omega];exact j
  ·rw[if_neg hc]at j
   rw[if_neg (by omega)]
   rw[n8,O9 _ _ _ _ (by simp;omega)]
   by_cases hc2:a.toNat*r.sz<=q/\q<a.toNat*r.sz+r.sz
   ·rw[if_pos hc2]at j
    rw[if_pos (by omega),show o+q-(o+a.toNat*r.sz)=q-a.toNat*r.sz by omega];exact j
   ·rw[if_neg hc2]at j
    rw[if_neg (by omega),Array.getElem?_toList];exact R q v j
 ·rw[List.size_toArray,n8,R4];show o+c*r.sz<=(splice cur.toList (o+a.toNat*r.sz) u).length;rw[C];exact ak
 ·refine F3.set (r.frame am λb f=>fr b (w b (aa b f))) _ (F3.set (r.frame al λb f=>fr b (w b (ab b f))) _ (A9 p λb f=>fr b (w b f)))
 ·intro b z i
  have W:b≠g:=λe=>by have:=t.2 g (List.mem_append_left _ (List.mem_singleton.2 rfl));rw[e,this]at i;cases i
  rw[fr b W];exact af _ _ i
theorem New.appN{E:Type}{r:Wp E}{h0 g h:Hp}(w:New r.slice h0 g [.slice none 0 0] [])(C:Sub g h){m:List (List Value)}{D:List E}{Bs:List (List Nat)}{q:Hp}{l:Value}(y:F3 (r.W h) m D Bs)(hf:Z3 g Bs.flatten)
  (f:G0h h q r.sz l m):New r.slice h0 q [l] ([]++D)/\∃ p A z n,l = .slice (some ⟨p,A,none⟩) z n:=by
 have j:=w.sub
 obtain⟨⟨H,d,B,o,F,N,rfl,I,J,K,L,M⟩,p,A,z,n,G,i,u⟩:=f
 cases G
 have v:∀ b∈Bs.flatten,b≠d:=λb c e=>A01 y b c (by rw[e];exact i)
 have s:h0 d=none:=by
  cases ho:h0 d with
  |none=>rfl
  |some x=>rw[C _ _ (j _ _ ho)]at i;cases i
 refine⟨⟨[d]++Bs.flatten,⟨_,m,[d],Bs,rfl,⟨H,.inr ⟨d,B,o,F,N,rfl,I,by simpa [maxLen] using J,L,rfl,M,K⟩⟩,?_,rfl⟩,⟨?_,?_⟩,?_⟩,d,B,_,o,rfl⟩
 ·exact A9 y λb c=>u b (v b c)
 ·rw[List.nodup_append]
  refine⟨by simp,hf.1,λa f b c=>?_⟩
  simp only[List.mem_singleton]at f
  subst f
  exact λe=>v b c e.symm
 ·intro b c
  rcases List.mem_append.1 c with c|c
  ·simp only[List.mem_singleton]at c;rw[c];exact s
  ·have t:=hf.2 b c
   cases ho:h0 b with
   |none=>rfl
   |some x=>rw[j _ _ ho]at t;cases t
 ·intro b x k
  rw[u b (λe=>by rw[e,s]at k;cases k)]
  exact C _ _ (j _ _ k)
theorem o0g{a d:Type}{xs:List a}{vs:List d}{by_:Nat}{c:Unit}(h:grd ((([]:List a).length+xs.length)*by_<=140737488355328)=some c)(b:vs.length=xs.length):n01 vs.length by_:=by
 have:=d5 h
 rw[n01,b];simpa using this
end Go.H
