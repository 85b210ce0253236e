/- Plain laws over the model: a slice in fresh memory that loses a row in its place; what is fresh beside it stays. -/
import Derived.Test.YtmgikbbmpnbbjaaGreatH40
namespace Go.H
set_option linter.unusedVariables false
theorem M0t(m k:Nat):(List.replicate m k).sum=m*k:=by
 induction m with
 |zero=>simp
 |succ m a=>rw[List.replicate_succ,List.sum_cons,a,Nat.succ_mul,Nat.add_comm]
theorem F3.drop{d e f:Type}{p:d->e->f->Prop}:∀ {as:List d} {bs:List e} {cs:List f} (m:Nat),F3 p as bs cs->F3 p (as.drop m) (bs.drop m) (cs.drop m)
 | [],[],[],m,_=>by simp[F3]
 |a::as,b::bs,c::cs,0,h=>h
 |a::as,b::bs,c::cs,m+1,h=>by simp only[List.drop_succ_cons];exact F3.drop m h.2
theorem New.keep{m:Type}{i:Wp m}{h0 j k h h':Hp}{cs:List Value}{y:m}{g:Nat}(w:New i k h cs y)(A:Sub h0 j)(sh:Sub j k)(p:j g≠none)(s:Sub h0 h'){d:Nat}(q:d=g∨h d=none)(t:∀ b,b≠d->h' b=h b):New i h0 h' cs y:=by
 obtain⟨B,l,f,s1⟩:=w
 have v:∀ b∈B,b≠d:=λb c e=>by
  subst e
  rcases q with n|u
  ·have a:=f.2 b c
   rw[n]at a
   obtain⟨x,z⟩:=Option.ne_none_iff_exists'.1 p
   rw[sh _ _ z]at a;cases a
  ·exact i.dom l b c u
 refine⟨B,i.frame l λb c=>t b (v b c),⟨f.1,λb c=>?_⟩,s⟩
 have a:=f.2 b c
 cases ho:h0 b with
 |none=>rfl
 |some o=>rw[sh _ _ (A _ _ ho)]at a;cases a
theorem New.sndI{i:Type}{g:Wp i}{h h':Hp}{a:Int}{cs:List Value}{x:Int}{y:i}(w:New (Wp.pair Wp.int g) h h' (.int .i64 a::cs) (x,y)):New g h h' cs y:=by
 obtain⟨B,⟨d,p,o,j,e,rfl,⟨⟨m,_⟩,q⟩,n⟩,f,s⟩:=w
 have l:d.length=1:=by rw[m];rfl
 match d,l with
 | [c],_ =>
  simp at e
  rw[e.2]
  refine⟨j,n,⟨(List.nodup_append.1 f.1).2.1,λb k=>f.2 b (List.mem_append_right _ k)⟩,s⟩
theorem New.drop{an:Type}{r:Wp an}{h0 I h:Hp}{a:Option Addr}{n c:Nat}{xs D z:List an}(w:New r.slice h0 I [.slice a n c] xs)(s:Sub I h){i j:Int}(ar:b08 xs 0 i=some D)(av:b08 xs j (xs.length:Int)=some z)(bc:i<j):
  (∀ v,v0m r.sz (.slice a n c) (0:Int).toNat i.toNat v->v = .slice a D.length c)/\((0:Int)<=0/\0<=i/\i<=(n:Int))/\(∀ h',Sub h h'->∃ vs,SlE h' r.sz (.slice a n c) vs) /\
  ∃ g o A C U V,a=some ⟨g,o,none⟩/\(∀ v,v0m r.sz (.slice a n c) j.toNat (xs.length:Int).toNat v->v = .slice A z.length C)/\(0<=j/\j<=(xs.length:Int)/\(xs.length:Int)<=(n:Int))/\z.length<=C/\C<=9223372036854775807 /\
  g0e h r.sz (.slice (some ⟨g,o,none⟩) D.length c) U/\SlE h r.sz (.slice A z.length C) V/\U.length=D.length/\V.length=z.length /\
  ∀(h':Hp) (H:Value),Y0g h h' r.sz g H (U++V)->New r.slice h0 h' [H] (D++z)/\(∃ ap ak Y,H = .slice ap ak Y) /\
   ∀ {X:Type} (T:Wp X) (O:Hp) (cs:List Value) (y:X),New T O h cs y->Sub I O->New T h0 h' cs y:=by
 have bb:=w.r
 obtain⟨B,⟨v,vs,a0,f,ay,⟨G,aM⟩,aa,rfl⟩,aC,Q⟩:=w
 cases ay
 obtain⟨⟨a1,aq,a2⟩,rfl⟩:=r07 ar
 obtain⟨⟨a4,aw,a5⟩,rfl⟩:=r07 av
 have ae:=aa.lens
 rcases aM with⟨e,rfl,_⟩|⟨g,o,a3,cur,ty,e,aQ,aR,aj,rfl,S,aS⟩
 ·exfalso
  have:xs.length=0:=by rw[←ae.1];rfl
  omega
 cases e
 have p:vs.length=xs.length:=ae.1
 have L:(xs.take i.toNat).length=i.toNat:=by rw[List.length_take];omega
 have K:F3 (r.W h) vs xs f:=u08 aa s
 have M:=s g _ aj
 have aO:List.drop (0:Int).toNat (xs.take i.toNat)=xs.take i.toNat:=rfl
 have aP:List.drop j.toNat (xs.take (xs.length:Int).toNat)=xs.drop j.toNat:=by rw[show((xs.length:Int)).toNat=xs.length by omega,List.take_length]
 rw[aO,aP]
 have F:(xs.drop j.toNat).length=xs.length-j.toNat:=List.length_drop
 have az:∀ m:Nat,m<=vs.length->∀ q u,(vs.take m).flatten[q]?=some u->cur[o+q]?=some u:=λm aK q u t=>by
  refine S q u ?_
  have:vs.flatten=(vs.take m).flatten++(vs.drop m).flatten:=by rw[←List.flatten_append,List.take_append_drop]
  rw[this,List.getElem?_append_left]
  ·exact t
  ·exact(List.getElem?_eq_some_iff.1 t).1
 have aN:∀ m:Nat,m<=vs.length->(vs.take m).flatten.length=m*r.sz:=λm aK=>by
  rw[List.length_flatten]
  have:(vs.take m).map List.length=List.replicate m r.sz:=by
   apply List.ext_getElem
   ·rw[List.length_map,List.length_take,List.length_replicate];omega
   ·intro q al am
    simp only[List.getElem_map,List.getElem_replicate]
    exact(G _ (List.mem_of_mem_take (List.getElem_mem _))).1
  rw[this,M0t]
 have aA:∀ q u,(vs.drop j.toNat).flatten[q]?=some u->cur[o+j.toNat*r.sz+q]?=some u:=λq u t=>by
  have J:vs.flatten=(vs.take j.toNat).flatten++(vs.drop j.toNat).flatten:=by rw[←List.flatten_append,List.take_append_drop]
  have aB:=aN j.toNat (by omega)
  have:=S (j.toNat*r.sz+q) u (by
   rw[J,List.getElem?_append_right (by omega),aB]
   rw[show j.toNat*r.sz+q-j.toNat*r.sz=q by omega];exact t)
  rw[←this];congr 1;omega
 refine⟨λv R=>?_,⟨by omega,aq,by omega⟩,λh' sh=>⟨vs,?_⟩,g,o,(if c=j.toNat then(some ⟨g,o,none⟩:Option Addr)else(some ⟨g,o,none⟩:Option Addr).map (·.add (j.toNat*r.sz))),c-j.toNat,vs.take i.toNat,vs.drop j.toNat,rfl,λv R=>?_,⟨by omega,aw,by omega⟩,by omega,by omega,?_,?_,by rw[List.length_take,L];omega,by rw[List.length_drop,F];omega,?_⟩
 ·have:=R _ _ _ rfl
  rw[this,L]
  simp only[Int.toNat_zero,Nat.zero_mul,Nat.sub_zero]
  split<;>simp[Addr.add]
 ·refine⟨G,some ⟨g,o,none⟩,vs.length,c,rfl,rfl,aQ,.inr ⟨g,o,rfl,λj u aJ=>?_⟩⟩
  rw[Hp.cell,sh _ _ M];exact S j u aJ
 ·have:=R _ _ _ rfl
  rw[this,F,show((xs.length:Int)).toNat=xs.length by omega]
 ·refine⟨λx k=>G x (List.mem_of_mem_take k),g,o,c,cur,ty,?_,?_,by simpa [maxLen] using aR,aS,M,az _ (by omega)⟩
  ·rw[L,List.length_take,Nat.min_eq_left (by omega)]
  ·rw[List.length_take];omega
 ·refine⟨λx k=>G x (List.mem_of_mem_drop k),_,_,_,rfl,by rw[F,List.length_drop,p],by rw[F];omega,?_⟩
  by_cases hc:c=j.toNat
  ·left
   rw[List.drop_eq_nil_of_le (by omega)];rfl
  ·right
   rw[if_neg hc]
   refine⟨g,o+j.toNat*r.sz,by simp[Addr.add],λq u t=>?_⟩
   rw[Hp.cell,M];exact aA q u t
 ·rintro h' H ⟨⟨aE,l,aU,au,Z0j,aY,rfl,al,am,aV,aW,aX⟩,ba,bd,ak,Y,ax,N,P⟩
  cases ax
  have E:=aC
  rw[Y4,List.nodup_append]at E
  obtain⟨⟨_,aL,aG⟩,ac⟩:=E
  have aH:∀ b∈f.flatten,b≠g:=λb d e=>aG g (List.mem_singleton.2 rfl) b d e.symm
  have ag:∀ b∈f.flatten,b≠l:=λb d e=>by
   rcases N with rfl|p
   ·exact aH b d e
   ·exact q07 K b d (by rw[e];exact p)
  have Z:h0 l=none:=by
   rcases N with rfl|p
   ·exact ac _ (List.mem_append_left _ (List.mem_singleton.2 rfl))
   ·cases ho:h0 l with
    |none=>rfl
    |some x=>rw[s _ _ (Q _ _ ho)]at p;cases p
  have ai:Sub h0 h':=λb x k=>by
   rw[P b (λe=>by rw[e,Z]at k;cases k)]
   exact s _ _ (Q _ _ k)
  have ah:(f.take i.toNat++f.drop j.toNat).Sublist f:=by
   have J:f.drop j.toNat=(f.drop i.toNat).drop (j.toNat-i.toNat):=by rw[List.drop_drop];congr 1;omega
   rw[J]
   conv=>rhs;rw[←List.take_append_drop i.toNat f]
   exact List.Sublist.append (List.Sublist.refl _) (List.drop_sublist _ _)
  have ad:=Y4.sublist (h:=h0) (Bs:=f) ⟨aL,λb d=>ac b (List.mem_append_right _ d)⟩ ah
  have af:∀ b∈(f.take i.toNat++f.drop j.toNat).flatten,b∈f.flatten:=λb d=>by
   obtain⟨ao,E,aF⟩:=List.mem_flatten.1 d
   exact List.mem_flatten.2 ⟨ao,ah.subset E,aF⟩
  have aD:F3 (r.W h) (vs.take i.toNat++vs.drop j.toNat) (xs.take i.toNat++xs.drop j.toNat) (f.take i.toNat++f.drop j.toNat):=(F3.take _ K).append (F3.drop _ K)
  refine⟨⟨[l]++(f.take i.toNat++f.drop j.toNat).flatten,⟨_,_,[l],_,rfl,⟨aE,.inr ⟨l,aU,au,Z0j,aY,rfl,al,by simpa [maxLen] using am,aW,rfl,aX,aV⟩⟩,?_,rfl⟩,⟨?_,?_⟩,ai⟩,⟨_,_,_,rfl⟩,?_⟩
  ·exact L04 aD λb d=>P b (ag b (af b d))
  ·rw[List.nodup_append]
   refine⟨by simp,ad.1,λa ab b d=>?_⟩
   simp only[List.mem_singleton]at ab
   subst ab
   exact λe=>ag b (af b d) e.symm
  ·intro b d
   rcases List.mem_append.1 d with d|d
   ·simp only[List.mem_singleton]at d;rw[d];exact Z
   ·exact ad.2 b d
  ·intro X T O cs y aZ sh
   exact New.keep aZ Q sh (by rw[aj];simp) ai N P
theorem J0s{h:Type}{xs f g:List h}{i:Int}(n:xs.length<=9223372036854775807)(d:b08 xs 0 i=some f)(e:b08 xs (IntKind.i64.wrap (i+1)) (xs.length:Int)=some g):i<IntKind.i64.wrap (i+1):=by
 obtain⟨⟨j,k,l⟩,_⟩:=r07 d
 obtain⟨⟨a,b,m⟩,_⟩:=r07 e
 simp only[IntKind.wrap,IntKind.bits,IntKind.signed,Bool.true_and]at a b ⊢
 split at a<;>rename_i c
 ·omega
 ·rw[if_neg c]at b ⊢
  have : ¬ ((i+1) % 2 ^ 64 ≥ 2 ^ (64-1)):=by simpa using c
  omega
theorem New.blk{b:Type}{r:Wp b}{h0 a H:Hp}{g o n c:Nat}{xs:List b}(w:New r.slice h0 a [.slice (some ⟨g,o,none⟩) n c] xs)(s:Sub a H)(f:H g=none):False:=by
 obtain⟨B,⟨v,vs,j,k,d,⟨t,h⟩,q,rfl⟩,p,u⟩:=w
 cases d
 rcases h with⟨e,_⟩|⟨m,C,l,cur,ty,e,x,y,i,rfl,z,A⟩
 ·cases e
 cases e
 have:=s g _ i
 rw[f]at this;cases this
theorem New.two{b:Type}{r:Wp b}{h0 h:Hp}{a:Option Addr}{c:Nat}{xs:List b}(w:New r.slice h0 h [.slice a xs.length c] xs):(a=none/\c=0/\xs = [])∨∃ g o,a=some ⟨g,o,none⟩:=by
 obtain⟨B,⟨v,vs,j,k,d,⟨p,i⟩,f,rfl⟩,n,s⟩:=w
 cases d
 have q:=f.lens
 rcases i with⟨e,_⟩|⟨m,t,l,cur,ty,e,_⟩
 ·simp only[Value.slice.injEq]at e
  exact .inl ⟨e.1,e.2.2,List.eq_nil_of_length_eq_zero e.2.1⟩
 ·simp only[Value.slice.injEq]at e
  exact .inr ⟨_,_,e.1⟩
theorem Y4.older{a c:Hp}(s:Sub a c){B:List Nat}(f:Y4 c B):Y4 a [B].flatten:=by
 rw[List.flatten_cons,List.flatten_nil,List.append_nil]
 refine⟨f.1,λb d=>?_⟩
 cases ho:a b with
 |none=>rfl
 |some o=>have:=s _ _ ho;rw[f.2 b d]at this;cases this
def NB{a:Type}(r:Wp a)(h0 H:Hp)(cs:List Value)(x:a)(B:List Nat):Prop:=r.W H cs x B/\Y4 h0 B
theorem NB.fin{b:Type}{r:Wp b}{h0 H:Hp}{cs:List Value}{x:b}{B:List Nat}(a:NB r h0 H cs x B)(s:Sub h0 H):New r h0 H cs x:=⟨B,a.1,a.2,s⟩
theorem NB.pair{k l:Type}{r:Wp k}{q:Wp l}{h0 H:Hp}{g i:List Value}{x:k}{y:l}{c f:List Nat}(a:NB r h0 H g x c)(b:NB q h0 H i y f)(d:∀ z∈c,z ∉ f):NB (r.pair q) h0 H (g++i) (x,y) (c++f) :=
 ⟨⟨g,i,c,f,rfl,rfl,a.1,b.1⟩,List.nodup_append.2 ⟨a.2.1,b.2.1,λz j w m e=>d z j (by rw[e];exact m)⟩,λz j=>by
  rcases List.mem_append.1 j with h|h
  ·exact a.2.2 z h
  ·exact b.2.2 z h⟩
theorem NB.mk{d:Type}{r:Wp d}{h0 a c H:Hp}{cs:List Value}{x:d}{B:List Nat}(w:r.W c cs x B)(s:Sub c H)(f:Y4 a B)(t:Sub h0 a):NB r h0 H cs x B :=
 ⟨Wp.sub w s,f.1,λb e=>by
  cases ho:h0 b with
  |none=>rfl
  |some o=>have:=t _ _ ho;rw[f.2 b e]at this;cases this⟩
theorem NB.int{h0 H:Hp}{x:Int}(a:J0 x):NB Wp.int h0 H [.int .i64 x] x []:=⟨⟨⟨rfl,a⟩,rfl⟩,Y4.nil _⟩
theorem NB.nil{a:Type}{r:Wp a}{h0 H:Hp}:NB r.slice h0 H [.slice none 0 0] [] []:=⟨⟨_,[],[],[],rfl,⟨by simp,.inl ⟨rfl,rfl,rfl⟩⟩,trivial,rfl⟩,Y4.nil _⟩
theorem NB.d0{B:List Nat}:∀ z∈([]:List Nat),z ∉ B:=λz a=>by cases a
def Mid{a:Type}(r:Wp a)(h0 h:Hp)(g o n c i j:Nat)(xs:List a)(h':Hp):Prop:=∃ vs Bs cur ty,
 ((∀ x∈vs,x.length=r.sz/\∀ v∈x,v.oneCell'=true)/\n=vs.length/\vs.length<=c/\c<=9223372036854775807/\h g=some (.cells cur ty (0,0)) /\
  (∀ j u,vs.flatten[j]?=some u->cur[o+j]?=some u)/\o+c*r.sz<=cur.size) /\
 F3 (r.W h) vs xs Bs/\Y4 h0 ([g]++Bs.flatten)/\Sub h0 h /\
 ∃ u,vs[j]?=some u/\h'=h.set g (.cells (splice cur.toList (o+i*r.sz) u).toArray ty (0,0))
theorem k0m{sz:Nat}:∀(vs:List (List Value)) (i:Nat) (u:List Value),(∀ x∈vs,x.length=sz)->vs[i]?=some u->∀ k v,u[k]?=some v->vs.flatten[i*sz+k]?=some v
 | [],_,_,_,h=>by simp at h
 |x::r,0,u,b,h=>by
  intro k v a
  simp only[List.getElem?_cons_zero,Option.some.injEq]at h
  subst h
  have:k<x.length:=(List.getElem?_eq_some_iff.1 a).1
  rw[List.flatten_cons,Nat.zero_mul,Nat.zero_add,List.getElem?_append_left this];exact a
 |x::r,i+1,u,b,h=>by
  intro k v a
  have d:=k0m r i u (λy e=>b y (mC _ e)) (by simpa using h) k v a
  have c:=b x (List.mem_cons_self)
  rw[List.flatten_cons,List.getElem?_append_right (by rw[c,Nat.add_mul];omega),c,show(i+1)*sz+k-sz=i*sz+k by rw[Nat.add_mul];omega];exact d
theorem K0s{sz:Nat}{h:Hp}{g o n c:Nat}{cur:Array Value}{ty:TypeId}{vs:List (List Value)}(e:∀ x∈vs,x.length=sz)(y:h g=some (.cells cur ty (0,0)))(t:∀ j u,vs.flatten[j]?=some u->cur[o+j]?=some u)
  {idx:Int} {new:List Value} (w:A5 h (.slice (some ⟨g,o,none⟩) n c) sz idx new) (d:idx.toNat<vs.length):vs[idx.toNat]?=some new:=by
 obtain⟨A,_,b,D,C,z,q,s⟩:=w
 cases q
 have f:vs[idx.toNat]?=some vs[idx.toNat]:=List.getElem?_eq_getElem d
 rw[f]
 have B:=e _ (List.getElem_mem d)
 refine congrArg some (List.ext_getElem? λk=>?_)
 by_cases hk:k<sz
 ·obtain⟨v,m⟩:∃ v,new[k]?=some v:=⟨_,List.getElem?_eq_getElem (by omega)⟩
  obtain⟨u,i⟩:∃ u,(vs[idx.toNat])[k]?=some u:=⟨_,List.getElem?_eq_getElem (l:=vs[idx.toNat]) (by omega)⟩
  have a:=s k v m
  have b:=t _ _ (k0m vs _ _ e f k u i)
  rw[←Nat.add_assoc]at b
  have p:cur[o+idx.toNat*sz+k]?=some v:=by simpa [Hp.cell,y] using a
  rw[m,i,←p,b]
 ·rw[List.getElem?_eq_none (by omega),List.getElem?_eq_none (by omega)]
theorem New.swap1{j:Type}{r:Wp j}{h0 k h:Hp}{g o n c:Nat}{xs:List j}(w:New r.slice h0 k [.slice (some ⟨g,o,none⟩) n c] xs)(s:Sub k h){b i:Int}{x y:j}(u:gi xs b=some x)(z:gi xs i=some y){new:List Value}
  (D:A5 h (.slice (some ⟨g,o,none⟩) n c) r.sz i new) {K:Hp->Prop} {off:Nat} (H:off=b.toNat*r.sz)
  (G:∀ h',Mid r h0 h g o n c b.toNat i.toNat xs h'->K h'):F04 h (.slice (some ⟨g,o,none⟩) n c) b off new K:=by
 subst H
 obtain⟨B,⟨v,vs,Q,q,t,⟨d,I⟩,l,rfl⟩,A,J⟩:=w
 cases t
 rcases I with⟨e,_⟩|⟨S,W,R,cur,ty,e,M,N,O,rfl,p,P⟩
 ·cases e
 cases e
 have U:=l.lens
 have f:=s g _ O
 have F:=T0d u
 have T:=T0d z
 have m:=K0s (λx L=>(d x L).1) f p D (by omega)
 have V:=(d new (List.mem_of_getElem? m)).1
 have E:o+b.toNat*r.sz+new.length<=cur.size:=by
  have:(b.toNat+1)*r.sz<=c*r.sz:=Nat.mul_le_mul_right _ (by omega)
  rw[Nat.add_mul,Nat.one_mul]at this
  omega
 exact⟨g,o,_,c,cur,ty,⟨rfl,F.2,f,E⟩,G _ ⟨vs,q,cur,ty,⟨d,rfl,M,N,f,p,P⟩,u08 l s,A,λa x C=>s _ _ (J _ _ C),new,m,rfl⟩⟩
theorem New.swap2{F:Type}{r:Wp F}{h0 h k:Hp}{g o n c:Nat}{xs:List F}{a d:Int}(m:Mid r h0 h g o n c a.toNat d.toNat xs k){x y:F}(J:gi xs a=some x)(L:gi xs d=some y){new:List Value}
  (W:A5 h (.slice (some ⟨g,o,none⟩) n c) r.sz a new) {K:Hp->Prop} {off:Nat} (ac:off=d.toNat*r.sz)
  (Y:∀ h',New r.slice h0 h' [.slice (some ⟨g,o,none⟩) n c] ((xs.set a.toNat y).set d.toNat x)->(∀ b,b≠g->h' b=h b)->h g≠none->K h'):F04 k (.slice (some ⟨g,o,none⟩) n c) d off new K:=by
 subst ac
 obtain⟨vs,Bs,cur,ty,⟨l,rfl,ah,ai,O,Q,aj⟩,p,s,ae,u,A,rfl⟩:=m
 have aq:=p.lens
 have ap:=T0d J
 have X:=T0d L
 have w:=K0s (λx B=>(l x B).1) O Q W (by omega)
 have ab:=(l new (List.mem_of_getElem? w)).1
 have P:=(l u (List.mem_of_getElem? A)).1
 have I:∀ q,q<vs.length->o+q*r.sz+r.sz<=cur.size:=λq j=>by
  have:(q+1)*r.sz<=c*r.sz:=Nat.mul_le_mul_right _ (by omega)
  rw[Nat.add_mul,Nat.one_mul]at this
  omega
 have ao:=I a.toNat (by omega)
 have f2:=I d.toNat (by omega)
 have C:(splice cur.toList (o+a.toNat*r.sz) u).length=cur.size:=by rw[m03,d8];simp
 have t:∀ b∈Bs.flatten,b≠g:=λb f e=>by
  have:=s.1;rw[List.nodup_append]at this
  exact this.2.2 g (List.mem_singleton.2 rfl) b f e.symm
 have af:xs[a.toNat]?=some x:=(G0b J).2
 have ag:xs[d.toNat]?=some y:=(G0b L).2
 obtain⟨am,G,S,E,al⟩:=F3.get p af
 obtain⟨an,H,R,D,ak⟩:=F3.get p ag
 rw[w]at S;cases S
 rw[A]at R;cases R
 have Z:∀ b∈G,b∈Bs.flatten:=λb f=>List.mem_flatten.2 ⟨G,List.mem_of_getElem? E,f⟩
 have aa:∀ b∈H,b∈Bs.flatten:=λb f=>List.mem_flatten.2 ⟨H,List.mem_of_getElem? D,f⟩
 refine⟨g,o,_,c,_,ty,⟨rfl,X.2,Hp.set_same _ _ _,by simp only[List.size_toArray];rw[C];omega⟩,Y _ ?_ (λb f=>by rw[Hp.set_other _ _ f,Hp.set_other _ _ f]) (by rw[O];simp)⟩
 have fr:∀ b,b≠g->(Hp.set (Hp.set h g (.cells (splice cur.toList (o+a.toNat*r.sz) u).toArray ty (0,0))) g (.cells (splice (splice cur.toList (o+a.toNat*r.sz) u).toArray.toList (o+d.toNat*r.sz) new).toArray ty (0,0))) b=h b:=λb f=>by
  rw[Hp.set_other _ _ f,Hp.set_other _ _ f]
 have M:a.toNat<Bs.length:=by omega
 have N:d.toNat<Bs.length:=by omega
 rw[List.getElem?_eq_getElem M]at E;rw[List.getElem?_eq_getElem N]at D
 obtain rfl:=oJ E
 obtain rfl:=oJ D
 have ad:((Bs.set a.toNat Bs[d.toNat]).set d.toNat Bs[a.toNat]).Perm Bs:=List.set_set_perm M N
 have T:Y4 h0 ([g]++((Bs.set a.toNat Bs[d.toNat]).set d.toNat Bs[a.toNat]).flatten):=by
  have:=Y4.perm (h:=h0) (Bs:=[g]::Bs) (Bs':=[g]::((Bs.set a.toNat Bs[d.toNat]).set d.toNat Bs[a.toNat])) (by simpa using s) (List.Perm.cons _ ad)
  simpa using this
 refine⟨_,⟨_,(vs.set a.toNat u).set d.toNat new,[g],(Bs.set a.toNat Bs[d.toNat]).set d.toNat Bs[a.toNat],rfl,⟨?_,.inr ⟨g,o,c,_,ty,by simp,by simpa using ah,ai,Hp.set_same _ _ _,rfl,λq v j=>?_,?_⟩⟩,?_,rfl⟩,T,?_⟩
 ·intro z i
  rcases List.mem_or_eq_of_mem_set i with i|rfl
  ·rcases List.mem_or_eq_of_mem_set i with i|rfl
   ·exact l z i
   ·exact l _ (List.mem_of_getElem? A)
  ·exact l _ (List.mem_of_getElem? w)
 ·have U:∀ x∈vs.set a.toNat u,x.length=r.sz:=λz i=>by
   rcases List.mem_or_eq_of_mem_set i with i|rfl
   ·exact(l z i).1
   ·exact P
  rw[I09 _ _ new q U (by simp;omega) ab,I09 vs _ u q (λx B=>(l x B).1) (by omega) P]at j
  rw[List.getElem?_toArray,m03,e05 _ _ _ _ (by show o+d.toNat*r.sz+new.length<=(splice cur.toList (o+a.toNat*r.sz) u).length;rw[C];omega)]
  by_cases hc:d.toNat*r.sz<=q/\q<d.toNat*r.sz+r.sz
  ·rw[if_pos hc]at j
   rw[if_pos (by omega),show o+q-(o+d.toNat*r.sz)=q-d.toNat*r.sz by omega];exact j
  ·rw[if_neg hc]at j
   rw[if_neg (by omega)]
   rw[m03,e05 _ _ _ _ (by simp;omega)]
   by_cases hc2:a.toNat*r.sz<=q/\q<a.toNat*r.sz+r.sz
   ·rw[if_pos hc2]at j
    rw[if_pos (by omega),show o+q-(o+a.toNat*r.sz)=q-a.toNat*r.sz by omega];exact j
   ·rw[if_neg hc2]at j
    rw[if_neg (by omega),Array.getElem?_toList];exact Q q v j
 ·rw[List.size_toArray,m03,d8];show o+c*r.sz<=(splice cur.toList (o+a.toNat*r.sz) u).length;rw[C];exact aj
 ·refine F3.set (r.frame al λb f=>fr b (t b (Z b f))) _ (F3.set (r.frame ak λb f=>fr b (t b (aa b f))) _ (L04 p λb f=>fr b (t b f)))
 ·intro b z i
  have V:b≠g:=λe=>by have:=s.2 g (List.mem_append_left _ (List.mem_singleton.2 rfl));rw[e,this]at i;cases i
  rw[fr b V];exact ae _ _ i
theorem New.appN{D:Type}{r:Wp D}{h0 g h:Hp}(w:New r.slice h0 g [.slice none 0 0] [])(s:Sub g h){m:List (List Value)}{C:List D}{Bs:List (List Nat)}{h':Hp}{l:Value}(y:F3 (r.W h) m C Bs)(hf:Y4 g Bs.flatten)
  (f:t0m h h' r.sz l m):New r.slice h0 h' [l] ([]++C)/\∃ p A z n,l = .slice (some ⟨p,A,none⟩) z n:=by
 have j:=w.sub
 obtain⟨⟨F,d,B,o,Z0j,L,rfl,G,H,I,J,K⟩,p,A,z,n,E,i,u⟩:=f
 cases E
 have v:∀ b∈Bs.flatten,b≠d:=λb c e=>q07 y b c (by rw[e];exact i)
 have q:h0 d=none:=by
  cases ho:h0 d with
  |none=>rfl
  |some x=>rw[s _ _ (j _ _ ho)]at i;cases i
 refine⟨⟨[d]++Bs.flatten,⟨_,m,[d],Bs,rfl,⟨F,.inr ⟨d,B,o,Z0j,L,rfl,G,by simpa [maxLen] using H,J,rfl,K,I⟩⟩,?_,rfl⟩,⟨?_,?_⟩,?_⟩,d,B,_,o,rfl⟩
 ·exact L04 y λb c=>u b (v b c)
 ·rw[List.nodup_append]
  refine⟨by simp,hf.1,λa f b c=>?_⟩
  simp only[List.mem_singleton]at f
  subst f
  exact λe=>v b c e.symm
 ·intro b c
  rcases List.mem_append.1 c with c|c
  ·simp only[List.mem_singleton]at c;rw[c];exact q
  ·have t:=hf.2 b c
   cases ho:h0 b with
   |none=>rfl
   |some x=>rw[j _ _ ho]at t;cases t
 ·intro b x k
  rw[u b (λe=>by rw[e,q]at k;cases k)]
  exact s _ _ (j _ _ k)
theorem l0m{a c:Type}{xs:List a}{vs:List c}{by_:Nat}{y:Unit}(h:grd ((([]:List a).length+xs.length)*by_<=140737488355328)=some y)(b:vs.length=xs.length):d07 vs.length by_:=by
 have:=O0 h
 rw[d07,b];simpa using this
end Go.H
