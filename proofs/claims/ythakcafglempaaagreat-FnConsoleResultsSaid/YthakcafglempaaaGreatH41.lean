/- Plain laws over the model: a slice in fresh memory that loses a row in its place; what is fresh beside it stays. -/
import Derived.Test.YthakcafglempaaaGreatH40
namespace Go.H
set_option linter.all false
theorem d0y(m k:Nat):(List.replicate m k).sum=m*k:=by
 induction m with
 |zero=>simp
 |succ m a=>rw[List.replicate_succ,List.sum_cons,a,Nat.succ_mul,Nat.add_comm]
theorem F3.drop{d e f:Type}{p:d->e->f->Prop}:∀ {as:List d} {bs:List e} {cs:List f} (m:Nat),F3 p as bs cs->F3 p (as.drop m) (bs.drop m) (cs.drop m)
 | [],[],[],m,_=>by simp[F3]
 |a::as,b::bs,c::cs,0,h=>h
 |a::as,b::bs,c::cs,m+1,h=>by simp only[List.drop_succ_cons];exact F3.drop m h.2
theorem New.keep{l:Type}{i:Wp l}{h0 j k h h':Hp}{cs:List Value}{y:l}{g:Nat}(w:New i k h cs y)(z:Sub h0 j)(sh:Sub j k)(n:j g≠none)(v:Sub h0 h'){d:Nat}(p:d=g∨h d=none)(q:∀ b,b≠d->h' b=h b):New i h0 h' cs y:=by
 obtain⟨B,w1,f,s1⟩:=w;have t:∀ b∈B,b≠d:=λb c e=>by
  subst e;rcases p with m|s;·have a:=f.2 b c;rw[m]at a;obtain⟨x,u⟩:=Option.ne_none_iff_exists'.1 n;rw[sh _ _ u]at a;cases a
  exact i.dom w1 b c s
 refine⟨B,i.frame w1 λb c=>q b (t b c),⟨f.1,λb c=>?_⟩,v⟩;have a:=f.2 b c;cases ho:h0 b with
 |none=>rfl
 |some o=>rw[sh _ _ (z _ _ ho)]at a;cases a
theorem New.sndI{i:Type}{g:Wp i}{h h':Hp}{a:Int}{cs:List Value}{x:Int}{y:i}(w:New (Wp.pair Wp.int g) h h' (.int .i64 a::cs) (x,y)):New g h h' cs y:=by
 obtain⟨B,⟨d,q,p,j,e,rfl,⟨⟨m,_⟩,s⟩,o⟩,f,n⟩:=w;have l:d.length=1:=by rw[m];rfl
 match d,l with
 | [c],_ =>simp at e;rw[e.2];refine⟨j,o,⟨(List.nodup_append.1 f.1).2.1,λb k=>f.2 b (List.mem_append_right _ k)⟩,n⟩
theorem S0k.ex(sz l m:Nat)(a:Option Addr)(n c:Nat):∃ v,S0k sz (.slice a n c) l m v:=⟨_,λ_ _ _ e=>by cases e;rfl⟩
theorem New.drop{an:Type}{r:Wp an}{h0 I h:Hp}{a:Option Addr}{n c:Nat}{xs z t:List an}(w:New r.slice h0 I [.slice a n c] xs)(G:Sub I h){i j:Int}(ar:b05 xs 0 i=some z)(av:b05 xs j (xs.length:Int)=some t)(bd:i<j): (∀ v,S0k r.sz (.slice a n c) (0:Int).toNat i.toNat v->v = .slice a z.length c)/\((0:Int)<=0/\0<=i/\i<=(n:Int))/\(∀ h',Sub h h'->∃ vs,SlE h' r.sz (.slice a n c) vs) /\ ∃ g o A C U V,a=some ⟨g,o,none⟩/\(∀ v,S0k r.sz (.slice a n c) j.toNat (xs.length:Int).toNat v->v = .slice A t.length C)/\(0<=j/\j<=(xs.length:Int)/\(xs.length:Int)<=(n:Int))/\t.length<=C/\C<=9223372036854775807 /\ H0q h r.sz (.slice (some ⟨g,o,none⟩) z.length c) U/\SlE h r.sz (.slice A t.length C) V/\U.length=z.length/\V.length=t.length /\ ∀(h':Hp) (H:Value),f0o h h' r.sz g H (U++V)->New r.slice h0 h' [H] (z++t)/\(∃ ap ak Y,H = .slice ap ak Y) /\ ∀ {X:Type} (T:Wp X) (O:Hp) (cs:List Value) (y:X),New T O h cs y->Sub I O->New T h0 h' cs y:=by
 have bc:=w.r;obtain⟨B,⟨v,vs,a2,f,az,⟨F,aO⟩,aa,rfl⟩,aD,Q⟩:=w;cases az;obtain⟨⟨a3,aq,a4⟩,rfl⟩:=U09 ar;obtain⟨⟨a6,ax,ba⟩,rfl⟩:=U09 av;have ae:=aa.lens;rcases aO with⟨e,rfl,_⟩|⟨g,o,a5,cur,ty,e,aS,aU,aj,rfl,S,aV⟩
 ·exfalso;have:xs.length=0:=by rw[←ae.1];rfl
  omega
 cases e;have p:vs.length=xs.length:=ae.1;have L:(xs.take i.toNat).length=i.toNat:=by rw[List.length_take];omega
 have K:F3 (r.W h) vs xs f:=k0f aa G;have M:=G g _ aj;have aQ:List.drop (0:Int).toNat (xs.take i.toNat)=xs.take i.toNat:=rfl;have aR:List.drop j.toNat (xs.take (xs.length:Int).toNat)=xs.drop j.toNat:=by rw[show((xs.length:Int)).toNat=xs.length by omega,List.take_length]
 rw[aQ,aR];have E:(xs.drop j.toNat).length=xs.length-j.toNat:=List.length_drop;have aA:∀ m:Nat,m<=vs.length->∀ q u,(vs.take m).flatten[q]?=some u->cur[o+q]?=some u:=λm aM q u s=>by
  refine S q u ?_;have:vs.flatten=(vs.take m).flatten++(vs.drop m).flatten:=by rw[←List.flatten_append,List.take_append_drop]
  rw[this,List.getElem?_append_left];·exact s
  exact(List.getElem?_eq_some_iff.1 s).1
 have aP:∀ m:Nat,m<=vs.length->(vs.take m).flatten.length=m*r.sz:=λm aM=>by
  rw[List.length_flatten];have:(vs.take m).map List.length=List.replicate m r.sz:=by
   apply List.ext_getElem;·rw[List.length_map,List.length_take,List.length_replicate];omega
   intro q al am;simp only[List.getElem_map,List.getElem_replicate];exact(F _ (List.mem_of_mem_take (List.getElem_mem _))).1
  rw[this,d0y]
 have aB:∀ q u,(vs.drop j.toNat).flatten[q]?=some u->cur[o+j.toNat*r.sz+q]?=some u:=λq u s=>by
  have J:vs.flatten=(vs.take j.toNat).flatten++(vs.drop j.toNat).flatten:=by rw[←List.flatten_append,List.take_append_drop]
  have aC:=aP j.toNat oM;have:=S (j.toNat*r.sz+q) u (by rw[J,List.getElem?_append_right oM,aC];rw[show j.toNat*r.sz+q-j.toNat*r.sz=q by omega];exact s);rw[←this];congr 1;omega
 refine⟨λv R=>?_,⟨oM,aq,oM⟩,λh' sh=>⟨vs,?_⟩,g,o,(if c=j.toNat then(some ⟨g,o,none⟩:Option Addr)else(some ⟨g,o,none⟩:Option Addr).map (·.add (j.toNat*r.sz))),c-j.toNat,vs.take i.toNat,vs.drop j.toNat,rfl,λv R=>?_,⟨oM,ax,oM⟩,oM,oM,?_,?_,by rw[List.length_take,L];omega,by rw[List.length_drop,E];omega,?_⟩;·have:=R _ _ _ rfl;rw[this,L];simp only[Int.toNat_zero,Nat.zero_mul,Nat.sub_zero];split<;>simp[Addr.add]
 ·refine⟨F,some ⟨g,o,none⟩,vs.length,c,rfl,rfl,aS,.inr ⟨g,o,rfl,λj u aL=>?_⟩⟩;rw[Hp.cell,sh _ _ M];exact S j u aL
 ·have:=R _ _ _ rfl;rw[this,E,show((xs.length:Int)).toNat=xs.length by omega]
 ·refine⟨λx k=>F x (List.mem_of_mem_take k),g,o,c,cur,ty,?_,?_,by simpa [maxLen] using aU,aV,M,aA _ oM⟩;·rw[L,List.length_take,Nat.min_eq_left oM]
  rw[List.length_take];omega
 ·refine⟨λx k=>F x (List.mem_of_mem_drop k),_,_,_,rfl,by rw[E,List.length_drop,p],by rw[E];omega,?_⟩;by_cases hc:c=j.toNat;·left;rw[List.drop_eq_nil_of_le oM];rfl
  right;rw[if_neg hc];refine⟨g,o+j.toNat*r.sz,by simp[Addr.add],λq u s=>?_⟩;rw[Hp.cell,M];exact aB q u s
 rintro h' H ⟨⟨aG,l,aW,au,aw,a0,rfl,al,am,aX,aY,aZ⟩,bb,be,ak,Y,ay,N,P⟩;cases ay;have D:=aD;rw[G4,List.nodup_append]at D;obtain⟨⟨_,aN,aJ⟩,ac⟩:=D;have aK:∀ b∈f.flatten,b≠g:=λb d e=>aJ g (List.mem_singleton.2 rfl) b d e.symm;have ag:∀ b∈f.flatten,b≠l:=λb d e=>by
  rcases N with rfl|p;·exact aK b d e
  exact T09 K b d (by rw[e];exact p)
 have Z:h0 l=none:=by
  rcases N with rfl|p;·exact ac _ (List.mem_append_left _ (List.mem_singleton.2 rfl))
  cases ho:h0 l with
  |none=>rfl
  |some x=>rw[G _ _ (Q _ _ ho)]at p;cases p
 have ai:Sub h0 h':=λb x k=>by rw[P b (λe=>by rw[e,Z]at k;cases k)];exact G _ _ (Q _ _ k)
 have ah:(f.take i.toNat++f.drop j.toNat).Sublist f:=by
  have J:f.drop j.toNat=(f.drop i.toNat).drop (j.toNat-i.toNat):=by rw[List.drop_drop];congr 1;omega
  rw[J];conv=>rhs;rw[←List.take_append_drop i.toNat f]
  exact List.Sublist.append (List.Sublist.refl _) (List.drop_sublist _ _)
 have ad:=G4.sublist (h:=h0) (Bs:=f) ⟨aN,λb d=>ac b (List.mem_append_right _ d)⟩ ah;have af:∀ b∈(f.take i.toNat++f.drop j.toNat).flatten,b∈f.flatten:=λb d=>by obtain⟨ao,D,aH⟩:=List.mem_flatten.1 d;exact List.mem_flatten.2 ⟨ao,ah.subset D,aH⟩
 have aF:F3 (r.W h) (vs.take i.toNat++vs.drop j.toNat) (xs.take i.toNat++xs.drop j.toNat) (f.take i.toNat++f.drop j.toNat):=(F3.take _ K).append (F3.drop _ K);refine⟨⟨[l]++(f.take i.toNat++f.drop j.toNat).flatten,⟨_,_,[l],_,rfl,⟨aG,.inr ⟨l,aW,au,aw,a0,rfl,al,by simpa [maxLen] using am,aY,rfl,aZ,aX⟩⟩,?_,rfl⟩,⟨?_,?_⟩,ai⟩,⟨_,_,_,rfl⟩,?_⟩;·exact A08 aF λb d=>P b (ag b (af b d))
 ·rw[List.nodup_append];refine⟨oS,ad.1,λa ab b d=>?_⟩;simp only[List.mem_singleton]at ab;subst ab;exact λe=>ag b (af b d) e.symm
 ·intro b d;rcases List.mem_append.1 d with d|d;·simp only[List.mem_singleton]at d;rw[d];exact Z
  exact ad.2 b d
 intro X T O cs y a1 sh;exact New.keep a1 Q sh (by rw[aj];simp) ai N P
theorem X0w{h:Type}{xs f g:List h}{i:Int}(n:xs.length<=9223372036854775807)(d:b05 xs 0 i=some f)(e:b05 xs (IntKind.i64.wrap (i+1)) (xs.length:Int)=some g):i<IntKind.i64.wrap (i+1):=by
 obtain⟨⟨j,k,l⟩,_⟩:=U09 d;obtain⟨⟨a,b,m⟩,_⟩:=U09 e;simp only[IntKind.wrap,IntKind.bits,IntKind.signed,Bool.true_and]at a b ⊢;split at a<;>rename_i c;·omega
 rw[if_neg c]at b ⊢;have : ¬ ((i+1) % 2 ^ 64 ≥ 2 ^ (64-1)):=by simpa using c
 omega
theorem New.blk{b:Type}{r:Wp b}{h0 a H:Hp}{g o n c:Nat}{xs:List b}(w:New r.slice h0 a [.slice (some ⟨g,o,none⟩) n c] xs)(j:Sub a H)(f:H g=none):False:=by
 obtain⟨B,⟨v,vs,k,l,d,⟨t,h⟩,s,rfl⟩,q,u⟩:=w;cases d;rcases h with⟨e,_⟩|⟨p,C,m,cur,ty,e,x,y,i,rfl,z,A⟩;·cases e
 cases e;have:=j g _ i;rw[f]at this;cases this
theorem New.two{b:Type}{r:Wp b}{h0 h:Hp}{a:Option Addr}{c:Nat}{xs:List b}(w:New r.slice h0 h [.slice a xs.length c] xs):(a=none/\c=0/\xs = [])∨∃ g o,a=some ⟨g,o,none⟩:=by
 obtain⟨B,⟨v,vs,j,k,d,⟨p,i⟩,f,rfl⟩,n,s⟩:=w;cases d;have q:=f.lens;rcases i with⟨e,_⟩|⟨m,t,l,cur,ty,e,_⟩;·simp only[Value.slice.injEq]at e;exact .inl ⟨e.1,e.2.2,List.eq_nil_of_length_eq_zero e.2.1⟩
 simp only[Value.slice.injEq]at e;exact .inr ⟨_,_,e.1⟩
theorem G4.older{a c:Hp}(e:Sub a c){B:List Nat}(f:G4 c B):G4 a [B].flatten:=by
 rw[List.flatten_cons,List.flatten_nil,List.append_nil];refine⟨f.1,λb d=>?_⟩;cases ho:a b with
 |none=>rfl
 |some o=>have:=e _ _ ho;rw[f.2 b d]at this;cases this
def NB{a:Type}(r:Wp a)(h0 H:Hp)(cs:List Value)(x:a)(B:List Nat):Prop:=r.W H cs x B/\G4 h0 B
theorem NB.fin{b:Type}{r:Wp b}{h0 H:Hp}{cs:List Value}{x:b}{B:List Nat}(a:NB r h0 H cs x B)(c:Sub h0 H):New r h0 H cs x:=⟨B,a.1,a.2,c⟩
theorem NB.pair{k l:Type}{r:Wp k}{q:Wp l}{h0 H:Hp}{g i:List Value}{x:k}{y:l}{c f:List Nat}(a:NB r h0 H g x c)(b:NB q h0 H i y f)(d:∀ z∈c,z ∉ f):NB (r.pair q) h0 H (g++i) (x,y) (c++f) :=
 ⟨⟨g,i,c,f,rfl,rfl,a.1,b.1⟩,List.nodup_append.2 ⟨a.2.1,b.2.1,λz j w m e=>d z j (by rw[e];exact m)⟩,λz j=>by
  rcases List.mem_append.1 j with h|h
  ·exact a.2.2 z h
  ·exact b.2.2 z h⟩
theorem NB.mk{d:Type}{r:Wp d}{h0 a c H:Hp}{cs:List Value}{x:d}{B:List Nat}(w:r.W c cs x B)(g:Sub c H)(f:G4 a B)(t:Sub h0 a):NB r h0 H cs x B :=
 ⟨Wp.sub w g,f.1,λb e=>by
  cases ho:h0 b with
  |none=>rfl
  |some o=>have:=t _ _ ho;rw[f.2 b e]at this;cases this⟩
theorem NB.int{h0 H:Hp}{x:Int}(a:H0 x):NB Wp.int h0 H [.int .i64 x] x []:=⟨⟨⟨rfl,a⟩,rfl⟩,G4.nil _⟩
theorem NB.nil{a:Type}{r:Wp a}{h0 H:Hp}:NB r.slice h0 H [.slice none 0 0] [] []:=⟨⟨_,[],[],[],rfl,⟨oS,.inl ⟨rfl,rfl,rfl⟩⟩,trivial,rfl⟩,G4.nil _⟩
theorem NB.dl{d:Type}{r:Wp d}{h c:Hp}{cs:List Value}{x:d}{a b:List Nat}(w:r.W h cs x a)(i:Sub h c)(f:G4 c b):∀ z∈a,z ∉ b:=λz g e=>by
 cases ho:h z with
 |none=>exact r.dom w z g ho
 |some o=>have:=i _ _ ho;rw[f.2 z e]at this;cases this
theorem NB.dr{d:Type}{r:Wp d}{h c:Hp}{cs:List Value}{x:d}{a b:List Nat}(w:r.W h cs x b)(i:Sub h c)(f:G4 c a):∀ z∈a,z ∉ b:=λz g e=>NB.dl w i f z e g
theorem NB.d0{B:List Nat}:∀ z∈([]:List Nat),z ∉ B:=λz a=>by cases a
theorem NB.de{B:List Nat}:∀ z∈B,z ∉ ([]:List Nat):=λz _ a=>by cases a
theorem NB.da{B a b:List Nat}(d:∀ z∈B,z ∉ a)(e:∀ z∈B,z ∉ b):∀ z∈B,z ∉ a++b:=λz c h=>(List.mem_append.1 h).elim (d z c) (e z c)
theorem New.appN{E:Type}{r:Wp E}{h0 g h:Hp}(w:New r.slice h0 g [.slice none 0 0] [])(C:Sub g h){m:LV}{D:List E}{Bs:List (List Nat)}{h':Hp}{l:Value}(v:F3 (r.W h) m D Bs)(hf:G4 g Bs.flatten) (f:D0t h h' r.sz l m):New r.slice h0 h' [l] ([]++D)/\∃ p z y n,l = .slice (some ⟨p,z,none⟩) y n:=by
 have j:=w.sub;obtain⟨⟨H,d,A,o,F,N,rfl,I,J,K,L,M⟩,p,z,y,n,G,i,t⟩:=f;cases G;have u:∀ b∈Bs.flatten,b≠d:=λb c e=>T09 v b c (by rw[e];exact i);have q:h0 d=none:=by
  cases ho:h0 d with
  |none=>rfl
  |some x=>rw[C _ _ (j _ _ ho)]at i;cases i
 refine⟨⟨[d]++Bs.flatten,⟨_,m,[d],Bs,rfl,⟨H,.inr ⟨d,A,o,F,N,rfl,I,by simpa [maxLen] using J,L,rfl,M,K⟩⟩,?_,rfl⟩,⟨?_,?_⟩,?_⟩,d,A,_,o,rfl⟩;·exact A08 v λb c=>t b (u b c)
 ·rw[List.nodup_append];refine⟨oS,hf.1,λa f b c=>?_⟩;simp only[List.mem_singleton]at f;subst f;exact λe=>u b c e.symm
 ·intro b c;rcases List.mem_append.1 c with c|c;·simp only[List.mem_singleton]at c;rw[c];exact q
  have s:=hf.2 b c;cases ho:h0 b with
  |none=>rfl
  |some x=>rw[j _ _ ho]at s;cases s
 intro b x k;rw[t b (λe=>by rw[e,q]at k;cases k)];exact C _ _ (j _ _ k)
theorem Y0w{a c:Type}{xs:List a}{vs:List c}{by_:Nat}{y:Unit}(h:grd ((([]:List a).length+xs.length)*by_<=140737488355328)=some y)(b:vs.length=xs.length):H09 vs.length by_:=by have:=F0 h;rw[H09,b];simpa using this
end Go.H
