/- Texts of the claim, joined: Plain laws: a folded graph completed and others. -/
import Derived.Test.YtcpjomkcdlggaaaGreatPart33
import Derived.Test.YtcpjomkcdlggaaaGreatPart22
import Derived.Test.YtcpjomkcdlggaaaGreatPart20
import Derived.Test.YtcpjomkcdlggaaaGreatH36
import Derived.Test.YtcpjomkcdlggaaaGreatPart21
import Derived.Test.YtcpjomkcdlggaaaGreatPart29
namespace Go.Proofs.YtcpjomkcdlggaaaGreat
set_option linter.all false
open Go.H
open IntKind (i64)
def J09(g:z0)(l:Int):Nat->Nat->List Int
 |0,_=>[]
 |d+1,k=>if D1 g (k:Int) l<0 then(k:Int)::J09 g l d (k+1)else J09 g l d (k+1)
def z0i(g:z0)(l:Int):Nat->Nat->List Int
 |0,_=>[]
 |d+1,k=>if D1 g (k:Int) l<0 then z0i g l d (k+1)else(k:Int)::z0i g l d (k+1)
theorem e0j(g:z0)(l:Int):∀ d k,(J09 g l d k).length+(z0i g l d k).length=d
 |0,k=>rfl
 |d+1,k=>by
  have:=e0j g l d (k+1)
  unfold J09 z0i
  split<;>simp only[lC]<;>omega
theorem o0g{g:z0}{l v:Int}:∀ {d k:Nat},v∈J09 g l d k↔∃ a:Nat,v=(a:Int)/\(k<=a/\a<k+d)/\D1 g v l<0
 |0,k=>⟨(λh=>by cases h),λ⟨a,_,h,_⟩=>by omega⟩
 |d+1,k=>by
  have b:=o0g (g:=g) (l:=l) (v:=v) (d:=d) (k:=k+1)
  grind[J09,absurd]
theorem y0a{g:z0}{l v:Int}:∀ {d k:Nat},v∈z0i g l d k↔∃ a:Nat,v=(a:Int)/\(k<=a/\a<k+d)/\0<=D1 g v l
 |0,k=>⟨(λh=>by cases h),λ⟨a,_,h,_⟩=>by omega⟩
 |d+1,k=>by
  have b:=y0a (g:=g) (l:=l) (v:=v) (d:=d) (k:=k+1)
  grind[z0i]
theorem N0e(g:z0)(l:Int):∀ d k,(J09 g l d k).Nodup
 |0,k=>List.nodup_nil
 |d+1,k=>by
  unfold J09
  split
  ·refine List.nodup_cons.2 ⟨λh=>?_,N0e g l d (k+1)⟩
   grind[o0g]
  ·exact N0e g l d (k+1)
def O0e(g:z0)(l:Int):∀ d k,(z0i g l d k).Nodup
 |0,k=>List.nodup_nil
 |d+1,k=>by
  unfold z0i
  split
  ·exact O0e g l d (k+1)
  ·refine List.nodup_cons.2 ⟨λh=>?_,O0e g l d (k+1)⟩
   grind[y0a]
def U0s:∀ {a b:List Int},a.Nodup->(∀ x∈a,x∈b)->a.length<=b.length
 | [],b,_,_=>Nat.zero_le _
 |x::a,b,g,h=>by
  obtain⟨d,f⟩:=List.nodup_cons.1 g
  have i:=h x mS
  have:=U0s (b:=b.erase x) f λy c=>(List.mem_erase_of_ne (λe=>d (by rw[←e];exact c))).2 (h y (mC _ c))
  grind
def Z0v{g:z0}(hf:N0 g=true)(l:Int):(z0i g l g.2.1.toNat 0).length<=(z0i g (-l) g.2.1.toNat 0).length:=by
 obtain⟨m,w,x,z⟩:=F1 hf
 have h:((z0i g l g.2.1.toNat 0).map λv=>D1 g v l).Nodup:=by
  rw[List.Nodup,List.pairwise_map]
  refine List.Pairwise.imp_of_mem (λ{a b} f d t e=>?_) (O0e g l g.2.1.toNat 0)
  obtain⟨_,_,_,c⟩:=y0a.1 f
  obtain⟨_,_,_,s⟩:=y0a.1 d
  have o:=t0a hf rfl c
  grind[t0a]
 have:=U0s (b:=z0i g (-l) g.2.1.toNat 0) h λy k=>by
  obtain⟨v,j,rfl⟩:=List.mem_map.1 k
  obtain⟨u,p,q,c⟩:=y0a.1 j
  have d:=t0a hf rfl c
  have i:=J05 m v l
  refine y0a.2 ⟨(D1 g v l).toNat,by omega,?_,by rw[d];omega⟩
  rcases i with e|e<;>omega
 rwa [List.length_map]at this
theorem V0s{g:z0}(hf:N0 g=true)(l:Int):(J09 g l g.2.1.toNat 0).length=(J09 g (-l) g.2.1.toNat 0).length:=by
 have b:=Z0v hf l
 have a:=Z0v hf (-l)
 rw[Int.neg_neg]at a
 grind[e0j]
def T0n(l:Int):List Int->List Int->List O0
 |a::A,b::B=>(a,l,b)::T0n l A B
 |_,_=>[]
theorem I0k(l:Int):∀(A B:List Int),A.length=B.length->(T0n l A B).length=A.length
 | [],[],_=>rfl
 |a::A,b::B,h=>by simp only[T0n,lC,I0k l A B (by simpa using h)]
 | [],b::B,h=>by simp at h
 |a::A,[],h=>by simp at h
def Z0p(l:Int):∀(A B:List Int) (i:Nat) (a b:Int),A[i]?=some a->B[i]?=some b->(T0n l A B)[i]?=some (a,l,b)
 |x::A,y::B,0,a,b,c,d=>by grind[T0n]
 |x::A,y::B,i+1,a,b,c,d=>by simp at c d;simpa [T0n] using Z0p l A B i a b c d
 | [],B,i,a,b,c,d=>by simp at c
 |x::A,[],i,a,b,c,d=>by simp at d
def a0q(l:Int):∀(A B:List Int) (e:O0),e∈T0n l A B->e.2.1=l/\∃ i:Nat,A[i]?=some e.1/\B[i]?=some e.2.2
 |a::A,b::B,e,h=>by
  rcases mE.1 h with rfl|h
  ·exact⟨rfl,0,rfl,rfl⟩
  ·obtain⟨c,i,d,f⟩:=a0q l A B e h
   exact⟨c,i+1,by simpa using d,by simpa using f⟩
 | [],B,e,h=>by cases B<;>cases h
 |a::A,[],e,h=>by cases h
def b0q(g:z0)(l:Int):List O0:=T0n l (J09 g l g.2.1.toNat 0) (J09 g (-l) g.2.1.toNat 0)
def nwA(g:z0):Nat->Nat->List O0
 |0,_=>[]
 |d+1,l=>b0q g (l:Int)++nwA g d (l+1)
def W0s{g:z0}{e:O0}:∀ {d l:Nat},e∈nwA g d l↔∃ j:Nat,(l<=j/\j<l+d)/\e∈b0q g (j:Int)
 |0,l=>⟨(λh=>by cases h),λ⟨j,h,_⟩=>by omega⟩
 |d+1,l=>by
  rw[nwA,List.mem_append,W0s (d:=d) (l:=l+1)]
  grind
def a0w{g:z0}(hf:N0 g=true)(l:Int):(b0q g l).length<=40:=by
 obtain⟨a,b,c,d⟩:=F1 hf
 have:=e0j g l g.2.1.toNat 0
 grind[b0q,I0k,V0s]
def z0a(g:z0):z0:=(g.1,g.2.1,V4 V0 g.2.2 (nwA g g.1.toNat 1))
def K09(g:z0):z0×Bool:=bif N0 g&&decide (g.2.1*g.1<=120)then(z0a g,true)else((0,0,[]),false)
def J0k{d:Type}(c:d->d->Int):∀(a b l:List d),V4 c l (a++b)=V4 c (V4 c l a) b
 | [],b,l=>rfl
 |x::a,b,l=>J0k c a b (p02 c x l)
def z0x(A B:List Int)(l r n:Int)(k:A.length=B.length)(m:A.length<=1000):∀(d i fuel:Nat) (es:List O0),i+d=A.length->d<fuel->es.length+d<=100000 ->
  S5 A B l fuel (i:Int) r n es=some (r,n,V4 V0 es ((T0n l A B).drop i))
 |d,i,0,es,f,hf,g=>by omega
 |0,i,fuel+1,es,f,hf,g=>by
  rw[S5.eq_2,oB,D0 (by omega),oB,if_neg (by grind),Z0 (by grind[I0k])];rfl
 |d+1,i,fuel+1,es,f,hf,g=>by
  have h:i<A.length:=by omega
  have c:=U3 h
  have e:=U3 (show i<B.length by omega)
  generalize A[i]=a at c
  generalize B[i]=b at e
  have p:=Z0p l A B i a b c e
  have j:=Z02 [(a,l,b)] es
  have o:V4 V0 es [(a,l,b)]=p02 V0 (a,l,b) es:=rfl
  rw[o]at j
  simp only[lC,lN]at j
  have q:=z0x A B l r n k m d (i+1) fuel (p02 V0 (a,l,b) es) (by omega) (by omega) (by omega)
  rw[S5.eq_2,oB,D0 (by omega),oB,if_pos (by grind),Z1 c,oB,Z1 e,oB,d08 _ _ (by omega),oB,E2 h (by omega),q,I1 p]
  rfl
def A0x{g:z0}(i:N0 g=true){l:Int}(o : -3<=l/\l<=3):∀(d k fuel:Nat) (a b:List Int),k+d=g.2.1.toNat->d<fuel->a.length<=k->b.length<=k ->
  R3 g.2.1 g.1 g.2.2 l fuel (k:Int) a b=some (a++J09 g l d k,b++J09 g (-l) d k)
 |d,k,0,a,b,h,hf,c,e=>by omega
 |0,k,fuel+1,a,b,h,hf,c,e=>by
  rw[R3.eq_2,if_neg (by grind)];simp[J09]
 |d+1,k,fuel+1,a,b,h,hf,c,e=>by
  obtain⟨j,v,m,w⟩:=F1 i
  have t:=U03 g (k:Int) l ⟨⟨by omega,by omega⟩,by omega⟩ (by omega)
  have u:=U03 g (k:Int) (-l) ⟨⟨by omega,by omega⟩,by omega⟩ (by omega)
  have q:=V03 j m.2 (k:Int) l
  have s:=V03 j m.2 (k:Int) (-l)
  have f:=λa b c e=>A0x i o d (k+1) fuel a b (by omega) (by omega) c e
  have p:i64.wrap ((k:Int)+1)=((k+1:Nat):Int):=by rw[w64 (by omega) (by omega)];omega
  rw[R3.eq_2,if_pos (by grind)]
  simp only[show(g.1,g.2.1,g.2.2)=g from rfl,show i64.wrap (0-l) = -l by grind[w64],t,u,oB,D0 q,D0 s,p]
  unfold J09
  by_cases c1:D1 g (k:Int) l<0<;>by_cases c2:D1 g (k:Int) (-l)<0
  ·rw[if_pos (dT c1),if_pos c1,if_pos c2,if_pos (dT c2),D0 (by simp;omega),oB,D0 (by simp;omega),oB,f _ _ (by simp;omega) (by simp;omega)]
   simp
  ·rw[if_pos (dT c1),if_pos c1,if_neg c2,if_neg (by simpa using c2),D0 (by simp;omega),oB,f _ _ (by simp;omega) (by omega)]
   simp
  ·rw[if_neg (by simpa using c1),if_neg c1,if_pos c2,if_pos (dT c2),D0 (by simp;omega),oB,f _ _ (by omega) (by simp;omega)]
   simp
  grind
def B0x{g:z0}(a:N0 g=true)(c b:Int):∀(d l fuel:Nat) (es:List O0),l+d=g.1.toNat+1->1<=l->d<fuel->es.length+40*d<=10000 ->
  T5 g.1 g.2.1 g.2.2 fuel (l:Int) c b es=some (c,b,V4 V0 es (nwA g d l))
 |d,l,0,es,i,h,hf,j=>by omega
 |0,l,fuel+1,es,i,h,hf,j=>by
  rw[T5.eq_2,if_neg (by grind)];rfl
 |d+1,l,fuel+1,es,i,h,hf,j=>by
  obtain⟨q,s,t,u⟩:=F1 a
  have f:=A0x a (l:=(l:Int)) (by omega) g.2.1.toNat 0 P0 [] [] (by omega) (X0 (by omega)) (by simp) (by simp)
  rw[show((0:Nat):Int)=0 from rfl,nA,nA]at f
  have m:=e0j g (l:Int) g.2.1.toNat 0
  have e:=z0x (J09 g (l:Int) g.2.1.toNat 0) (J09 g (-(l:Int)) g.2.1.toNat 0) (l:Int) c b (V0s a _) (by omega) (J09 g (l:Int) g.2.1.toNat 0).length 0 P0 es (by omega) (X0 (by omega)) (by omega)
  rw[show((0:Nat):Int)=0 from rfl,dZ]at e
  have o:=a0w a (l:Int)
  have p:=Z02 (b0q g (l:Int)) es
  have k:=B0x a c b d (l+1) fuel (V4 V0 es (b0q g (l:Int))) (by omega) (by omega) (by omega) (by omega)
  rw[T5.eq_2,if_pos (by grind),f,oB]
  simp only
  rw[e,oB,E2 (show l<1000 by omega) (by omega),nwA,J0k]
  exact k
def m0y{n r:Int}(a:1<=n/\n<=40)(b:1<=r/\r<=3):i64.wrap (n*r)=n*r:=by
 have:r=1∨r=2∨r=3:=by omega
 rcases this with rfl|rfl|rfl<;>exact w64 (by omega) (by omega)
theorem s0r(g:z0)(hl:g.2.2.length<=1099511627776):b00 g=some (K09 g):=by
 have h1:=K6 g (by omega)
 have h2:=P00 g (by omega)
 unfold K09
 cases hf:N0 g with
 |false =>
  rw[hf]at h1
  obtain⟨a,b,c⟩:=g
  unfold b00
  grind
 |true =>
  rw[hf]at h1
  obtain⟨q1,q2,q3,q4⟩:=F1 hf
  have e:=B0x hf g.1 g.2.1 g.1.toNat 1 P0 g.2.2 (by omega) (by omega) (X0 (by omega)) (by omega)
  rw[show((1:Nat):Int)=1 from rfl]at e
  have hm:=m0y q3 q2
  unfold z0a
  obtain⟨a,b,c⟩:=g
  simp only at hm e q2 q3 ⊢
  unfold b00
  grind
def K0k{g:z0}{e:O0}:e∈(z0a g).2.2↔e∈g.2.2∨∃ j:Nat,(1<=j/\j<1+g.1.toNat)/\e∈b0q g (j:Int):=by
 unfold z0a
 simp only
 rw[J01 W7,W0s]
def A0a{g:z0}{c:Nat}{e:O0}(h:e∈b0q g (c:Int)):e.2.1=(c:Int)/\(∃ i:Nat,(J09 g (c:Int) g.2.1.toNat 0)[i]?=some e.1/\(J09 g (-(c:Int)) g.2.1.toNat 0)[i]?=some e.2.2) /\
  ((0<=e.1/\e.1.toNat<g.2.1.toNat)/\D1 g e.1 (c:Int)<0)/\((0<=e.2.2/\e.2.2.toNat<g.2.1.toNat)/\D1 g e.2.2 (-(c:Int))<0):=by
 obtain⟨q,i,d,f⟩:=a0q _ _ _ _ h
 obtain⟨a,j,k,l⟩:=o0g.1 (mG d)
 obtain⟨b,m,o,p⟩:=o0g.1 (mG f)
 grind
theorem b0w{l:List Int}(h:l.Nodup){i a:Nat}{x:Int}(b:l[i]?=some x)(c:l[a]?=some x):i=a:=by
 grind[List.getElem?_eq_some_iff,Nat.lt_trichotomy,absurd,List.pairwise_iff_getElem]
theorem c0w{a b:O0}(c:a.1=b.1)(d:a.2.1=b.2.1)(e:a.2.2=b.2.2):a=b:=by
 obtain⟨f,g,h⟩:=a
 obtain⟨i,j,k⟩:=b
 simp only at c d e
 rw[c,d,e]
theorem X0s{g:z0}(hf:N0 g=true){a b:O0}(c:a∈(z0a g).2.2)(d:b∈(z0a g).2.2)(p:a.2.1=b.2.1)(q:a.1=b.1∨a.2.2=b.2.2):a=b:=by
 obtain⟨h,w,z,A⟩:=F1 hf
 rcases K0k.1 c with c|⟨i,m,c⟩<;>rcases K0k.1 d with d|⟨s,o,d⟩
 ·have e:=x0d hf c
  have l:=x0d hf d
  grind
 ·have e:=x0d hf c
  have k:=h a c
  obtain⟨f,_,f3,j⟩:=A0a d
  grind
 ·have e:=x0d hf d
  have k:=h b d
  obtain⟨f,_,f3,j⟩:=A0a c
  grind
 ·obtain⟨f,⟨x,f2,f3⟩,_,_⟩:=A0a c
  obtain⟨t,⟨y,u,v⟩,_,_⟩:=A0a d
  grind[b0w,N0e,c0w,oJ]
def Y0s{g:z0}(hf:N0 g=true):inG (z0a g):=λe a=>by
 obtain⟨b,h,j,k⟩:=F1 hf
 rcases K0k.1 a with a|⟨i,f,a⟩
 ·exact b e a
 ·obtain⟨c,_,f3,d⟩:=A0a a
  show(0<=e.1/\e.1<g.2.1)/\(0<=e.2.2/\e.2.2<g.2.1)/\1<=e.2.1/\e.2.1<=g.1
  omega
def c0q{g:z0}(hf:N0 g=true):Asc V0 (z0a g).2.2:=H04 W7 _ _ (q0a (C3 hf))
def d0w{g:z0}(hf:N0 g=true)(l:g.2.1*g.1<=120):(z0a g).2.2.length<=120:=by
 obtain⟨s,t,u,v⟩:=F1 hf
 have d:=Y0s hf
 have m:=r0h (c0q hf)
 have k:((z0a g).2.2.map λe=>e.1*g.1+(e.2.1-1)).Nodup:=by
  rw[List.Nodup,List.pairwise_map]
  refine List.Pairwise.imp_of_mem (λ{a b} h i q e=>?_) m
  have f:(0<=a.1/\a.1<g.2.1)/\(0<=a.2.2/\a.2.2<g.2.1)/\1<=a.2.1/\a.2.1<=g.1:=d a h
  have p:(0<=b.1/\b.1<g.2.1)/\(0<=b.2.2/\b.2.2<g.2.1)/\1<=b.2.1/\b.2.1<=g.1:=d b i
  have c:g.1=1∨g.1=2∨g.1=3:=by omega
  grind[X0s]
 have:=o01 120 _ k λx o=>by
  obtain⟨e,j,rfl⟩:=List.mem_map.1 o
  have f:(0<=e.1/\e.1<g.2.1)/\(0<=e.2.2/\e.2.2<g.2.1)/\1<=e.2.1/\e.2.1<=g.1:=d e j
  have c:g.1=1∨g.1=2∨g.1=3:=by omega
  rcases c with c|c|c<;>rw[c]at l f ⊢<;>omega
 rwa [List.length_map]at this
def d0q{g:z0}(hf:N0 g=true)(e:g.2.1*g.1<=120):N0 (z0a g)=true:=by
 obtain⟨l,f,h,m⟩:=F1 hf
 have d:U0 (z0a g)=true:=(x03 _).2 ⟨Y0s hf,f,h,d0w hf e,c0q hf⟩
 refine(u0d d).2 λa i b j k=>?_
 unfold b08
 cases c:(decide (a.2.1=b.2.1)&&(decide (a.1=b.1) || decide (a.2.2=b.2.2)))with
 |false=>rfl
 |true =>
  simp only[aE,Bool.or_eq_true,dE]at c
  grind[absurd,X0s]
def L07(g:z0)(w:List Int):z0×Bool :=
 bif decide ((O2 g 0 w).2<w.length)then
  (bif(J3 g).2 then J4 (J3 g).1 (O2 g 0 w).1 (w.drop (O2 g 0 w).2) g.2.1 else((0,0,[]),false))
 else(g,true)
theorem t0r{g:z0}(hf:N0 g=true){w:List Int}(C:G2 g.1 w=true):U04 g w=some (L07 g w):=by
 unfold L07
 have m:=C3 hf
 obtain⟨p,G,D,H⟩:=F1 hf
 obtain⟨wl,E⟩:=M05 C
 have o:∀ x∈w,j5 x:=λx f=>(E x f).1
 have z:(0:Int)<=0/\(0:Int)<g.2.1:=⟨iR _,by omega⟩
 have i:=E0m hf z o (by omega)
 have e:=B07 g w 0
 have d:=S0q g hf 0 z (w.take (O2 g 0 w).2) (λx f=>o x (List.mem_of_mem_take f)) (by grind)
 rw[M0e,List.length_take,show min (O2 g 0 w).2 w.length=(O2 g 0 w).2 by omega,decide_eq_false (Nat.lt_irrefl _)]at d
 have j:=m0a p D.2 w 0 ⟨by omega,by omega⟩
 have F:=P00 g (by omega)
 have l:=p0a (xs:=w) (k:=(O2 g 0 w).2) e
 have s:=K04 (xs:=w) (k:=(O2 g 0 w).2) e
 have t:=q0b m
 have A:=l0g p w 0 z
 have y:=j04 m
 have q:(J3 g).2=true->_:=λh=>F09 (g:=(J3 g).1) (u:=(O2 g 0 w).1) (v:=g.2.1) (w:=w.drop (O2 g 0 w).2) y (by grind[f08]) (by grind[f08]) (by simp_all[f08,x0h])
 generalize O2 g 0 w=R at *
 obtain⟨v,n⟩:=R
 obtain⟨a,b,c⟩:=g
 simp only at i d j l s e A q ⊢
 unfold U04
 simp only[i,oB]
 rw[D0 (show F0 ((n:Nat):Int) from⟨by omega,by omega⟩),oB]
 by_cases c1:n<w.length
 ·rw[if_neg (by grind),decide_eq_true c1,l,oB,d]
  simp only[cond_false,oB]
  rw[D0 j,oB,t]
  grind
 grind
def L0k(g:z0)(w:List Int):z0×Bool :=
 bif D2 g&&(G2 g.1 w && !B01 g w)then
  (bif(L07 g w).2 then(bif(K09 (L07 g w).1).2 then(E06 (K09 (L07 g w).1).1,true)else((0,0,[]),false))else((0,0,[]),false))
 else((0,0,[]),false)
theorem e0w{g:z0}(hf:N0 g=true)(w:List Int):(L07 g w).1.2.2.length<=120:=by
 have a:=C3 hf
 obtain⟨b,c,d,e⟩:=F1 hf
 have h:=q09 (j04 a) (O2 g 0 w).1 (w.drop (O2 g 0 w).2) g.2.1
 unfold L07
 grind
def Z0s{g:z0}(h:(K09 g).2=true):U0 (K09 g).1=true/\N0 g=true/\g.2.1*g.1<=120/\K09 g=(z0a g,true):=by
 unfold K09 at h ⊢
 cases c:(N0 g&&decide (g.2.1*g.1<=120))with
 |false=>rw[c]at h;cases h
 |true =>
  simp_all[aE,dE,C3,d0q]
theorem i0u(g:z0)(hl:g.2.2.length<=1099511627776)(w:List Int)(hw:w.length<=140737488355328):T8 g w=some (L0k g w):=by
 have h0:=P00 g (by omega)
 have h1:=R03 g (by omega)
 have h2:=X02 g.1 w hw
 unfold L0k
 cases hc:D2 g with
 |false =>
  rw[hc]at h1
  obtain⟨a,b,c⟩:=g
  unfold T8 c00
  grind
 |true =>
  rw[hc]at h1
  have hf:=P4 hc
  cases hwd:G2 g.1 w with
  |false =>
   rw[hwd]at h2
   obtain⟨a,b,c⟩:=g
   simp only at h2
   unfold T8 c00
   simp only[h0,h1,oB,Bool.not_true,Bool.not_false,List.length_singleton,cond_false]
   rw[if_neg (by simp),show P0=9223372036854775807+1 from rfl,U5.eq_2,if_pos (by simp),show gi [w] 0=some w from rfl]
   simp only[oB,h2,Bool.not_false,Bool.not_true,K1,cond_true,if_true,P2,Bool.false_and,Bool.and_false,cond_false]
  |true =>
   rw[hwd]at h2
   have h3:=C06 (r:=g.1) hc hwd
   have h4:=t0r hf hwd
   have h5:=s0r (L07 g w).1 (by grind[e0w])
   have h6:(K09 (L07 g w).1).2=true->_:=λh=>A0c (Z0s h).1
   obtain⟨a,b,c⟩:=g
   simp only at h2
   unfold T8 c00
   simp only[h0,h1,oB,Bool.not_true,Bool.not_false,List.length_singleton,cond_false]
   rw[if_neg (by simp),show P0=9223372036854775806+1+1 from rfl,U5.eq_2,if_pos (by simp),show gi [w] 0=some w from rfl]
   simp only[oB,h2,Bool.not_false,Bool.not_true,E1,cond_false,h3,Bool.true_and]
   cases B01 (a,b,c) w with
   |true=>rfl
   |false =>
    simp only[Bool.false_eq_true,if_false,h4,oB,Bool.not_false,cond_true]
    generalize L07 (a,b,c) w=q at *
    obtain⟨⟨x,y,z⟩,ok⟩:=q
    cases ok with
    |false=>rfl
    |true =>
     simp only[Bool.not_true,Bool.false_eq_true,if_false,cond_true]
     rw[U5.eq_2,if_neg (by rw[show IntKind.i64.wrap (0+1)=1 by decide];simp)]
     simp only[oB,Q0]at h5 h6 ⊢
     grind
def p0i(e:O0):List O0->Nat->Option Nat
 | [],_=>none
 |x::l,k=>if e=x then some k else p0i e l (k+1)
def e0q{e:O0}:∀ {l:List O0} {k i:Nat},p0i e l k=some i->i<k+l.length
 | [],k,i,h=>by cases h
 |x::l,k,i,h=>by
  unfold p0i at h
  split at h
  ·cases h;simp
  ·have:=e0q h
   grind
def sgK(x:Int)(k:Nat):Int:=if 0<x then(k:Int)+1 else -(k:Int)-1
def l0f(x v n:Int):List O0->Nat->List Int
 | [],_=>[]
 |e::l,k=>if stp v x n=e then sgK x k::l0f x v n l (k+1)else l0f x v n l (k+1)
theorem f0q{x v n:Int}:∀ {l:List O0} {k:Nat},stp v x n ∉ l->l0f x v n l k = []
 | [],k,h=>rfl
 |e::l,k,h=>by
  unfold l0f
  rw[if_neg λc=>h (by grind)]
  exact f0q λc=>h (mC _ c)
def K0m{x v n:Int}:∀ {l:List O0} {k:Nat},l.Nodup->l0f x v n l k=(p0i (stp v x n) l k).toList.map (sgK x)
 | [],k,h=>rfl
 |e::l,k,h=>by
  obtain⟨b,a⟩:=List.nodup_cons.1 h
  unfold l0f p0i
  split
  ·grind[f0q]
  ·exact K0m a
def rwL(g:z0)(E:List O0):Int->List Int->List Int
 |_,[]=>[]
 |v,x::w=>(p0i (stp v x (D1 g v x)) E 0).toList.map (sgK x)++rwL g E (D1 g v x) w
def a0t{a:Type}(o:Option a):o.toList.length<=1:=by cases o<;>simp
theorem U0n(g:z0)(a:List O0):∀(w:List Int) (v:Int),(rwL g a v w).length<=w.length
 | [],v=>Nat.le_refl _
 |x::w,v=>by
  have b:=U0n g a w (D1 g v x)
  have c:=a0t (p0i (stp v x (D1 g v x)) a 0)
  grind[rwL,List.length_append,List.length_map,List.length_cons]
def u0r(g:z0)(a:List O0)(c:a.length<=1000):∀(w:List Int) (v:Int),∀ y∈rwL g a v w,-1000<=y/\y<=1000
 | [],v,y,h=>by cases h
 |x::w,v,y,h=>by
  unfold rwL at h
  rcases List.mem_append.1 h with h|h
  ·obtain⟨k,b,rfl⟩:=List.mem_map.1 h
   have b:=e0q (Option.mem_toList.1 b)
   unfold sgK
   split<;>omega
  ·exact u0r g a c w _ y h
theorem f0w(w:List Int)(i:Nat)(x:Int)(hx:w[i]?=some x)(hn:j5 x)(h0:x≠0)(v n:Int)(E:List O0)(hE:E.length<=1000):∀(d k fuel:Nat) (acc:List Int),k+d=E.length->d<fuel->acc.length<=100000+k ->
  o5 E w (i:Int) v n fuel (k:Int) acc=some (acc++l0f x v n (E.drop k) k)
 |d,k,0,acc,hd,hf,ha=>by omega
 |0,k,fuel+1,acc,hd,hf,ha=>by
  simp_all[o5.eq_2,if_neg,decide_eq_true_eq,Z0,l0f]
 |d+1,k,fuel+1,acc,hd,hf,ha=>by
  have hk:k<E.length:=by omega
  have he:=U3 hk
  have hdr:=I1 he
  generalize E[k]=e at he hdr
  have ih:=λacc' h=>f0w w i x hx hn h0 v n E hE d (k+1) fuel acc' (by omega) (by omega) h
  have e1:=w64 (show -9223372036854775808<=(k:Int)+1 by omega) (by omega)
  have e2:IntKind.i64.wrap (IntKind.i64.wrap (0-(k:Int))-1) = -(k:Int)-1:=by
   grind[w64]
  obtain⟨a,b,c⟩:=e
  rw[o5.eq_2,if_pos (by grind),Z1 hx,oB,hdr,l0f]
  simp only[Z1 he,e1,e2,chk,p0c hn.1 hn.2]
  unfold stp sgK
  by_cases hp:0<x
  ·have hp' : ¬ x<0:=by omega
   simp only[decide_eq_true (show x>0 from hp),decide_eq_false hp',if_pos hp,if_neg hp',cond_true,cond_false,oB,Bool.false_eq_true,if_false]
   by_cases c1:(v,x,n)=(a,b,c)
   ·rw[if_pos ((c08 _ _).2 c1.symm),if_pos c1,D0 (by grind),oB]
    grind
   ·rw[if_neg λh=>c1 ((c08 _ _).1 h).symm,if_neg c1]
    grind
  ·have hp':x<0:=by omega
   simp only[decide_eq_false (show ¬ x>0 from hp),decide_eq_true hp',if_neg hp,if_pos hp',cond_true,cond_false,oB,Bool.false_eq_true,if_false,Z1 hx,p0c hn.1 hn.2]
   by_cases c1:(n,-x,v)=(a,b,c)
   ·rw[if_pos ((c08 _ _).2 c1.symm),if_pos c1,D0 (by grind),oB]
    grind
   ·rw[if_neg λh=>c1 ((c08 _ _).1 h).symm,if_neg c1]
    grind
def g0w{g:z0}(m:N0 g=true)(w:List Int)(p:∀ x∈w,j5 x/\x≠0)(q:w.length<=1000)(a:List O0)(f:a.length<=1000)(h:a.Nodup):∀(d k fuel:Nat) (v:Int) (acc:List Int),k+d=w.length->d<fuel->acc.length<=k ->
  r8 w g.1 g.2.1 g.2.2 a fuel v (k:Int) acc=some (acc++rwL g a v (w.drop k))
 |d,k,0,v,acc,j,hf,i=>by omega
 |0,k,fuel+1,v,acc,j,hf,i=>by
  simp_all[r8.eq_2,if_neg,dE,Z0,rwL]
 |d+1,k,fuel+1,v,acc,j,hf,i=>by
  obtain⟨s,y,t,z⟩:=F1 m
  have o:k<w.length:=by omega
  have b:=U3 o
  obtain⟨c,h0⟩:=p _ (mG b)
  have l:=I1 b
  generalize w[k]=x at b c h0 l
  have e:=f0w w k x b c h0 v (D1 g v x) a f a.length 0 P0 acc (by omega) (X0 (by omega)) (by omega)
  rw[show((0:Nat):Int)=0 from rfl,dZ,K0m h]at e
  have u:=a0t (p0i (stp v x (D1 g v x)) a 0)
  rw[r8.eq_2,if_pos (by grind),Z1 b,oB,show(g.1,g.2.1,g.2.2)=g from rfl,U03 g v x c (by omega),oB,D0 (V03 s t.2 v x),oB,e,oB,E2 o (by omega),
   g0w m w p q a f h d (k+1) fuel _ _ (by omega) (by omega) (by grind),l,rwL,List.append_assoc]
def g0q(g:z0)(w:List Int):List Int×Bool:=bif B01 g w then((o05 [] (rwL g (C9 g) 0 w)).reverse,true)else([],false)
theorem L0m{g:z0}(hf:N0 g=true):(C9 g).length<=120/\(C9 g).Nodup:=by
 obtain⟨b,c,d,f⟩:=F1 hf
 have a:=List.length_filter_le (λe => !decide (e∈N05 g)) g.2.2
 exact⟨by unfold C9;omega,(r0h (q0a (C3 hf))).filter _⟩
def h0w{g:z0}(hf:N0 g=true)(w:List Int):(g0q g w).1.length<=w.length/\∀ y∈(g0q g w).1,F0 y:=by
 have b:=U0n g (C9 g) w 0
 have c:=x06 (rwL g (C9 g) 0 w) []
 have a:=u0r g (C9 g) (by grind[L0m]) w 0
 unfold g0q
 cases B01 g w with
 |false=>grind
 |true =>
  refine⟨by grind,λy h=>?_⟩
  rcases z0k _ _ (List.mem_reverse.1 h)with h|h
  ·cases h
  ·have:=a y h
   exact⟨by omega,by omega⟩
def i0w{g:z0}(h:D2 g=true){w:List Int}(e:G2 g.1 w=true):I03 g w=some (g0q g w):=by
 have hf:=P4 h
 obtain⟨t,u,v,z⟩:=F1 hf
 obtain⟨wl,f⟩:=M05 e
 have j:=s00 w (λx d=>(f x d).1.1) (by omega)
 rw[i0g e]at j
 have o:=C06 (r:=g.1) h e
 have p:=Q0p hf
 obtain⟨m,i⟩:=L0m hf
 have k:=g0w hf w (λx d=>⟨(f x d).1,(f x d).2.1⟩) (by omega) (C9 g) (by omega) i w.length 0 P0 0 [] (by omega) (X0 (by omega)) (by simp)
 rw[show((0:Nat):Int)=0 from rfl,dZ,nA]at k
 have q:=U0n g (C9 g) w 0
 have s:=s00 (rwL g (C9 g) 0 w) (λy l=>by have:=u0r g (C9 g) (by omega) w 0 y l;exact⟨by omega,by omega⟩) (by omega)
 unfold g0q
 obtain⟨a,b,c⟩:=g
 unfold I03
 grind
theorem M0k:∀(d:Nat) (g:z0),(S06 d g).1=g.1
 |0,g=>rfl
 |d+1,g=>by
  unfold S06
  cases N01 g with
  |none=>rfl
  |some k=>exact M0k d _
theorem v0r{g:z0}(a:U0 g=true):D2 (E06 g)=true:=u0m (A06 a)
theorem N0k:∀(n:Nat) (g:z0),(Q03 n g).1.1=g.1
 |0,g=>rfl
 |n+1,g=>by
  unfold Q03
  cases q01 g.2.2 with
  |nil=>rfl
  |cons f r=>exact N0k n _
theorem w0r(g:z0):(E06 g).1=g.1:=by
 show(S06 40 (Q00 g).1).1=g.1
 grind[M0k,Q00,U0,N0k]
theorem O0k:∀(a:List (List Int)) (g:z0),(k0e a g).1=g.1
 | [],g=>rfl
 |w::a,g=>by
  show(k0e a (J4 g 0 w 0).1).1=g.1
  rw[O0k a,e08]
def j0w{r:Int}{a:List (List Int)}(h:(v01 r a).2=true):D2 (v01 r a).1=true/\(v01 r a).1.1=r:=by
 unfold v01 at h ⊢
 cases hA:Y4 r a
 ·rw[hA]at h;cases h
 ·rw[cT]
  grind[v0r,f0b,E06,w0r,O0k]
def h0b(g:z0)(w:List Int):z0×Bool:=bif D2 g&&G2 g.1 w then
 (bif decide (((w.length:Nat):Int)=0)then(g,true)else(bif(J4 g 0 w 0).2 then(E06 (J4 g 0 w 0).1,true)else((0,0,[]),false)))else((0,0,[]),false)
theorem x0r{g:z0}(d:D2 g=true){w:List Int}(e:G2 g.1 w=true)(m:w.length<=140737488355328):o04 g w=some (h0b g w):=by
 obtain⟨o,p,s⟩:=u0a d
 have h:=C3 (l06 d)
 have i:=R03 g (by omega)
 have f:=X02 g.1 w m
 have j:=P00 g (by omega)
 have k:=g0i h e
 have l:=A0c (x05 h (u:=0) (v:=0) (w:=w) ⟨iR _,by omega⟩ ⟨iR _,by omega⟩ e)
 unfold h0b
 rw[d,e]at *
 generalize J4 g 0 w 0=q at *
 obtain⟨t,x,y⟩:=g
 obtain⟨⟨a,b,c⟩,z⟩:=q
 unfold o04
 simp only at f l
 simp only[i,f,j,k,oB,E1,Bool.not_true,Bool.not_false,cond_false,cond_true,Bool.false_eq_true,if_false,Bool.and_self]
 grind
def t0b:P1×Bool:=((0,0,[],[],[],(0,0,[]),0),false)
def G07(k r:Int)(l:List (List Int))(w:List Int):P1×Bool :=
 bif(v01 r l).2&&G2 r w then
  (bif decide (k=1)then(bif(g0q (v01 r l).1 w).2 then((k,r,l,w,(g0q (v01 r l).1 w).1,(v01 r l).1,0),true)else t0b)
  else bif decide (k=2)then(bif(L0k (v01 r l).1 w).2 then((k,r,l,w,[],(L0k (v01 r l).1 w).1,0),true)else t0b)
  else bif decide (k=3)then(bif(h0b (v01 r l).1 w).2&&f0e (v01 r l).1 (h0b (v01 r l).1 w).1 then((k,r,l,w,[],(h0b (v01 r l).1 w).1,0),true)else t0b)
  else bif decide (k=4)then(bif(U00 (v01 r l).1 w).2 then((k,r,l,w,[],(U00 (v01 r l).1 w).1,0),true)else t0b)
  else bif decide (k=5)then(bif decide (E03 (v01 r l).1=((l.length:Nat):Int))then((k,r,l,w,[],(v01 r l).1,E03 (v01 r l).1),true)else t0b)
  else bif decide (k=6)then(bif decide (O02 (v01 r l).1>0)then((k,r,l,w,[],(v01 r l).1,O02 (v01 r l).1),true)else t0b)
  else t0b)else t0b
theorem y0r(k r:Int)(l:List (List Int))(w:List Int)(O:l.length<=1048576)(z:∀ x∈l,x.length<=1048576)(A:F9 l)(P:w.length<=1048576):J03 k r l w=some (G07 k r l w):=by
 have p:=X0v l (by omega) (λx C=>by have:=z x C;omega)
 have s:=w0h r l (by omega) A
 have e:=X02 r w (by omega)
 have v:=λh => @j0w r l h
 unfold G07 J03 F06 P05
 rw[p,oB,D0 (by grind),oB,List.nil_append]
 simp only[s,oB]
 generalize v01 r l=q at *
 obtain⟨g,H⟩:=q
 cases H
 ·grind[K1,t0b]
 have o:=v rfl
 simp only at o
 cases hW:G2 r w
 ·grind[E1,t0b]
 obtain⟨d,y⟩:=o
 have m:G2 g.1 w=true:=by rw[y];exact hW
 obtain⟨L,M,N⟩:=u0a d
 have t:=i0w d m
 have f2:=i0u g (by omega) w (by omega)
 have f3:=x0r d m (by omega)
 have u:=E0k g (by omega) w (by omega)
 have f:=F0k g (by omega)
 have i:=l0e g (by omega)
 have j:=n0a g (h0b g w).1 (by omega)
 rw[hW]at e
 obtain⟨a,b,c⟩:=g
 generalize g0q (a,b,c) w=a1 at *
 generalize L0k (a,b,c) w=a2 at *
 generalize h0b (a,b,c) w=a3 at *
 generalize U00 (a,b,c) w=a4 at *
 generalize E03 (a,b,c)=a5 at *
 generalize O02 (a,b,c)=a6 at *
 obtain⟨Q,I⟩:=a1
 obtain⟨⟨R,s1,s2⟩,J⟩:=a2
 obtain⟨⟨D,E,F⟩,G⟩:=a3
 obtain⟨⟨S,T,U⟩,K⟩:=a4
 simp only at j
 simp only[E1,e,oB,Bool.not_true,Bool.not_false,cond_false,cond_true,Bool.false_eq_true,if_false,Bool.and_self,t,f2,f3,u,f.1,i.1,j,D0 f.2,D0 i.2]
 cases decide (k=1)<;>simp only[Bool.false_eq_true,if_false,if_true,cond_false,cond_true,oB]
 ·cases decide (k=2)<;>simp only[Bool.false_eq_true,if_false,if_true,cond_false,cond_true,oB]
  ·cases decide (k=3)<;>simp only[Bool.false_eq_true,if_false,if_true,cond_false,cond_true,oB]
   ·cases decide (k=4)<;>simp only[Bool.false_eq_true,if_false,if_true,cond_false,cond_true,oB]
    ·cases decide (k=5)<;>simp only[Bool.false_eq_true,if_false,if_true,cond_false,cond_true,oB]
     ·cases decide (k=6)<;>simp only[Bool.false_eq_true,if_false,if_true,cond_false,cond_true,oB,Bool.not_false,t0b]
      cases decide (a6>0)<;>rfl
     ·cases decide (a5=((l.length:Nat):Int))<;>rfl
    ·cases K<;>rfl
   ·cases G
    ·rfl
    ·simp only[E1,oB,cond_true,Bool.true_and]
     cases f0e (a,b,c) (D,E,F)<;>rfl
  ·cases J<;>rfl
 ·cases I<;>rfl
def h0q(n:Int):BA:=if n=0 then⟨#[48]⟩else if n<0 then⟨(45::F0d 20 n.natAbs []).toArray⟩else⟨(F0d 20 n.natAbs []).toArray⟩
def E04(n:Int)(m:Nat):Int:=if n<0 then -(m:Int)else m
def b0t(n:Int)(m:Nat):(E04 n m).tmod 10=E04 n (m % 10):=by
 unfold E04
 split
 ·rw[Int.neg_tmod,show(10:Int)=((10:Nat):Int) from rfl,←Int.ofNat_tmod]
 ·rw[show(10:Int)=((10:Nat):Int) from rfl,←Int.ofNat_tmod]
def c0t(n:Int)(m:Nat):(E04 n m).tdiv 10=E04 n (m / 10):=by
 unfold E04
 split
 ·rw[Int.neg_tdiv,show(10:Int)=((10:Nat):Int) from rfl,←Int.ofNat_tdiv]
 ·rw[show(10:Int)=((10:Nat):Int) from rfl,←Int.ofNat_tdiv]
def i0q{n:Int}{m:Nat}:E04 n m=0↔m=0:=by
 unfold E04
 split<;>omega
def p0z{a:Int}{m:Nat}(acc:List UInt8)(e:a=((m % 10:Nat):Int)):strOfNums [IntKind.u8.wrap (i64.wrap (48+a))]++⟨acc.toArray⟩=⟨(UInt8.ofNat (48+m % 10)::acc).toArray⟩:=by
 have b:IntKind.u8.wrap (i64.wrap (48+a))=((48+m % 10:Nat):Int):=by
  rw[e]
  simp[IntKind.wrap,IntKind.signed,IntKind.bits]
  omega
 rw[b,show strOfNums [((48+m % 10:Nat):Int)]=⟨#[UInt8.ofNat (48+m % 10)]⟩ from by simp only[strOfNums,List.map_cons,List.map_nil,iN]]
 generalize UInt8.ofNat (48+m % 10)=d
 apply ByteArray.ext
 rw[ByteArray.data_append]
 simp
def i0b(a b:List UInt8):(⟨a.toArray⟩:BA)++⟨b.toArray⟩=⟨(a++b).toArray⟩:=by
 apply ByteArray.ext
 rw[ByteArray.data_append]
 simp
theorem C8(a:List UInt8):(⟨a.toArray⟩:BA).size=a.length:=by simp[ByteArray.size]
def C0x{n:Int}{m:Nat}(h:m<=9223372036854775808)(a:n<0∨m<=9223372036854775807):F0 (E04 n m):=by
 unfold E04
 split<;>constructor<;>omega
def T07(n:Int):∀(f m fuel:Nat) (acc:List UInt8),m<10 ^ f->f<fuel->m<=9223372036854775808->acc.length+f<=100->(n<0∨m<=9223372036854775807) ->
  l6 fuel (E04 n m) ⟨acc.toArray⟩=some ⟨(F0d f m acc).toArray⟩
 |f,m,0,acc,b,d,g,h,i=>by omega
 |0,m,fuel+1,acc,b,d,g,h,i=>by
  have:m=0:=by simp at b;exact b
  subst this
  rw[l6.eq_2,show E04 n 0=0 by unfold E04;split<;>simp]
  rfl
 |f+1,m,fuel+1,acc,b,d,g,h,i=>by
  rw[l6.eq_2]
  by_cases h0:m=0
  ·subst h0
   rw[show E04 n 0=0 by unfold E04;split<;>simp]
   simp[F0d]
  ·have p:E04 n m≠0:=λe=>h0 (i0q.1 e)
   have next:=T07 n f (m / 10) fuel (UInt8.ofNat (48+m % 10)::acc) (by rw[Nat.pow_succ]at b;omega) (by omega) (by omega) (by simp only[lC];omega) (by omega)
   have o:i64.wrap ((E04 n m).tdiv 10)=E04 n (m / 10):=by
    rw[c0t]
    have:=C0x (n:=n) (m:=m / 10) (by omega) (by omega)
    exact w64 this.1 this.2
   rw[if_pos (by simpa using p),o,b0t]
   simp only[show ∀ k:Unit->Option BA,(grd (10≠0)).bind k=k () from λk=>rfl]
   have j:∀ a:Int,a=((m % 10:Nat):Int)->((grd ([IntKind.u8.wrap (i64.wrap (48+a))].length<=9223372036854775807)).bind λ_=>(grd ((strOfNums [IntKind.u8.wrap (i64.wrap (48+a))]).size+(⟨acc.toArray⟩:BA).size<=9223372036854775807)).bind λ_ =>
     l6 fuel (E04 n (m / 10)) (strOfNums [IntKind.u8.wrap (i64.wrap (48+a))]++⟨acc.toArray⟩))=some ⟨(F0d (f+1) m acc).toArray⟩:=λa l=>by
    rw[D0 (by simp),oB,D0 (by rw[strOfNums_size,C8];simp only[lS];omega),oB,p0z acc l,next]
    simp[F0d,h0]
   by_cases hneg:E04 n (m % 10)<0
   ·rw[if_pos (by simpa using hneg)]
    refine j _ ?_
    unfold E04 at hneg ⊢
    split at hneg
    ·rename_i c
     rw[if_pos c,w64 (by omega) (by omega)];omega
    ·omega
   ·rw[if_neg (by simpa using hneg)]
    refine j _ ?_
    unfold E04 at hneg ⊢
    split at hneg
    ·rename_i c
     rw[if_pos c];omega
    ·rename_i c
     rw[if_neg c]
def j0q(n:Int):E04 n n.natAbs=n:=by unfold E04;split<;>omega
def E00(n:Int)(a:F0 n):J5 n=some (h0q n):=by
 unfold J5 h0q
 by_cases h0:n=0
 ·rw[if_pos (by simpa using h0),if_pos h0]
 ·rw[if_neg (by simpa using h0),if_neg h0]
  have h:=T07 n 20 n.natAbs P0 [] (by have:=a.1;have:=a.2;omega) (by unfold P0;omega) (by have:=a.1;have:=a.2;omega) (by simp) (by have:=a.2;omega)
  rw[j0q]at h
  rw[h,oB]
  have b:=I0j 20 n.natAbs []
  simp only[lN]at b
  by_cases hneg:n<0
  ·rw[if_pos (by simpa using hneg),if_pos hneg,D0 (by have e:=C8 (F0d 20 n.natAbs []);have c:(⟨#[45]⟩:BA).size=1:=rfl;omega),oB]
   exact congrArg some (i0b [45] _)
  ·rw[if_neg (by simpa using hneg),if_neg hneg]
def F0c:Nat->Nat->List Int
 |0,_=>[]
 |f+1,m=>if m=0 then []else((48+m % 10:Nat):Int)::F0c f (m / 10)
def k0q:∀(f m:Nat),(F0c f m).length<=f
 |0,m=>by simp[F0c]
 |f+1,m=>by
  simp only[F0c]
  split
  ·simp
  ·have:=k0q f (m / 10)
   simp only[lC];omega
def y0d:∀(f m:Nat) (acc:List UInt8),F0d f m acc=(F0c f m).reverse.map (λx=>UInt8.ofNat x.toNat)++acc
 |0,m,acc=>by simp[F0d,F0c]
 |f+1,m,acc=>by
  simp only[F0d,F0c]
  split
  ·simp
  ·rw[y0d f (m / 10)]
   simp only[List.reverse_cons,List.map_append,List.map_cons,List.map_nil,iN,List.append_assoc,List.singleton_append]
def U07(n:Int):∀(f m fuel:Nat) (acc:List Int),m<10 ^ f->f<fuel->m<=9223372036854775808->acc.length+f<=100->(n<0∨m<=9223372036854775807) ->
  o6 fuel (E04 n m) acc=some (acc++F0c f m)
 |f,m,0,acc,b,d,g,h,i=>by omega
 |0,m,fuel+1,acc,b,d,g,h,i=>by
  have:m=0:=by simp at b;exact b
  subst this
  rw[o6.eq_2,show E04 n 0=0 by unfold E04;split<;>simp]
  simp[F0c]
 |f+1,m,fuel+1,acc,b,d,g,h,i=>by
  rw[o6.eq_2]
  by_cases h0:m=0
  ·subst h0
   rw[show E04 n 0=0 by unfold E04;split<;>simp]
   simp[F0c]
  ·have q:E04 n m≠0:=λe=>h0 (i0q.1 e)
   have next:=U07 n f (m / 10) fuel (acc ++ [((48+m % 10:Nat):Int)]) (by rw[Nat.pow_succ]at b;omega) (by omega) (by omega) (by simp only[lA,lS];omega) (by omega)
   have p:i64.wrap ((E04 n m).tdiv 10)=E04 n (m / 10):=by
    rw[c0t]
    have:=C0x (n:=n) (m:=m / 10) (by omega) (by omega)
    exact w64 this.1 this.2
   rw[if_pos (by simpa using q),p,b0t]
   simp only[show ∀ k:Unit->Option (List Int),(grd (10≠0)).bind k=k () from λk=>rfl]
   have j:∀ a:Int,a=((m % 10:Nat):Int)->((grd ((acc.length + [IntKind.u8.wrap (i64.wrap (48+a))].length)*1<=140737488355328)).bind λ_ =>
     o6 fuel (E04 n (m / 10)) (acc ++ [IntKind.u8.wrap (i64.wrap (48+a))]))=some (acc++F0c (f+1) m):=λa l=>by
    have o:IntKind.u8.wrap (i64.wrap (48+a))=((48+m % 10:Nat):Int):=by
     rw[l]
     simp[IntKind.wrap,IntKind.signed,IntKind.bits]
     omega
    rw[o,D0 (by simp only[lS];omega),oB,next]
    simp[F0c,h0]
   by_cases hneg:E04 n (m % 10)<0
   ·rw[if_pos (by simpa using hneg)]
    refine j _ ?_
    unfold E04 at hneg ⊢
    split at hneg
    ·rename_i c
     rw[if_pos c,w64 (by omega) (by omega)];omega
    ·omega
   ·rw[if_neg (by simpa using hneg)]
    refine j _ ?_
    unfold E04 at hneg ⊢
    split at hneg
    ·rename_i c
     rw[if_pos c];omega
    ·rename_i c
     rw[if_neg c]
def D0x(xs:List Int)(p:xs.length<=140737488355328):∀(fuel i a:Nat) (b:List Int),i+a+1=xs.length->a+1-i<fuel->b.length=xs.length->(∀ t,t<xs.length->b[t]?=if t<i∨a<t then xs[xs.length-1-t]? else xs[t]?) ->
  O4 fuel (i:Int) (a:Int) b=some xs.reverse
 |0,i,a,b,m,o,l,e=>by omega
 |fuel+1,i,a,b,m,o,l,e=>by
  rw[O4.eq_2]
  by_cases hij:i<a
  ·have j:=U3 (show i<b.length by omega)
   have f:=U3 (show a<b.length by omega)
   generalize q:b[i]=xi at j
   generalize s:b[a]=xj at f
   rw[if_pos (by simp;omega),Z1 f,oB,Z1 j,oB,oB]
   rw[Z1 (k:=a) (x:=xj) (by rw[List.getElem?_set];simp;rw[if_neg (by omega)];exact f),oB,E2 hij (by omega),K0f (by omega) (by omega)]
   refine D0x xs p fuel (i+1) (a-1) _ (by omega) (by omega) (by simpa using l) (λt d=>?_)
   have g:=e i (by omega)
   have h:=e a (by omega)
   rw[if_neg (by omega)]at g h
   rw[j]at g
   rw[f]at h
   simp only[iN]
   by_cases t1:a=t
   ·subst t1
    rw[List.getElem?_set_self (by simp only[List.length_set];omega),if_pos (Or.inr (by omega)),show xs.length-1-a=i by omega]
    exact g
   ·rw[List.getElem?_set_ne t1]
    by_cases t2:i=t
    ·subst t2
     rw[List.getElem?_set_self (by omega),if_pos (Or.inl (by omega)),show xs.length-1-i=a by omega]
     exact h
    ·rw[List.getElem?_set_ne t2,e t d]
     by_cases c:t<i∨a<t
     ·rw[if_pos c,if_pos (by omega)]
     ·rw[if_neg c,if_neg (by omega)]
  ·rw[if_neg (by simp;omega)]
   refine congrArg some (List.ext_getElem? λt=>?_)
   rcases Nat.lt_or_ge t xs.length with d|d
   ·rw[e t d,List.getElem?_reverse d]
    by_cases c:t<i∨a<t
    ·rw[if_pos c]
    ·rw[if_neg c,show xs.length-1-t=t by omega]
   ·rw[List.getElem?_eq_none (by omega),List.getElem?_eq_none (by simpa using d)]
def k0w(xs:List Int)(h0:0<xs.length)(a:xs.length<=1000):O4 P0 0 (i64.wrap (((xs.length:Nat):Int)-1)) xs=some xs.reverse:=by
 rw[K0f h0 (by omega)]
 exact D0x xs (by omega) P0 0 (xs.length-1) xs (by omega) (by unfold P0;omega) rfl (λt b=>by rw[if_neg (by omega)])
def O01(n:Int)(a:F0 n):N6 n=some (h0q n):=by
 unfold N6 h0q
 by_cases h0:n=0
 ·rw[if_pos (by simpa using h0),if_pos h0]
 ·rw[if_neg (by simpa using h0),if_neg h0]
  have h:=U07 n 20 n.natAbs P0 [] (by have:=a.1;have:=a.2;omega) (by unfold P0;omega) (by have:=a.1;have:=a.2;omega) (by simp) (by have:=a.2;omega)
  rw[j0q,nA]at h
  have c:=k0q 20 n.natAbs
  have b:0<(F0c 20 n.natAbs).length:=by simp only[F0c];rw[if_neg (by omega)];simp
  rw[h,oB]
  simp only[oB]
  by_cases hneg:n<0
  ·rw[if_pos (by simpa using hneg),if_pos hneg,D0 (by simp only[lS];omega),oB,D0 (by simp only[lA,lS];omega),oB,
    k0w _ (by simp) (by simp only[lA,lS];omega),oB,D0 (by simp only[List.length_reverse,lA,lS];omega),oB,y0d]
   simp[strOfNums]
  ·rw[if_neg (by simpa using hneg),if_neg hneg,D0 (by omega),oB,
    k0w _ b (by omega),oB,D0 (by simp only[List.length_reverse];omega),oB,y0d]
   simp[strOfNums]
set_option maxRecDepth 10000
abbrev B(l:List UInt8):BA:=⟨l.toArray⟩
def w9(l:List UInt8):V05 (B l) ⟨#[]⟩=l.isEmpty:=by
 rw[X0u]
 grind
def H07(x:Int):Bool := !(x == 0)&&inR (-3) 3 x
def chL(x:Int):UInt8:=if x<0 then UInt8.ofNat (64+x.natAbs)else UInt8.ofNat (96+x.natAbs)
def q0i{x:Int}(a:H07 x=true):x = -3∨x = -2∨x = -1∨x=1∨x=2∨x=3:=by
 simp only[H07,inR,aE,Bool.not_eq_true',beq_eq_false_iff_ne,dE]at a
 omega
def z0r(x:Int):p04 x=some (H07 x):=by
 unfold p04 H07
 rw[J02]
 by_cases h:x=0<;>simp[h,chk]
def l0q(x:Int)(a:H07 x=true):z05 x=some (B [chL x]):=by
 rcases q0i a with rfl|rfl|rfl|rfl|rfl|rfl<;>rfl
def p0g(x:Int):o00 x=some (bif H07 x then B [chL x]else B []):=by
 cases hx:H07 x with
 |true=>rcases q0i hx with rfl|rfl|rfl|rfl|rfl|rfl<;>rfl
 |false =>
  unfold o00
  rw[W02,W02]
  have a:inR 1 3 x=false:=by
   simp only[H07,inR,Bool.and_eq_false_iff,Bool.not_eq_false',beq_iff_eq,decide_eq_false_iff_not]at hx ⊢
   omega
  have b:inR (-3) (-1) x=false:=by
   simp only[H07,inR,Bool.and_eq_false_iff,Bool.not_eq_false',beq_iff_eq,decide_eq_false_iff_not]at hx ⊢
   omega
  rw[a,b]
  rfl
def M03:List Int->Bool
 | []=>true
 |x::r=>H07 x&&M03 r
def wl(w:List Int):List UInt8:=match w with
 | []=>[49]
 |x::r=>(x::r).map chL
def p05(w:List Int):BA:=bif M03 w then B (wl w)else B []
def N0y(w:List Int):(wl w).isEmpty=false:=by cases w<;>rfl
theorem L09(w:List Int):(wl w).length<=w.length+1:=by cases w<;>simp[wl]
theorem G0c(w:List Int):(p05 w).size<=w.length+1:=by
 unfold p05
 cases M03 w with
 |false=>show 0<=_;omega
 |true=>simp_all[cT,C8,L09]
theorem P0e(w:List Int):V05 (p05 w) ⟨#[]⟩ = !M03 w:=by
 unfold p05
 cases M03 w with
 |false=>rw[cond_false,w9];rfl
 |true=>simp_all[cond_true,w9,N0y]
theorem I07(w:List Int)(f:w.length<=140737488355328):∀(d k fuel:Nat) (acc:List UInt8),k+d=w.length->d<fuel->acc.length+d<=140737488355328 ->
  O7 w fuel (B acc) (k:Int)=some (bif M03 (w.drop k)then .inr (B (acc++(w.drop k).map chL))else .inl (B []))
 |d,k,0,acc,c,hf,b=>by omega
 |0,k,fuel+1,acc,c,hf,b=>by
  simp_all[O7.eq_2,if_neg,Z0,M03]
 |d+1,k,fuel+1,acc,c,hf,b=>by
  have e:k<w.length:=by omega
  have a:=U3 e
  generalize w[k]=x at a
  have next:=I07 w f d (k+1) fuel (acc ++ [chL x]) (by omega) (by omega) (by grind)
  rw[I1 a,O7.eq_2,if_pos (by simp;omega),Z1 a,oB,z0r,oB]
  simp only[M03]
  cases hlx:H07 x with
  |false=>rfl
  |true =>
   rw[if_neg (by simp),oB,l0q x hlx,oB,D0 (by rw[C8];simp),oB,D0 (by grind[C8,List.length_singleton]),oB,
    i0b,E2 e (by omega:w.length<=9223372036854775807),next]
   simp
def g07(w:List Int)(a:w.length<=140737488355):n00 w=some (p05 w):=by
 unfold n00
 have h:=I07 w (by omega) w.length 0 P0 [] (by omega) (X0 (by omega)) (by grind)
 rw[show((0:Nat):Int)=0 from rfl,dZ,nA]at h
 rw[show(⟨#[]⟩:BA)=B [] from rfl,h,oB]
 unfold p05
 cases M03 w with
 |false=>rfl
 |true =>
  rw[cT,Q0,show(B []:BA)=⟨#[]⟩ from rfl,w9]
  cases w<;>rfl
theorem J07(w:List Int)(f:w.length<=140737488355328):∀(d k fuel:Nat) (acc:List UInt8),k+d=w.length->d<fuel->acc.length+d<=140737488355328 ->
  P7 w fuel (B acc) (k:Int)=some (bif M03 (w.drop k)then .inr (B (acc++(w.drop k).map chL))else .inl (B []))
 |d,k,0,acc,c,hf,b=>by omega
 |0,k,fuel+1,acc,c,hf,b=>by
  simp_all[P7.eq_2,if_neg,Z0,M03]
 |d+1,k,fuel+1,acc,c,hf,b=>by
  have e:k<w.length:=by omega
  have a:=U3 e
  generalize w[k]=x at a
  have next:=J07 w f d (k+1) fuel (acc ++ [chL x]) (by omega) (by omega) (by grind)
  rw[I1 a,P7.eq_2,if_pos (by simp;omega),Z1 a,oB,p0g,oB]
  simp only[M03]
  cases hlx:H07 x with
  |false=>simp_all[cond_false,D0,C8,oB,w9]
  |true =>
   rw[cond_true,D0 (by rw[C8];simp),oB,w9,if_neg (by simp),D0 (by grind[C8,List.length_singleton]),oB,
    i0b,E2 e (by omega:w.length<=9223372036854775807),next]
   simp
def B0a(w:List Int)(a:w.length<=140737488355):H01 w=some (p05 w):=by
 unfold H01
 by_cases h0:w.length=0
 ·have:w = []:=List.length_eq_zero_iff.1 h0
  subst this
  rfl
 ·have h:=J07 w (by omega) w.length 0 P0 [] (by omega) (X0 (by omega)) (by grind)
  rw[show((0:Nat):Int)=0 from rfl,dZ,nA]at h
  rw[if_neg (by grind),show(⟨#[]⟩:BA)=B [] from rfl,h,oB]
  unfold p05
  cases M03 w with
  |false=>rfl
  |true =>
   cases w with
   |nil=>simp at h0
   |cons x r=>rfl
def A05(a:UInt8):List (List UInt8)->List UInt8
 | []=>[]
 |x::r=>a::x++A05 a r
def t09(a:UInt8):List (List UInt8)->List UInt8
 | []=>[]
 |x::r=>x++A05 a r
def x04:List (List Int)->Bool
 | []=>true
 |w::r=>M03 w&&x04 r
def u09(a:List (List Int)):BA:=bif x04 a then(match a with
 | []=>B [110,111,110,101]
 |w::r=>B (t09 44 ((w::r).map wl)))else B []
def wsz:List (List Int)->Nat
 | []=>0
 |w::r=>w.length+2+wsz r
theorem z0h:∀ a:List (List Int),(A05 44 (a.map wl)).length<=wsz a
 | []=>by simp[A05,wsz]
 |w::r=>by
  have:=z0h r
  have:=L09 w
  grind[A05,wsz,List.length_cons,List.length_append]
def V0n{w:List Int}:∀ {a:List (List Int)},w∈a->w.length<=wsz a
 |x::r,h=>by
  rcases mE.1 h with rfl|h
  ·simp only[wsz];omega
  ·have:=V0n h;simp only[wsz];omega
theorem q0g:∀ a:List (List Int),a.length<=wsz a
 | []=>by simp
 |w::r=>by have:=q0g r;grind[wsz,List.length_cons]
theorem T06(a:List (List Int))(h:wsz a<=140737488):∀(d k fuel:Nat) (acc:List UInt8),k+d=a.length->d<fuel->0<k->acc.length+wsz (a.drop k)<=140737488355328 ->
  D4 a fuel (B acc) (k:Int)=some (bif x04 (a.drop k)then .inr (B (acc++A05 44 ((a.drop k).map wl)))else .inl (B []))
 |d,k,0,acc,e,hf,h0,b=>by omega
 |0,k,fuel+1,acc,e,hf,h0,b=>by
  simp_all[D4.eq_2,if_neg,Z0,x04,A05]
 |d+1,k,fuel+1,acc,e,hf,h0,b=>by
  have f:k<a.length:=by omega
  have c:=U3 f
  have j:=q0g a
  have i:=V0n (List.mem_of_getElem? c)
  generalize a[k]=x at c i
  rw[I1 c]at b ⊢
  simp only[wsz]at b
  have l:=L09 x
  have next:=T06 a h d (k+1) fuel (acc ++ [44]++wl x) (by omega) (by omega) (by omega) (by grind)
  rw[D4.eq_2,if_pos (by simp;omega),if_pos (by simp;omega),D0 (by grind[C8]),oB,Z1 c,oB,g07 x (by omega),oB,
   D0 (by grind[G0c]),oB,P0e]
  simp only[x04]
  cases hlx:M03 x with
  |false=>rfl
  |true =>
   have g:p05 x=B (wl x):=by grind[p05]
   rw[if_neg (by simp),g,show(⟨#[44]⟩:ByteArray)=B [44] from rfl,i0b,D0 (by grind[C8,List.length_append,List.length_singleton]),oB,i0b,
    E2 f (by omega:a.length<=9223372036854775807),next]
   simp[A05]
theorem r0g(a:List (List Int))(c:wsz a<=140737488):w02 a=some (u09 a):=by
 unfold w02 u09
 cases a with
 |nil=>rw[show P0=(P0-1)+1 from rfl,D4.eq_2,if_neg (by simp),oB,Q0,if_pos (n0d.2 rfl)];rfl
 |cons x r =>
  have e:=L09 x
  have d:wsz r<=140737488:=by grind[wsz]
  have f:x.length<=140737488:=by grind[wsz]
  have next:=T06 (x::r) c r.length 1 (P0-1) (wl x) (by grind) (by grind[q0g,P0]) (by omega) (by grind)
  rw[show P0=(P0-1)+1 from rfl,D4.eq_2,if_pos (by simp),if_neg (by simp),F0e (x:=x) rfl,oB,g07 x (by omega),oB,
   D0 (by grind[G0c]),oB,P0e]
  simp only[x04]
  cases hlx:M03 x with
  |false=>rfl
  |true =>
   have b:p05 x=B (wl x):=by grind[p05]
   rw[if_neg (by simp),b,show(⟨#[]⟩:ByteArray)=B [] from rfl,i0b,List.nil_append,D0 (by grind[C8,List.length_nil]),oB,
    show IntKind.i64.wrap (0+1)=((1:Nat):Int) by decide,next]
   simp only[List.drop_succ_cons,List.drop_zero,Bool.true_and,oB]
   cases x04 r with
   |false=>rfl
   |true =>
    rw[cond_true,Q0,show(B []:ByteArray)=⟨#[]⟩ from rfl,w9]
    have:(wl x++A05 44 (List.map wl r)).isEmpty=false:=by cases x<;>rfl
    rw[this]
    rfl
def U06(a:List (List Int))(h:wsz a<=140737488):∀(d k fuel:Nat) (acc:List BA),k+d=a.length->d<fuel->acc.length=k ->
  o7 a fuel (k:Int) acc=some (bif x04 (a.drop k)then .inr (acc++(a.drop k).map λw=>B (wl w))else .inl (B []))
 |d,k,0,acc,e,hf,c=>by omega
 |0,k,fuel+1,acc,e,hf,c=>by
  simp_all[o7.eq_2,if_neg,Z0,x04]
 |d+1,k,fuel+1,acc,e,hf,c=>by
  have f:k<a.length:=by omega
  have b:=U3 f
  have j:=q0g a
  have i:=V0n (mG b)
  generalize a[k]=x at b i
  have next:=U06 a h d (k+1) fuel (acc ++ [B (wl x)]) (by omega) (by omega) (by grind)
  rw[I1 b,o7.eq_2,if_pos (by simp;omega),Z1 b,oB,B0a x (by omega),oB,
   D0 (by grind[G0c]),oB,P0e]
  simp only[x04]
  cases hlx:M03 x with
  |false=>rfl
  |true =>
   have g:p05 x=B (wl x):=by grind[p05]
   rw[if_neg (by simp),g,D0 (by grind),oB,E2 f (by omega:a.length<=9223372036854775807),next]
   simp
def bsz:List (List UInt8)->Nat
 | []=>0
 |x::r=>x.length+1+bsz r
theorem W0n:∀ xs:List (List UInt8),xs.length<=bsz xs
 | []=>by simp
 |w::r=>by have:=W0n r;grind[bsz,List.length_cons]
theorem u0b(sep:UInt8)(xs:List (List UInt8))(hl:bsz xs<=140737488355328):∀(d k fuel:Nat) (acc:List UInt8),k+d=xs.length->d<fuel->acc.length+bsz (xs.drop k)<=140737488355328 ->
  w01 (xs.map B) (B [sep]) fuel (B acc) (k:Int)=some (B (acc++A05 sep (xs.drop k)))
 |d,k,0,acc,hk,hf,ha=>by omega
 |0,k,fuel+1,acc,hk,hf,ha=>by
  simp_all[w01.eq_2,if_neg,Z0,A05]
 |d+1,k,fuel+1,acc,hk,hf,ha=>by
  have hkl:k<xs.length:=by omega
  have hx:=U3 hkl
  have hlen:=W0n xs
  generalize xs[k]=x at hx
  rw[I1 hx]at ha ⊢
  simp only[bsz]at ha
  have next:=u0b sep xs hl d (k+1) fuel (acc ++ [sep]++x) (by omega) (by omega) (by grind)
  rw[w01.eq_2,if_pos (by simp;omega),Z1 (x:=B x) (by grind),oB,D0 (by grind[C8,List.length_singleton]),oB,i0b,
   D0 (by grind[C8,List.length_append,List.length_singleton]),oB,i0b,E2 hkl (by omega:xs.length<=9223372036854775807),next]
  simp[A05]
def s0g(a:UInt8)(e:BA):List (List UInt8)->BA
 | []=>e
 |x::r=>B (t09 a (x::r))
def X0n(a:UInt8)(e:BA)(xs:List (List UInt8))(c:bsz xs<=140737488355328):Y03 (xs.map B) (B [a]) e=some (s0g a e xs):=by
 unfold Y03
 cases xs with
 |nil=>rfl
 |cons x r =>
  simp only[bsz]at c
  have d:=W0n r
  have h:=u0b a r (by omega) r.length 0 P0 x (by omega) (X0 (by omega)) (by grind)
  rw[show((0:Nat):Int)=0 from rfl,dZ]at h
  rw[if_neg (by simp;omega),F0e (x:=B x) rfl,oB,y07,if_pos (by simp;omega),oB]
  have b:(List.drop (1:Int).toNat (List.take ((((x::r).map B).length:Nat):Int).toNat ((x::r).map B)))=r.map B:=by
   rw[iN,List.take_length];rfl
  rw[b,h]
  rfl
theorem l0w:∀ a:List (List Int),bsz (a.map wl)<=wsz a
 | []=>by simp[bsz,wsz]
 |w::r=>by
  have:=l0w r
  grind[L09,bsz,wsz]
theorem Y0n(a:List (List Int)):(u09 a).size<=wsz a+4:=by
 unfold u09
 cases x04 a with
 |false=>show 0<=_;omega
 |true =>
  cases a with
  |nil=>show 4<=_;omega
  |cons w r =>
   simp only[cond_true]
   rw[C8]
   have:=z0h r
   grind[L09,t09,wsz,List.length_append]
def t0g(a:List (List Int))(c:wsz a<=140737488):x02 a=some (u09 a):=by
 unfold x02
 have d:=q0g a
 have h:=U06 a c a.length 0 P0 [] (by omega) (X0 (by omega)) rfl
 rw[show((0:Nat):Int)=0 from rfl,dZ,nA]at h
 rw[h,oB]
 have b:=Y0n a
 unfold u09 at b ⊢
 cases hall:x04 a with
 |false=>rfl
 |true =>
  rw[hall]at b
  rw[cT,Q0,show(a.map λw=>B (wl w))=(a.map wl).map B by simp,show(⟨#[44]⟩:BA)=B [44] from rfl,X0n 44 _ _ (by grind[l0w]),oB]
  cases a with
  |nil=>rfl
  |cons w r =>
   simp only[cT,List.map_cons,s0g]at b ⊢
   rw[D0 (by omega),oB]
theorem j0u(n:Int):(h0q n).size<=21:=by
 grind[h0q,I0j,List.length_nil,C8,List.length_cons]
theorem d0t:∀ a:List (List Int),wsz a=tot a+2*a.length
 | []=>rfl
 |w::r=>by have:=d0t r;grind[wsz,tot,List.length_cons]
def fI(n:Int):List UInt8:=if n=0 then [48]else if n<0 then 45::F0d 20 n.natAbs []else F0d 20 n.natAbs []
def M09(n:Int):h0q n=B (fI n):=by
 unfold h0q fI
 split
 ·rfl
 ·split<;>rfl
theorem j03(n:Int):(fI n).length<=21:=by
 have:=j0u n
 rw[M09,C8]at this
 exact this
def E0x(n:Int):(fI n).isEmpty=false:=by
 unfold fI
 split
 ·rfl
 ·split
  ·rfl
  ·rw[y0d]
   have:0<(F0c 20 n.natAbs).length:=by simp only[F0c];rw[if_neg (by omega)];simp
   cases h:((F0c 20 n.natAbs).reverse.map (λx=>UInt8.ofNat x.toNat) ++ [])with
   |nil =>
    have a:=congrArg List.length h
    simp only[List.append_nil,List.length_map,List.length_reverse,lN]at a
    omega
   |cons x r=>rfl
def P08:List O0->List UInt8
 | []=>[]
 |e::r=>32::fI e.1 ++ [chL e.2.1]++fI e.2.2++P08 r
def n0y(e:O0):Prop:=H07 e.2.1=true/\F0 e.1/\F0 e.2.2
def P0k{g:z0}(h:U0 g=true):∀ e∈g.2.2,n0y e:=λe i=>by
 simp only[U0,aE,dE]at h
 obtain⟨k,c⟩:=List.getElem?_of_mem i
 have a:=v0n h.1.1.1 k (Nat.zero_le _) (by have:=(gI.1 c).1;omega)
 rw[p0d c]at a
 simp only[Bool.or_eq_false_iff,Bool.not_eq_false']at a
 have b:=a.1
 have d:=h.1.1.2
 have f:=h.1.2
 simp only[K08,inR,aE,dE]at b d f
 have j:i64.wrap (g.2.1-1)=g.2.1-1:=w64 (by omega) (by omega)
 rw[j]at b
 refine⟨?_,⟨by omega,by omega⟩,⟨by omega,by omega⟩⟩
 simp only[H07,inR,aE,Bool.not_eq_true',beq_eq_false_iff_ne,dE]
 omega
def s0l(x:Int)(a:H07 x=true):o00 x=some (B [chL x]):=by rw[p0g,a];rfl
def N09(g:z0):List UInt8:=fI g.1 ++ [32]++fI g.2.1++P08 g.2.2
def z0d(g:z0):BA:=bif U0 g then B (N09 g)else B []
def V06(es:List O0)(h:∀ e∈es,n0y e)(q:es.length<=1000):∀(d k fuel:Nat) (acc:List UInt8),k+d=es.length->d<fuel->acc.length<=100+44*k ->
  p7 es fuel (B acc) (k:Int)=some (B (acc++P08 (es.drop k)))
 |d,k,0,acc,j,hf,g=>by omega
 |0,k,fuel+1,acc,j,hf,g=>by
  rw[p7.eq_2,if_neg (by simp;omega),Z0 (by omega)]
  simp[P08]
 |d+1,k,fuel+1,acc,j,hf,g=>by
  have l:k<es.length:=by omega
  have a:=U3 l
  have i:=h _ (mG a)
  generalize es[k]=e at a i
  obtain⟨b,f,c⟩:=e
  obtain⟨m,o,p⟩:=i
  simp only at m o p
  have s:=j03 b
  have t:=j03 c
  have next:=V06 es h q d (k+1) fuel (acc ++ [32]++fI b ++ [chL f]++fI c) (by omega) (by omega) (by simp only[lA,lS];omega)
  rw[I1 a,p7.eq_2,if_pos (by simp;omega),Z1 a,oB]
  simp only[E00 b o,E00 c p,l0q f m,M09,show(⟨#[32]⟩:BA)=B [32] from rfl,i0b,oB,C8]
  rw[D0 (by simp only[lS];omega),oB,D0 (by omega),oB,D0 (by simp only[lA,lS];omega),oB,D0 (by simp),oB,
   D0 (by simp only[lA,lS];omega),oB,D0 (by omega),oB,D0 (by simp only[lA,lS];omega),oB,
   E2 l (by omega:es.length<=9223372036854775807),next]
  simp[P08]
def u0g(g:z0)(c:g.2.2.length<=140737488355328):y02 g=some (z0d g):=by
 have d:=t9 g c
 obtain⟨r,n,es⟩:=g
 unfold y02 z0d
 simp only[d,oB]
 cases h:U0 (r,n,es)with
 |false=>rfl
 |true =>
  have b:=P0k h
  have h':=h
  simp only[U0,inR,aE,dE]at h'
  have f:=j03 r
  have e:=j03 n
  have a:=V06 es b (by omega) es.length 0 P0 (fI r ++ [32]++fI n) (by omega) (by unfold P0;omega) (by simp only[lA,lS];omega)
  rw[show((0:Nat):Int)=0 from rfl,dZ]at a
  rw[if_neg (by simp),E00 r ⟨by omega,by omega⟩,E00 n ⟨by omega,by omega⟩]
  simp only[M09,show(⟨#[32]⟩:BA)=B [32] from rfl,i0b,oB,C8]
  rw[D0 (by omega),oB,D0 (by simp only[lS];omega),oB,D0 (by omega),oB,D0 (by simp only[lA,lS];omega),oB,a]
  rfl
def W06(es:List O0)(h:∀ e∈es,n0y e)(q:es.length<=1000):∀(d k fuel:Nat) (acc:List UInt8),k+d=es.length->d<fuel->acc.length<=100+44*k ->
  r7 es fuel (B acc) (k:Int)=some (B (acc++P08 (es.drop k)))
 |d,k,0,acc,j,hf,g=>by omega
 |0,k,fuel+1,acc,j,hf,g=>by
  rw[r7.eq_2,if_neg (by simp;omega),Z0 (by omega)]
  simp[P08]
 |d+1,k,fuel+1,acc,j,hf,g=>by
  have l:k<es.length:=by omega
  have a:=U3 l
  have i:=h _ (mG a)
  generalize es[k]=e at a i
  obtain⟨b,f,c⟩:=e
  obtain⟨m,o,p⟩:=i
  simp only at m o p
  have s:=j03 b
  have t:=j03 c
  have next:=W06 es h q d (k+1) fuel (acc ++ [32]++fI b ++ [chL f]++fI c) (by omega) (by omega) (by simp only[lA,lS];omega)
  rw[I1 a,r7.eq_2,if_pos (by simp;omega),Z1 a,oB]
  simp only[O01 b o,O01 c p,s0l f m,M09,show(⟨#[32]⟩:BA)=B [32] from rfl,i0b,oB,C8]
  rw[D0 (by simp only[lS];omega),oB,D0 (by omega),oB,D0 (by simp only[lA,lS];omega),oB,D0 (by simp),oB,
   D0 (by simp only[lA,lS];omega),oB,D0 (by omega),oB,D0 (by simp only[lA,lS];omega),oB,
   E2 l (by omega:es.length<=9223372036854775807),next]
  simp[P08]
def v0g(g:z0)(c:g.2.2.length<=140737488355328):A02 g=some (z0d g):=by
 have d:=f01 g c
 obtain⟨r,n,es⟩:=g
 unfold A02 z0d
 simp only[d,oB]
 cases h:U0 (r,n,es)with
 |false=>rfl
 |true =>
  have b:=P0k h
  have h':=h
  simp only[U0,inR,aE,dE]at h'
  have f:=j03 r
  have e:=j03 n
  have a:=W06 es b (by omega) es.length 0 P0 (fI r ++ [32]++fI n) (by omega) (by unfold P0;omega) (by simp only[lA,lS];omega)
  rw[show((0:Nat):Int)=0 from rfl,dZ]at a
  rw[if_neg (by simp),O01 r ⟨by omega,by omega⟩,O01 n ⟨by omega,by omega⟩]
  simp only[M09,show(⟨#[32]⟩:BA)=B [32] from rfl,i0b,oB,C8]
  rw[D0 (by omega),oB,D0 (by simp only[lS];omega),oB,D0 (by omega),oB,D0 (by simp only[lA,lS];omega),oB,a]
  rfl
def H0c(w:List Int):Prop:=∀ x∈w,F0 x
def O0y:BA:=⟨#[110,111,110,101]⟩
def A0d(a:List Int):BA:=s0g 32 O0y (a.map fI)
def Z0n:List Int->List UInt8
 | []=>[110,111,110,101]
 |k::r=>t09 32 ((k::r).map fI)
def I0c(a:List Int):A0d a=B (Z0n a):=by cases a<;>rfl
theorem A0r:∀ a:List Int,bsz (a.map fI)<=22*a.length
 | []=>by simp[bsz]
 |k::r=>by
  have:=A0r r
  grind[j03,bsz,List.length_cons]
theorem m0q:∀ xs:List (List UInt8),(A05 32 xs).length=bsz xs
 | []=>rfl
 |x::r=>by
  have:=m0q r
  grind[A05,bsz,List.length_cons,List.length_append]
theorem w0g(a:List Int):(Z0n a).length<=4+22*a.length:=by
 cases a with
 |nil=>simp[Z0n]
 |cons k r =>
  have b:=m0q (r.map fI)
  have c:=A0r r
  have d:=j03 k
  grind[Z0n,t09,List.length_append,List.length_cons]
def Y0w(a:List Int):(Z0n a).isEmpty=false:=by
 cases a with
 |nil=>rfl
 |cons k r =>
  have:=E0x k
  simp_all[Z0n,List.map_cons,t09,fI]
def m06(a:List Int)(c:H0c a)(i:a.length<=1073741824):∀(d k fuel:Nat) (acc:List UInt8),k+d=a.length->d<fuel->0<k->acc.length<=22*k ->
  S3 a fuel (B acc) (k:Int)=some (B (acc++A05 32 ((a.drop k).map fI)))
 |d,k,0,acc,f,hf,h0,e=>by omega
 |0,k,fuel+1,acc,f,hf,h0,e=>by
  simp_all[S3.eq_2,if_neg,Z0,A05]
 |d+1,k,fuel+1,acc,f,hf,h0,e=>by
  have g:k<a.length:=by omega
  have b:=U3 g
  have h:=c _ (mG b)
  generalize a[k]=x at b h
  have j:=j03 x
  have next:=m06 a c i d (k+1) fuel (acc ++ [32]++fI x) (by omega) (by omega) (by omega) (by grind)
  rw[I1 b,S3.eq_2,if_pos (by simp;omega),if_pos (by simp;omega)]
  simp only[E00 x h,M09,show(⟨#[32]⟩:BA)=B [32] from rfl,i0b,oB,C8,Z1 b]
  rw[D0 (by grind),oB,D0 (by omega),oB,D0 (by grind),oB,
   E2 g (by omega:a.length<=9223372036854775807),next]
  simp[A05]
theorem G0d(a:List Int)(b:H0c a)(c:a.length<=1073741824):x01 a=some (A0d a):=by
 unfold x01
 cases a with
 |nil=>rw[show P0=(P0-1)+1 from rfl,S3.eq_2,if_neg (by simp),oB,if_pos (n0d.2 rfl)];rfl
 |cons x r =>
  have d:=b x mS
  have e:=j03 x
  have next:=m06 (x::r) b c r.length 1 (P0-1) (fI x) (by grind) (by grind[List.length_cons,P0]) (by omega) (by omega)
  rw[show P0=(P0-1)+1 from rfl,S3.eq_2,if_pos (by simp),if_neg (by simp),F0e (x:=x) rfl]
  simp only[E00 x d,M09,show(⟨#[]⟩:ByteArray)=B [] from rfl,i0b,oB,C8,List.nil_append]
  rw[D0 (by omega),oB,D0 (by grind),oB,show IntKind.i64.wrap (0+1)=((1:Nat):Int) by decide,next,oB,show(B []:ByteArray)=⟨#[]⟩ from rfl,w9]
  have:=Y0w (x::r)
  simp only[Z0n,List.map_cons,t09]at this
  simp only[List.drop_succ_cons,List.drop_zero]
  rw[this]
  rfl
def n06(a:List Int)(c:H0c a)(i:a.length<=1073741824):∀(d k fuel:Nat) (acc:List BA),k+d=a.length->d<fuel->acc.length=k ->
  V5 a fuel (k:Int) acc=some (acc++(a.drop k).map λx=>B (fI x))
 |d,k,0,acc,f,hf,e=>by omega
 |0,k,fuel+1,acc,f,hf,e=>by
  simp_all[V5.eq_2,if_neg,Z0]
 |d+1,k,fuel+1,acc,f,hf,e=>by
  have g:k<a.length:=by omega
  have b:=U3 g
  have h:=c _ (mG b)
  generalize a[k]=x at b h
  have j:=j03 x
  have next:=n06 a c i d (k+1) fuel (acc ++ [B (fI x)]) (by omega) (by omega) (by grind)
  rw[I1 b,V5.eq_2,if_pos (by simp;omega),Z1 b,oB,O01 x h,oB,M09,
   D0 (by rw[C8];omega),oB,D0 (by grind),oB,E2 g (by omega:a.length<=9223372036854775807),next]
  simp
def H0d(a:List Int)(b:H0c a)(c:a.length<=1073741824):y01 a=some (A0d a):=by
 unfold y01
 have h:=n06 a b c a.length 0 P0 [] (by omega) (X0 (by omega)) rfl
 have d:=A0r a
 rw[show((0:Nat):Int)=0 from rfl,dZ,nA]at h
 rw[h,oB,show(a.map λw=>B (fI w))=(a.map fI).map B by simp,show(⟨#[32]⟩:BA)=B [32] from rfl,X0n 32 _ _ (by omega),oB,
  show s0g 32 ⟨#[110,111,110,101]⟩ (a.map fI)=A0d a from rfl,I0c,D0 (by grind[w0g,C8])]
 rfl
def cwL(k:Int):List UInt8:=if k=1 then [105,110]else if k=2 then [111,117,116]else if k=3 then [115,97,109,101]else if k=4 then [99,111,110,106,117,103,97,116,101]else if k=5 then [102,114,101,101]else if k=6 then [105,110,100,101,120]else []
def v0b(k:Int):K03 k=some (B (cwL k)):=by
 unfold K03
 rw[J02,oB]
 cases h:inR 1 6 k with
 |false =>
  have : ¬ (1<=k/\k<=6):=by grind[inR]
  have e:cwL k = []:=by
   unfold cwL
   rw[if_neg (by omega),if_neg (by omega),if_neg (by omega),if_neg (by omega),if_neg (by omega),if_neg (by omega)]
  rw[e]
  rfl
 |true =>
  simp only[inR,aE,dE]at h
  have:k=1∨k=2∨k=3∨k=4∨k=5∨k=6:=by omega
  rcases this with rfl|rfl|rfl|rfl|rfl|rfl<;>rfl
def A0i(k:Int):L03 k=some (B (cwL k)):=v0b k
def a0o(k:Int):(cwL k).length<=9:=by
 unfold cwL
 repeat' split
 all_goals simp
theorem Q0k:∀ es:List O0,(P08 es).length<=44*es.length
 | []=>by simp[P08]
 |e::r=>by
  have:=Q0k r
  grind[j03,P08,List.length_append,List.length_cons,List.length_nil]
theorem h07{g:z0}(h:U0 g=true):(N09 g).length<=6000:=by
 simp only[U0,Bool.and_eq_true,decide_eq_true_eq]at h
 grind[Q0k,j03,N09,List.length_append,List.length_singleton]
def k0u(g:z0):(N09 g).isEmpty=false:=by
 simp_all[E0x,N09,fI]
def y04(c:P1):Bool := !(cwL c.1).isEmpty&&Y4 c.2.1 c.2.2.1&&G2 c.2.1 c.2.2.2.1&&U0 c.2.2.2.2.2.1
def A0h(a:List (List Int)):List UInt8:=match a with
 | []=>[110,111,110,101]
 |w::r=>t09 44 ((w::r).map wl)
def Q08(c:P1):List UInt8:=t09 32 [cwL c.1,fI c.2.1,A0h c.2.2.1,wl c.2.2.2.1,[98,121],Z0n c.2.2.2.2.1,[97,110,100],N09 c.2.2.2.2.2.1,[97,110,100],fI c.2.2.2.2.2.2]
def m03(c:P1):BA:=bif y04 c then B (Q08 c)else B []
structure R08 (c:P1):Prop where
 ws:c.2.2.1.length<=140737488355328/\F9 c.2.2.1
 w:c.2.2.2.1.length<=140737488355328
 ks:H0c c.2.2.2.2.1/\c.2.2.2.2.1.length<=1073741824
 g:c.2.2.2.2.2.1.2.2.length<=140737488355328
 r:F0 c.2.1
 n:F0 c.2.2.2.2.2.2
theorem r0i{r:Int}{w:List Int}(h:G2 r w=true):M03 w=true:=by
 have:∀ v:List Int,(∀ x∈v,H07 x=true)->M03 v=true:=by
  intro v
  induction v with
  |nil=>intro _;rfl
  |cons x t g =>
   simp_all[M03,aE,List.mem_cons_self,mC]
 refine this w λx b=>?_
 obtain⟨i,a⟩:=List.getElem?_of_mem b
 obtain⟨c,_,d,e,f⟩:=Z0h h a
 simp only[H07,inR,aE,Bool.not_eq_true',beq_eq_false_iff_ne,dE]
 omega
def m0e{r:Int}:∀ {a:List (List Int)},N0f r a=true->x04 a=true
 | [],_=>rfl
 |w::l,h=>by
  simp only[N0f,aE]at h
  simp only[x04,aE]
  exact⟨r0i h.1,m0e h.2⟩
def B0h{r:Int}{a:List (List Int)}(h:Y4 r a=true):u09 a=B (A0h a)/\wsz a<=60:=by
 simp only[Y4,aE,dE]at h
 refine⟨?_,by rw[d0t];omega⟩
 unfold u09
 rw[m0e h.1.2]
 cases a<;>rfl
def R0k{r:Int}{w:List Int}(h:G2 r w=true):p05 w=B (wl w)/\w.length<=24:=by
 have a:=h
 simp only[G2,aE,dE]at a
 grind[p05,r0i]
theorem Q0e{a:List (List Int)}(h:wsz a<=60):(A0h a).length<=64:=by
 cases a with
 |nil=>simp[A0h]
 |cons w r =>
  have b:=z0h r
  have c:=L09 w
  grind[wsz,A0h,t09,List.length_append]
end Go.Proofs.YtcpjomkcdlggaaaGreat
