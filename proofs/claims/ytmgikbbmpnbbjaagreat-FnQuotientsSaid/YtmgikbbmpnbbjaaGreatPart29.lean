/- Texts of the claim, joined: Plain laws: which entries of a library lie inside another and others. -/
import Derived.Test.YtmgikbbmpnbbjaaGreatPart28
import Derived.Test.YtmgikbbmpnbbjaaGreatPart21
import Derived.Test.YtmgikbbmpnbbjaaGreatH36
import Derived.Test.YtmgikbbmpnbbjaaGreatPart22
import Derived.Test.YtmgikbbmpnbbjaaGreatPart27
import Derived.Test.YtmgikbbmpnbbjaaGreatHE
namespace Go.Proofs.YtmgikbbmpnbbjaaGreat
open Go.H
set_option linter.unusedVariables false
set_option linter.unusedSimpArgs false
theorem r0p{g:j0}(hf:I0 g=true){w:List Int}(k:∀ x∈w,Y4 x)(j:w.length<=140737488355328):n5 g w=some (X01 g w):=by
 obtain⟨e,m,f,n⟩:=G1 hf
 have h:=x0n g e f.2 (by omega) 0 w k j
 have i:=E07 e f.2 w 0 ⟨by omega,by omega⟩
 have l:=d06 g w 0
 unfold X01
 obtain⟨a,b,c⟩:=g
 unfold n5
 simp only[h,oB]
 rw[F0 i,oB,F0 (show H0 (((E7 (a,b,c) 0 w).2:Nat):Int) from⟨by omega,by omega⟩),oB]
 by_cases d:(E7 (a,b,c) 0 w).2=w.length
 ·rw[decide_eq_true d,show decide ((((E7 (a,b,c) 0 w).2:Nat):Int)=((w.length:Nat):Int))=true from decide_eq_true (by omega)]
  simp
 ·rw[decide_eq_false d,show decide ((((E7 (a,b,c) 0 w).2:Nat):Int)=((w.length:Nat):Int))=false from decide_eq_false (by omega)]
  simp
theorem L0c(w:List Int)(a:w.length<=1099511627776):s8 w=some (C9 [] w).reverse:=by
 unfold s8
 rw[N0h [w] (by simp) (by simp only[T0r];omega)]
 rfl
theorem X0n{w:List Int}(a:∀ x∈w,Y4 x):∀ x∈(C9 [] w).reverse,Y4 x:=λx b=>by
 rcases y0m w [] (List.mem_reverse.1 b)with h|h
 ·cases h
 ·exact a x h
theorem i0s{g:j0}(hf:I0 g=true)(a:List (List Int))(j:∀ w∈a,(∀ x∈w,Y4 x)/\w.length<=1099511627776)(l:a.length<=1099511627776):∀(d k fuel:Nat),k+d=a.length->d<fuel ->
  U5 a g.1 g.2.1 g.2.2 fuel (k:Int)=some (bif(a.drop k).all λw=>X01 g (C9 [] w).reverse then .inr ()else .inl false)
 |d,k,0,e,h=>by omega
 |0,k,fuel+1,e,h=>by
  rw[U5.eq_2,if_neg (by simp only[decide_eq_true_eq];omega),P1 (by omega)];rfl
 |d+1,k,fuel+1,e,h=>by
  have i:k<a.length:=by omega
  have b:=A5 i
  have c:=j _ (List.mem_of_getElem? b)
  have f:=V1 b
  generalize a[k]=w at b c f
  have m:=F02 w []
  have n:=i0s hf a j l d (k+1) fuel (by omega) (by omega)
  rw[U5.eq_2,if_pos (by simp only[decide_eq_true_eq];omega),Z2 b,oB,L0c w c.2,oB,show(g.1,g.2.1,g.2.2)=g from rfl,r0p hf (X0n c.1) (by rw[List.length_reverse];simp only[List.length_nil]at m;omega),oB,V2 i (by omega),n,f,List.all_cons]
  cases X01 g (C9 [] w).reverse<;>rfl
theorem O0h(b:j0)(h:b.2.2.length<=140737488355328)(d:List (List Int))(i:∀ w∈d,(∀ x∈w,Y4 x)/\w.length<=1099511627776)(g:d.length<=1099511627776):S7 b d=some (a07 b d):=by
 have f:=s08 b h
 have e:K4 b=true->_:=λc=>i0s (E03 c) d i g d.length 0 V0 (by omega) (E1 (by omega))
 rw[show((0:Nat):Int)=0 from rfl,List.drop_zero]at e
 unfold a07
 obtain⟨a,b,c⟩:=b
 unfold S7
 simp only[f,oB]
 cases cb:K4 (a,b,c)with
 |false=>rfl
 |true =>
  have:=e cb
  simp only at this
  simp only[Bool.not_true,Bool.false_eq_true,if_false,this,oB,Bool.true_and]
  cases d.all λw=>X01 (a,b,c) (C9 [] w).reverse<;>rfl
theorem Y0n{r:Int}{g:j0}(b:K4 g=true)(a:List (List Int))(c:∀ w∈a,M3 r w=true)(d:a.length<=1099511627776):S7 g a=some (a.all λw=>X01 g w):=by
 obtain⟨k,m,n,o⟩:=G1 (E03 b)
 rw[O0h g (by omega) a (λw h=>by
  obtain⟨wl,j⟩:=t08 (c w h)
  exact⟨λx f=>(j x f).1,by omega⟩) d]
 unfold a07
 rw[b,Bool.true_and]
 have:∀ l:List (List Int),(∀ w∈l,M3 r w=true)->(l.all λw=>X01 g (C9 [] w).reverse)=l.all λw=>X01 g w:=by
  intro l
  induction l with
  |nil=>intro _;rfl
  |cons w t i =>
   intro h
   simp only[List.all_cons,t0m (h w mS),i λv e=>h v (mC _ e)]
 rw[this a c]
def O0a(g:j0):Prop:=∀ v,Rch g.2.2 0 v->∀ x∈i8 g.1.toNat 1,∃ z,z∈P9 v x g.2.2
theorem U0d{g:j0}(b:inG g)(h0:0<g.2.1){v:Int}(h:Rch g.2.2 0 v):0<=v/\v<g.2.1:=by
 have:=Rch.sub (es:=g.2.2) (v:=0) (P:=λv=>v=0∨(0<=v/\v<g.2.1)) (.inl rfl) (λe a=>⟨λ_ => .inr (b e a).2.1,λ_ => .inr (b e a).1⟩) h
 rcases this with rfl|h
 ·exact⟨iR _,h0⟩
 ·exact h
theorem D0m{es:List N0}{v x z:Int}(h:Rch es 0 v)(c:z∈P9 v x es):Rch es 0 z:=by
 obtain⟨e,a,b⟩:=L3.1 c
 rcases b with⟨_,_,rfl,rfl⟩|⟨_,_,rfl,rfl⟩
 ·exact(Rch.closed e a).1 h
 ·exact(Rch.closed e a).2 h
theorem Z0n{P:List Int}{a:N0}:∀ {es:List N0},a∈pE P es↔∃ e∈es,(0<=getI P e.1/\0<=getI P e.2.2)/\a=(getI P e.1,e.2.1,getI P e.2.2)
 | []=>by simp[pE]
 |e::r=>by
  unfold pE
  by_cases c:0<=getI P e.1/\0<=getI P e.2.2
  ·rw[decide_eq_true c.1,decide_eq_true c.2]
   simp only[Bool.and_self,cond_true,List.mem_cons,Z0n (es:=r),exists_eq_or_imp]
   constructor
   ·rintro(h|h)
    ·exact .inl ⟨c,h⟩
    ·exact .inr h
   ·rintro(h|h)
    ·exact .inl h.2
    ·exact .inr h
  ·have:(decide (0<=getI P e.1)&&decide (0<=getI P e.2.2))=false:=by
    by_cases c1:0<=getI P e.1
    ·rw[decide_eq_true c1,decide_eq_false λh=>c ⟨c1,h⟩];rfl
    ·rw[decide_eq_false c1];rfl
   rw[this]
   simp only[cond_false,List.mem_cons,Z0n (es:=r),exists_eq_or_imp]
   constructor
   ·exact .inr
   ·rintro(h|h)
    ·exact absurd h.1 c
    ·exact h
theorem i0j{g:j0}(p:inG g)(h0:0<g.2.1){o:List Int}(s:inV g.2.1.toNat o)(n:o.Nodup)(L:∃ t,o=0::t)(G:∀ v,Rch g.2.2 0 v->v∈o)(hf:O0a g):O0a (o7 g o):=by
 obtain⟨t,rfl⟩:=L
 have F:getI (plc g.2.1.toNat (0::t)) 0=0:=N0d s n (i:=0) rfl
 have l:∀ v,Rch g.2.2 0 v->0<=getI (plc g.2.1.toNat (0::t)) v:=λv c=>by
  obtain⟨i,I⟩:=List.getElem?_of_mem (G v c)
  rw[N0d s n I];omega
 have q:∀ f,f∈(o7 g (0::t)).2.2↔∃ e∈g.2.2,(0<=getI (plc g.2.1.toNat (0::t)) e.1/\0<=getI (plc g.2.1.toNat (0::t)) e.2.2)/\f=(getI (plc g.2.1.toNat (0::t)) e.1,e.2.1,getI (plc g.2.1.toNat (0::t)) e.2.2):=λf=>by
  show f∈o6 P0 [] (pE _ g.2.2)↔_
  rw[W5 R3,←Z0n]
  simp
 have A:=λ{x y:Int} w K m k=>E0c (x:=x) (y:=y) s n w K m k
 generalize getI (plc g.2.1.toNat (0::t))=P at *
 have back:∀ d,Rch (o7 g (0::t)).2.2 0 d->∃ v,Rch g.2.2 0 v/\d=P v:=λd h=>by
  refine Rch.sub (P:=λd=>∃ v,Rch g.2.2 0 v/\d=P v) ⟨0,.base,F.symm⟩ (λf H=>?_) h
  obtain⟨e,j,⟨M,N⟩,rfl⟩:=(q f).1 H
  have C:=p e j
  constructor
  ·rintro⟨v,c,k⟩
   have u:=U0d p h0 c
   have:=A C.1.1 u.1 M k
   rw[←this]at c
   exact⟨e.2.2,(Rch.closed e j).1 c,rfl⟩
  ·rintro⟨v,c,k⟩
   have u:=U0d p h0 c
   have:=A C.2.1.1 u.1 N k
   rw[←this]at c
   exact⟨e.1,(Rch.closed e j).2 c,rfl⟩
 intro d J x w
 obtain⟨v,c,rfl⟩:=back d J
 obtain⟨z,E⟩:=hf v c x w
 have D:=D0m c E
 refine⟨P z,L3.2 ?_⟩
 obtain⟨e,j,m⟩:=L3.1 E
 rcases m with⟨a,b,rfl,rfl⟩|⟨a,b,rfl,rfl⟩
 ·exact⟨(P e.1,e.2.1,P e.2.2),(q _).2 ⟨e,j,⟨l _ c,l _ D⟩,rfl⟩,.inl ⟨a,b,rfl,rfl⟩⟩
 ·exact⟨(P e.1,e.2.1,P e.2.2),(q _).2 ⟨e,j,⟨l _ D,l _ c⟩,rfl⟩,.inr ⟨a,b,rfl,rfl⟩⟩
def a0o(v:Int):List N0->Nat
 | []=>0
 |e::r=>(if e.1=v then 1 else 0)+a0o v r
def b0o(v:Int):List N0->Nat
 | []=>0
 |e::r=>(if e.2.2=v then 1 else 0)+b0o v r
theorem r0h(v:Int):∀ es,b02 v es=a0o v es+b0o v es
 | []=>rfl
 |e::r=>by
  have:=r0h v r
  simp only[b02,y0c,a0o,b0o]
  omega
theorem E0m{v:Int}:∀ {es:List N0} {e:N0},e∈es->e.1=v->1<=a0o v es
 |x::r,e,h,a=>by
  rcases List.mem_cons.1 h with rfl|h
  ·simp only[a0o,if_pos a];omega
  ·have:=E0m h a;simp only[a0o];omega
theorem F0m{v:Int}:∀ {es:List N0} {e:N0},e∈es->e.2.2=v->1<=b0o v es
 |x::r,e,h,a=>by
  rcases List.mem_cons.1 h with rfl|h
  ·simp only[b0o,if_pos a];omega
  ·have:=F0m h a;simp only[b0o];omega
theorem j0s{g:j0}(n:1<=g.1)(hf:O0a g){v:Int}(f:Rch g.2.2 0 v):2<=b02 v g.2.2:=by
 have b:=g06 g.1.toNat 1 1 (Nat.le_refl _) (by omega)
 obtain⟨z,m⟩:=hf v f 1 b.1
 obtain⟨y,l⟩:=hf v f (-1) b.2
 obtain⟨e,k,h⟩:=L3.1 m
 obtain⟨d,j,i⟩:=L3.1 l
 rw[r0h]
 have s1:1<=a0o v g.2.2:=by
  rcases h with⟨_,_,c,_⟩|⟨a,_,_,_⟩
  ·exact E0m k c
  ·omega
 have s2:1<=b0o v g.2.2:=by
  rcases i with⟨a,_,_,_⟩|⟨_,_,c,_⟩
  ·omega
  ·exact F0m j c
 omega
theorem G0m{a:Nat->Bool}:∀ {d v k:Nat},lf a d v=some k->a k=true
 |0,v,k,h=>nomatch h
 |d+1,v,k,h=>by
  unfold lf at h
  cases hb:a v with
  |true=>rw[hb]at h;simp only[cond_true,Option.some.injEq]at h;rw[←h];exact hb
  |false=>rw[hb]at h;exact G0m h
theorem u0t(k d:Nat)(a:1<=k):∃ t,wo k (d+1) 0=0::t:=by
 unfold wo
 rw[if_neg (by omega)]
 exact⟨_,rfl⟩
theorem s0h:∀(d:Nat) {g:j0},I0 g=true->O0a g->O0a (T9 d g)
 |0,g,h,hf=>hf
 |d+1,g,h,hf=>by
  unfold T9
  cases e:L8 g with
  |none=>exact hf
  |some k =>
   obtain⟨i,u,w,x⟩:=G1 h
   obtain⟨f,s,j,l⟩:=H07 (Z4 h) e
   have m:=F0c e
   refine s0h d (V04 h f (f06 _ _ _) j l) (i0j i (by omega) f (f06 _ _ _) ?_ (λv b=>?_) hf)
   ·obtain⟨n,p⟩:∃ n,g.2.1.toNat=n+1:=⟨g.2.1.toNat-1,by omega⟩
    rw[p]
    exact u0t k n m.1
   ·have t:=U0d i (by omega) b
    have:=q0k k g.2.1.toNat 0 v.toNat (by omega) (by omega) (λc=>by
     have a:=G0m e
     have o:(k:Int)=v:=by omega
     unfold R08 at a
     rw[o,Bool.or_eq_true]at a
     rcases a with a|a
     ·have:=j0s (by omega) hf b
      simp only[decide_eq_true_eq]at a
      omega
     ·have q:v∈D0n g.2.2:=(B04 _ _ _).2 b
      rw[decide_eq_true q]at a
      cases a)
    rwa [show((v.toNat:Nat):Int)=v by omega]at this
theorem B0q{g:j0}(h:I0 g=true)(hf:O0a g):O0a (D01 g):=by
 have a:=j01 40 h
 have d:L8 (T9 40 g)=none:=by
  obtain⟨b,f,i,j⟩:=G1 h
  exact x08 40 (Z4 h) (by omega)
 obtain⟨b,f,i,j⟩:=G1 a
 obtain⟨c,k⟩:=t04 a
 show O0a (o7 (T9 40 g) (R4 (T9 40 g)))
 refine i0j b (by omega) c.2 c.1 (y08 _) (λv e=>?_) (s0h 40 h hf)
 have:=U0d b (by omega) e
 exact M0d a d this.1 this.2
theorem t0h{g:j0}{v:Int}:∀(a:List Int),(∀ x∈a,0<=T0 g v x)->S03 g v a = []
 | [],_=>rfl
 |x::a,h=>by
  unfold S03
  have:=h x mS
  rw[decide_eq_false (show ¬ T0 g v x<0 by omega),t0h a λy b=>h y (mC _ b)]
  rfl
theorem u0h{g:j0}:∀(d k:Nat),(∀ v:Nat,k<=v->v<k+d->∀ x∈i8 g.1.toNat 1,0<=T0 g (v:Int) x)->i05 g d k = []
 |0,k,h=>rfl
 |d+1,k,h=>by
  unfold i05
  rw[t0h _ (h k (Nat.le_refl _) (by omega)),u0h d (k+1) λv a b=>h v (by omega) (by omega)]
  rfl
theorem k0s{g:j0}(h:I0 g=true)(hf:O0a g):U03 (D01 g)=true:=by
 have a:=R0i h
 have b:=E03 a
 have f:=B0q h hf
 obtain⟨l,o,p,q⟩:=G1 b
 have i:L8 (D01 g)=none:=by
  unfold K4 at a
  simp only[Bool.and_eq_true,Option.isNone_iff_eq_none]at a
  exact a.2.1
 have j:D4 (D01 g) = []:=by
  unfold D4
  refine u0h _ 0 λv m n x k=>?_
  have d:Rch (D01 g).2.2 0 (v:Int):=by
   by_cases c:v=0
   ·subst c;exact .base
   ·have:=i0a i v (by omega) (by omega)
    unfold R08 at this
    simp only[Bool.or_eq_false_iff,Bool.not_eq_false',decide_eq_true_eq]at this
    exact(B04 _ _ _).1 this.2
  obtain⟨z,e⟩:=f _ d x k
  rw[E04 b e]
  exact(U0d l (by omega) (D0m d e)).1
 unfold U03
 rw[a,j]
 rfl
def Lps(t:j0)(a:List (List Int)):Prop:=∀ v,0<=v->v<t.2.1->∀ w∈a,rdw t v w=some v
structure o0b (p:D0) (f x:j0):Prop where
 up:∃ q,M07 f x q/\q 0=0
 uni:∀(t:j0) (g:Int->Int),I0 t=true->t.1=p.1->Cmp t->Lps t p.2->M07 f t g->∃ g',M07 x t g'/\g' 0=g 0
theorem s0p{p:D0}{f x y:j0}{q:Int->Int}(m:o0b p f x)(h:Fol x y q)(h0:0<x.2.1):o0b p f y:=by
 obtain⟨⟨a,l,n⟩,w⟩:=m
 refine⟨⟨_,l.comp h.hom,by show q (a 0)=0;rw[n,h.base]⟩,λt g b v o u s=>?_⟩
 obtain⟨c,e,i⟩:=w t g b v o u s
 obtain⟨d,j,k⟩:=h.uni t c b e
 refine⟨d,j,?_⟩
 have:=k 0 (iR _) h0
 rw[h.base]at this
 rw[this,i]
theorem l0s{g:j0}(hf:I0 g=true)(h:Cmp g):O0a g:=λv c x d=>by
 obtain⟨e,m,n,o⟩:=G1 hf
 have b:=U0d e (by omega) c
 obtain⟨j,i,k,l⟩:=T04 _ _ _ d
 have f:=h v b.1 b.2 x (by omega) (by omega) (by omega)
 rcases T01 g v x with⟨a,_⟩|a
 ·omega
 ·exact⟨_,a⟩
theorem j0j{g:j0}{v:Int}:∀ {l:List (List Int)} {k:Nat},p0a g v l k=none->∀ w∈l,rdw g v w=some v
 | [],_,_,w,a=>by cases a
 |r::l,k,h,w,a=>by
  unfold p0a at h
  cases hb:n0k g v r with
  |true=>rw[hb]at h;cases h
  |false =>
   rw[hb]at h
   rcases List.mem_cons.1 a with rfl|a
   ·unfold n0k at hb
    refine(j0a g _ _ _).2 ?_
    have b:=d06 g w v
    cases hc:decide ((E7 g v w).2<w.length)with
    |true=>rw[hc]at hb;cases hb
    |false =>
     rw[hc]at hb
     simp only[cond_false,Bool.not_eq_false',decide_eq_true_eq]at hb
     simp only[decide_eq_false_iff_not]at hc
     exact⟨by omega,hb⟩
   ·exact j0j h w a
theorem k0j{g:j0}{b:List (List Int)}:∀ {d k:Nat},v04 g b d k=none->∀ v:Nat,k<=v->v<k+d->∀ w∈b,rdw g (v:Int) w=some (v:Int)
 |0,k,_,v,e,f,w,a=>by omega
 |d+1,k,h,v,e,f,w,a=>by
  unfold v04 at h
  cases hr:p0a g (k:Int) b 0 with
  |some j=>rw[hr]at h;cases h
  |none =>
   rw[hr]at h
   by_cases c:v=k
   ·subst c;exact j0j hr w a
   ·exact k0j h v (by omega) (by omega) w a
theorem v0t{g:j0}{a:List (List Int)}(h:v04 g a g.2.1.toNat 0=none):Lps g a:=λv h0 c w b=>by
 have:=k0j h v.toNat (Nat.zero_le _) (by omega) w b
 rwa [show((v.toNat:Nat):Int)=v by omega]at this
theorem w0t{g:j0}:∀ {a:List (List Int)},Lps g a->∀(d k:Nat),k+d<=g.2.1.toNat->v04 g a d k=none:=λ{a} h=>by
 have b:∀(v:Int),0<=v->v<g.2.1->∀(l:List (List Int)) (k:Nat),(∀ w∈l,w∈a)->p0a g v l k=none:=by
  intro v h0 b l
  induction l with
  |nil=>intro k _;rfl
  |cons r l e =>
   intro k f
   have:=(j0a g r v v).1 (h v h0 b r (f r mS))
   unfold p0a n0k
   rw[decide_eq_false (by omega),decide_eq_true this.2]
   exact e (k+1) λw c=>f w (mC _ c)
 intro d
 induction d with
 |zero=>intro k _;rfl
 |succ d e =>
  intro k i
  unfold v04
  rw[b (k:Int) (by omega) (by omega) a 0 λw c=>c]
  exact e (k+1) (by omega)
theorem m0s{p:D0}{f g:j0}(n:(N1 p g).2.2=true)(h:(N1 p g).2.1=true)(m:o0b p f g):o0b p f (N1 p g).1:=by
 obtain⟨M,hf,N⟩:=K07 n
 obtain⟨X,aa,ab,ac⟩:=G1 hf
 have K:=Z4 hf
 have V:=U04 M
 unfold N1 at h n ⊢
 rw[M,hf,decide_eq_true N]at h n ⊢
 simp only[Bool.and_self,cond_true]at h n ⊢
 cases hh:v04 g p.2 g.2.1.toNat 0 with
 |some q =>
  obtain⟨v,i⟩:=q
  rw[hh]at h n
  have Y:=G07 hh
  simp only at h n ⊢
  unfold X0g at h n ⊢
  cases y:p.2[i]? with
  |none=>rw[y]at h;cases h
  |some w =>
   rw[y]at h
   simp only at h ⊢
   have O:=List.mem_of_getElem? y
   cases ha:(M1 g (v:Int) w (v:Int)).2 with
   |false=>rw[ha]at h;cases h
   |true =>
    rw[cond_true]
    have j:0<=(v:Int)/\(v:Int)<g.2.1:=by omega
    have W:M3 g.1 w=true:=by rw[←N];exact V w O
    have T:=D04 K j j W
    obtain⟨k,H⟩:=L0e T
    have U:=(S0d ha).rng 0 (iR _) (by omega)
    refine s0p (x:=(M1 g (v:Int) w (v:Int)).1) ⟨?_,λt e C J D E u=>?_⟩ H U.2
    ·obtain⟨a,l,s⟩:=m.up
     exact⟨_,l.comp (S0d ha),s⟩
    ·obtain⟨a,l,s⟩:=m.uni t e C J D E u
     have A:=l.rng _ j.1 j.2
     obtain⟨b,P,Q⟩:=f0s K j.2 j.2 ha C l (E _ A.1 A.2 w O)
     exact⟨b,P,by rw[Q 0 (by omega),s]⟩
 |none =>
  rw[hh]at h n
  simp only at h n ⊢
  unfold Y0g at h n ⊢
  cases hm:D4 g with
  |nil=>rw[hm]at h;cases h
  |cons e r =>
   rw[hm]at h
   simp only at h ⊢
   have F:=M06 hf (e:=e) (by rw[hm];exact mS)
   cases j:(A2 g).2 with
   |false=>rw[j]at h;cases h
   |true =>
    rw[j]at h
    simp only[cond_true]at h ⊢
    have S:A2 g=((g.1,g.2.1+1,g.2.2),true):=by
     unfold A2 at j ⊢
     cases o:decide (g.2.1<40)with
     |false=>rw[o]at j;cases j
     |true=>rfl
    rw[S]at h ⊢
    cases u:(K5 ((g.1,g.2.1+1,g.2.2),true).1 (stp e.1 e.2.1 g.2.1)).2 with
    |false=>rw[u]at h;cases h
    |true =>
     rw[cond_true]
     have R:(K5 ((g.1,g.2.1+1,g.2.2),true).1 (stp e.1 e.2.1 g.2.1)).1=(g.1,g.2.1+1,X00 P0 (stp e.1 e.2.1 g.2.1) g.2.2):=by
      unfold K5 at u ⊢
      simp only at u ⊢
      cases o:(decide (g.2.2.length<120) && !decide (stp e.1 e.2.1 g.2.1∈g.2.2))with
      |false=>rw[o]at u;cases u
      |true=>rfl
     rw[R]
     have L:∀ d,d∈X00 P0 (stp e.1 e.2.1 g.2.1) g.2.2↔d=stp e.1 e.2.1 g.2.1∨d∈g.2.2:=λd=>Q04 R3 _ _ _
     refine⟨?_,λt k C J D E H=>?_⟩
     ·obtain⟨a,l,s⟩:=m.up
      exact⟨a,⟨λv h0 h=>by
       have:=l.rng v h0 h
       exact⟨this.1,by show a v<g.2.1+1;omega⟩,λd o=>(L _).2 (.inr (l.edge d o))⟩,s⟩
     ·obtain⟨a,l,s⟩:=m.uni t k C J D E H
      have A:=l.rng _ F.1.1 F.1.2
      have I:=D (a e.1) A.1 A.2 e.2.1 F.2.1 (by omega) (by omega)
      have G:∀ z,z<g.2.1->(if z=g.2.1 then T0 t (a e.1) e.2.1 else a z)=a z:=λz Z=>if_neg (by omega)
      refine⟨λz=>if z=g.2.1 then T0 t (a e.1) e.2.1 else a z,⟨λz h0 h=>?_,λd o=>?_⟩,(G 0 (by omega)).trans s⟩
      ·have h:z<g.2.1+1:=h
       show 0<=(if z=g.2.1 then T0 t (a e.1) e.2.1 else a z)/\(if z=g.2.1 then T0 t (a e.1) e.2.1 else a z)<t.2.1
       by_cases c:z=g.2.1
       ·rw[if_pos c];exact⟨I,X04 C I⟩
       ·rw[if_neg c];exact l.rng z h0 (by omega)
      ·rcases(L d).1 o with rfl|o
       ·show(((λz=>if z=g.2.1 then T0 t (a e.1) e.2.1 else a z) (stp e.1 e.2.1 g.2.1).1,(stp e.1 e.2.1 g.2.1).2.1,(λz=>if z=g.2.1 then T0 t (a e.1) e.2.1 else a z) (stp e.1 e.2.1 g.2.1).2.2):N0)∈t.2.2
        rw[x0f (λz=>if z=g.2.1 then T0 t (a e.1) e.2.1 else a z)]
        simp only[if_true,G e.1 F.1.2]
        exact G0u I
       ·have y:=X d o
        simp only[G _ y.1.2,G _ y.2.1.2]
        exact l.edge d o
theorem l0j{p:D0}{f:j0}:∀(d:Nat) {g:j0},o0b p f g->(Q06 p d g).2=true->∃ z,o0b p f z/\I0 z=true/\z.1=p.1/\Cmp z/\Lps z p.2/\Q06 p d g=(D01 z,true)
 |0,g,m,h=>by cases h
 |d+1,g,m,h=>by
  unfold Q06 at h ⊢
  cases h2:(N1 p g).2.2 with
  |false=>rw[h2]at h;cases h
  |true =>
   rw[h2]at h
   cases h1:(N1 p g).2.1 with
   |true =>
    rw[h1]at h
    exact l0j d (m0s h2 h1 m) h
   |false =>
    obtain⟨b,hf,a⟩:=K07 h2
    refine⟨g,m,hf,a.symm,?_,?_,rfl⟩
    all_goals
     unfold N1 at h1 h2
     rw[b,hf,decide_eq_true a]at h1 h2
     simp only[Bool.and_self,cond_true]at h1 h2
     cases hh:v04 g p.2 g.2.1.toNat 0 with
     |some q =>
      obtain⟨v,i⟩:=q
      rw[hh]at h1 h2
      simp only at h1 h2
      unfold X0g at h1 h2
      cases hi:p.2[i]? with
      |none=>rw[hi]at h2;cases h2
      |some w =>
       rw[hi]at h1 h2
       simp only at h1 h2
       cases ha:(M1 g (v:Int) w (v:Int)).2 with
       |false=>rw[ha]at h2;cases h2
       |true=>rw[ha]at h1;cases h1
     |none =>
      rw[hh]at h1 h2
      simp only at h1 h2
      first
      |exact v0t hh
      |unfold Y0g at h1 h2
       cases hm:D4 g with
       |nil=>exact M0e hm
       |cons e r =>
        rw[hm]at h1 h2
        simp only at h1 h2
        cases hv:(A2 g).2 with
        |false=>rw[hv]at h2;cases h2
        |true =>
         rw[hv]at h1 h2
         simp only[cond_true]at h1 h2
         cases he:(K5 (A2 g).1 (stp e.1 e.2.1 g.2.1)).2 with
         |false=>rw[he]at h2;cases h2
         |true=>rw[he]at h1;cases h1
theorem p0b{p:D0}{b:List (List Int)}(h:(A3 p b).2=true):U03 (A3 p b).1=true/\(A3 p b).1.1=p.1/\Lps (A3 p b).1 p.2/\(∀ w∈b,rdw (A3 p b).1 0 w=some 0) /\
  ∀(t:j0) (g:Int->Int),I0 t=true->t.1=p.1->Cmp t->Lps t p.2->M07 (V00 b (p.1,1,[])) t g->g 0=0->∃ f,Mor (A3 p b).1 t f:=by
 unfold A3 at h ⊢
 cases hp:K3 p&&G3 p.1 b with
 |false=>rw[hp]at h;cases h
 |true =>
  rw[hp]at h
  rw[cond_true]at h ⊢
  simp only[Bool.and_eq_true]at hp
  obtain⟨P,U,i⟩:=J07 hp.2
  have C:=G09 b (h0a P) i
  obtain⟨V,W,X,Y⟩:=J2 C
  obtain⟨q,O⟩:=L0e C
  have S:o0b p (V00 b (p.1,1,[])) (i4 (V00 b (p.1,1,[]))).1:=s0p ⟨⟨id,(Fol.refl _).hom,rfl⟩,λt g _ _ _ _ m=>⟨g,m,rfl⟩⟩ O (by omega)
  obtain⟨z,m,hf,R,I,M,e⟩:=l0j 300 S h
  rw[e]
  obtain⟨E,c,j,_⟩:=d0s hf
  have A:=k0s hf (l0s hf I)
  have y:=z0f A
  have x:=t0k z
  have T:=G1 c.fc
  refine⟨A,by rw[x,R],λv h0 k w i=>?_,λw i=>?_,λt g H Q J N L K=>?_⟩
  ·have F:=c.hom.rng v h0 k
   obtain⟨u,d,l,n⟩:=p0h c x hf y h0 k (M _ F.1 F.2 w i)
   rw[l,c.inj u v d.1 d.2 h0 k n]
  ·obtain⟨a,o,s⟩:=m.up
   have G:=((z0q hp.2 w i).map o).rdw hf
   rw[s]at G
   have h0:(0:Int)<(D01 z).2.1:=by omega
   obtain⟨u,d,l,n⟩:=p0h c x hf y (iR _) h0 (by rw[j];exact G)
   rw[l,c.inj u 0 d.1 d.2 (iR _) h0 (by rw[n,j])]
  ·obtain⟨a,o,s⟩:=m.uni t g H Q J N L
   have D:=c.hom.comp (o.hom H) c.fc
   exact⟨_,⟨by show a (E 0)=0;rw[j,s,K],D.rng,D.step⟩⟩
theorem u0k{p:D0}{b:List (List Int)}(h:(A3 p b).2=true)(a:(A3 p []).2=true):∃ k:Nat,(A3 p []).1.2.1=(A3 p b).1.2.1*(k:Int):=by
 obtain⟨d,w,x,J,_⟩:=p0b h
 obtain⟨g,K,L,M,y⟩:=p0b a
 have o:=h0h d
 have z:=h0h g
 have q:=w04 o
 have s:=w04 z
 obtain⟨H,I,U,V⟩:=G1 q
 obtain⟨Q,R,S,T⟩:=G1 s
 obtain⟨f,m⟩:=y _ (λ_=>0) q w (z0f d) x ⟨λv h0 a=>⟨iR _,by omega⟩,λe D=>by cases D⟩ rfl
 have A:∀ u:Int,u∈(List.range (A3 p []).1.2.1.toNat).map (λi:Nat=>(i:Int))↔0<=u/\u<(A3 p []).1.2.1:=λu=>by
  constructor
  ·intro t
   obtain⟨i,E,rfl⟩:=List.mem_map.1 t
   have:=List.mem_range.1 E
   omega
  ·intro t
   exact List.mem_map.2 ⟨u.toNat,List.mem_range.2 (by omega),by omega⟩
 have C:((List.range (A3 p []).1.2.1.toNat).map (λi:Nat=>(i:Int))).Nodup:=by
  rw[List.Nodup,List.pairwise_map]
  exact List.nodup_range.imp λh e=>h (by omega)
 have c:=W0n s o m C A λu l h0 a G=>by
  have F:=J0e H I.1 G
  obtain⟨j,N,O,P⟩:=T04 _ _ _ F
  exact z0f g u h0 a l (by omega) (by omega) (by omega)
 rw[List.length_map,List.length_range]at c
 generalize fib f _ 0=n at c
 refine⟨n,?_⟩
 rw[show(A3 p []).1.2.1=(((A3 p []).1.2.1.toNat:Nat):Int) by omega,c,Int.natCast_mul,show(((A3 p b).1.2.1.toNat:Nat):Int)=(A3 p b).1.2.1 by omega]
def okQ(bs:List Int)(q:Int×Int):Prop:=0<=q.1/\q.1<=(bs.length:Int)/\bs.length<=1048576
def Drw{a:Type}(bs:List Int)(o:Option (a×(Int×Int)))(p:a->Prop):Prop:=∃ x q,o=some (x,q)/\p x/\okQ bs q
theorem Drw.bind{a b:Type}{bs:List Int}{m:Option (a×(Int×Int))}{p:a->Prop}{r:b->Prop}{k:a×(Int×Int)->Option (b×(Int×Int))}(h:Drw bs m p)(e:∀ x q,p x->okQ bs q->Drw bs (k (x,q)) r):Drw bs (m.bind k) r:=by
 obtain⟨x,q,rfl,c,d⟩:=h
 exact e x q c d
theorem Drw.grd{a:Type}{bs:List Int}{p:Prop}[Decidable p]{r:a->Prop}{k:Unit->Option (a×(Int×Int))}(h:p)(b:Drw bs (k ()) r):Drw bs ((grd p).bind k) r:=by
 rw[F0 h];exact b
theorem Drw.mono{a:Type}{bs:List Int}{m:Option (a×(Int×Int))}{p r:a->Prop}(h:Drw bs m p)(d:∀ x,p x->r x):Drw bs m r:=by
 obtain⟨x,q,e,b,c⟩:=h
 exact⟨x,q,e,d x b,c⟩
theorem X0t(bs:List Int)(c:bs.length<=1048576):∀(d k fuel:Nat) (y:Int),k+d=bs.length->d<fuel->∃ z,V9 bs fuel y (k:Int)=some z
 |d,k,0,y,a,hf=>by omega
 |0,k,fuel+1,y,a,hf=>by
  rw[V9.eq_2,decide_eq_false (show ¬ (k:Int)<((bs.length:Nat):Int) by omega),cond_false,if_neg (by simp)]
  exact⟨_,rfl⟩
 |d+1,k,fuel+1,y,a,hf=>by
  have b:k<bs.length:=by omega
  rw[V9.eq_2,Z2 (A5 b),V2 b (by omega)]
  split
  ·exact X0t bs c d (k+1) fuel _ (by omega) (by omega)
  ·exact⟨_,rfl⟩
theorem t0p{bs:List Int}(a:bs.length<=1048576):∃ q,k01 bs=some q/\okQ bs q:=by
 obtain⟨z,b⟩:=X0t bs a bs.length 0 V0 (IntKind.i64.wrap (10101+((bs.length:Nat):Int))) (by omega) (by unfold V0;omega)
 refine⟨(0,z),?_,iR _,Int.natCast_nonneg _,a⟩
 unfold k01
 rw[show(0:Int)=((0:Nat):Int) from rfl,b];rfl
theorem n0s(a:Int):0<=c0o a 255/\c0o a 255<=255:=by
 have h:(BitVec.ofInt 64 a &&& BitVec.ofInt 64 255).toNat<=255:=by
  rw[BitVec.toNat_and];exact Nat.le_trans Nat.and_le_right (by decide)
 unfold c0o
 rw[w64 (by omega) (by omega)];omega
theorem H0u{bs:List Int}{q:Int×Int}(g:okQ bs q):Drw bs (H9 bs q) λx=>0<=x/\x<=255:=by
 obtain⟨a,e,b⟩:=g
 unfold H9
 by_cases c:q.1<((bs.length:Nat):Int)
 ·rw[if_pos (decide_eq_true c)]
  obtain⟨k,f⟩:=Int.eq_ofNat_of_zero_le a
  rw[f]at c ⊢
  have d:k<bs.length:=by omega
  rw[Z2 (A5 d),oB,V2 d (by omega)]
  exact⟨_,_,rfl,n0s _,by simp only;omega,by simp only;omega,b⟩
 ·rw[if_neg (by simpa using c)]
  exact⟨_,_,rfl,n0s _,a,e,b⟩
theorem I9{bs:List Int}{q:Int×Int}(a:okQ bs q){n:Int}(h0:0<n)(d:n<=256):Drw bs (E2 bs q n) λx=>0<=x/\x<n:=by
 unfold E2
 rw[if_neg (by simp;omega),if_pos (by simp;omega)]
 refine(H0u a).bind λx e c b => .grd ⟨by omega,by omega⟩ (.grd (by omega) ⟨_,_,rfl,?_,b⟩)
 rw[Int.tmod_eq_emod_of_nonneg c.1]
 exact⟨Int.emod_nonneg _ (by omega),Int.emod_lt_of_pos _ h0⟩
theorem d0o{bs:List Int}{q:Int×Int}(b:okQ bs q){n:Int}(h0:0<n)(a:n<=256):Drw bs (r02 bs q n) λ_=>True :=
 (I9 b h0 a).bind λx e d c => .grd ⟨by omega,by omega⟩ ⟨_,_,rfl,trivial,c⟩
theorem f0v{b:Type}{l:List b}{x:Int}(h0:0<=x)(c:x<((l.length:Nat):Int)):∃ y∈l,gi l x=some y:=by
 obtain⟨k,rfl⟩:=Int.eq_ofNat_of_zero_le h0
 have a:k<l.length:=by omega
 exact⟨l[k],List.getElem_mem a,Z2 (A5 a)⟩
theorem V0d{bs:List Int}{q:Int×Int}(b:okQ bs q){l:List Int}(h0:0<l.length)(f:l.length<=256):Drw bs (A00 bs q l) λx=>x∈l :=
 (I9 b (n:=((l.length:Nat):Int)) (by omega) (by omega)).bind λx g a c => .grd ⟨by omega,by omega⟩ (by
  obtain⟨y,d,e⟩:=f0v a.1 a.2
  rw[e];exact⟨_,_,rfl,d,c⟩)
theorem o0s(d:Nat)(h:d<=1048576):IntKind.i64.wrap (((d+1:Nat):Int)-1)=(d:Int):=by rw[w64 (by omega) (by omega)];omega
def S08(r:Int)(w:List Int):Prop:=∀ x∈w,x≠0 /\ -r<=x/\x<=r
theorem S08.all{r:Int}(b:r<=256){w:List Int}(h:S08 r w):E9 w:=λx a=>by
 have:=h x a
 exact⟨by omega,by omega⟩
theorem p0s{P:Int->Prop}{b:List Int}{x:Int}(c:∀ y∈b,P y)(d:P x):∀ y∈Z8 b x,P y:=λy a=>by
 unfold Z8 at a
 cases b with
 |nil=>rw[List.mem_singleton.1 a];exact d
 |cons l t =>
  simp only at a
  cases hc:z08 l x with
  |true=>rw[hc]at a;exact c y (mC _ a)
  |false =>
   rw[hc]at a
   rcases List.mem_cons.1 a with rfl|a
   ·exact d
   ·exact c y a
theorem M0c{P:Int->Prop}:∀(w a:List Int),(∀ y∈a,P y)->(∀ y∈w,P y)->∀ y∈C9 a w,P y
 | [],a,b,_=>b
 |x::w,a,b,c=>M0c w (Z8 a x) (p0s b (c x mS)) λy d=>c y (mC _ d)
theorem q0s{bs:List Int}{a:Int}(h0:0<a)(i:a<=256):∀(d fuel:Nat) (acc:List Int) (q:Int×Int),d<fuel->d+acc.length<=1000->S08 a acc->okQ bs q ->
  Drw bs (C8 bs a fuel (d:Int) acc q) λw=>S08 a w/\w.length<=d+acc.length
 |d,0,acc,q,hf,_,_,_=>by omega
 |0,fuel+1,acc,q,hf,m,e,f=>by
  rw[C8.eq_2,if_neg (by simp)]
  exact⟨_,_,rfl,⟨e,by omega⟩,f⟩
 |d+1,fuel+1,acc,q,hf,m,e,f=>by
  rw[C8.eq_2,if_pos (by simp only[decide_eq_true_eq];omega)]
  refine(I9 f h0 i).bind λx t s n => .grd ⟨by omega,by omega⟩ ((d0o n (by decide) (by decide)).bind λb k _ o=>?_)
  have h:∀ y:Int,(y≠0 /\ -a<=y/\y<=a)->Drw bs ((grd ((acc.length + [y].length)*8<=140737488355328)).bind λ_=>C8 bs a fuel (IntKind.i64.wrap (((d+1:Nat):Int)-1)) (acc ++ [y]) k) λw=>S08 a w/\w.length<=d+1+acc.length:=λy p =>
   .grd (by simp only[List.length_singleton];omega) (by
    rw[o0s d (by omega)]
    refine(q0s h0 i d fuel (acc ++ [y]) k (by omega) (by simp;omega) (λz c=>?_) o).mono λw j=>⟨j.1,by have:=j.2;simp at this;omega⟩
    rcases List.mem_append.1 c with c|c
    ·exact e z c
    ·rw[List.mem_singleton.1 c];exact p)
  have g:IntKind.i64.wrap (1+x)=1+x:=w64 (by omega) (by omega)
  have l:IntKind.i64.wrap (0-IntKind.i64.wrap (1+x)) = -(1+x):=by rw[g,w64 (by omega) (by omega)];omega
  show Drw bs (if b=true then _ else _) _
  cases b
  ·rw[if_neg (by simp)];exact h _ (by rw[g];omega)
  ·rw[if_pos rfl];exact h _ (by rw[l];omega)
theorem u0p{bs:List Int}{q:Int×Int}(f:okQ bs q){b most:Int}(h0:0<b)(e:b<=256)(k:0<=most)(l:most<=200):Drw bs (M01 bs q b most) λw=>S08 b w/\w.length<=200:=by
 unfold M01
 rw[w64 (x:=most+1) (by omega) (by omega)]
 refine(I9 f (by omega) (by omega)).bind λx j i g => .grd ⟨by omega,by omega⟩ ?_
 obtain⟨d,rfl⟩:=Int.eq_ofNat_of_zero_le i.1
 refine(q0s h0 e d V0 [] j (by unfold V0;omega) (by simp;omega) (λz a=>nomatch a) g).bind λw n c h=>?_
 have m:w.length<=200:=by have:=c.2;simp at this;omega
 show Drw bs ((Y2 w).bind _) _
 rw[g00 w (c.1.all e) (by omega),oB]
 refine⟨_,_,rfl,⟨λz a=>M0c w [] (λz a=>nomatch a) c.1 z (by simpa using a),?_⟩,h⟩
 have:=F02 w []
 simp at this ⊢;omega
theorem r0s{bs:List Int}{q:Int×Int}(f:okQ bs q){a most:Int}(h0:0<a)(b:a<=256)(d:0<=most)(e:most<=200):Drw bs (M01 bs q a most) λw=>E9 w/\w.length<=200 :=
 (u0p f h0 b d e).mono λw c=>⟨c.1.all b,c.2⟩
def f05(a:List (List Int)):Prop:=∀ w∈a,E9 w/\w.length<=200
theorem e0o{g:j0}{e:N0}(f:U0 g=true)(h:Z0l g e):U0 (K5 g e).1=true/\(K5 g e).1.1=g.1/\(K5 g e).1.2.1=g.2.1:=by
 obtain⟨i,j,k,t,l⟩:=(r9 g).1 f
 unfold K5
 cases c:decide (g.2.2.length<120) && !decide (e∈g.2.2)
 ·exact⟨f,rfl,rfl⟩
 ·simp only[Bool.and_eq_true,decide_eq_true_eq,Bool.not_eq_true',decide_eq_false_iff_not]at c
  refine⟨(r9 _).2 ⟨λx a=>?_,j,k,?_,o0c R3 _ _ l⟩,rfl,rfl⟩
  ·rcases(Q04 R3 _ _ _).1 a with rfl|a
   ·obtain⟨b,d,q,s⟩:=h
    have m:=b.1;have n:=b.2;have o:=d.1;have p:=d.2
    simp only[cond_true]
    refine⟨?_,?_,?_⟩<;>constructor<;>omega
   ·exact i x a
  ·simp only[cond_true]
   rw[R0g e c.2];omega
theorem g0v{bs:List Int}:∀(d fuel:Nat) (g:j0) (q:Int×Int),d<fuel->d<=1000->U0 g=true->okQ bs q ->
  ∃ h i,Y6 bs fuel (d:Int) g.1 g.2.1 g.2.2 q=some (h.1,h.2.1,h.2.2,i)/\U0 h=true/\okQ bs i
 |d,0,g,q,hf,_,_,_=>by omega
 |0,fuel+1,g,q,hf,p,a,b=>by
  rw[Y6.eq_2,if_neg (by simp)]
  exact⟨g,q,rfl,a,b⟩
 |d+1,fuel+1,g,q,hf,p,a,b=>by
  obtain⟨_,C,D,_⟩:=(r9 g).1 a
  rw[Y6.eq_2,if_pos (by simp only[decide_eq_true_eq];omega)]
  obtain⟨x,E,j,e,s⟩:=I9 b (n:=g.2.1) (by omega) (by omega)
  obtain⟨y,F,k,A,t⟩:=I9 s (n:=g.1) (by omega) (by omega)
  obtain⟨z,w,l,f,u⟩:=I9 t (n:=g.2.1) (by omega) (by omega)
  have v:IntKind.i64.wrap (1+y)=1+y:=w64 (by omega) (by omega)
  have c:Z0l g (x,1+y,z):=⟨⟨e.1,e.2⟩,⟨f.1,f.2⟩,by simp only;omega,by simp only;omega⟩
  have o:=M0a a c
  obtain⟨m,_,_⟩:=e0o a c
  simp only[j,k,l,oB,v,F0 (show H0 x from⟨by omega,by omega⟩),F0 (show H0 y from⟨by omega,by omega⟩),F0 (show H0 z from⟨by omega,by omega⟩),show(g.1,g.2.1,g.2.2)=g from rfl,o,o0s d (by omega)]
  exact g0v d fuel (K5 g (x,1+y,z)).1 w (by omega) (by omega) m u
theorem v0p{bs:List Int}{q:Int×Int}(k:okQ bs q):Drw bs (E01 bs q) λg=>g.2.2.length<=120:=by
 unfold E01
 refine(V0d k (by decide) (by decide)).bind λr v a l=>?_
 have a:1<=r/\r<=3:=(by decide:∀ x∈([1,2,2,2,3]:List Int),1<=x/\x<=3) r a
 refine .grd ⟨by omega,by omega⟩ ((I9 l (by decide) (by decide)).bind λn w u o => .grd ⟨by omega,by omega⟩ ((I9 o (by decide) (by decide)).bind λm b j p => .grd ⟨by omega,by omega⟩ ?_))
 obtain⟨d,rfl⟩:=Int.eq_ofNat_of_zero_le j.1
 rw[w64 (x:=1+n) (by omega) (by omega)]
 have f:U0 (r,1+n,[])=true:=(r9 _).2 ⟨(λe c=>by cases c),a,⟨by simp only;omega,by simp only;omega⟩,by simp,List.Pairwise.nil⟩
 obtain⟨h,t,e,i,s⟩:=g0v d V0 (r,1+n,[]) b (by unfold V0;omega) (by omega) f p
 have e:Y6 bs V0 (d:Int) r (1+n) [] b=some (h.1,h.2.1,h.2.2,t):=e
 rw[e]
 exact⟨_,_,rfl,((r9 h).1 i).2.2.2.1,s⟩
theorem I0u{bs:List Int}{q:Int×Int}(f:okQ bs q):Drw bs (V03 bs q) λg=>g.2.2.length<=121:=by
 unfold V03
 refine(v0p f).bind λg j e h=>(I9 h (by decide) (by decide)).bind λx k i b => .grd ⟨by omega,by omega⟩ ?_
 obtain⟨r,n,es⟩:=g
 simp only at e ⊢
 split
 ·refine(V0d b (by decide) (by decide)).bind λy d c a => .grd ((by decide:∀ x∈([(-1),0,1,41]:List Int),H0 x) y c) ⟨_,_,rfl,by simp only;omega,a⟩
 ·split
  ·refine(V0d b (by decide) (by decide)).bind λy d c a => .grd ((by decide:∀ x∈([0,1,4]:List Int),H0 x) y c) ⟨_,_,rfl,by simp only;omega,a⟩
  ·split
   ·refine(I9 b (by decide) (by decide)).bind λy d c a => .grd ⟨by omega,by omega⟩ (.grd (by simp only[List.length_singleton];omega) ⟨_,_,rfl,by simp;omega,a⟩)
   ·exact⟨_,_,rfl,by simp only;omega,b⟩
theorem f05.sh{a:List (List Int)}(h:f05 a):U2 a:=λw b=>by have:=(h w b).2;omega
def smL(l:f0a):Prop:=l.length<=17/\∀ e∈l,e.1.size<=16/\e.2.2.2.length<=121
theorem smL.sm{l:f0a}(h:smL l):G0n l:=⟨by have:=h.1;omega,λe a=>by have:=h.2 e a;omega⟩
def sm(r:Int)(w:List Int):Prop:=∀ x∈w,x≠0 /\ -r<=x/\x<=r
theorem h0v{r:Int}(b:r<=3){w:List Int}(h:sm r w):E9 w:=λx a=>by have:=h x a;exact⟨by omega,by omega⟩
theorem Y0t{x:Int}(a : -3<=x)(b:x<=3):ng x = -x:=by unfold ng;rw[w64 (by omega) (by omega)];omega
theorem s0s{r:Int}{b:List Int}{x:Int}(c:sm r b)(d:x≠0 /\ -r<=x/\x<=r):sm r (Z8 b x):=by
 unfold Z8
 cases b with
 |nil=>intro y a;simp at a;rw[a];exact d
 |cons l t =>
  simp only
  cases z08 l x with
  |true=>exact λy a=>c y (mC _ a)
  |false =>
   intro y a
   rcases List.mem_cons.1 a with rfl|a
   ·exact d
   ·exact c y a
theorem w0p{r:Int}:∀(w a:List Int),sm r a->sm r w->sm r (C9 a w)
 | [],a,b,_=>b
 |x::w,a,b,c=>w0p w (Z8 a x) (s0s b (c x mS)) λy d=>c y (mC _ d)
def rd(l:List Int):Prop:=∀ A x y B,l=A++x::y::B->y ≠ -x
def ccA:Nat->List Int->List Int×List Int
 |0,l=>(l,[])
 |n+1,l=>if 2<=l.length/\l.headD 0 = -(l.getLastD 0)then((ccA n l.tail.dropLast).1,l.headD 0::(ccA n l.tail.dropLast).2)else(l,[])
theorem i0v{l:List Int}(h:2<=l.length):∃ a m b,l=a::(m ++ [b])/\l.headD 0=a/\l.getLastD 0=b/\l.tail.dropLast=m:=by
 cases l with
 |nil=>simp at h
 |cons a r =>
  have c:r≠[]:=λe=>by rw[e]at h;simp at h
  refine⟨a,r.dropLast,r.getLast c,by rw[List.dropLast_concat_getLast],rfl,?_,rfl⟩
  cases r with
  |nil=>exact absurd rfl c
  |cons b t=>simp[List.getLastD,List.getLast]
theorem m0j:∀(n:Nat) (l:List Int),∃ q,l=(ccA n l).2++((ccA n l).1++q)
 |0,l=>⟨[],by simp[ccA]⟩
 |n+1,l=>by
  unfold ccA
  split
  ·rename_i c
   obtain⟨a,m,b,e,f,h,g⟩:=i0v c.1
   obtain⟨q,d⟩:=m0j n l.tail.dropLast
   refine⟨q ++ [b],?_⟩
   rw[g]at d ⊢
   rw[f]
   conv=>lhs;rw[e,d]
   simp
  ·exact⟨[],by simp⟩
theorem H0m{n:Nat}{l:List Int}(h : ¬ (2<=l.length/\l.headD 0 = -(l.getLastD 0))):ccA n l=(l,[]):=by
 cases n with
 |zero=>rfl
 |succ n=>unfold ccA;rw[if_neg h]
theorem x0p(n:Nat)(l:List Int):(ccA n l).1.length<=l.length/\(ccA n l).2.length<=l.length:=by
 obtain⟨q,e⟩:=m0j n l
 have:=congrArg List.length e
 simp only[List.length_append]at this
 omega
theorem t0s{a:Type}{xs:List a}{i j:Nat}(b:i<=j)(c:j<=xs.length):X06 xs (i:Int) (j:Int)=some ((xs.take j).drop i):=by
 unfold X06
 rw[if_pos ⟨by omega,by omega,by omega⟩]
 simp
theorem Z0t{r:Int}(v:r<=3):∀(n fuel:Nat) (x p:List Int),x.length<=n->n<fuel->sm r x->x.length+p.length<=1000000 ->
  p7 fuel x p=some ((ccA n x).1,p++(ccA n x).2)
 |n,0,x,p,u,hf,d,t=>by omega
 |n,fuel+1,x,p,u,hf,d,t=>by
  rw[p7.eq_2]
  by_cases c:2<=x.length
  ·obtain⟨a,m,b,e,f,g,o⟩:=i0v c
   have C:=d a (by rw[e];simp)
   have D:=d b (by rw[e];simp)
   have E:x.length=m.length+2:=by rw[e];simp
   have l:gi x 0=some a:=by rw[e];exact Z2 (k:=0) rfl
   have q:gi x (IntKind.i64.wrap (((x.length:Nat):Int)-1))=some b:=by
    rw[w64 (by omega) (by omega),show((x.length:Nat):Int)-1=((m.length+1:Nat):Int) by omega]
    refine Z2 ?_
    rw[e];simp
   rw[show decide (((x.length:Nat):Int)>1)=true from decide_eq_true (by omega)]
   simp only[Y1,l,q,oB,cond_true]
   rw[show IntKind.i64.wrap (0-b) = -b from Y0t (by omega) (by omega)]
   obtain⟨n,rfl⟩:∃ A,n=A+1:=⟨n-1,by omega⟩
   by_cases c2:a = -b
   ·have w:ccA (n+1) x=((ccA n m).1,a::(ccA n m).2):=by
     show(if 2<=x.length/\x.headD 0 = -(x.getLastD 0)then((ccA n x.tail.dropLast).1,x.headD 0::(ccA n x.tail.dropLast).2)else(x,[]))=_
     rw[if_pos ⟨c,by rw[f,g];exact c2⟩,f,o]
    have s:X06 x 1 (IntKind.i64.wrap (((x.length:Nat):Int)-1))=some m:=by
     rw[w64 (by omega) (by omega),show((x.length:Nat):Int)-1=((m.length+1:Nat):Int) by omega]
     have:=t0s (xs:=x) (i:=1) (j:=m.length+1) (by omega) (by omega)
     rw[show((1:Nat):Int)=1 from rfl]at this
     rw[this,e]
     simp
    rw[decide_eq_true c2]
    simp only[Y1,l,oB,cond_true]
    rw[show IntKind.i64.wrap (0-a) = -a from Y0t (by omega) (by omega),show decide (a = -a)=false from decide_eq_false (by omega),if_pos (show(!false)=true from rfl),F0 (by simp;omega),oB,s,oB,
     Z0t v n fuel m (p ++ [a]) (by omega) (by omega) (λy z=>d y (by rw[e];simp[z])) (by simp;omega),w]
    simp
   ·rw[decide_eq_false c2]
    simp only[P3,oB,cond_false,Bool.false_eq_true,if_false]
    rw[H0m λh=>c2 (by rw[←f,←g];exact h.2)];simp
  ·rw[show decide (((x.length:Nat):Int)>1)=false from decide_eq_false (by omega)]
   simp only[P3,oB,cond_false,Bool.false_eq_true,if_false]
   rw[H0m λh=>c h.1];simp
def u0s(w:List Int):List Int×List Int:=ccA (C9 [] w).length (C9 [] w).reverse
theorem v0s{r:Int}(a:r<=3){w:List Int}(b:sm r w)(j:w.length<=300000):a00 w=some (u0s w):=by
 have c:=g00 w (h0v a b) (by omega)
 have f:=F02 w []
 simp only[List.length_nil]at f
 have g:sm r (C9 [] w).reverse:=λx h=>w0p w [] (λy i=>by cases i) b x (List.mem_reverse.1 h)
 have d:=Z0t a (C9 [] w).length V0 (C9 [] w).reverse [] (by simp) (E1 (by omega)) g (by simp;omega)
 have e:=x0p (C9 [] w).length (C9 [] w).reverse
 rw[List.length_reverse]at e
 unfold a00 u0s
 rw[c,oB,d,oB]
 simp only[List.nil_append]
 rw[F0 (by simp;omega),oB]
def f0o(n:Int):ByteArray:=if n=0 then⟨#[48]⟩else if n<0 then⟨(45::n0c 20 n.natAbs []).toArray⟩else⟨(n0c 20 n.natAbs []).toArray⟩
def w02(n:Int)(m:Nat):Int:=if n<0 then -(m:Int)else m
theorem y0p(n:Int)(m:Nat):(w02 n m).tmod 10=w02 n (m % 10):=by
 unfold w02
 split
 ·rw[Int.neg_tmod,show(10:Int)=((10:Nat):Int) from rfl,←Int.ofNat_tmod]
 ·rw[show(10:Int)=((10:Nat):Int) from rfl,←Int.ofNat_tmod]
theorem z0p(n:Int)(m:Nat):(w02 n m).tdiv 10=w02 n (m / 10):=by
 unfold w02
 split
 ·rw[Int.neg_tdiv,show(10:Int)=((10:Nat):Int) from rfl,←Int.ofNat_tdiv]
 ·rw[show(10:Int)=((10:Nat):Int) from rfl,←Int.ofNat_tdiv]
theorem I0m{n:Int}{m:Nat}:w02 n m=0↔m=0:=by
 unfold w02
 split<;>omega
theorem C0v{X:Int}{m:Nat}(acc:List UInt8)(e:X=((m % 10:Nat):Int)):strOfNums [IntKind.u8.wrap (IntKind.i64.wrap (48+X))]++⟨acc.toArray⟩=⟨(UInt8.ofNat (48+m % 10)::acc).toArray⟩:=by
 have a:IntKind.u8.wrap (IntKind.i64.wrap (48+X))=((48+m % 10:Nat):Int):=by
  rw[e]
  simp[IntKind.wrap,IntKind.signed,IntKind.bits]
  omega
 rw[a,show strOfNums [((48+m % 10:Nat):Int)]=⟨#[UInt8.ofNat (48+m % 10)]⟩ from by simp only[strOfNums,List.map_cons,List.map_nil,Int.toNat_natCast]]
 generalize UInt8.ofNat (48+m % 10)=d
 apply ByteArray.ext
 rw[ByteArray.data_append]
 simp
theorem J0m(a b:List UInt8):(⟨a.toArray⟩:ByteArray)++⟨b.toArray⟩=⟨(a++b).toArray⟩:=by
 apply ByteArray.ext
 rw[ByteArray.data_append]
 simp
theorem T02(a:List UInt8):(⟨a.toArray⟩:ByteArray).size=a.length:=by simp[ByteArray.size]
theorem a0u{n:Int}{m:Nat}(h:m<=9223372036854775808)(a:n<0∨m<=9223372036854775807):H0 (w02 n m):=by
 unfold w02
 split<;>constructor<;>omega
theorem m05(n:Int):∀(f m fuel:Nat) (acc:List UInt8),m<10 ^ f->f<fuel->m<=9223372036854775808->acc.length+f<=100->(n<0∨m<=9223372036854775807) ->
  o5 fuel (w02 n m) ⟨acc.toArray⟩=some ⟨(n0c f m acc).toArray⟩
 |f,m,0,acc,a,c,d,g,h=>by omega
 |0,m,fuel+1,acc,a,c,d,g,h=>by
  have:m=0:=by simp at a;exact a
  subst this
  rw[o5.eq_2,show w02 n 0=0 by unfold w02;split<;>simp]
  rfl
 |f+1,m,fuel+1,acc,a,c,d,g,h=>by
  rw[o5.eq_2]
  by_cases h0:m=0
  ·subst h0
   rw[show w02 n 0=0 by unfold w02;split<;>simp]
   simp[n0c]
  ·have o:w02 n m≠0:=λe=>h0 (I0m.1 e)
   have next:=m05 n f (m / 10) fuel (UInt8.ofNat (48+m % 10)::acc) (by rw[Nat.pow_succ]at a;omega) (by omega) (by omega) (by simp only[List.length_cons];omega) (by omega)
   have l:IntKind.i64.wrap ((w02 n m).tdiv 10)=w02 n (m / 10):=by
    rw[z0p]
    have:=a0u (n:=n) (m:=m / 10) (by omega) (by omega)
    exact w64 this.1 this.2
   rw[if_pos (by simpa using o),l,y0p]
   simp only[show ∀ k:Unit->Option ByteArray,(grd (10≠0)).bind k=k () from λk=>rfl]
   have i:∀ X:Int,X=((m % 10:Nat):Int)->((grd ([IntKind.u8.wrap (IntKind.i64.wrap (48+X))].length<=9223372036854775807)).bind λ_=>(grd ((strOfNums [IntKind.u8.wrap (IntKind.i64.wrap (48+X))]).size+(⟨acc.toArray⟩:ByteArray).size<=9223372036854775807)).bind λ_ =>
     o5 fuel (w02 n (m / 10)) (strOfNums [IntKind.u8.wrap (IntKind.i64.wrap (48+X))]++⟨acc.toArray⟩))=some ⟨(n0c (f+1) m acc).toArray⟩:=λX j=>by
    rw[F0 (by simp),oB,F0 (by rw[strOfNums_size,T02];simp only[List.length_singleton];omega),oB,C0v acc j,next]
    simp[n0c,h0]
   by_cases hneg:w02 n (m % 10)<0
   ·rw[if_pos (by simpa using hneg)]
    refine i _ ?_
    unfold w02 at hneg ⊢
    split at hneg
    ·rename_i b
     rw[if_pos b,w64 (by omega) (by omega)];omega
    ·omega
   ·rw[if_neg (by simpa using hneg)]
    refine i _ ?_
    unfold w02 at hneg ⊢
    split at hneg
    ·rename_i b
     rw[if_pos b];omega
    ·rename_i b
     rw[if_neg b]
theorem K0m(n:Int):w02 n n.natAbs=n:=by unfold w02;split<;>omega
theorem W0e(n:Int)(a:H0 n):F01 n=some (f0o n):=by
 unfold F01 f0o
 by_cases h0:n=0
 ·rw[if_pos (by simpa using h0),if_pos h0]
 ·rw[if_neg (by simpa using h0),if_neg h0]
  have h:=m05 n 20 n.natAbs V0 [] (by have:=a.1;have:=a.2;omega) (by unfold V0;omega) (by have:=a.1;have:=a.2;omega) (by simp) (by have:=a.2;omega)
  rw[K0m]at h
  rw[h,oB]
  have b:=p0g 20 n.natAbs []
  simp only[List.length_nil]at b
  by_cases hneg:n<0
  ·rw[if_pos (by simpa using hneg),if_pos hneg,F0 (by have e:=T02 (n0c 20 n.natAbs []);have c:(⟨#[45]⟩:ByteArray).size=1:=rfl;omega),oB]
   exact congrArg some (J0m [45] _)
  ·rw[if_neg (by simpa using hneg),if_neg hneg]
def N0c:Nat->Nat->List Int
 |0,_=>[]
 |f+1,m=>if m=0 then []else((48+m % 10:Nat):Int)::N0c f (m / 10)
theorem L0m:∀(f m:Nat),(N0c f m).length<=f
 |0,m=>by simp[N0c]
 |f+1,m=>by
  simp only[N0c]
  split
  ·simp
  ·have:=L0m f (m / 10)
   simp only[List.length_cons];omega
theorem W0d:∀(f m:Nat) (acc:List UInt8),n0c f m acc=(N0c f m).reverse.map (λx=>UInt8.ofNat x.toNat)++acc
 |0,m,acc=>by simp[n0c,N0c]
 |f+1,m,acc=>by
  simp only[n0c,N0c]
  split
  ·simp
  ·rw[W0d f (m / 10)]
   simp only[List.reverse_cons,List.map_append,List.map_cons,List.map_nil,Int.toNat_natCast,List.append_assoc,List.singleton_append]
theorem n05(n:Int):∀(f m fuel:Nat) (acc:List Int),m<10 ^ f->f<fuel->m<=9223372036854775808->acc.length+f<=100->(n<0∨m<=9223372036854775807) ->
  p5 fuel (w02 n m) acc=some (acc++N0c f m)
 |f,m,0,acc,a,c,d,g,h=>by omega
 |0,m,fuel+1,acc,a,c,d,g,h=>by
  have:m=0:=by simp at a;exact a
  subst this
  rw[p5.eq_2,show w02 n 0=0 by unfold w02;split<;>simp]
  simp[N0c]
 |f+1,m,fuel+1,acc,a,c,d,g,h=>by
  rw[p5.eq_2]
  by_cases h0:m=0
  ·subst h0
   rw[show w02 n 0=0 by unfold w02;split<;>simp]
   simp[N0c]
  ·have p:w02 n m≠0:=λe=>h0 (I0m.1 e)
   have next:=n05 n f (m / 10) fuel (acc ++ [((48+m % 10:Nat):Int)]) (by rw[Nat.pow_succ]at a;omega) (by omega) (by omega) (by simp only[List.length_append,List.length_singleton];omega) (by omega)
   have o:IntKind.i64.wrap ((w02 n m).tdiv 10)=w02 n (m / 10):=by
    rw[z0p]
    have:=a0u (n:=n) (m:=m / 10) (by omega) (by omega)
    exact w64 this.1 this.2
   rw[if_pos (by simpa using p),o,y0p]
   simp only[show ∀ k:Unit->Option (List Int),(grd (10≠0)).bind k=k () from λk=>rfl]
   have i:∀ X:Int,X=((m % 10:Nat):Int)->((grd ((acc.length + [IntKind.u8.wrap (IntKind.i64.wrap (48+X))].length)*1<=140737488355328)).bind λ_ =>
     p5 fuel (w02 n (m / 10)) (acc ++ [IntKind.u8.wrap (IntKind.i64.wrap (48+X))]))=some (acc++N0c (f+1) m):=λX j=>by
    have l:IntKind.u8.wrap (IntKind.i64.wrap (48+X))=((48+m % 10:Nat):Int):=by
     rw[j]
     simp[IntKind.wrap,IntKind.signed,IntKind.bits]
     omega
    rw[l,F0 (by simp only[List.length_singleton];omega),oB,next]
    simp[N0c,h0]
   by_cases hneg:w02 n (m % 10)<0
   ·rw[if_pos (by simpa using hneg)]
    refine i _ ?_
    unfold w02 at hneg ⊢
    split at hneg
    ·rename_i b
     rw[if_pos b,w64 (by omega) (by omega)];omega
    ·omega
   ·rw[if_neg (by simpa using hneg)]
    refine i _ ?_
    unfold w02 at hneg ⊢
    split at hneg
    ·rename_i b
     rw[if_pos b];omega
    ·rename_i b
     rw[if_neg b]
theorem b0u(xs:List Int)(o:xs.length<=140737488355328):∀(fuel i j:Nat) (a:List Int),i+j+1=xs.length->j+1-i<fuel->a.length=xs.length->(∀ t,t<xs.length->a[t]?=if t<i∨j<t then xs[xs.length-1-t]? else xs[t]?) ->
  n4 fuel (i:Int) (j:Int) a=some xs.reverse
 |0,i,j,a,m,n,l,d=>by omega
 |fuel+1,i,j,a,m,n,l,d=>by
  rw[n4.eq_2]
  by_cases hij:i<j
  ·have h:=A5 (show i<a.length by omega)
   have e:=A5 (show j<a.length by omega)
   generalize p:a[i]=xi at h
   generalize q:a[j]=xj at e
   rw[if_pos (by simp;omega),Z2 e,oB,Z2 h,oB,oB]
   rw[Z2 (k:=j) (x:=xj) (by rw[List.getElem?_set];simp;rw[if_neg (by omega)];exact e),oB,V2 hij (by omega),v09 (by omega) (by omega)]
   refine b0u xs o fuel (i+1) (j-1) _ (by omega) (by omega) (by simpa using l) (λt b=>?_)
   have f:=d i (by omega)
   have g:=d j (by omega)
   rw[if_neg (by omega)]at f g
   rw[h]at f
   rw[e]at g
   simp only[Int.toNat_natCast]
   by_cases t1:j=t
   ·subst t1
    rw[List.getElem?_set_self (by simp only[List.length_set];omega),if_pos (Or.inr (by omega)),show xs.length-1-j=i by omega]
    exact f
   ·rw[List.getElem?_set_ne t1]
    by_cases t2:i=t
    ·subst t2
     rw[List.getElem?_set_self (by omega),if_pos (Or.inl (by omega)),show xs.length-1-i=j by omega]
     exact g
    ·rw[List.getElem?_set_ne t2,d t b]
     by_cases c:t<i∨j<t
     ·rw[if_pos c,if_pos (by omega)]
     ·rw[if_neg c,if_neg (by omega)]
  ·rw[if_neg (by simp;omega)]
   refine congrArg some (List.ext_getElem? λt=>?_)
   rcases Nat.lt_or_ge t xs.length with b|b
   ·rw[d t b,List.getElem?_reverse b]
    by_cases c:t<i∨j<t
    ·rw[if_pos c]
    ·rw[if_neg c,show xs.length-1-t=t by omega]
   ·rw[List.getElem?_eq_none (by omega),List.getElem?_eq_none (by simpa using b)]
theorem w0s(xs:List Int)(h0:0<xs.length)(a:xs.length<=1000):n4 V0 0 (IntKind.i64.wrap (((xs.length:Nat):Int)-1)) xs=some xs.reverse:=by
 rw[v09 h0 (by omega)]
 exact b0u xs (by omega) V0 0 (xs.length-1) xs (by omega) (by unfold V0;omega) rfl (λt b=>by rw[if_neg (by omega)])
theorem X0e(n:Int)(a:H0 n):G01 n=some (f0o n):=by
 unfold G01 f0o
 by_cases h0:n=0
 ·rw[if_pos (by simpa using h0),if_pos h0]
 ·rw[if_neg (by simpa using h0),if_neg h0]
  have h:=n05 n 20 n.natAbs V0 [] (by have:=a.1;have:=a.2;omega) (by unfold V0;omega) (by have:=a.1;have:=a.2;omega) (by simp) (by have:=a.2;omega)
  rw[K0m,List.nil_append]at h
  have c:=L0m 20 n.natAbs
  have b:0<(N0c 20 n.natAbs).length:=by simp only[N0c];rw[if_neg (by omega)];simp
  rw[h,oB]
  simp only[oB]
  by_cases hneg:n<0
  ·rw[if_pos (by simpa using hneg),if_pos hneg,F0 (by simp only[List.length_singleton];omega),oB,F0 (by simp only[List.length_append,List.length_singleton];omega),oB,
    w0s _ (by simp) (by simp only[List.length_append,List.length_singleton];omega),oB,F0 (by simp only[List.length_reverse,List.length_append,List.length_singleton];omega),oB,W0d]
   simp[strOfNums]
  ·rw[if_neg (by simpa using hneg),if_neg hneg,F0 (by omega),oB,
    w0s _ b (by omega),oB,F0 (by simp only[List.length_reverse];omega),oB,W0d]
   simp[strOfNums]
set_option maxRecDepth 10000
abbrev B(l:List UInt8):ByteArray:=⟨l.toArray⟩
theorem N07(l:List UInt8):l0c (B l) ⟨#[]⟩=l.isEmpty:=by
 rw[p0r]
 cases l with
 |nil=>rfl
 |cons x r =>
  rw[decide_eq_false (λe=>by have:=congrArg ByteArray.size e;simp[B,ByteArray.size]at this)]
  rfl
def K08(x:Int):Bool := !(x == 0)&&inR (-3) 3 x
def chL(x:Int):UInt8:=if x<0 then UInt8.ofNat (64+x.natAbs)else UInt8.ofNat (96+x.natAbs)
theorem N0e{x:Int}(a:K08 x=true):x = -3∨x = -2∨x = -1∨x=1∨x=2∨x=3:=by
 simp only[K08,inR,Bool.and_eq_true,Bool.not_eq_true',beq_eq_false_iff_ne,decide_eq_true_eq]at a
 omega
theorem g0o(x:Int):l02 x=some (K08 x):=by
 unfold l02 K08
 rw[r04]
 by_cases h:x=0<;>simp[h,chk]
theorem x0s(x:Int)(a:K08 x=true):F04 x=some (B [chL x]):=by
 rcases N0e a with rfl|rfl|rfl|rfl|rfl|rfl<;>rfl
theorem v0k(x:Int):l01 x=some (bif K08 x then B [chL x]else B []):=by
 cases hx:K08 x with
 |true=>rcases N0e hx with rfl|rfl|rfl|rfl|rfl|rfl<;>rfl
 |false =>
  unfold l01
  rw[Y02,Y02]
  have a:inR 1 3 x=false:=by
   simp only[K08,inR,Bool.and_eq_false_iff,Bool.not_eq_false',beq_iff_eq,decide_eq_false_iff_not]at hx ⊢
   omega
  have b:inR (-3) (-1) x=false:=by
   simp only[K08,inR,Bool.and_eq_false_iff,Bool.not_eq_false',beq_iff_eq,decide_eq_false_iff_not]at hx ⊢
   omega
  rw[a,b]
  rfl
def G02:List Int->Bool
 | []=>true
 |x::r=>K08 x&&G02 r
def wl(w:List Int):List UInt8:=match w with
 | []=>[49]
 |x::r=>(x::r).map chL
def X03(w:List Int):ByteArray:=bif G02 w then B (wl w)else B []
theorem j0v(w:List Int):(wl w).isEmpty=false:=by cases w<;>rfl
theorem X0d(w:List Int):(wl w).length<=w.length+1:=by cases w<;>simp[wl]
theorem I09(w:List Int):(X03 w).size<=w.length+1:=by
 unfold X03
 cases G02 w with
 |false=>show 0<=_;omega
 |true=>rw[cond_true,T02];exact X0d w
theorem q0b(w:List Int):l0c (X03 w) ⟨#[]⟩ = !G02 w:=by
 unfold X03
 cases G02 w with
 |false=>rw[cond_false,N07];rfl
 |true=>rw[cond_true,N07,j0v];rfl
theorem Y04(w:List Int)(f:w.length<=140737488355328):∀(d k fuel:Nat) (acc:List UInt8),k+d=w.length->d<fuel->acc.length+d<=140737488355328 ->
  A6 w fuel (B acc) (k:Int)=some (bif G02 (w.drop k)then .inr (B (acc++(w.drop k).map chL))else .inl (B []))
 |d,k,0,acc,c,hf,b=>by omega
 |0,k,fuel+1,acc,c,hf,b=>by
  rw[A6.eq_2,if_neg (by simp;omega),P1 (by omega)]
  simp[G02]
 |d+1,k,fuel+1,acc,c,hf,b=>by
  have e:k<w.length:=by omega
  have a:=A5 e
  generalize w[k]=x at a
  have next:=Y04 w f d (k+1) fuel (acc ++ [chL x]) (by omega) (by omega) (by simp only[List.length_append,List.length_singleton];omega)
  rw[V1 a,A6.eq_2,if_pos (by simp;omega),Z2 a,oB,g0o,oB]
  simp only[G02]
  cases hlx:K08 x with
  |false=>rfl
  |true =>
   rw[if_neg (by simp),oB,x0s x hlx,oB,F0 (by rw[T02];simp),oB,F0 (by rw[T02,T02];simp only[List.length_singleton];omega),oB,
    J0m,V2 e (by omega:w.length<=9223372036854775807),next]
   simp
theorem O07(w:List Int)(a:w.length<=140737488355):b00 w=some (X03 w):=by
 unfold b00
 have h:=Y04 w (by omega) w.length 0 V0 [] (by omega) (E1 (by omega)) (by simp only[List.length_nil];omega)
 rw[show((0:Nat):Int)=0 from rfl,List.drop_zero,List.nil_append]at h
 rw[show(⟨#[]⟩:ByteArray)=B [] from rfl,h,oB]
 unfold X03
 cases G02 w with
 |false=>rfl
 |true =>
  rw[cond_true,Y0,show(B []:ByteArray)=⟨#[]⟩ from rfl,N07]
  cases w<;>rfl
theorem Z04(w:List Int)(f:w.length<=140737488355328):∀(d k fuel:Nat) (acc:List UInt8),k+d=w.length->d<fuel->acc.length+d<=140737488355328 ->
  B6 w fuel (B acc) (k:Int)=some (bif G02 (w.drop k)then .inr (B (acc++(w.drop k).map chL))else .inl (B []))
 |d,k,0,acc,c,hf,b=>by omega
 |0,k,fuel+1,acc,c,hf,b=>by
  rw[B6.eq_2,if_neg (by simp;omega),P1 (by omega)]
  simp[G02]
 |d+1,k,fuel+1,acc,c,hf,b=>by
  have e:k<w.length:=by omega
  have a:=A5 e
  generalize w[k]=x at a
  have next:=Z04 w f d (k+1) fuel (acc ++ [chL x]) (by omega) (by omega) (by simp only[List.length_append,List.length_singleton];omega)
  rw[V1 a,B6.eq_2,if_pos (by simp;omega),Z2 a,oB,v0k,oB]
  simp only[G02]
  cases hlx:K08 x with
  |false=>rw[cond_false,F0 (by rw[T02];simp),oB,N07];rfl
  |true =>
   rw[cond_true,F0 (by rw[T02];simp),oB,N07,if_neg (by simp),F0 (by rw[T02,T02];simp only[List.length_singleton];omega),oB,
    J0m,V2 e (by omega:w.length<=9223372036854775807),next]
   simp
theorem Y0d(w:List Int)(a:w.length<=140737488355):m01 w=some (X03 w):=by
 unfold m01
 by_cases h0:w.length=0
 ·have:w = []:=List.length_eq_zero_iff.1 h0
  subst this
  rfl
 ·have h:=Z04 w (by omega) w.length 0 V0 [] (by omega) (E1 (by omega)) (by simp only[List.length_nil];omega)
  rw[show((0:Nat):Int)=0 from rfl,List.drop_zero,List.nil_append]at h
  rw[if_neg (by simp;exact λe=>h0 (by rw[e];rfl)),show(⟨#[]⟩:ByteArray)=B [] from rfl,h,oB]
  unfold X03
  cases G02 w with
  |false=>rfl
  |true =>
   cases w with
   |nil=>simp at h0
   |cons x r=>rfl
def L08(a:UInt8):List (List UInt8)->List UInt8
 | []=>[]
 |x::r=>a::x++L08 a r
def y0s(a:UInt8):List (List UInt8)->List UInt8
 | []=>[]
 |x::r=>x++L08 a r
def j03:List (List Int)->Bool
 | []=>true
 |w::r=>G02 w&&j03 r
def B08(a:List (List Int)):ByteArray:=bif j03 a then(match a with
 | []=>B [110,111,110,101]
 |w::r=>B (y0s 44 ((w::r).map wl)))else B []
def wsz:List (List Int)->Nat
 | []=>0
 |w::r=>w.length+2+wsz r
theorem n0j:∀ a:List (List Int),(L08 44 (a.map wl)).length<=wsz a
 | []=>by simp[L08,wsz]
 |w::r=>by
  have:=n0j r
  have:=X0d w
  simp only[List.map_cons,L08,wsz,List.length_cons,List.length_append]
  omega
theorem w0k{w:List Int}:∀ {a:List (List Int)},w∈a->w.length<=wsz a
 |x::r,h=>by
  rcases List.mem_cons.1 h with rfl|h
  ·simp only[wsz];omega
  ·have:=w0k h;simp only[wsz];omega
theorem O0c:∀ a:List (List Int),a.length<=wsz a
 | []=>by simp
 |w::r=>by have:=O0c r;simp only[wsz,List.length_cons];omega
theorem i04(a:List (List Int))(h:wsz a<=140737488):∀(d k fuel:Nat) (acc:List UInt8),k+d=a.length->d<fuel->0<k->acc.length+wsz (a.drop k)<=140737488355328 ->
  Z3 a fuel (B acc) (k:Int)=some (bif j03 (a.drop k)then .inr (B (acc++L08 44 ((a.drop k).map wl)))else .inl (B []))
 |d,k,0,acc,e,hf,h0,b=>by omega
 |0,k,fuel+1,acc,e,hf,h0,b=>by
  rw[Z3.eq_2,if_neg (by simp;omega),P1 (by omega)]
  simp[j03,L08]
 |d+1,k,fuel+1,acc,e,hf,h0,b=>by
  have f:k<a.length:=by omega
  have c:=A5 f
  have j:=O0c a
  have i:=w0k (List.mem_of_getElem? c)
  generalize a[k]=x at c i
  rw[V1 c]at b ⊢
  simp only[wsz]at b
  have l:=X0d x
  have next:=i04 a h d (k+1) fuel (acc ++ [44]++wl x) (by omega) (by omega) (by omega) (by simp only[List.length_append,List.length_singleton];omega)
  rw[Z3.eq_2,if_pos (by simp;omega),if_pos (by simp;omega),F0 (by rw[T02];show _+1<=_;omega),oB,Z2 c,oB,O07 x (by omega),oB,
   F0 (by have:=I09 x;omega),oB,q0b]
  simp only[j03]
  cases hlx:G02 x with
  |false=>rfl
  |true =>
   have g:X03 x=B (wl x):=by unfold X03;rw[hlx];rfl
   rw[if_neg (by simp),g,show(⟨#[44]⟩:ByteArray)=B [44] from rfl,J0m,F0 (by rw[T02,T02];simp only[List.length_append,List.length_singleton];omega),oB,J0m,
    V2 f (by omega:a.length<=9223372036854775807),next]
   simp[L08]
theorem P0c(a:List (List Int))(b:wsz a<=140737488):O00 a=some (B08 a):=by
 unfold O00 B08
 cases a with
 |nil=>rw[show V0=(V0-1)+1 from rfl,Z3.eq_2,if_neg (by simp),oB,Y0,if_pos (z0d.2 rfl)];rfl
 |cons x r =>
  have e:=X0d x
  have d:wsz r<=140737488:=by simp only[wsz]at b;omega
  have f:x.length<=140737488:=by simp only[wsz]at b;omega
  have next:=i04 (x::r) b r.length 1 (V0-1) (wl x) (by simp only[List.length_cons];omega) (by have:=O0c r;unfold V0;omega) (by omega) (by simp only[List.drop_succ_cons,List.drop_zero];omega)
  rw[show V0=(V0-1)+1 from rfl,Z3.eq_2,if_pos (by simp),if_neg (by simp),Y06 (x:=x) rfl,oB,O07 x (by omega),oB,
   F0 (by have:=I09 x;omega),oB,q0b]
  simp only[j03]
  cases hlx:G02 x with
  |false=>rfl
  |true =>
   have c:X03 x=B (wl x):=by unfold X03;rw[hlx];rfl
   rw[if_neg (by simp),c,show(⟨#[]⟩:ByteArray)=B [] from rfl,J0m,List.nil_append,F0 (by rw[T02,T02];simp only[List.length_nil];omega),oB,
    show IntKind.i64.wrap (0+1)=((1:Nat):Int) by decide,next]
   simp only[List.drop_succ_cons,List.drop_zero,Bool.true_and,oB]
   cases j03 r with
   |false=>rfl
   |true =>
    rw[cond_true,Y0,show(B []:ByteArray)=⟨#[]⟩ from rfl,N07]
    have:(wl x++L08 44 (List.map wl r)).isEmpty=false:=by cases x<;>rfl
    rw[this]
    rfl
theorem j04(a:List (List Int))(h:wsz a<=140737488):∀(d k fuel:Nat) (acc:List ByteArray),k+d=a.length->d<fuel->acc.length=k ->
  V5 a fuel (k:Int) acc=some (bif j03 (a.drop k)then .inr (acc++(a.drop k).map λw=>B (wl w))else .inl (B []))
 |d,k,0,acc,e,hf,c=>by omega
 |0,k,fuel+1,acc,e,hf,c=>by
  rw[V5.eq_2,if_neg (by simp;omega),P1 (by omega)]
  simp[j03]
 |d+1,k,fuel+1,acc,e,hf,c=>by
  have f:k<a.length:=by omega
  have b:=A5 f
  have j:=O0c a
  have i:=w0k (List.mem_of_getElem? b)
  generalize a[k]=x at b i
  have next:=j04 a h d (k+1) fuel (acc ++ [B (wl x)]) (by omega) (by omega) (by simp only[List.length_append,List.length_singleton];omega)
  rw[V1 b,V5.eq_2,if_pos (by simp;omega),Z2 b,oB,Y0d x (by omega),oB,
   F0 (by have:=I09 x;omega),oB,q0b]
  simp only[j03]
  cases hlx:G02 x with
  |false=>rfl
  |true =>
   have g:X03 x=B (wl x):=by unfold X03;rw[hlx];rfl
   rw[if_neg (by simp),g,F0 (by simp only[List.length_singleton];omega),oB,V2 f (by omega:a.length<=9223372036854775807),next]
   simp
def bsz:List (List UInt8)->Nat
 | []=>0
 |x::r=>x.length+1+bsz r
theorem x0k:∀ xs:List (List UInt8),xs.length<=bsz xs
 | []=>by simp
 |w::r=>by have:=x0k r;simp only[bsz,List.length_cons];omega
theorem M08(b:UInt8)(xs:List (List UInt8))(g:bsz xs<=140737488355328):∀(d k fuel:Nat) (acc:List UInt8),k+d=xs.length->d<fuel->acc.length+bsz (xs.drop k)<=140737488355328 ->
  W9 (xs.map B) (B [b]) fuel (B acc) (k:Int)=some (B (acc++L08 b (xs.drop k)))
 |d,k,0,acc,e,hf,a=>by omega
 |0,k,fuel+1,acc,e,hf,a=>by
  rw[W9.eq_2,if_neg (by simp;omega),P1 (by omega)]
  simp[L08]
 |d+1,k,fuel+1,acc,e,hf,a=>by
  have f:k<xs.length:=by omega
  have c:=A5 f
  have h:=x0k xs
  generalize xs[k]=x at c
  rw[V1 c]at a ⊢
  simp only[bsz]at a
  have next:=M08 b xs g d (k+1) fuel (acc ++ [b]++x) (by omega) (by omega) (by simp only[List.length_append,List.length_singleton];omega)
  rw[W9.eq_2,if_pos (by simp;omega),Z2 (x:=B x) (by rw[List.getElem?_map,c];rfl),oB,F0 (by rw[T02,T02];simp only[List.length_singleton];omega),oB,J0m,
   F0 (by rw[T02,T02];simp only[List.length_append,List.length_singleton];omega),oB,J0m,V2 f (by omega:xs.length<=9223372036854775807),next]
  simp[L08]
def A0p(a:UInt8)(e:ByteArray):List (List UInt8)->ByteArray
 | []=>e
 |x::r=>B (y0s a (x::r))
theorem x0t(a:UInt8)(e:ByteArray)(xs:List (List UInt8))(c:bsz xs<=140737488355328):W03 (xs.map B) (B [a]) e=some (A0p a e xs):=by
 unfold W03
 cases xs with
 |nil=>rfl
 |cons x r =>
  simp only[bsz]at c
  have d:=x0k r
  have h:=M08 a r (by omega) r.length 0 V0 x (by omega) (E1 (by omega)) (by rw[List.drop_zero];omega)
  rw[show((0:Nat):Int)=0 from rfl,List.drop_zero]at h
  rw[if_neg (by simp;omega),Y06 (x:=B x) rfl,oB,X06,if_pos (by simp;omega),oB]
  have b:(List.drop (1:Int).toNat (List.take ((((x::r).map B).length:Nat):Int).toNat ((x::r).map B)))=r.map B:=by
   rw[Int.toNat_natCast,List.take_length];rfl
  rw[b,h]
  rfl
theorem z0s:∀ a:List (List Int),bsz (a.map wl)<=wsz a
 | []=>by simp[bsz,wsz]
 |w::r=>by
  have:=z0s r
  have:=X0d w
  simp only[List.map_cons,bsz,wsz]
  omega
theorem v05(a:List (List Int)):(B08 a).size<=wsz a+4:=by
 unfold B08
 cases j03 a with
 |false=>show 0<=_;omega
 |true =>
  cases a with
  |nil=>show 4<=_;omega
  |cons w r =>
   simp only[cond_true]
   rw[T02]
   have:=n0j r
   have:=X0d w
   simp only[List.map_cons,y0s,wsz,List.length_append]
   omega
theorem Q0c(a:List (List Int))(c:wsz a<=140737488):P00 a=some (B08 a):=by
 unfold P00
 have d:=O0c a
 have h:=j04 a c a.length 0 V0 [] (by omega) (E1 (by omega)) rfl
 rw[show((0:Nat):Int)=0 from rfl,List.drop_zero,List.nil_append]at h
 rw[h,oB]
 have b:=v05 a
 unfold B08 at b ⊢
 cases hall:j03 a with
 |false=>rfl
 |true =>
  rw[hall]at b
  rw[cond_true,Y0,show(a.map λw=>B (wl w))=(a.map wl).map B by simp,show(⟨#[44]⟩:ByteArray)=B [44] from rfl,x0t 44 _ _ (by have:=z0s a;omega),oB]
  cases a with
  |nil=>rfl
  |cons w r =>
   simp only[cond_true,List.map_cons,A0p]at b ⊢
   rw[F0 (by omega),oB]
def r0b(x:D0):ByteArray:=bif K3 x then f0o x.1++B [32]++B08 x.2 else B []
theorem Z0d(n:Int):(f0o n).size<=21:=by
 unfold f0o
 have:=p0g 20 n.natAbs []
 simp only[List.length_nil]at this
 split
 ·show 1<=_;omega
 ·split
  ·rw[T02];simp only[List.length_cons];omega
  ·rw[T02];omega
theorem B0p:∀ a:List (List Int),wsz a=tot a+2*a.length
 | []=>rfl
 |w::r=>by have:=B0p r;simp only[wsz,tot,List.length_cons];omega
theorem v0h{x:D0}(h:K3 x=true):wsz x.2<=60/\H0 x.1:=by
 simp only[K3,G3,inR,Bool.and_eq_true,decide_eq_true_eq]at h
 rw[B0p]
 refine⟨by omega,?_⟩
 constructor<;>omega
theorem b07(x:D0)(d:x.2.length<=140737488355328)(f:U2 x.2):g7 x=some (r0b x):=by
 have e:=f8 x d f
 obtain⟨r,a⟩:=x
 unfold g7 r0b
 simp only[e,oB]
 cases h:K3 (r,a)with
 |false=>rfl
 |true =>
  obtain⟨c,b⟩:=v0h h
  have g:=Z0d r
  have i:=v05 a
  simp only at c b
  have j:(⟨#[32]⟩:ByteArray).size=1:=rfl
  rw[if_neg (by simp),W0e r b,oB,F0 (by omega),oB,F0 (by omega),oB,P0c a (by omega),oB,F0 (by omega),oB,
   F0 (by rw[ByteArray.size_append];omega),oB]
  rfl
theorem c07(x:D0)(d:x.2.length<=140737488355328)(f:U2 x.2):i7 x=some (r0b x):=by
 have e:=O9 x d f
 obtain⟨r,a⟩:=x
 unfold i7 r0b
 simp only[e,oB]
 cases h:K3 (r,a)with
 |false=>rfl
 |true =>
  obtain⟨c,b⟩:=v0h h
  have g:=Z0d r
  have i:=v05 a
  simp only at c b
  have j:(⟨#[32]⟩:ByteArray).size=1:=rfl
  rw[if_neg (by simp),X0e r b,oB,F0 (by omega),oB,F0 (by omega),oB,Q0c a (by omega),oB,F0 (by omega),oB,
   F0 (by rw[ByteArray.size_append];omega),oB]
  rfl
def smP(p:D0):Prop:=p.2.length<=10/\f05 p.2
def shB(o:Option (List Int)):Bool:=match o with
 |some w=>decide (∀ x∈w,H0 x)&&decide (w.length<=200)
 |none=>false
theorem A0s{o:Option (List Int)}(h:shB o=true):∃ w,o=some w/\E9 w/\w.length<=200:=by
 unfold shB at h
 cases o with
 |none=>cases h
 |some w =>
  simp only[Bool.and_eq_true,decide_eq_true_eq]at h
  exact⟨w,rfl,h.1,h.2⟩
theorem J0u:∀ b∈([[1],[2],[1,2]]:List (List Int)),∀ k∈([1,2,3,4,5,6]:List Int),shB (E4 b k)=true:=by decide +kernel
theorem K0u:shB (t01 [1] [2])=true:=by decide +kernel
theorem y0k{b:List Int}(a:b∈([[1],[2],[1,2]]:List (List Int))){k:Int}(c:1<=k)(d:k<=6):∃ w,E4 b k=some w/\E9 w/\w.length<=200 :=
 A0s (J0u b a k (by simp only[List.mem_cons,List.not_mem_nil];omega))
theorem g05{w:List Int}(h:E9 w/\w.length<=200){l:List (List Int)}(b:f05 l):f05 (w::l):=λx a=>by
 rcases List.mem_cons.1 a with rfl|a
 ·exact h
 ·exact b x a
theorem s0b:f05 []:=λx a=>by cases a
theorem B0s{P:Int->Prop}:∀(n:Nat) (w:List Int),(∀ x∈w,P x)->∀ x∈(ccA n w).1,P x
 |0,w,h,x,a=>h x a
 |n+1,w,h,x,a=>by
  unfold ccA at a
  split at a
  ·refine B0s n _ (λy b=>h y ?_) x a
   exact List.mem_of_mem_tail (List.dropLast_subset _ b)
  ·exact h x a
theorem D0v{w:List Int}(h:S08 2 w)(i:w.length<=200):∃ a b,a00 w=some (a,b)/\E9 a/\a.length<=200:=by
 refine⟨(u0s w).1,(u0s w).2,v0s (r:=2) (by decide) h (by omega),?_,?_⟩
 ·refine λx e=>B0s _ _ (λy f=>?_) x e
  exact v0f w [] (λz g=>nomatch g) (h.all (by decide)) y (List.mem_reverse.1 f)
 ·have c:=x0p (C9 [] w).length (C9 [] w).reverse
  have d:=F02 w []
  simp only[List.length_reverse,List.length_nil]at c d
  unfold u0s
  omega
theorem z0k{bs:List Int}:∀(d fuel:Nat) (acc:List (List Int)) (q:Int×Int),d<fuel->d+acc.length<=10->f05 acc->okQ bs q ->
  Drw bs (E6 bs fuel (d:Int) acc q) λw=>f05 w/\w.length<=10
 |d,0,acc,q,hf,_,_,_=>by omega
 |0,fuel+1,acc,q,hf,m,f,g=>by
  rw[E6.eq_2,if_neg (by simp)]
  exact⟨_,_,rfl,⟨f,by omega⟩,g⟩
 |d+1,fuel+1,acc,q,hf,m,f,g=>by
  rw[E6.eq_2,if_pos (by simp only[decide_eq_true_eq];omega)]
  refine(u0p g (by decide) (by decide) (by decide) (by decide)).bind λx j i h=>?_
  obtain⟨a,b,e,k,l⟩:=D0v i.1 i.2
  simp only[e,oB]
  split
  ·refine .grd (by simp only[List.length_singleton];omega) ?_
   rw[o0s d (by omega)]
   refine z0k d fuel (acc ++ [a]) j (by omega) (by simp;omega) (λz c=>?_) h
   rcases List.mem_append.1 c with c|c
   ·exact f z c
   ·rw[List.mem_singleton.1 c];exact⟨k,l⟩
  ·rw[o0s d (by omega)]
   exact z0k d fuel acc j (by omega) (by omega) f h
theorem y0t{bs:List Int}{q:Int×Int}(t:okQ bs q):Drw bs (m02 bs q) smP:=by
 unfold m02
 refine(I9 t (by decide) (by decide)).bind λx E C c => .grd ⟨by omega,by omega⟩ ?_
 simp only
 split
 ·refine(I9 c (by decide) (by decide)).bind λy n m a => .grd ⟨by omega,by omega⟩ ?_
  rw[w64 (by omega) (by omega)]
  obtain⟨w,e,h⟩:=y0k (b:=[1]) (by decide) (k:=1+y) (by omega) (by omega)
  rw[e,oB]
  exact⟨_,_,rfl,⟨by simp,g05 h s0b⟩,a⟩
 split
 ·obtain⟨u,f,i⟩:=y0k (b:=[1]) (by decide) (k:=2) (by decide) (by decide)
  obtain⟨v,g,j⟩:=y0k (b:=[2]) (by decide) (k:=2) (by decide) (by decide)
  rw[f,oB,g,oB]
  refine(I9 c (by decide) (by decide)).bind λy n m a => .grd ⟨by omega,by omega⟩ ?_
  rw[w64 (by omega) (by omega)]
  obtain⟨w,e,h⟩:=y0k (b:=[1,2]) (by decide) (k:=1+y) (by omega) (by omega)
  rw[e,oB]
  exact⟨_,_,rfl,⟨by simp,g05 i (g05 j (g05 h s0b))⟩,a⟩
 split
 ·obtain⟨u,f,i⟩:=y0k (b:=[1]) (by decide) (k:=2) (by decide) (by decide)
  obtain⟨v,g,j⟩:=y0k (b:=[2]) (by decide) (k:=3) (by decide) (by decide)
  rw[f,oB,g,oB]
  refine(I9 c (by decide) (by decide)).bind λy n m a => .grd ⟨by omega,by omega⟩ ?_
  rw[w64 (by omega) (by omega)]
  obtain⟨w,e,h⟩:=y0k (b:=[1,2]) (by decide) (k:=2+y) (by omega) (by omega)
  rw[e,oB]
  exact⟨_,_,rfl,⟨by simp,g05 i (g05 j (g05 h s0b))⟩,a⟩
 split
 ·obtain⟨u,f,i⟩:=A0s K0u
  rw[f,oB]
  refine(I9 c (by decide) (by decide)).bind λy n m a => .grd ⟨by omega,by omega⟩ ?_
  rw[w64 (by omega) (by omega)]
  obtain⟨v,g,j⟩:=y0k (b:=[1]) (by decide) (k:=1+y) (by omega) (by omega)
  rw[g,oB]
  refine(I9 a (by decide) (by decide)).bind λz A D o => .grd ⟨by omega,by omega⟩ ?_
  rw[w64 (by omega) (by omega)]
  obtain⟨w,e,h⟩:=y0k (b:=[2]) (by decide) (k:=1+z) (by omega) (by omega)
  rw[e,oB]
  exact⟨_,_,rfl,⟨by simp,g05 i (g05 j (g05 h s0b))⟩,o⟩
 split
 ·exact⟨_,_,rfl,⟨by simp,g05 ⟨by unfold E9;decide,by decide⟩ (g05 ⟨by unfold E9;decide,by decide⟩ s0b)⟩,c⟩
 ·refine(I9 c (by decide) (by decide)).bind λy n m a => .grd ⟨by omega,by omega⟩ ?_
  rw[w64 (by omega) (by omega)]
  obtain⟨d,rfl⟩:=Int.eq_ofNat_of_zero_le m.1
  have s:=z0k (bs:=bs) (d+1) V0 [] n (by unfold V0;omega) (by simp;omega) s0b a
  rw[show(1:Int)+(d:Int)=((d+1:Nat):Int) by omega]
  exact s.bind λl A p o=>⟨_,_,rfl,⟨p.2,p.1⟩,o⟩
def A0k(p:D0):Prop:=p.2.length<=11/\f05 p.2
theorem B0k{bs:List Int}{q:Int×Int}(e:okQ bs q):Drw bs (q00 bs q) A0k:=by
 unfold q00
 refine(y0t e).bind λp j b f=>?_
 obtain⟨r,l⟩:=p
 refine(I9 f (by decide) (by decide)).bind λx k a c => .grd ⟨by omega,by omega⟩ ?_
 have d:=b.1
 simp only at d ⊢
 split
 ·exact(I9 c (by decide) (by decide)).bind λy m i g => .grd ⟨by omega,by omega⟩ ⟨_,_,rfl,⟨by simp only;omega,b.2⟩,g⟩
 ·split
  ·refine .grd (by simp;omega) ⟨_,_,rfl,⟨by simp;omega,λx a=>?_⟩,c⟩
   rcases List.mem_append.1 a with a|a
   ·exact b.2 x a
   ·rw[List.mem_singleton.1 a];exact⟨(λz h=>by cases h),by simp⟩
  ·exact⟨_,_,rfl,⟨by simp only;omega,b.2⟩,c⟩
theorem M0m{g:j0}(h:g.2.2.length<=121):(i4 g).1.2.2.length<=121:=by
 cases hg:U0 g with
 |true =>
  have:=(G1 (C09 hg)).2.2.2
  omega
 |false=>unfold i4;rw[hg];exact h
theorem E0v{bs:List Int}{q:Int×Int}(i:okQ bs q):Drw bs (H01 bs q) λg=>g.2.2.length<=121:=by
 unfold H01
 refine(d0o i (by decide) (by decide)).bind λb k _ h=>?_
 simp only
 split
 ·exact(I0u h).bind λg j f d=>⟨_,_,rfl,f,d⟩
 ·refine(v0p h).bind λg j f d=>?_
  have hf:=M0m (g:=g) (by omega)
  have e:=C04 g (by omega)
  obtain⟨a,b,c⟩:=g
  simp only[e,oB]
  exact⟨_,_,rfl,hf,d⟩
theorem rk3(r:Int):0<(if(if 3<r then 3 else r)>1 then(if 3<r then 3 else r)else 1)/\(if(if 3<r then 3 else r)>1 then(if 3<r then 3 else r)else 1)<=256:=by
 split<;>split<;>omega
theorem c0u{bs:List Int}{r:Int}:∀(d fuel:Nat) (acc:List (List Int)) (q:Int×Int),d<fuel->d+acc.length<=10->f05 acc->okQ bs q ->
  Drw bs (t8 bs r fuel (d:Int) acc q) λw=>f05 w/\w.length<=10
 |d,0,acc,q,hf,_,_,_=>by omega
 |0,fuel+1,acc,q,hf,e,b,c=>by
  rw[t8.eq_2,if_neg (by simp)]
  exact⟨_,_,rfl,⟨b,by omega⟩,c⟩
 |d+1,fuel+1,acc,q,hf,e,b,c=>by
  rw[t8.eq_2,if_pos (by simp only[decide_eq_true_eq];omega)]
  refine(r0s c (rk3 r).1 (rk3 r).2 (by decide) (by decide)).bind λx h g f => .grd (by simp only[List.length_singleton];omega) ?_
  rw[o0s d (by omega)]
  refine c0u d fuel (acc ++ [x]) h (by omega) (by simp;omega) (λz a=>?_) f
  rcases List.mem_append.1 a with a|a
  ·exact b z a
  ·rw[List.mem_singleton.1 a];exact g
theorem z0t{bs:List Int}(g:bs.length<=1048576):∃ p l,N6 bs=some (p,l)/\A0k p/\f05 l/\l.length<=10:=by
 obtain⟨q,e,i⟩:=t0p g
 obtain⟨p,t,b,h,j⟩:=B0k i
 obtain⟨x,o,c,m,k⟩:=I9 j (n:=3) (by decide) (by decide)
 obtain⟨d,rfl⟩:=Int.eq_ofNat_of_zero_le m.1
 obtain⟨l,u,f,a,s⟩:=c0u (bs:=bs) (r:=p.1) d V0 [] o (by unfold V0;omega) (by simp;omega) s0b k
 refine⟨p,l,?_,h,a.1,a.2⟩
 unfold N6 Y03
 simp only[e,b,c,f,oB,F0 (show H0 (d:Int) from⟨by omega,by omega⟩)]
theorem A0k.sh{p:D0}(h:A0k p):p.2.length<=140737488355328/\U2 p.2:=⟨by have:=h.1;omega,h.2.sh⟩
theorem A0t{bs:List Int}(k:bs.length<=1048576):∃ p g,Q00 bs=some (p,g)/\A0k p/\g.2.2.length<=121:=by
 obtain⟨q,e,m⟩:=t0p k
 obtain⟨p,v,d,a,o⟩:=B0k m
 obtain⟨b,x,f,_,s⟩:=d0o o (n:=2) (by decide) (by decide)
 obtain⟨g,y,i,l,_⟩:=E0v s
 have j:=w08 p [] a.sh.1 a.sh.2 (by simp) (λw t=>by cases t)
 have u:=I0c p []
 by_cases c:b=true/\(A3 p []).2=true
 ·refine⟨p,(A3 p []).1,?_,a,by omega⟩
  unfold Q00
  simp only[e,d,f,j,oB,if_pos c.1,if_pos c.2]
 ·refine⟨p,g,?_,a,l⟩
  unfold Q00
  simp only[e,d,f,oB]
  by_cases c1:b=true
  ·simp only[if_pos c1,j,oB,if_neg (λh=>c ⟨c1,h⟩),i]
  ·simp only[if_neg c1,i,oB]
theorem B0t{bs:List Int}(b:bs.length<=1048576):∃ p,P8 bs=some p/\A0k p:=by
 obtain⟨q,e,d⟩:=t0p b
 obtain⟨p,g,a,c,f⟩:=B0k d
 refine⟨p,?_,c⟩
 unfold P8
 simp only[e,a,oB]
theorem C0t{bs:List Int}(c:bs.length<=1048576):∃ p w,Q8 bs=some (p,w)/\A0k p/\w.length<=200:=by
 obtain⟨q,e,f⟩:=t0p c
 obtain⟨p,i,a,d,g⟩:=B0k f
 obtain⟨w,j,b,h,_⟩:=r0s g (rk3 p.1).1 (rk3 p.1).2 (most:=6) (by decide) (by decide)
 refine⟨p,w,?_,d,h.2⟩
 unfold Q8
 simp only[e,a,b,oB]
def byt(bs:List Int):Prop:=∀ x∈bs,0<=x/\x<256
theorem k0v{bs:List Int}(d:bs.length<=1048576)(h:byt bs){i:Int}(h0:0<=i)(b:i<=1000):∃ v,D05 bs i=some v/\0<=v/\v<256:=by
 unfold D05
 by_cases c:i<((bs.length:Nat):Int)
 ·rw[if_pos (by simpa using c)]
  obtain⟨y,a,e⟩:=f0v h0 c
  have:=h y a
  refine⟨y,?_,this.1,this.2⟩
  rw[e,oB,w64 (by omega) (by omega)]
 ·rw[if_neg (by simpa using c),F0 (by decide),oB,w64 (x:=i*37) (by omega) (by omega),w64 (x:=((bs.length:Nat):Int)*11) (by omega) (by omega),w64 (by omega) (by omega)]
  exact⟨_,rfl,Int.tmod_nonneg _ (by omega),Int.tmod_lt_of_pos _ (by decide)⟩
theorem C0s{bs:List Int}(b:bs.length<=1048576)(h:byt bs){from_ r most:Int}(h0:0<=from_)(p:from_<=100)(t:1<=r/\r<=100)(s:0<=most/\most<=100):∀(d k fuel:Nat) (acc:List Int),(k+d:Int)=most->d<fuel->acc.length=k->S08 r acc ->
  ∃ w,D8 bs from_ most r fuel (k:Int) acc=some w/\S08 r w/\(w.length:Int)<=most
 |d,k,0,acc,q,hf,_,_=>by omega
 |d,k,fuel+1,acc,q,hf,E,j=>by
  obtain⟨v,e,G,H⟩:=k0v b h (i:=from_) h0 (by omega)
  have F:Int.tmod v (most+1)<most+1:=Int.tmod_lt_of_pos _ (by omega)
  rw[D8.eq_2,e,oB,F0 (show H0 v from⟨by omega,by omega⟩),oB,w64 (x:=most+1) (by omega) (by omega),F0 (by omega),oB]
  by_cases c:(k:Int)<Int.tmod v (most+1)
  ·rw[if_pos (by simpa using c)]
   have D:0<d:=by omega
   obtain⟨d,rfl⟩:∃ n,d=n+1:=⟨d-1,by omega⟩
   rw[w64 (x:=from_+1) (by omega) (by omega),w64 (x:=from_+1+(k:Int)) (by omega) (by omega)]
   obtain⟨y,o,A,I⟩:=k0v b h (i:=from_+1+(k:Int)) (by omega) (by omega)
   have J:0<=Int.tmod y r:=Int.tmod_nonneg _ A
   have K:Int.tmod y r<r:=Int.tmod_lt_of_pos _ (by omega)
   have f:IntKind.i64.wrap (1+Int.tmod y r)=1+Int.tmod y r:=w64 (by omega) (by omega)
   have l:IntKind.i64.wrap (0-IntKind.i64.wrap (1+Int.tmod y r)) = -(1+Int.tmod y r):=by rw[f,w64 (by omega) (by omega)];omega
   rw[o,oB,F0 (show H0 y from⟨by omega,by omega⟩),oB,F0 (show r≠0 by omega),oB,F0 (by decide),oB,F0 (by decide),oB,l,f,w64 (x:=(k:Int)+1) (by omega) (by omega)]
   have m:(k:Int)+1=((k+1:Nat):Int):=by omega
   have g:∀ z:Int,(z≠0 /\ -r<=z/\z<=r)->∃ w,((grd ((acc.length + [z].length)*8<=140737488355328)).bind λ_=>D8 bs from_ most r fuel ((k:Int)+1) (acc ++ [z]))=some w/\S08 r w/\(w.length:Int)<=most:=λz C=>by
    rw[F0 (by simp only[List.length_singleton];omega),oB,m]
    refine C0s b h h0 p t s d (k+1) fuel (acc ++ [z]) (by omega) (by omega) (by simp;omega) λu a=>?_
    rcases List.mem_append.1 a with a|a
    ·exact j u a
    ·rw[List.mem_singleton.1 a];exact C
   split
   ·exact g _ (by omega)
   ·exact g _ (by omega)
  ·rw[if_neg (by simpa using c)]
   exact⟨acc,rfl,j,by omega⟩
theorem D0t{bs:List Int}(f:bs.length<=1048576)(h:byt bs){from_ r most:Int}(h0:0<=from_)(c:from_<=100)(i:1<=r/\r<=100)(a:0<=most/\most<=100):∃ u:List Int,G03 bs from_ r most=some (C9 [] u).reverse/\S08 r u/\(u.length:Int)<=most:=by
 obtain⟨d,rfl⟩:=Int.eq_ofNat_of_zero_le a.1
 obtain⟨w,e,b,g⟩:=C0s f h h0 c i a d 0 V0 [] (by omega) (E1 (by omega)) rfl λz j=>by cases j
 refine⟨w,?_,b,g⟩
 have e:D8 bs from_ (d:Int) r V0 0 []=some w:=e
 unfold G03
 rw[e,oB,g00 w (b.all (by omega)) (by omega),oB]
theorem h0o{g:j0}{w:List Int}(d:K4 g=true)(i:∀ x∈w,Y4 x)(l:w.length<=1000):e01 g w=some (X01 g (C9 [] w).reverse):=by
 have hf:=E03 d
 obtain⟨n,o,p,q⟩:=G1 hf
 have e:=L0c w (by omega)
 have m:=F02 w []
 have f:=r0p hf (w:=(C9 [] w).reverse) (λx j=>M0c w [] (λy k=>by cases k) i x (List.mem_reverse.1 j)) (by simp only[List.length_reverse,List.length_nil]at *;omega)
 have h:=s08 g (by omega)
 obtain⟨a,b,c⟩:=g
 unfold e01
 simp only[h,d,oB,Y1,e,f,cond_true]
theorem D0s{r:Int}(b:r<=100){w:List Int}(h:S08 r w):∀ x∈w,Y4 x:=λx a=>by
 have:=h x a
 exact⟨⟨by omega,by omega⟩,by omega⟩
theorem N0m{g:j0}(hf:I0 g=true)(c:Cmp g):∀(w:List Int) (v:Int),0<=v->v<g.2.1->S08 g.1 w->∃ u,rdw g v w=some u/\0<=u/\u<g.2.1
 | [],v,h0,a,_=>⟨v,rfl,h0,a⟩
 |l::w,v,h0,a,f=>by
  have b:=f l mS
  have d:=c v h0 a l b.1 b.2.1 b.2.2
  obtain⟨u,e,h⟩:=N0m hf c w _ d (X04 hf d) λx i=>f x (mC _ i)
  refine⟨u,?_,h⟩
  unfold rdw
  rw[if_neg (by omega)];exact e
theorem C0q{g:j0}(hf:I0 g=true)(l:Cmp g){r u:List Int}(n:Lps g [r])(o:S08 g.1 r)(b:S08 g.1 u):rdw g 0 (C9 [] (s0q r u)).reverse=some 0:=by
 obtain⟨q,s,t,w⟩:=G1 hf
 have p:=b.all (by omega)
 have c:=D0s (by omega) b
 have m:S08 g.1 (inv u):=λx a=>by
  unfold inv at a
  obtain⟨y,j,rfl⟩:=List.mem_map.1 (List.mem_reverse.1 a)
  rw[l0h (c y j)]
  have:=b y j
  omega
 obtain⟨v,e,i⟩:=N0m hf l (inv u) 0 (iR _) (by omega) m
 have d:=n0p hf (inv u) 0 v (m0p c) (iR _) e
 rw[q0t c]at d
 have h:rdw g 0 (inv u++r++u)=some 0:=by
  rw[A08,A08,e,oB,n v i.1 i.2 r (List.mem_singleton.2 rfl),oB,d]
 have f:E9 (inv u++r++u):=λx a=>by
  rcases List.mem_append.1 a with a|a
  ·rcases List.mem_append.1 a with a|a
   ·exact(R0n u) x a
   ·exact o.all (by omega) x a
  ·exact p x a
 have k:rdw g 0 (s0q r u)=some 0:=j0p hf f h
 exact j0p hf (X0i (v0f _ [] V0t f)) k
theorem E0t{g:j0}{l:List (List Int)}{r:List Int}(h:Lps g l)(b:r∈l):Lps g [r]:=λv h0 a w c=>by
 rw[List.mem_singleton.1 c];exact h v h0 a r b
theorem E0s{bs:List Int}(F:bs.length<=1048576)(G:byt bs){p:D0}(O:A0k p){l:List (List Int)}(h:(A3 p l).2=true):
  r6 p (A3 p l).1=(-1,-1)/\U03 (A3 p l).1=true/\S7 (A3 p l).1 l=some true/\(O7 p>0->(A3 p l).1.2.1≠0/\Int.tmod (O7 p) (A3 p l).1.2.1=0) /\
  ∃ u,G03 bs 27 p.1 3=some u/\(0<p.2.length->∃ r,gi p.2 0=some r/\∃ c,p8 r u=some c/\e01 (A3 p l).1 c=some true):=by
 obtain⟨f,g,q,C,_⟩:=p0b h
 have i:=h0h f
 have hf:=w04 i
 have H:=z0f f
 obtain⟨R,S,T,U⟩:=G1 hf
 have j:K3 p=true/\G3 p.1 l=true:=by
  unfold A3 at h
  cases b:K3 p&&G3 p.1 l with
  |false=>rw[b]at h;cases h
  |true=>simpa using b
 obtain⟨V,W,M⟩:=J07 j.2
 refine⟨?_,f,?_,λd=>?_,?_⟩
 ·unfold r6
  rw[j.1,hf,decide_eq_true g.symm,w0t q _ 0 (by omega)];rfl
 ·rw[Y0n i l M (by omega),List.all_eq_true.2 λw o=>(R0d _ _).2 (C w o)]
 ·refine⟨by omega,?_⟩
  have v:(A3 p []).2=true:=by
   cases b:(A3 p []).2 with
   |true=>rfl
   |false =>
    have d:i03 p []>0:=d
    unfold i03 at d
    rw[b]at d
    simp at d
  have e:O7 p=(A3 p []).1.2.1:=by
   show i03 p []=_
   unfold i03
   rw[v];rfl
  obtain⟨k,J⟩:=u0k h v
  rw[e,J]
  exact Int.mul_tmod_right _ _
 ·obtain⟨u,e,L,Q⟩:=D0t (r:=p.1) (most:=3) (from_:=27) F G (by decide) (by decide) (by omega) (by decide)
  refine⟨_,e,λh0=>?_⟩
  have s:=Z2 (A5 h0)
  have n:=List.getElem_mem h0
  generalize p.2[0]=r at s n
  have o:=U04 j.1 r n
  obtain⟨wl,A⟩:=t08 o
  have t:S08 (A3 p l).1.1 r:=λx b=>by rw[g];exact(A x b).2
  have m:S08 (A3 p l).1.1 (C9 [] u).reverse:=λx b=>by rw[g];exact M0c u [] (λy a=>by cases a) L x (List.mem_reverse.1 b)
  have K:=F02 u []
  simp only[List.length_nil]at K
  have N:(s0q r (C9 [] u).reverse).length<=100:=by
   have D:=F02 (inv (C9 [] u).reverse++r++(C9 [] u).reverse) []
   have E:=r0k (C9 [] u).reverse
   simp only[List.length_append,List.length_reverse,List.length_nil]at D E
   unfold s0q
   rw[List.length_reverse]
   omega
  have I:∀ x∈s0q r (C9 [] u).reverse,Y4 x:=λx b=>by
   have z:=D0s (by omega) m
   refine M0c (P:=Y4) _ [] (λy a=>by cases a) (λy a=>?_) x (List.mem_reverse.1 b)
   rcases List.mem_append.1 a with a|a
   ·rcases List.mem_append.1 a with a|a
    ·exact m0p z y a
    ·exact(A y a).1
   ·exact z y a
  refine⟨r,s,_,q0a _ _ (t.all (by omega)) (m.all (by omega)) (by rw[List.length_reverse];omega),?_⟩
  rw[h0o i I (by omega),(R0d _ _).2 (C0q hf H (E0t q n) t m)]
theorem l0v(p:D0)(g:j0)(b:A0k p):H0 (r6 p g).1/\H0 (r6 p g).2:=by
 have a:H0 (-1):=⟨by decide,by decide⟩
 unfold r6
 cases hc:(K3 p&&I0 g&&decide (p.1=g.1))with
 |false=>exact⟨a,a⟩
 |true =>
  simp only[Bool.and_eq_true]at hc
  have d:=(G1 hc.1.2).2.2.1
  have c:=b.1
  rw[cond_true]
  cases hh:v04 g p.2 g.2.1.toNat 0 with
  |none=>exact⟨a,a⟩
  |some q =>
   obtain⟨v,i⟩:=q
   have:=G07 hh
   exact⟨⟨by show _<=(v:Int);omega,by show(v:Int)<=_;omega⟩,⟨by show _<=(i:Int);omega,by show(i:Int)<=_;omega⟩⟩
theorem F0t(p:D0):(r0b p).size<=9223372036854775807:=by
 unfold r0b
 cases h:K3 p with
 |false=>exact Nat.zero_le _
 |true =>
  have a:=Z0d p.1
  have b:=v05 p.2
  have c:=(v0h h).1
  have d:(B [32]).size=1:=rfl
  rw[cond_true,ByteArray.size_append,ByteArray.size_append]
  omega
theorem O0m(g:j0):B0e g g=true:=decide_eq_true rfl
theorem fq0{bs:List Int}(z:bs.length<=1048576)(F:byt bs):d9 bs=some (.inr ()):=by
 have C:x04 bs=some false:=by unfold x04;rw[decide_eq_false (by omega)]
 obtain⟨p,l,D,a,g,R⟩:=z0t z
 have h:=l0b p l a.sh.1 a.sh.2 (by omega) g.sh
 have i:=w08 p l a.sh.1 a.sh.2 (by omega) g.sh
 have s:=G0e p l a.sh.1 a.sh.2 (by omega) g.sh
 have t:=F0e p l a.sh.1 a.sh.2 (by omega) g.sh
 have v:=H09 p l
 have w:=O9 p a.sh.1 a.sh.2
 have x:=f8 p a.sh.1 a.sh.2
 have e:=E0d (A3 p l).1 (A3 p l).1 (by have:=I0c p l;omega)
 rw[O0m]at e
 have f:=T03 p (A3 p l).1 a.sh.1 a.sh.2 (by have:=I0c p l;omega)
 have d:=p0m (A3 p l).1 (by have:=I0c p l;omega)
 have o:=d0h p a.sh.1 a.sh.2
 have q:H0 (O7 p):=H09 p []
 have b:=E0s z F a (l:=l)
 generalize O7 p=n at o q b
 generalize i03 p l=ix at s t v
 generalize K3 p=ip at w x
 generalize r6 p (A3 p l).1=fd at f b
 generalize U03 (A3 p l).1=fi at d b
 generalize A3 p l=E at h i e f d b
 obtain⟨⟨P,y,Q⟩,is⟩:=E
 obtain⟨r,j⟩:=p
 obtain⟨O,f2⟩:=fd
 simp only at h i e f d b
 unfold d9
 simp only[C,D,h,i,e,s,t,F0 v,w,x,oB,beq_self_eq_true,Bool.not_true,Bool.not_false,Y1,cond_true,cond_false,eq_self,decide_true,Bool.false_eq_true,if_false]
 cases is with
 |false=>rfl
 |true =>
  obtain⟨G,H,I,J,u,K,L⟩:=b rfl
  obtain⟨rfl,rfl⟩:=Prod.mk.inj G
  subst H
  simp only[f,d,o,I,K,oB,if_true,F0 (show H0 (-1) from⟨by decide,by decide⟩),show decide ((-1:Int) ≥ 0)=false from rfl,cond_false,cond_true,Bool.not_false,Bool.not_true,Y1,P3,Bool.false_eq_true,if_false,F0 q]
  have A:(chk (decide (n>0)) (grd (y≠0)) ())=some ()/\(bif decide (n>0)then(!decide (Int.tmod n y=0))else false)=false:=by
   by_cases c:n>0
   ·obtain⟨k,m⟩:=J c
    rw[decide_eq_true c,Y1,F0 k,m]
    exact⟨rfl,rfl⟩
   ·rw[decide_eq_false c,P3]
    exact⟨rfl,rfl⟩
  rw[A.1,oB,A.2,if_neg (by simp)]
  by_cases c:0<j.length
  ·obtain⟨S,k,N,m,M⟩:=L c
   rw[decide_eq_true (show((j.length:Nat):Int)>0 by omega)]
   simp only[Y1,k,m,M,oB,cond_true,Bool.not_true,Bool.false_eq_true,if_false]
  ·rw[decide_eq_false (show ¬ ((j.length:Nat):Int)>0 by omega)]
   simp only[P3,oB,cond_false,Bool.false_eq_true,if_false]
theorem G0t(bs:List Int)(F:byt bs):R00 bs=some true:=by
 rcases Nat.lt_or_ge 1048576 bs.length with d|d
 ·unfold R00 d9 x04
  rw[oB,if_pos (by simp only[decide_eq_true_eq];omega)]
  rfl
 obtain⟨p,g,z,b,K⟩:=A0t d
 have A:N8 bs=some (p,g):=by unfold N8;rw[z];rfl
 have C:O8 bs=some (p,g):=by unfold O8;rw[z];rfl
 obtain⟨a,D,c⟩:=B0t d
 obtain⟨t,w,E,h,L⟩:=C0t d
 have i:=P06 p g b.sh.1 b.sh.2 (by omega)
 have m:=O06 p g b.sh.1 b.sh.2 (by omega)
 have e:=E0d (N1 p g).1 (N1 p g).1 (by have:=c0h (p:=p) (g:=g) (by omega);omega)
 rw[O0m]at e
 have o:=T03 p g b.sh.1 b.sh.2 (by omega)
 have q:=N06 p g b.sh.1 b.sh.2 (by omega)
 have f:=l0v p g b
 have s:=M0h t w h.sh.1 h.sh.2 (by omega)
 have u:=L0h t w h.sh.1 h.sh.2 (by omega)
 have v:=N0n a c.sh.1 c.sh.2
 have j:=d0h a c.sh.1 c.sh.2
 have x:H0 (O7 a):=H09 a []
 have k:=c07 a c.sh.1 c.sh.2
 have l:=b07 a c.sh.1 c.sh.2
 have y:=F0t a
 generalize r0b a=fs at k l y
 generalize O7 a=n at v j x
 generalize c03 t w=tr at s u
 generalize r6 p g=fd at o q f
 generalize N1 p g=rs at i m e
 obtain⟨⟨S,T,U⟩,V,W⟩:=rs
 obtain⟨G,f2⟩:=fd
 obtain⟨O,P⟩:=tr
 obtain⟨M,N⟩:=p
 obtain⟨H,I,J⟩:=g
 obtain⟨s1,s2⟩:=a
 obtain⟨Q,R⟩:=t
 simp only at i m e o q f s u v j k l
 unfold R00
 rw[fq0 d F,oB,Y0]
 simp only[A,C,D,E,i,m,e,o,q,F0 f.1,F0 f.2,s,u,v,j,F0 x,k,l,F0 y,oB,beq_self_eq_true,cond_true,Y1,eq_self,decide_true,z0d.2 rfl]
end Go.Proofs.YtmgikbbmpnbbjaaGreat
