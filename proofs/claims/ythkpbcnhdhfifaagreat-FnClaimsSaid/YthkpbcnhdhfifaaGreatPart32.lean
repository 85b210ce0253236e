/- Texts of the claim, joined: Plain laws: words read in a folded graph; reducing a word ke and others. -/
import Derived.Test.YthkpbcnhdhfifaaGreatPart31
import Derived.Test.YthkpbcnhdhfifaaGreatPart21
import Derived.Test.YthkpbcnhdhfifaaGreatH36
import Derived.Test.YthkpbcnhdhfifaaGreatPart22
import Derived.Test.YthkpbcnhdhfifaaGreatPart29
import Derived.Test.YthkpbcnhdhfifaaGreatPart23
namespace Go.Proofs.YthkpbcnhdhfifaaGreat
set_option linter.all false
open Go.H
open IntKind (i64)
def rdw(g:B0):Int->List Int->Option Int
 |v,[]=>some v
 |v,x::w=>if S0 g v x<0 then none else rdw g (S0 g v x) w
theorem X0h(g:B0):∀(w:List Int) (v u:Int),rdw g v w=some u↔((A2 g v w).2=w.length/\(A2 g v w).1=u)
 | [],v,u=>by simp[rdw,A2]
 |x::w,v,u=>by have a:=X0h g w (S0 g v x) u;unfold rdw A2;grind
theorem f00(g:B0)(w:List Int):S4 g w↔rdw g 0 w=some 0:=by grind[S4,X0h]
theorem n01(g:B0):∀(a b:List Int) (v:Int),rdw g v (a++b)=(rdw g v a).bind λu=>rdw g u b
 | [],b,v=>rfl
 |x::a,b,v=>by have c:=n01 g a b (S0 g v x);show(if S0 g v x<0 then none else rdw g (S0 g v x) (a++b))=(if S0 g v x<0 then none else rdw g (S0 g v x) a).bind λu=>rdw g u b;grind
theorem I00{g:B0}(hf:H0 g){v x u:Int}(h:S0 g v x=u)(h0:0<=u):S0 g u (-x)=v:=by
 rcases r04 g v x with⟨e,_⟩|e;·omega
 rw[h]at e;obtain⟨d,a,b⟩:=U2.1 e;refine K07 hf (U2.2 ⟨d,a,?_⟩);grind
def v0x{g:B0}(hf:H0 g){v u a x:Int}{d:List Int}(j:I0 x)(f:i07 d)(h:rdw g v d.reverse=some u)(b:S0 g u x=a)(h0:0<=a):rdw g v (j8 d x).reverse=some a:=by
 have one:∀ u:Int,S0 g u x=a->rdw g u [x]=some a:=λu b=>by simp_all[rdw,iE]
 cases d with
 |nil =>simp only[List.reverse_nil,rdw,Option.some.injEq]at h;subst h;exact one v b
 |cons l t =>
  simp only[j8];cases hc:N05 l x;·simp only[zF];grind[List.reverse_cons,n01]
  simp only[cT];rw[List.reverse_cons,n01]at h;cases ht:rdw g v t.reverse with
  |none=>rw[ht]at h;cases h
  |some z =>
   rw[ht]at h;simp only[oB]at h;unfold rdw at h;by_cases c:S0 g z l<0;·grind
   rw[iE c]at h;simp only[rdw,Option.some.injEq]at h;have e:=I00 hf h oM;unfold N05 at hc;simp only[aE,Bool.not_eq_true',beq_eq_false_iff_ne,beq_iff_eq]at hc;have i:=f l mS;have:x = -l:=by grind[ng,X0b]
   rw[this,e]at b;rw[b]
def g0r{g:B0}(hf:H0 g){v:Int}:∀(w b:List Int) (u d:Int),i07 w->i07 b->rdw g v b.reverse=some u->rdw g u w=some d->rdw g v (Z8 b w).reverse=some d
 | [],b,u,d,h,f,e,a=>by simp only[rdw,Option.some.injEq]at a;subst a;exact e
 |x::w,b,u,d,h,f,e,a=>by
  unfold rdw at a;by_cases c:S0 g u x<0;·grind
  rw[iE c]at a;have i:=h x mS;exact g0r hf w (j8 b x) _ d (λy j=>h y (mC _ j)) (A0q f i) (v0x hf i f e rfl oM) a
def G0b{g:B0}(hf:H0 g){v u:Int}{w:List Int}(a:i07 w)(h:rdw g v w=some u):rdw g v (Z8 [] w).reverse=some u :=
 g0r hf w [] v u a (λx b=>by cases b) rfl h
structure Mor (a b:B0) (f:Int->Int):Prop where
 base:f 0=0
 rng:∀ v,0<=v->v<a.2.1->0<=f v/\f v<b.2.1
 step:∀ v x,0<=v->v<a.2.1->0<=S0 a v x->S0 b (f v) x=f (S0 a v x)
def Mor.rdw{a b:B0}{f:Int->Int}(m:Mor a b f)(i:inG a):∀(w:List Int) (v u:Int),0<=v->v<a.2.1->rdw a v w=some u->rdw b (f v) w=some (f u)
 | [],v,u,h0,g,h=>by simp only[Go.Proofs.YthkpbcnhdhfifaaGreat.rdw,Option.some.injEq]at h ⊢;rw[h]
 |x::w,v,u,h0,g,h=>by
  unfold Go.Proofs.YthkpbcnhdhfifaaGreat.rdw at h ⊢;by_cases c:S0 a v x<0;·rw[iP c]at h;cases h
  rw[iE c]at h;have j:=m.step v x h0 g oM;have d:0<=S0 a v x/\S0 a v x<a.2.1:=by
   rcases B03 i v x with e|e;·omega
   exact e
  have k:=m.rng _ d.1 d.2;rw[j,iE oM];exact Mor.rdw m i w _ u d.1 d.2 h
def Mor.loop{a b:B0}{f:Int->Int}(m:Mor a b f)(c:H0 a){w:List Int}(h:S4 a w):S4 b w:=by obtain⟨d,e,g,i⟩:=P0 c;rw[f00]at h ⊢;have:=m.rdw d w 0 0 (iR _) oM h;rwa [m.base]at this
abbrev Im:=List Int×List Int
def Q0s(a b:Im):Prop:=(∃ t,b.2=a.2++t)/\∀ v∈a.2,getI b.1 v=getI a.1 v
theorem Q0s.refl(s:Im):Q0s s s:=⟨⟨[],oS⟩,λ_ _=>rfl⟩
def Q0s.trans{a b c:Im}(h:Q0s a b)(h':Q0s b c):Q0s a c:=by obtain⟨⟨t,e⟩,f⟩:=h;obtain⟨⟨j,d⟩,g⟩:=h';exact⟨⟨t++j,by rw[d,e,List.append_assoc]⟩,λv i=>(g v oG).trans (f v i)⟩
def G0A(a b:B0)(v x:Int)(s:Im):Prop:=0<=S0 a v x->S0 a v x∈s.2/\S0 b (getI s.1 v) x=getI s.1 (S0 a v x)
def G0A.le{a b:B0}{v x:Int}{c d:Im}(j:v∈c.2)(h:G0A a b v x c)(l:Q0s c d):G0A a b v x d:=λh0=>by obtain⟨g,i⟩:=h h0;obtain⟨⟨t,e⟩,f⟩:=l;grind
def h0r{g:B0}(i:inG g)(m:1<=g.1){v x:Int}(h:0<=S0 g v x):x∈Y5 g.1.toNat 1:=by
 rcases r04 g v x with⟨e,_⟩|e;·omega
 obtain⟨d,f,c⟩:=U2.1 e;have l:=i d f;rcases c with⟨a,b,_⟩|⟨a,b,_⟩;·obtain⟨j,_⟩:=p09 g.1.toNat 1 x.toNat oM oM;rwa [show((x.toNat:Nat):Int)=x by omega]at j
 obtain⟨_,k⟩:=p09 g.1.toNat 1 (-x).toNat oM oM;rwa [show -(((-x).toNat:Nat):Int)=x by omega]at k
def s0n{g:B0}(h:D1 g):J9 g=none:=by simp_all[D1,aE,Option.isNone_iff_eq_none]
abbrev Tr8:=List (Option (List Int))×List Int
def trS(g:B0)(v x:Int)(s:Tr8):Tr8:=if 0<=S0 g v x/\S0 g v x ∉ s.2 then(s.1.set (S0 g v x).toNat (some ((L9 s.1 v).getD [] ++ [x])),s.2 ++ [S0 g v x])else s
def A0f(g:B0)(v:Int):List Int->Tr8->Tr8
 | [],s=>s
 |x::r,s=>A0f g v r (trS g v x s)
def V06(g:B0)(b:List Int):Nat->Nat->Tr8->Tr8
 |0,i,a=>a
 |f+1,i,a=>match a.2[i]? with
  |some v=>V06 g b f (i+1) (A0f g v b a)
  |none=>a
def M3(g:B0)(p:Int):List Int:=Q9 g (Y5 g.1.toNat 1) (g.2.1.toNat+1) 0 [p]
def y07(g:B0)(p:Int):Tr8:=V06 g (Y5 g.1.toNat 1) (g.2.1.toNat+1) 0 ((List.replicate g.2.1.toNat none).set p.toNat (some []),[p])
def y0u(g:B0)(v x:Int)(s:Tr8):(trS g v x s).2=f0a s.2 (S0 g v x):=by unfold trS f0a;split<;>rfl
def f0l(g:B0)(v:Int):∀(b:List Int) (a:Tr8),(A0f g v b a).2=h04 g v b a.2
 | [],a=>rfl
 |x::r,a=>by rw[A0f,f0l g v r,y0u];rfl
def t0n(g:B0)(b:List Int):∀(f i:Nat) (a:Tr8),(V06 g b f i a).2=Q9 g b f i a.2
 |0,i,a=>rfl
 |f+1,i,a=>by
  unfold V06 Q9;cases a.2[i]? with
  |none=>rfl
  |some v=>simp only[t0n g b f,f0l]
def X0c(g:B0)(p:Int):(y07 g p).2=M3 g p:=t0n _ _ _ _ _
structure TOk (g:B0) (p:Int) (n:Nat) (s:Tr8):Prop where
 ok:WOk n s.1 s.2
 gd:gud n s.2
 base:p∈s.2
 word:L9 s.1 p=some []
 par:∀ y∈s.2,y≠p->∃ v∈s.2,∃ x,x∈Y5 g.1.toNat 1/\S0 g v x=y/\∃ a,L9 s.1 v=some a/\L9 s.1 y=some (a ++ [x])
 red:∀ y∈s.2,∀ a,L9 s.1 y=some a->Red a.reverse=true
def WOk.add{n:Nat}{b:List (Option (List Int))}{u:List Int}(a:WOk n b u){y:Int}(d:0<=y)(h:y<(n:Int))(v x:Int):WOk n (b.set y.toNat (some ((L9 b v).getD [] ++ [x]))) (u ++ [y]):=by
 have g:=a.short v;refine⟨by simp[a.len],λz h0 e=>?_,λz=>?_⟩
 ·rw[N03 d (by have:=a.len;omega) h0];by_cases c:z=y;·rw[iP c];simp[c]
  rw[iE c,a.iff z h0 e];simp[c]
 by_cases hz:0<=z
 ·rw[N03 d (by have:=a.len;omega) hz];by_cases c:z=y;·grind
  rw[iE c];have:=a.short z;grind
 have f:L9 (b.set y.toNat (some ((L9 b v).getD [] ++ [x]))) z=L9 (b.set y.toNat (some ((L9 b v).getD [] ++ [x]))) 0:=by unfold L9;rw[show z.toNat=(0:Int).toNat by omega]
 rw[f,N03 d (by have:=a.len;omega) (iR 0)];by_cases c:(0:Int)=y;·grind
 rw[iE c];have:=a.short 0;grind
def WOk.get{n:Nat}{b:List (Option (List Int))}{u:List Int}(f:WOk n b u){v:Int}(h0:0<=v)(c:v<(n:Int))(d:v∈u):∃ a,L9 b v=some a:=by
 cases e:L9 b v with
 |none=>exact absurd d ((f.iff v h0 c).1 (by rw[e];rfl))
 |some a=>exact⟨a,rfl⟩
def C05{R:Nat}(b:R<=900){x:Int}(a:x∈Y5 R 1):C3 x/\x≠0 /\ -(R:Int)<=x/\x<=(R:Int):=by obtain⟨c,d,e,f⟩:=Q0a _ _ _ a;exact⟨⟨⟨oM,oM⟩,oM⟩,oM,oM,oM⟩
def w0x{l x:Int}(a:C3 l)(h:N05 l x):x = -l:=by unfold N05 at h;simp only[aE,beq_iff_eq]at h;rw[h.2];exact X0b a.1 a.2
def TOk.add{g:B0}(hf:H0 g){p:Int}{n:Nat}(S:g.2.1=(n:Int)){q:Tr8}(h:TOk g p n q){v x:Int}(k:v∈q.2)(T:x∈Y5 g.1.toNat 1):TOk g p n (trS g v x q):=by
 obtain⟨N,U,V,W⟩:=P0 hf;unfold trS;split
 ·rename_i c;obtain⟨s,D⟩:=c;have M:S0 g v x<(n:Int):=by rcases B03 N v x with e|e<;>omega
  obtain⟨f,u⟩:=q;obtain⟨o,j,base,P,C,red⟩:=h;simp only at k s D o j base P C red ⊢;have A:=j.2 v k;obtain⟨a,w⟩:=o.get A.1 A.2 k;have R:=o.len;have keep:∀ z∈u,L9 (f.set (S0 g v x).toNat (some ((L9 f v).getD [] ++ [x]))) z=L9 f z:=λz I=>by have:=j.2 z I;rw[N03 s oM this.1,iE λ(e:z=S0 g v x)=>D (by rw[←e];exact I)]
  have new:L9 (f.set (S0 g v x).toNat (some ((L9 f v).getD [] ++ [x]))) (S0 g v x)=some (a ++ [x]):=by simp_all[N03,iP]
  refine⟨o.add s M v x,⟨List.nodup_append.2 ⟨j.1,oS,λa w b m=>?_⟩,λy d=>?_⟩,List.mem_append_left _ base,?_,λy d L=>?_,λy d b m=>?_⟩;·grind
  ·rcases List.mem_append.1 d with d|d;·exact j.2 y d
   grind
  ·grind
  ·rcases List.mem_append.1 d with d|d;·obtain⟨O,J,Q,H,E,b,F,i⟩:=C y d L;grind
   grind
  rcases List.mem_append.1 d with d|d;·grind
  simp at d;subst d;rw[new]at m;cases m;have G:=red v k a w;rw[List.reverse_append];show Red (x::a.reverse);cases e:a.reverse with
  |nil=>rfl
  |cons l t =>
   rw[e]at G;unfold Red;rw[G,Bool.and_true];cases hc:N05 l x;·rfl
   exfalso;have K:v≠p:=λF=>by grind
   obtain⟨O,J,Q,H,E,b,F,i⟩:=C v k K;rw[w]at i;injection i with i;rw[i,List.reverse_append]at e;simp only[List.reverse_cons,List.reverse_nil,nA,List.cons_append,List.cons.injEq]at e;rw[←e.1]at hc;have:=w0x (C05 oM H).1 hc;have m:=I00 hf E A.1;grind
 exact h
def G0j(g:B0)(v x:Int)(s:Tr8):∃ t,(trS g v x s).2=s.2++t:=by simp_all[y0u,R0k]
def g0l(g:B0)(v:Int)(b:List Int)(a:Tr8):∃ t,(A0f g v b a).2=a.2++t:=by simp_all[f0l,y06]
def TOk.inn{g:B0}(hf:H0 g){p:Int}{n:Nat}(d:g.2.1=(n:Int)){v:Int}:∀(f:List Int) {a:Tr8},TOk g p n a->v∈a.2->(∀ x∈f,x∈Y5 g.1.toNat 1)->TOk g p n (A0f g v f a)
 | [],a,h,c,b=>h
 |x::r,a,h,c,b=>by obtain⟨t,e⟩:=G0j g v x a;exact TOk.inn hf d r (h.add hf d c (b x mS)) (by rw[e];exact List.mem_append_left _ c) λy i=>b y (mC _ i)
def TOk.out{g:B0}(hf:H0 g){p:Int}{n:Nat}(b:g.2.1=(n:Int)):∀(f i:Nat) {a:Tr8},TOk g p n a->TOk g p n (V06 g (Y5 g.1.toNat 1) f i a)
 |0,i,a,h=>h
 |f+1,i,a,h=>by
  unfold V06;cases e:a.2[i]? with
  |none=>exact h
  |some v=>exact TOk.out hf b f (i+1) (h.inn hf b _ (mG e) λx c=>c)
def x0x(N:Nat)(x:Int):L9 (List.replicate N (none:Option (List Int))) x=none:=by unfold L9;rw[List.getD_eq_getElem?_getD,List.getElem?_replicate];split<;>rfl
def g0e(g:B0){p:Int}{N:Nat}(c:0<=p/\p<(N:Int)):TOk g p N ((List.replicate N none).set p.toNat (some []),[p]):=by
 have d:∀ x,0<=x->L9 ((List.replicate N (none:Option (List Int))).set p.toNat (some [])) x=if x=p then some []else none:=λx h0=>by rw[N03 c.1 (by simp;omega) h0,x0x]
 refine⟨⟨oS,λx h0 i=>?_,λx=>?_⟩,⟨oS,λx j=>oG⟩,oS,?_,λy f h=>?_,λy f a b=>?_⟩;·grind
 ·have:∀ x,0<=x->((L9 ((List.replicate N (none:Option (List Int))).set p.toNat (some [])) x).getD []).length<=1:=λx h0=>by rw[d x h0];split<;>simp
  by_cases hz:0<=x;·exact this x hz
  have e:L9 ((List.replicate N (none:Option (List Int))).set p.toNat (some [])) x=L9 ((List.replicate N (none:Option (List Int))).set p.toNat (some [])) 0:=by unfold L9;rw[show x.toNat=(0:Int).toNat by omega]
  grind
 ·simp only;rw[d p c.1,iP rfl]
 ·grind
 simp at f;subst f;simp only at b;rw[d y c.1,iP rfl]at b;cases b;rfl
def h0e{g:B0}(hf:H0 g){p:Int}(a:0<=p/\p<g.2.1):TOk g p g.2.1.toNat (y07 g p):=by obtain⟨b,c,d,e⟩:=P0 hf;exact TOk.out hf oM _ _ (g0e g ⟨a.1,oM⟩)
def M0z{g:B0}(hf:H0 g)(p:Int){n:Nat}(u:g.2.1=(n:Int))(b:List Int)(s:∀ x∈b,x∈Y5 g.1.toNat 1)(A:b.length<=1000000)(v:Int):∀(d k fuel:Nat) (a:Tr8),TOk g p n a->v∈a.2->k+d=b.length->d<fuel -> A4 b g.1 g.2.1 g.2.2 v fuel (k:Int) a.1 a.2=some (A0f g v (b.drop k) a)
 |d,k,0,a,c,f,m,hf=>oM
 |0,k,fuel+1,a,c,f,m,hf=>by rw[A4.eq_2,iE (by simp;omega),J1 oM];rfl
 |d+1,k,fuel+1,a,c,f,m,H=>by
  obtain⟨z,L,F,M⟩:=P0 hf;have q:k<b.length:=oM;have i:=V3 q;have j:=s _ (mG i);have o:=L1 i;generalize b[k]=x at i j o;have D:=(C05 oM j).1;have I:=I9 n a.2 c.gd.1 c.gd.2;have J:=B03 z v x;have C:=c.add hf u f j;obtain⟨t,G⟩:=G0j g v x a;have E:=M0z hf p u b s A v d (k+1) fuel (trS g v x a) C oG oM oM;have e:=c.ok;have w:=c.gd.2 v f;rw[A4.eq_2,iP (by simp;omega),o,A0f,←E];simp only[E2 i,oB,show(g.1,g.2.1,g.2.2)=g from rfl,a05 g v x D oM,F0 (V02 z F.2 v x),G2 q (show b.length<=9223372036854775807 by omega)];unfold trS;generalize S0 g v x=y at *;by_cases c1:0<=y
  ·have l:y<(n:Int):=oM;simp only[show decide (y ≥ 0)=true by simpa using c1,G1,giO e.len c1 l,oB,cT];by_cases c2:y∈a.2;·have : ¬ ((L9 a.1 y).isNone):=λh=>(e.iff y c1 l).1 h c2;rw[iE this,iE λh=>h.2 c2]
   have:(L9 a.1 y).isNone:=(e.iff y c1 l).2 c2;have K:=e.short v;rw[iP this,iP ⟨c1,c2⟩,giO e.len w.1 w.2,oB,s0u oM,oB,F0 (by simp;omega),oB,F0 (by simp;omega),oB]
  simp only[show decide (y ≥ 0)=false by simpa using c1,M1,oB,zF];rw[iE oS,iE λh=>c1 h.1]
def N0z{g:B0}(hf:H0 g)(p:Int){n:Nat}(d:g.2.1=(n:Int)):∀(f i fuel:Nat) (a:Tr8),TOk g p n a->i<=a.2.length->n+1<=i+f->f<fuel -> E6 g.1 g.2.1 g.2.2 fuel (i:Int) a.1 a.2=some (V06 g (Y5 g.1.toNat 1) f i a)
 |f,i,0,a,b,j,h,hf=>oM
 |0,i,fuel+1,a,b,j,h,hf=>by have:=I9 n a.2 b.gd.1 b.gd.2;omega
 |f+1,i,fuel+1,a,b,j,h,m=>by
  obtain⟨s,u,w,y⟩:=P0 hf;have o:=I9 n a.2 b.gd.1 b.gd.2;rw[E6.eq_2,oB,F0 oM,oB];by_cases hk:i<a.2.length
  ·have c:=V3 hk;generalize a.2[i]=v at c;have k:=mG c;have h0:=M0z hf p d (Y5 g.1.toNat 1) (λx c=>c) (by rw[M03];omega) v (Y5 g.1.toNat 1).length 0 U0 a b k oM (F1 (by rw[M03];omega));rw[show((0:Nat):Int)=0 from rfl,(dZ)]at h0;obtain⟨t,e⟩:=g0l g v (Y5 g.1.toNat 1) a;have q:=N0z hf p d f (i+1) fuel _ (b.inn hf d _ k λx c=>c) oG oM oM;have l:v01 g.1=some (Y5 g.1.toNat 1):=by have:=H0s g.1.toNat oM;rwa [show((g.1.toNat:Nat):Int)=g.1 by omega]at this
   rw[iP (by simpa using hk),E2 c,oB,l,oB,h0,oB];grind[G2,V06]
  simp_all[List.getElem?_eq_none,iE,V06]
def H0b(g:B0)(p:Int):List (List Int):=(y07 g p).1.map λo=>o.getD []
def h0l{g:B0}(hf:H0 g){p:Int}(b:0<=p/\p<g.2.1):o9 g p=some (M3 g p,H0b g p):=by
 obtain⟨d,e,f,h⟩:=P0 hf;have a:g.2.1=((g.2.1.toNat:Nat):Int):=oM;have h0:=N0z hf p a (g.2.1.toNat+1) 0 U0 _ (g0e g (N:=g.2.1.toNat) ⟨b.1,oM⟩) oS oM (F1 oM);have c:gi (List.replicate g.2.1.toNat (none:Option (List Int))) p=some none:=by have:=E2 (xs:=List.replicate g.2.1.toNat (none:Option (List Int))) (k:=p.toNat) (x:=none) (by rw[List.getElem?_replicate,iP oM]);rwa [show((p.toNat:Nat):Int)=p by omega]at this
 rw[←X0c];grind[H0b,y07,o9,F0]
def tw(g:B0)(p v:Int):List Int:=(L9 (y07 g p).1 v).getD []
structure p0m (g:B0) (p:Int) (t:Int->List Int):Prop where
 z:t p = []
 par:∀ y∈M3 g p,y≠p->∃ v∈M3 g p,∃ x,x∈Y5 g.1.toNat 1/\S0 g v x=y/\t y=t v ++ [x]
 red:∀ y∈M3 g p,Red (t y).reverse=true
 len:∀ y,(t y).length<=40
def N01{g:B0}(hf:H0 g){p:Int}(f:0<=p/\p<g.2.1):p0m g p (tw g p):=by
 obtain⟨o,q,s,t⟩:=P0 hf;have h:=h0e hf f;have e:=X0c g p;refine⟨by unfold tw;rw[h.word];rfl,λy b i=>?_,λy b=>?_,λy=>?_⟩;·rw[←e]at b ⊢;obtain⟨v,m,x,n,j,a,k,l⟩:=h.par y b i;grind[tw]
 ·rw[←e]at b;have d:=h.gd.2 y b;obtain⟨a,c⟩:=h.ok.get d.1 d.2 b;unfold tw;rw[c];exact h.red y b a c
 have:=h.ok.short y;have:=I9 _ _ h.gd.1 h.gd.2;unfold tw;omega
def l03{g:B0}(hf:H0 g){p:Int}(a:0<=p/\p<g.2.1):gud g.2.1.toNat (M3 g p):=by rw[←X0c];exact(h0e hf a).gd
def T0g(g:B0)(p:Int):∃ t,M3 g p=p::t:=by obtain⟨t,e⟩:=z0f g (Y5 g.1.toNat 1) (g.2.1.toNat+1) 0 [p];exact⟨t,e⟩
def p0m.ind{g:B0}{p:Int}{t:Int->List Int}(h:p0m g p t)(P:Int->Prop)(h0:P p)(a:∀ v∈M3 g p,∀ y∈M3 g p,∀ x,x∈Y5 g.1.toNat 1->S0 g v x=y->t y=t v ++ [x]->P v->P y):∀(k:Nat) (y:Int),(t y).length<=k->y∈M3 g p->P y
 |k,y,j,d=>by
  by_cases c:y=p;·rw[c];exact h0
  obtain⟨v,b,x,i,e,f⟩:=h.par y d c;cases k with
  |zero=>grind
  |succ k=>exact a v b y d x i e f (p0m.ind h P h0 a k v oG b)
def p0m.induct{g:B0}{p:Int}{t:Int->List Int}(h:p0m g p t){P:Int->Prop}(h0:P p)(a:∀ v∈M3 g p,∀ y∈M3 g p,∀ x,x∈Y5 g.1.toNat 1->S0 g v x=y->t y=t v ++ [x]->P v->P y){y:Int}(b:y∈M3 g p):P y:=h.ind P h0 a _ y (Nat.le_refl _) b
theorem c0p{g:B0}{v x y:Int}(h:S0 g v x=y)(h0:0<=y):rdw g v [x]=some y:=by simp_all[rdw,iE]
def p0m.rd{g:B0}(hf:H0 g){p:Int}(d:0<=p/\p<g.2.1){t:Int->List Int}(h:p0m g p t){y:Int}(a:y∈M3 g p):rdw g p (t y)=some y:=by
 refine h.induct (P:=λy=>rdw g p (t y)=some y) ?_ (λv f y a x i b c e=>?_) a;·rw[h.z];rfl
 rw[c,n01,e,oB];exact c0p b ((l03 hf d).2 y a).1
def p0m.let{g:B0}{p:Int}{t:Int->List Int}(h:p0m g p t){y:Int}(a:y∈M3 g p):∀ x∈t y,x∈Y5 g.1.toNat 1:=by
 refine h.induct (P:=λy=>∀ x∈t y,x∈Y5 g.1.toNat 1) ?_ (λv d y a x e b c f=>?_) a;·rw[h.z];grind
 grind
def T0i(w:List Int):Int:=w.getLastD 0
def i0e(a:List Int)(x:Int):T0i (a ++ [x])=x:=by unfold T0i;simp
def tE(g:B0)(v:Int):Q0:=stp (S0 g v (-(T0i (tw g 0 v)))) (T0i (tw g 0 v)) v
def W02(g:B0):List Q0:=H4 X0 [] ((M3 g 0).tail.map (tE g))
def i0l{g:B0}(hf:H0 g){p:Int}(a:0<=p/\p<g.2.1){v:Int}(d:0<=v/\v<g.2.1):gi (H0b g p) v=some (tw g p v):=by have h:=h0e hf a;have c:=h.ok.len;have b:v.toNat<(y07 g p).1.length:=oM;have:=E2 (xs:=H0b g p) (k:=v.toNat) (x:=tw g p v) (by unfold H0b tw L9;grind);rwa [show((v.toNat:Nat):Int)=v by omega]at this
def j0l{g:B0}(hf:H0 g){v:Int}:v∈(M3 g 0).tail↔v∈M3 g 0/\v≠0:=by obtain⟨b,c,d,f⟩:=P0 hf;obtain⟨t,e⟩:=T0g g 0;have a:=(l03 hf (p:=0) ⟨oM,oM⟩).1;grind
def z0u{g:B0}(hf:H0 g):∀(d k fuel:Nat) (acc:List Q0),k+d=(M3 g 0).tail.length->d<fuel->acc.length<=k -> D8 (M3 g 0).tail (H0b g 0) g.1 g.2.1 g.2.2 fuel (k:Int) acc=some (acc++((M3 g 0).tail.drop k).map (tE g))
 |d,k,0,acc,j,q,i=>oM
 |0,k,fuel+1,acc,j,q,i=>by simp_all[D8.eq_2,iE,dE,J1]
 |d+1,k,fuel+1,acc,j,E,i=>by
  obtain⟨A,L,C,M⟩:=P0 hf;have e:(0:Int)<=0/\(0:Int)<g.2.1:=⟨oM,oM⟩;have h:=N01 hf e;have c:=l03 hf e;have F:=I9 _ _ c.1 c.2;have m:k<(M3 g 0).tail.length:=oM;have I:(M3 g 0).tail.length<=40:=oG;have b:=V3 m;have n:=mG b;have l:=L1 b;generalize (M3 g 0).tail[k]=v at b n l;obtain⟨o,w⟩:=(j0l hf).1 n;have y:=c.2 v o;obtain⟨u,J,x,z,D,f⟩:=h.par v o w;have a:=C05 oM z;have G:(tw g 0 v).length=(tw g 0 u).length+1:=by rw[f];simp
  have H:=h.len u;have p:gi (tw g 0 v) (i64.wrap (((tw g 0 v).length:Nat)-1))=some x:=by rw[w64 oM oM,show(((tw g 0 v).length:Nat):Int)-1=(((tw g 0 u).length:Nat):Int) by omega];simp_all[E2,List.getElem?_append_right,Nat.le_refl]
  have t:tE g v=stp (S0 g v (-x)) x v:=by unfold tE;rw[f,i0e]
  have s:C3 (-x):=⟨⟨by have:=a.2.2;omega,by have:=a.2.2;omega⟩,by have:=a.2.2;omega⟩;have K:=z0u hf d (k+1) fuel (acc ++ [tE g v]) oM oM (by simp;omega);rw[D8.eq_2,iP oG,E2 b,oB,i0l hf e ⟨y.1,oM⟩,oB,p,oB,X0b a.1.1 a.1.2,show(g.1,g.2.1,g.2.2)=g from rfl,a05 g v (-x) s oM,oB,F0 (V02 A C.2 v _),oB,V0o _ x v a.1,oB,←t,G2 m oM,l,List.map_cons];grind[tE,F0]
def i0r{g:B0}(hf:H0 g):T03 g=some (W02 g):=by
 obtain⟨j,l,m,n⟩:=P0 hf;have b:(0:Int)<=0/\(0:Int)<g.2.1:=⟨oM,oM⟩;have a:=l03 hf b;have h:=I9 _ _ a.1 a.2;have e:=h0l hf b;obtain⟨t,c⟩:=T0g g 0;have f:U07 (M3 g 0) 1 (((M3 g 0).length:Nat):Int)=some (M3 g 0).tail:=by have:=n04 (xs:=M3 g 0) (k:=1) (by rw[c];simp);rw[show((1:Nat):Int)=1 from rfl]at this;rw[this,List.drop_one]
 have d:=z0u hf (M3 g 0).tail.length 0 U0 [] oM (F1 oG) oS;rw[show((0:Nat):Int)=0 from rfl,(dZ),(nA)]at d;have i:=P0c ((M3 g 0).tail.map (tE g)) oG;grind[W02,T03]
theorem T0a{g:B0}(hf:H0 g){e:Q0}:e∈W02 g↔∃ z∈M3 g 0,∃ q∈M3 g 0,∃ l,l∈Y5 g.1.toNat 1/\S0 g q l=z/\tw g 0 z=tw g 0 q ++ [l]/\e=stp q l z:=by
 obtain⟨p,s,t,u⟩:=P0 hf;have m:(0:Int)<=0/\(0:Int)<g.2.1:=⟨oM,oM⟩;have j:=N01 hf m;have i:=l03 hf m;unfold W02;rw[O4 Q3,List.mem_map];constructor
 ·rintro(h|⟨z,d,rfl⟩);·cases h
  obtain⟨f,o⟩:=(j0l hf).1 d;obtain⟨q,n,l,k,b,a⟩:=j.par z f o;refine⟨z,f,q,n,l,k,b,a,?_⟩;unfold tE;rw[a,i0e,I00 hf b (i.2 z f).1]
 rintro⟨z,d,q,n,l,k,b,a,rfl⟩;refine .inr ⟨z,(j0l hf).2 ⟨d,λc=>?_⟩,?_⟩;·rw[c,j.z]at a;simp at a
 unfold tE;rw[a,i0e,I00 hf b (i.2 z d).1]
def C4(g:B0):List Q0:=g.2.2.filter λe => !decide (e∈W02 g)
def u0n{g:B0}(hf:H0 g):(W02 g).length<=40:=by obtain⟨c,d,e,f⟩:=P0 hf;have a:=l03 hf (p:=0) ⟨oM,oM⟩;have b:=I9 _ _ a.1 a.2;unfold W02;have:=r02 ((M3 g 0).tail.map (tE g)) [];grind
def A0u(a:List Q0)(p:a.length<=1000)(es:List Q0)(s:es.length<=1000):∀(d k fuel:Nat) (acc:List Q0),k+d=es.length->d<fuel->acc.length<=k -> F6 es a fuel (k:Int) acc=some (acc++(es.drop k).filter λe => !decide (e∈a))
 |d,k,0,acc,l,q,j=>oM
 |0,k,fuel+1,acc,l,q,j=>by simp_all[F6.eq_2,iE,dE,J1]
 |d+1,k,fuel+1,acc,l,t,j=>by
  have n:k<es.length:=oM;have b:=V3 n;have m:=L1 b;generalize es[k]=e at b m;have u:=λo h=>A0u a p es s d (k+1) fuel o oM oM h;obtain⟨f,g,i⟩:=e;rw[F6.eq_2,iP oG,E2 b,oB];simp only[L0s a (f,g,i) oM,oB,G2 n (show es.length<=9223372036854775807 by omega),m,List.filter_cons];by_cases c:(f,g,i)∈a;·grind
  simp only[dF c,bF,if_true];grind[F0]
def B0u{g:B0}(hf:H0 g):M01 g=some (C4 g):=by obtain⟨i,j,k,l⟩:=P0 hf;have e:=v00 g oM;have f:=i0r hf;have h:=u0n hf;have d:=A0u (W02 g) oM g.2.2 oM g.2.2.length 0 U0 [] oM (F1 oM) oS;rw[show((0:Nat):Int)=0 from rfl,(dZ),(nA)]at d;unfold C4;obtain⟨a,b,c⟩:=g;simp only at *;unfold M01;simp only[e,hf,oB,f,bT,fT,if_false,d]
theorem U03{g:B0}{e:Q0}:e∈C4 g↔e∈g.2.2/\e ∉ W02 g:=by grind[C4]
def bw(g:B0)(e:Q0):List Int:=tw g 0 e.1 ++ [e.2.1]++inv (tw g 0 e.2.2)
def U6(g:B0):List (List Int):=(C4 g).map λe=>(Z8 [] (bw g e)).reverse
theorem H0A{g:B0}(hf:H0 g=true)(e:Q0):(bw g e).length<=81:=by
 obtain⟨d,f,h,i⟩:=P0 hf
 have a:=N01 hf (p:=0) ⟨by omega,by omega⟩
 have b:=a.len e.1
 have c:=a.len e.2.2
 grind[bw,List.length_append,J07,List.length_singleton]
def C0u{g:B0}(hf:H0 g)(es:List Q0)(m:∀ e∈es,e∈g.2.2)(v:es.length<=1000):∀(d k fuel:Nat) (acc:List (List Int)),k+d=es.length->d<fuel->acc.length<=k -> g00 es (H0b g 0) fuel (k:Int) acc=some (acc++(es.drop k).map λe=>(Z8 [] (bw g e)).reverse)
 |d,k,0,acc,j,u,i=>oM
 |0,k,fuel+1,acc,j,u,i=>by simp_all[g00.eq_2,iE,dE,J1]
 |d+1,k,fuel+1,acc,j,C,i=>by
  obtain⟨x,D,E,F⟩:=P0 hf;have b:(0:Int)<=0/\(0:Int)<g.2.1:=⟨oM,oM⟩;have f:=N01 hf b;have o:k<es.length:=oM;have a:=V3 o;have n:=m _ (mG a);have l:=L1 a;generalize es[k]=e at a l n;have c:=x e n;have s:=f.len e.1;have t:=f.len e.2.2;have w:=λq h=>C0u hf es m v d (k+1) fuel q oM oM h;have p:u00 [tw g 0 e.1,[e.2.1],inv (tw g 0 e.2.2)]=some (Z8 [] (bw g e)).reverse:=by rw[L07 _ oS (by simp only[b0p,J07,lS];omega)];grind[bw,O0v,K0a]
  obtain⟨y,z,A⟩:=e;rw[g00.eq_2,iP oG,E2 a,oB];simp only at c p s t ⊢;rw[i0l hf b c.1,oB,oB,i0l hf b c.2.1,oB,u07 _ oM,oB,oB,p,oB,oB,F0 (by simp;omega),oB,G2 o (show es.length<=9223372036854775807 by omega),w _ (by simp;omega),l];simp
def d0z{g:B0}(f:D1 g):h05 g=some (U6 g):=by have hf:=V1 f;obtain⟨m,n,o,q⟩:=P0 hf;have h:=l01 g oM;have i:=B0u hf;have j:=h0l hf (p:=0) ⟨oM,oM⟩;have l:(C4 g).length<=g.2.2.length:=List.length_filter_le _ _;have d:=C0u hf (C4 g) (λe k=>(U03.1 k).1) oM (C4 g).length 0 U0 [] oM (F1 oM) oS;rw[show((0:Nat):Int)=0 from rfl,(dZ),(nA)]at d;unfold U6;obtain⟨a,b,c⟩:=g;simp only at *;unfold h05;simp only[h,f,oB,i,j,bT,fT,if_false,d]
theorem I0b:∀(c t:List Int),Red (c++t)↔Red c/\Red t/\∀ a b,c.getLast?=some a->t.head?=some b->N05 b a=false
 | [],t=>by simp[Red]
 | [a],[]=>by simp[Red]
 | [a],b::t=>by
  show(!N05 b a&&Red (b::t))↔_;simp only[aE,Bool.not_eq_true'];constructor;·rintro⟨g,d⟩;refine⟨rfl,d,λe f h i=>?_⟩;grind
  grind
 |x::y::c,t=>by have j:=I0b (y::c) t;show(!N05 y x&&Red (y::c++t))↔(!N05 y x&&Red (y::c))/\_;grind
theorem i05{x:Int}(h:C3 x):ng x = -x:=X0b h.1 h.2
theorem s04{x:Int}(h:C3 x):C3 (-x):=⟨⟨by have:=h.1.2;have:=h.2;omega,by have:=h.1.1;have:=h.2;omega⟩,by have:=h.1.2;omega⟩
theorem j05{l x:Int}(a:C3 l)(h0:l≠0):N05 l x↔x = -l:=by
 unfold N05;rw[i05 a];simp only[aE,Bool.not_eq_true',beq_eq_false_iff_ne,beq_iff_eq,ne_eq];constructor;·exact λh=>h.2
 exact λh=>⟨⟨h0,a.2⟩,h⟩
theorem e0z{x y:Int}(a:C3 x)(c:x≠0)(b:C3 y)(d:y≠0):N05 (ng y) (ng x)=N05 x y:=by rw[Bool.eq_iff_iff,i05 a,i05 b,j05 (s04 b) oM,j05 a c];omega
def d0p(w:List Int):(inv w).reverse=w.map ng:=by simp[inv]
def e0p:∀(w:List Int),(∀ x∈w,C3 x/\x≠0)->Red w.reverse->Red (w.map ng)
 | [],_,_=>rfl
 | [x],_,_=>rfl
 |x::y::w,a,h=>by rw[List.reverse_cons,I0b]at h;have c:=e0p (y::w) (λz b=>a z (mC _ b)) h.1;grind[N05,ng,Red,List.map,e0z]
theorem U0g{w:List Int}(a:∀ x∈w,C3 x):inv (inv w)=w:=by unfold inv;rw[List.map_reverse,List.reverse_reverse,List.map_map];refine(List.map_congr_left λx b=>?_).trans (List.map_id w);grind[ng,i05,s04]
def j0r(x:Int)(w:List Int):inv (x::w)=inv w ++ [ng x]:=by simp[inv]
theorem H0j{w:List Int}(b:∀ x∈w,C3 x):∀ x∈inv w,C3 x:=λx a=>by simp only[inv,List.mem_reverse,List.mem_map]at a;obtain⟨y,c,rfl⟩:=a;simp_all[i05,s04]
theorem v0n{s:List Int}{x y:Int}(h:y∈j8 s x):y∈s∨y=x:=by
 cases s with
 |nil=>grind[j8]
 |cons l t =>grind[j8,N05,mC]
def V0g:∀(w s:List Int) {y:Int},y∈Z8 s w->y∈s∨y∈w
 | [],s,y,h => .inl h
 |x::w,s,y,h=>by rcases V0g w (j8 s x) h with h|h;all_goals grind[v0n,List.mem_cons_self,mC]
def z07{g:B0}(a:inG g):∀(w:List Int) (v u:Int),(0<=v/\v<g.2.1)->rdw g v w=some u->0<=u/\u<g.2.1
 | [],v,u,b,h=>by grind[rdw,Option.some.injEq]
 |x::w,v,u,b,h=>by
  unfold rdw at h;by_cases c:S0 g v x<0;·grind
  rw[iE c]at h;refine z07 a w _ u ?_ h;rcases B03 a v x with e|e<;>omega
def E08{g:B0}(hf:H0 g):∀(w:List Int) (v u:Int),(∀ x∈w,C3 x)->0<=v->rdw g v w=some u->rdw g u (inv w)=some v
 | [],v,u,a,b,h=>by simp only[rdw,Option.some.injEq]at h;rw[←h];rfl
 |x::w,v,u,a,b,h=>by
  unfold rdw at h;by_cases c:S0 g v x<0;·grind
  rw[iE c]at h;have e:=E08 hf w _ u (λy d=>a y (mC _ d)) oM h;rw[j0r,n01,e,oB,i05 (a x mS)];grind[c0p,I00]
theorem R0s{v:Int}{e:Q0}(h:g08 v e≠0):e.1=v∨e.2.2=v:=by unfold g08 at h;grind
theorem w0n{v:Int}:∀ {es:List Q0},(∀ e∈es,g08 v e=0)->Z02 v es=0
 | [],h=>rfl
 |e::l,h=>by show g08 v e+Z02 v l=0;rw[h e mS,w0n λd a=>h d (mC _ a)]
def k0r{v:Int}:∀ {es:List Q0},(∀ e∈es,g08 v e<=1)->es.Pairwise (λa b=>g08 v a=0∨g08 v b=0)->Z02 v es<=1
 | [],h,c=>Nat.zero_le _
 |e::l,h,c=>by show g08 v e+Z02 v l<=1;have i:=h e mS;obtain⟨j,g⟩:=List.pairwise_cons.1 c;have k:=k0r (λd f=>h d (mC _ f)) g;grind[g08,w0n,absurd]
def D9{g:B0}(hf:H0 g){e:Q0}(a:e∈g.2.2):S0 g e.1 e.2.1=e.2.2/\S0 g e.2.2 (-e.2.1)=e.1:=by have b:=(P0 hf).1 e a;exact⟨K07 hf (U2.2 ⟨e,a,.inl ⟨oM,rfl,rfl,rfl⟩⟩),K07 hf (U2.2 ⟨e,a,.inr ⟨oM,oM,rfl,rfl⟩⟩)⟩
theorem S0s{g:B0}(hf:H0 g=true){v:Int}(hd:2<=Z02 v g.2.2)(z:Int):∃ x,x≠z/\0<=S0 g v x:=by
 refine Classical.byContradiction λhno=>?_
 have hall:∀ x,0<=S0 g v x->x=z:=λx h0=>Classical.byContradiction λh=>hno ⟨x,h,h0⟩
 obtain⟨q1,q2,q3,q4⟩:=P0 hf
 have h1:∀ e∈g.2.2,e.1=v->e.2.1=z:=λe he h=>by
  have:=(D9 hf he).1
  rw[h]at this
  exact hall _ (by rw[this];exact(q1 e he).2.1.1)
 have h2:∀ e∈g.2.2,e.2.2=v -> -e.2.1=z:=λe he h=>by
  have:=(D9 hf he).2
  rw[h]at this
  exact hall _ (by rw[this];exact(q1 e he).1.1)
 have hp:g.2.2.Pairwise λa b=>F06 a b=false:=by
  unfold H0 at hf
  simp only[Bool.and_eq_true]at hf
  exact(Y0d _).1 hf.2
 have:=k0r (v:=v) (es:=g.2.2) (λe he=>by
  have hq:=q1 e he
  unfold g08
  grind) (List.Pairwise.imp_of_mem (λ{a b} ha hb hab=>by
  have qa:=q1 a ha
  have qb:=q1 b hb
  unfold F06 at hab
  grind[Bool.and_eq_false_iff,Bool.or_eq_false_iff,decide_eq_false_iff_not,g08,R0s]) hp)
 omega
def r09{g:B0}(h:D1 g){v:Int}(h0:0<=v)(a:v<g.2.1):v∈M3 g 0:=S0a (V1 h) (s0n h) h0 a
def y0x{g:B0}(h:D1 g){v:Int}(h0:0<v)(a:v<g.2.1):2<=Z02 v g.2.2:=by have:=F0b (s0n h) v.toNat oM oM;grind[N0a,Bool.or_eq_false_iff,decide_eq_false_iff_not]
theorem D05{u x v a c b:Int}(h:stp u x v=stp a c b):(u=a/\x=c/\v=b)∨(x = -c/\u=b/\v=a):=by unfold stp at h;split at h<;>split at h<;>simp only[Prod.mk.injEq]at h<;>omega
theorem d03{g:B0}{v x:Int}(h0:0<=S0 g v x):x≠0/\∃ e∈g.2.2,e=stp v x (S0 g v x)/\((0<x/\e.2.1=x/\e.1=v/\e.2.2=S0 g v x)∨(x<0/\e.2.1 = -x/\e.2.2=v/\e.1=S0 g v x)):=by
 rcases r04 g v x with⟨e,_⟩|e;·omega
 obtain⟨d,i,h⟩:=U2.1 e;obtain⟨d0,j,k⟩:=d;simp only at h;rcases h with⟨a,b,c,f⟩|⟨a,b,c,f⟩;·refine⟨oM,_,i,?_,.inl ⟨a,b,c,f.symm⟩⟩;unfold stp;rw[iE oM,←b,←c,b,c,←f]
 refine⟨oM,_,i,?_,.inr ⟨a,b,c,f.symm⟩⟩;unfold stp;rw[iP a,←f,b,c]
def z0x{g:B0}(a:D1 g):∀(k:Nat) (v:Int),0<v->v<g.2.1->41<=(tw g 0 v).length+k->∃ u r,tw g 0 u=tw g 0 v++r/\∃ e∈C4 g,e.1=u∨e.2.2=u
 |0,v,h0,b,o=>by have hf:=V1 a;obtain⟨w,y,A,C⟩:=P0 hf;have:=(N01 hf (p:=0) ⟨oM,oM⟩).len v;omega
 |k+1,v,h0,b,o=>by
  have hf:=V1 a;obtain⟨w,y,A,C⟩:=P0 hf;have i:=N01 hf (p:=0) ⟨oM,oM⟩;obtain⟨p,K,x,N,D,E⟩:=i.par v (r09 a oM b) oM;obtain⟨R,J,s⟩:=S0s hf (y0x a h0 b) (-x);obtain⟨O,d,m,n,G⟩:=d03 s;by_cases ht:d∈W02 g
  ·obtain⟨z,t,q,L,l,I,F,f2,f3⟩:=(T0a hf).1 ht;rw[n]at f3;rcases D05 f3 with⟨f,h,j⟩|⟨f,h,j⟩
   ·have Q:=(l03 hf (p:=0) ⟨oM,oM⟩).2 z t;rw[←f,←h]at f2;have P:z≠0:=λc=>by rw[c,i.z]at f2;simp at f2
    obtain⟨u,r,M,H⟩:=z0x a k z oM oM (by rw[f2];simp;omega);grind
   simp_all
  refine⟨v,[],oS,d,U03.2 ⟨m,ht⟩,?_⟩;grind
theorem A07{g:B0}(a:D1 g){v:Int}(h0:0<=v)(b:v<g.2.1):∀ x∈tw g 0 v,C3 x/\x≠0:=λx d=>by have hf:=V1 a;obtain⟨e,f,h,i⟩:=P0 hf;have c:=N01 hf (p:=0) ⟨oM,oM⟩;have:=C05 oM (c.let (r09 a h0 b) x d);grind
theorem I0A{g:B0}(j:D1 g){e:Q0}(v:e∈C4 g):Red (bw g e).reverse:=by
 have hf:=V1 j;obtain⟨A,H,I,J⟩:=P0 hf;obtain⟨s,C⟩:=U03.1 v;have i:=N01 hf (p:=0) ⟨oM,oM⟩;have h:=A e s;obtain⟨F,G⟩:=D9 hf s;have t:=r09 j h.1.1 h.1.2;have u:=r09 j h.2.1.1 h.2.1.2;have y:C3 e.2.1:=⟨⟨oM,oM⟩,oM⟩;have D:stp e.1 e.2.1 e.2.2=e:=by unfold stp;rw[iE oM]
 have E:stp e.2.2 (-e.2.1) e.1=e:=by unfold stp;rw[iP oM,Int.neg_neg]
 unfold bw;rw[List.reverse_append,List.reverse_append,d0p,List.reverse_singleton,I0b,I0b];refine⟨e0p _ (A07 j h.2.1.1 h.2.1.2) (i.red _ u),⟨rfl,i.red _ t,λa b f d=>?_⟩,λa b f d=>?_⟩
 ·simp only[List.getLast?_singleton,Option.some.injEq]at f;subst f;cases hcc:N05 b e.2.1;·rfl
  exfalso;have n:e.1≠0:=λc=>by rw[c,i.z]at d;simp at d
  obtain⟨q,w,l,k,o,f2⟩:=i.par _ t n;rw[f2,List.reverse_append]at d;simp at d;subst d;have m:=C05 oM k;have x:=(j05 m.1 m.2.1).1 hcc;have d:=I00 hf o h.1.1;grind[T0a]
 simp only[List.cons_append,nA,List.head?_cons,Option.some.injEq]at d;subst d;cases hcc:N05 e.2.1 a;·rfl
 exfalso;have n:e.2.2≠0:=λc=>by rw[c,i.z]at f;simp at f
 obtain⟨q,w,l,k,o,f2⟩:=i.par _ u n;rw[f2,List.map_append]at f;simp at f;have m:=C05 oM k;have x:=(j05 y oM).1 hcc;grind[i05,I00,T0a]
def P0v{g:B0}(b:D1 g){e:Q0}(c:e∈g.2.2):∀ x∈bw g e,C3 x:=λx a=>by
 obtain⟨d,h,i,j⟩:=P0 (V1 b);have f:=d e c;unfold bw at a;rcases List.mem_append.1 a with a|a
 ·rcases List.mem_append.1 a with a|a;·grind[A07]
  simp at a;subst a;exact⟨⟨oM,oM⟩,oM⟩
 grind[H0j,A07]
theorem J0b{g:B0}(a:D1 g){e:Q0}(b:e∈C4 g):(Z8 [] (Z8 [] (bw g e)).reverse).reverse=bw g e/\(Z8 [] (bw g e)).reverse=bw g e:=by grind[Q0h,I0A,List.reverse_reverse,Z8,bw]
def j0a(b:B0)(ws:List (List Int)):Bool:=D1 b&&ws.all λw=>S4 b (Z8 [] w).reverse
def T0s{a b:B0}(g:D1 a)(q:D1 b){e:Q0}(l:e∈C4 a)(h:S4 b (Z8 [] (Z8 [] (bw a e)).reverse).reverse):∃ d f,rdw b 0 (tw a 0 e.1)=some d/\S0 b d e.2.1=f/\0<=f/\rdw b 0 (tw a 0 e.2.2)=some f:=by
 have j:=V1 q;obtain⟨t,y,z,A⟩:=P0 (V1 g);obtain⟨p,u,v,w⟩:=P0 j;have n:=t e (U03.1 l).1;rw[(J0b g l).1,f00]at h;unfold bw at h;rw[n01,n01]at h;cases e1:rdw b 0 (tw a 0 e.1)with
 |none=>rw[e1]at h;cases h
 |some d =>
  rw[e1,oB]at h;cases e2:rdw b d [e.2.1]with
  |none=>rw[e2]at h;cases h
  |some f =>rw[e2,oB]at h;have s:=z07 p _ _ _ ⟨oM,oM⟩ e1;have o:=z07 p _ _ _ s e2;have m:=A07 g n.2.1.1 n.2.1.2;have k:=E08 j _ _ _ (H0j λx i=>(m x i).1) o.1 h;rw[U0g λx i=>(m x i).1]at k;refine⟨d,f,rfl,?_,o.1,k⟩;unfold rdw at e2;by_cases c:S0 b d e.2.1<0;all_goals simp_all[iP,iE,rdw,Option.some.injEq]
def Q0v{a b:B0}(n:D1 a)(D:D1 b)(h:∀ e∈C4 a,S4 b (Z8 [] (Z8 [] (bw a e)).reverse).reverse):∃ f,Mor a b f:=by
 have j:=V1 n;have o:=V1 D;obtain⟨N,al,am,an⟩:=P0 j;obtain⟨Y,ai,aj,ak⟩:=P0 o;have F:=N01 j (p:=0) ⟨oM,oM⟩;have H:∀ e∈C4 a,∃ m k,rdw b 0 (tw a 0 e.1)=some m/\S0 b m e.2.1=k/\0<=k/\rdw b 0 (tw a 0 e.2.2)=some k:=λe i=>T0s n D i (h e i);have ag:∀ v,0<=v->v<a.2.1->∃ y,rdw b 0 (tw a 0 v)=some y:=λv h0 g=>by
  by_cases c:v=0;·rw[c,F.z];exact⟨0,rfl⟩
  obtain⟨u,r,U,e,i,ae⟩:=z0x n 41 v oM g oM;obtain⟨m,k,Z,aa,r3,ab⟩:=H e i;have:∃ y,rdw b 0 (tw a 0 u)=some y:=by grind
  obtain⟨y,C⟩:=this;rw[U,n01]at C;cases e1:rdw b 0 (tw a 0 v)with
  |none=>rw[e1]at C;cases C
  |some z=>exact⟨z,rfl⟩
 let f:Int->Int:=λv=>(rdw b 0 (tw a 0 v)).getD 0
 have hf:∀ v,0<=v->v<a.2.1->rdw b 0 (tw a 0 v)=some (f v):=λv h0 g=>by grind
 have A:∀ v,0<=v->v<a.2.1->0<=f v/\f v<b.2.1:=λv h0 g=>z07 Y _ _ _ ⟨oM,oM⟩ (hf v h0 g);have P:∀ e∈a.2.2,S0 b (f e.1) e.2.1=f e.2.2:=λe i=>by
  have Q:=N e i;by_cases ht:e∈W02 a
  ·obtain⟨z,W,q,R,l,af,ac,f2,f3⟩:=(T0a j).1 ht;have J:=(l03 j (p:=0) ⟨oM,oM⟩).2 z W;have S:=(l03 j (p:=0) ⟨oM,oM⟩).2 q R;have I:S0 b (f q) l=f z:=by
    have g:=hf z J.1 oM;rw[f2,n01,hf q S.1 oM,oB]at g;unfold rdw at g;by_cases c:S0 b (f q) l<0;·grind
    rw[iE c]at g;simpa only[rdw,Option.some.injEq] using g
   have T:stp e.1 e.2.1 e.2.2=e:=by unfold stp;rw[iE oM]
   rw[←T]at f3;rcases D05 f3 with⟨s,t,w⟩|⟨s,t,w⟩;·rw[s,t,w];exact I
   rw[s,t,w];exact I00 o I (A z J.1 oM).1
  obtain⟨m,k,Z,aa,r3,ab⟩:=H e (U03.2 ⟨i,ht⟩);grind
 refine⟨f,?_,A,λv x h0 g V=>?_⟩;·show(rdw b 0 (tw a 0 0)).getD 0=0;rw[F.z];rfl
 obtain⟨ah,d,G,ad,O⟩:=d03 V;have Q:=N d G;have E:=P d G;rcases O with⟨X,K,L,M⟩|⟨X,K,L,M⟩;·grind
 rw[K,L,M]at E;have:=I00 o E (A v h0 g).1;rwa [Int.neg_neg]at this
theorem x0n{a b:B0}(g:D1 a){f:Int->Int}(m:Mor a b f){e:Q0}(i:e∈C4 a):S4 b (Z8 [] (Z8 [] (bw a e)).reverse).reverse:=by have c:=V1 g;obtain⟨l,n,o,q⟩:=P0 c;have h:=N01 c (p:=0) ⟨oM,oM⟩;have j:=(U03.1 i).1;have d:=l e j;rw[(J0b g i).1];refine m.loop c ?_;rw[f00];unfold bw;rw[n01,n01,h.rd c ⟨oM,oM⟩ (r09 g d.1.1 d.1.2),oB,c0p (D9 c j).1 d.2.1.1,oB];exact E08 c _ _ _ (λx k=>(A07 g d.2.1.1 d.2.1.2 x k).1) (iR 0) (h.rd c ⟨oM,oM⟩ (r09 g d.2.1.1 d.2.1.2))
def y0n(g:B0):∀ d k,(N09 g d k).length<=d*(Y5 g.1.toNat 1).length
 |0,k=>Nat.zero_le _
 |d+1,k=>by have a:=c0e g (k:Int) (Y5 g.1.toNat 1);have b:=y0n g d (k+1);rw[N09,(lA),Nat.succ_mul];omega
def U0i{g:B0}(hf:H0 g):(L01 g).length<=1000:=by obtain⟨b,c,d,e⟩:=P0 hf;have h:=y0n g g.2.1.toNat 0;rw[M03]at h;unfold L01;have a:g.2.1.toNat*(2*g.1.toNat)<=40*(2*3):=Nat.mul_le_mul oM oM;omega
def t04(g:B0):Bool:=D1 g&&decide ((L01 g).length=0)
def n0B(n:Nat):decide (((n:Nat):Int)=0)=decide (n=0):=by grind
def y02{g:B0}(h:D1 g):H0 g:=by simp_all[D1,aE]
def l0r(g:B0)(i:g.2.2.length<=140737488355328):y01 g=some (t04 g):=by
 have d:=D0b g i;have f:D1 g->G00 g=some (L01 g):=λc=>n0m (y02 c);have h:D1 g->(L01 g).length<=1000:=λc=>U0i (y02 c);unfold t04;obtain⟨a,b,c⟩:=g;unfold y01 Z2;simp only[d,oB];cases e:D1 (a,b,c);·rfl
 have:=h e;simp only[G1,f e,oB,cT,Bool.true_and];rw[F0 oM,oB,n0B]
def m0r(g:B0)(i:g.2.2.length<=140737488355328):z01 g=some (t04 g):=by
 have d:=l01 g i;have f:D1 g->H00 g=some (L01 g):=λc=>o0m (y02 c);have h:D1 g->(L01 g).length<=1000:=λc=>U0i (y02 c);unfold t04;obtain⟨a,b,c⟩:=g;unfold z01;simp only[d,oB];cases e:D1 (a,b,c);·rfl
 have:=h e;simp only[G1,f e,oB,cT,Bool.true_and];rw[F0 oM,oB,n0B]
def n0r{g:B0}(h:t04 g):D1 g:=by simp_all[t04,aE]
def s08(g:B0)(v:Int):List Int:=v::wo v.toNat g.2.1.toNat 0
def o6(g:B0)(v:Int):B0:=S03 (A6 g (s08 g v))
theorem A0x(g:Nat):∀(d k:Nat),(g:Int) ∉ wo g d k
 |0,k,h=>nomatch h
 |d+1,k,h=>by
  unfold wo at h;split at h;·exact A0x g d (k+1) h
  rcases mE.1 h with h|h;·omega
  exact A0x g d (k+1) h
def Y0h(g:Nat):∀(d k a:Nat),k<=a->a<k+d->a≠g->(a:Int)∈wo g d k
 |0,k,a,e,f,b=>oM
 |d+1,k,a,e,f,b=>by
  unfold wo;split;·exact Y0h g d (k+1) a oM oM b
  by_cases c:a=k;·grind
  exact mC _ (Y0h g d (k+1) a oM oM b)
theorem Y0c{g:B0}(hf:H0 g){v:Int}(b:0<=v/\v<g.2.1):inV g.2.1.toNat (s08 g v)/\(s08 g v).Nodup/\(s08 g v).length=g.2.1.toNat:=by
 obtain⟨c,d,e,f⟩:=P0 hf;refine⟨λx a=>?_,?_,?_⟩
 ·rcases mE.1 a with rfl|a;·omega
  exact J0q _ _ _ _ oM x a
 ·refine List.nodup_cons.2 ⟨λh=>?_,T06 _ _ _⟩;grind[A0x]
 unfold s08;rw[(lC),V0k,iP oM];omega
def Z0h{g:B0}(hf:H0 g){v:Int}(a:0<=v/\v<g.2.1):H0 (A6 g (s08 g v)):=by obtain⟨b,c,d,e⟩:=P0 hf;grind[Y0c,f05]
def U0a{g:B0}(hf:H0 g){v:Int}(a:0<=v/\v<g.2.1):D1 (o6 g v):=f0e (Z0h hf a)
def B0x(n:Nat)(v:Int)(h0:0<=v)(i:n<=1000):∀(d k fuel:Nat) (acc:List Int),k+d=n->d<fuel->acc.length<=k+1 -> P5 (n:Int) v fuel (k:Int) acc=some (acc++wo v.toNat d k)
 |d,k,0,acc,b,hf,a=>oM
 |0,k,fuel+1,acc,b,hf,a=>by simp_all[P5.eq_2,iE,dE,wo]
 |d+1,k,fuel+1,acc,b,hf,a=>by
  have f:=λg h=>B0x n v h0 i d (k+1) fuel g oM oM h;rw[P5.eq_2,iP oG,G2 (show k<10000 by omega) oM];unfold wo;by_cases c:k=v.toNat;·have e:decide ((k:Int)=v):=dT oM;rw[e,iE oS,iP c,f _ oM]
  have e:decide ((k:Int)=v)=false:=dF oM;rw[e,iP (show(!false)=true from rfl),iE c,F0 (by simp;omega),oB,f _ (by simp;omega)];simp
def O0z(n:Nat)(v:Int):∀(fuel:Nat) (k:Int) (acc:List Int),r9 (n:Int) v fuel k acc=P5 (n:Int) v fuel k acc
 |0,k,acc=>rfl
 |fuel+1,k,acc=>by rw[r9.eq_2,P5.eq_2];simp only[O0z n v fuel]
def U0s{g:B0}(hf:H0 g){v:Int}(e:0<=v/\v<g.2.1):M9 g v=some (o6 g v,true):=by obtain⟨p,s,k,t⟩:=P0 hf;obtain⟨i,j,l⟩:=Y0c hf e;have f:=N6 g oM;rw[hf]at f;have d:=B0x g.2.1.toNat v e.1 oM g.2.1.toNat 0 U0 [v] oM (F1 oM) oS;have m:=N0s (Z0h hf e);have h:=w0f g.1 g.2.1.toNat g.2.2 (s08 g v) (by grind[Y1]) i j oM oM;rw[show((0:Nat):Int)=0 from rfl]at d;rw[show((g.2.1.toNat:Nat):Int)=g.2.1 by omega]at d h;rw[show [v]++wo v.toNat g.2.1.toNat 0=s08 g v from rfl]at d;rw[show(g.1,g.2.1,g.2.2)=g from rfl]at h;unfold o6;generalize s08 g v=o at *;generalize n:A6 g o=q at *;obtain⟨a,b,c⟩:=g;obtain⟨u,w,x⟩:=q;simp only at d e k ⊢;unfold M9;simp only[f,oB,bT,bF,G1,H03,zF];rw[w64 oM oM,show inR 0 (b-1) v=true by simp[inR];omega];grind
def V0s{g:B0}(hf:H0 g){v:Int}(f:0<=v/\v<g.2.1):N00 g v=some (o6 g v,true):=by obtain⟨m,w,n,x⟩:=P0 hf;obtain⟨j,p,s⟩:=Y0c hf f;have h:=v00 g oM;rw[hf]at h;have l:=s0x (Y1 hf) f;have d:=B0x g.2.1.toNat v f.1 oM g.2.1.toNat 0 U0 [v] oM (F1 oM) oS;rw[←O0z]at d;have t:=O0s (Z0h hf f);have i:=O0o g.1 g.2.1.toNat g.2.2 (s08 g v) (λe k=>by have:=m e k;omega) j oM oM oM;rw[show((0:Nat):Int)=0 from rfl]at d;rw[show((g.2.1.toNat:Nat):Int)=g.2.1 by omega]at d i;rw[show [v]++wo v.toNat g.2.1.toNat 0=s08 g v from rfl]at d;rw[show(g.1,g.2.1,g.2.2)=g from rfl]at i;unfold o6;generalize s08 g v=o at *;generalize u:A6 g o=q at *;obtain⟨a,b,c⟩:=g;obtain⟨y,z,A⟩:=q;simp only at d f n ⊢;unfold N00;simp only[h,oB,bT,bF,G1,l,zF];grind
theorem V05{g:B0}(h:D1 g):g.2.2.length<=120/\(1<=g.2.1/\g.2.1<=40)/\(1<=g.1/\g.1<=3):=by simp_all[P0,y02]
def isS(o:Option (List Int)):Bool:=o.isSome
def gtD(o:Option (List Int)):List Int:=o.getD []
def giM{b d:Type}{f:b->d}{a:List b}{n:Nat}(h:a.length=n){x:Int}(h0:0<=x)(e:x<(n:Int)){y:b}(c:gi a x=some y):gi (a.map f) x=some (f y):=by obtain⟨_,g⟩:=D0j c;have:=E2 (xs:=a.map f) (k:=x.toNat) (x:=f y) oG;rwa [show((x.toNat:Nat):Int)=x by omega]at this
def C0x{g:B0}(hf:H0 g)(p:Int){n:Nat}(G:g.2.1=(n:Int))(j:List Int)(F:∀ x∈j,x∈Y5 g.1.toNat 1)(N:j.length<=1000000)(i:Nat)(v:Int):∀(d k fuel:Nat) (c:Tr8),TOk g p n c->c.2[i]?=some v->k+d=j.length->d<fuel -> n8 j (i:Int) g.1 g.2.1 g.2.2 fuel (k:Int) (c.1.map isS) (c.1.map gtD) c.2=some ((A0f g v (j.drop k) c).1.map isS,(A0f g v (j.drop k) c).1.map gtD,(A0f g v (j.drop k) c).2)
 |d,k,0,c,m,s,A,hf=>oM
 |0,k,fuel+1,c,m,s,A,hf=>by rw[n8.eq_2,iE oG,J1 oM];rfl
 |d+1,k,fuel+1,c,m,D,A,U=>by
  obtain⟨I,X,S,Y⟩:=P0 hf;have E:k<j.length:=oM;have u:=V3 E;have z:=F _ (mG u);have C:=L1 u;generalize j[k]=x at u z C;have Q:=(C05 oM z).1;have V:=I9 n c.2 m.gd.1 m.gd.2;have W:=B03 I v x;have s:=mG D;have O:=m.add hf G s z;obtain⟨t,T⟩:=G0j g v x c;have R:=C0x hf p G j F N i v d (k+1) fuel (trS g v x c) O oG oM oM;have l:=m.ok;have o:=m.gd.2 v s;have H:=l.short v;obtain⟨a,w⟩:=l.get o.1 o.2 s;have P:gi c.1 v=some (some a):=by rw[giO l.len o.1 o.2,w]
  rw[w]at H;rw[n8.eq_2,iP oG,C,A0f,←R];simp only[E2 D,E2 u,oB,show(g.1,g.2.1,g.2.2)=g from rfl,m04 g v x Q oM,F0 (V02 I S.2 v x),G2 E (show j.length<=9223372036854775807 by omega),giM (f:=gtD) l.len o.1 o.2 P];unfold trS;generalize S0 g v x=y at *;by_cases c1:0<=y
  ·have q:y<(n:Int):=oM;have M:=giM (f:=isS) l.len c1 q (giO l.len c1 q);have L:=giM (f:=gtD) l.len c1 q (giO l.len c1 q);simp only[show decide (y ≥ 0)=true by simpa using c1,G1,M,L,oB,cT];by_cases c2:y∈c.2
   ·have:isS (L9 c.1 y):=by
     have J : ¬ ((L9 c.1 y).isNone):=λh=>(l.iff y c1 q).1 h c2;unfold isS;cases e:L9 c.1 y with
     |none=>grind
     |some b=>rfl
    rw[this,iE oS,iE λh=>h.2 c2]
   have:isS (L9 c.1 y)=false:=by have J:(L9 c.1 y).isNone:=(l.iff y c1 q).2 c2;simp_all[isS,L9]
   have K:gtD (some a)=a:=rfl;simp only[Option.getD_some]at H;rw[this,iP oS,iP ⟨c1,c2⟩,K,F0 oM,oB,F0 (by simp;omega),oB,F0 (by simp;omega),oB,w];simp only[List.map_set,Option.getD_some];rfl
  simp only[show decide (y ≥ 0)=false by simpa using c1,M1,oB,zF];rw[iE oS,iE λh=>c1 h.1]
def D0x{g:B0}(hf:H0 g)(p:Int){n:Nat}(d:g.2.1=(n:Int)):∀(f i fuel:Nat) (a:Tr8),TOk g p n a->i<=a.2.length->n+1<=i+f->f<fuel -> x00 (Y5 g.1.toNat 1) g.1 g.2.1 g.2.2 fuel (i:Int) (a.1.map isS) (a.1.map gtD) a.2=some ((V06 g (Y5 g.1.toNat 1) f i a).1.map isS,(V06 g (Y5 g.1.toNat 1) f i a).1.map gtD,(V06 g (Y5 g.1.toNat 1) f i a).2)
 |f,i,0,a,b,j,h,hf=>oM
 |0,i,fuel+1,a,b,j,h,hf=>by have:=I9 n a.2 b.gd.1 b.gd.2;omega
 |f+1,i,fuel+1,a,b,j,h,l=>by
  obtain⟨q,s,u,w⟩:=P0 hf;have m:=I9 n a.2 b.gd.1 b.gd.2;rw[x00.eq_2,oB,F0 oM,oB];by_cases hk:i<a.2.length;·have c:=V3 hk;generalize a.2[i]=v at c;have k:=mG c;have h0:=C0x hf p d (Y5 g.1.toNat 1) (λx c=>c) (by rw[M03];omega) i v (Y5 g.1.toNat 1).length 0 U0 a b c oM (F1 (by rw[M03];omega));rw[show((0:Nat):Int)=0 from rfl,(dZ)]at h0;obtain⟨t,e⟩:=g0l g v (Y5 g.1.toNat 1) a;have o:=D0x hf p d f (i+1) fuel _ (b.inn hf d _ k λx c=>c) oG oM oM;rw[iP (by simpa using hk),h0,oB];grind[G2,V06]
  simp_all[List.getElem?_eq_none,iE,V06]
def f0p{g:B0}(hf:H0 g){p:Int}(c:0<=p/\p<g.2.1):E04 g p=some ((y07 g p).1.map isS,(y07 g p).1.map gtD):=by
 obtain⟨h,i,j,l⟩:=P0 hf;have a:g.2.1=((g.2.1.toNat:Nat):Int):=oM;have h0:=D0x hf p a (g.2.1.toNat+1) 0 U0 _ (g0e g (N:=g.2.1.toNat) ⟨c.1,oM⟩) oS oM (F1 oM);have b:=Q0o g.1.toNat oM;rw[show((g.1.toNat:Nat):Int)=g.1 by omega]at b;have rep:∀ {d:Type} (z:d),gi (List.replicate g.2.1.toNat z) p=some z:=λz=>by have:=E2 (xs:=List.replicate g.2.1.toNat z) (k:=p.toNat) (x:=z) (by rw[List.getElem?_replicate,iP oM]);rwa [show((p.toNat:Nat):Int)=p by omega]at this
 have e:((List.replicate g.2.1.toNat (none:Option (List Int))).set p.toNat (some [])).map isS=(List.replicate g.2.1.toNat false).set p.toNat true:=by rw[List.map_set,List.map_replicate];rfl
 have f:((List.replicate g.2.1.toNat (none:Option (List Int))).set p.toNat (some [])).map gtD=(List.replicate g.2.1.toNat ([]:List Int)).set p.toNat []:=by rw[List.map_set,List.map_replicate];rfl
 grind[y07,E04,F0]
def g0p(g:B0)(u v:Int):List Int×Bool:=bif H0 g&&(inR 0 (g.2.1-1) u&&inR 0 (g.2.1-1) v)then(match L9 (y07 g u).1 v with
 |some w=>(w,true)
 |none=>([],false))else([],false)
def E0x{n u:Int}(h:inR 0 (n-1) u):0<=u/\u<n:=by simp only[inR,aE,dE]at h;omega
def J0A(g:B0)(a:W0 g)(u:Int):G5 g u=some (inR 0 (g.2.1-1) u):=by obtain⟨b,c,d,e⟩:=P2 a;grind[G5,y04,w64]
def R0v{g:B0}(hf:H0 g){u v:Int}(a:0<=u/\u<g.2.1):(gtD (L9 (y07 g u).1 v)).length<=40:=by obtain⟨b,c,d,e⟩:=P0 hf;have h:=h0e hf a;have:=h.ok.short v;have:=I9 _ _ h.gd.1 h.gd.2;unfold gtD;omega
theorem W0s(g:B0)(o:g.2.2.length<=140737488355328)(u v:Int):O00 g u v=some (g0p g u v):=by
 have i:=N6 g o;unfold g0p;cases hf:H0 g;·obtain⟨a,b,c⟩:=g;unfold O00;simp_all[oB,bF,bT,M1,cT]
 obtain⟨s,t,k,x⟩:=P0 hf;cases hu:inR 0 (g.2.1-1) u;·obtain⟨a,b,c⟩:=g;unfold O00;simp only at hu k;simp only[i,hf,oB,bF,bT,G1,zF,H03];rw[w64 oM oM,hu];rfl
 cases hv:inR 0 (g.2.1-1) v;·obtain⟨a,b,c⟩:=g;unfold O00;simp only at hu hv k;simp only[i,hf,oB,bF,bT,G1,zF,H03];rw[w64 oM oM,hu];simp_all[bT,bF,oB,zF,G1]
 have j:=E0x hu;have h:=E0x hv;have p:=f0p hf j;have d:=(h0e hf j).ok;have l:=giM (f:=isS) d.len h.1 oM (giO d.len h.1 oM);have m:=giM (f:=gtD) d.len h.1 oM (giO d.len h.1 oM);have n:=R0v hf (v:=v) j;obtain⟨a,b,c⟩:=g;unfold O00;simp only at hu hv k l m;simp only[i,hf,oB,bF,bT,G1,zF,H03];rw[w64 oM oM,hu];simp only[bT,bF,oB,zF,G1,hv,fT,if_false,p,l,m,Bool.and_self,cT];cases e:L9 (y07 (a,b,c) u).1 v with
 |none=>rfl
 |some w =>rw[e]at n;have q:gtD (some w)=w:=rfl;rw[q]at n ⊢;rw[show isS (some w)=true from rfl,iE oS,F0 oG,oB,(nA)]
def K0b(g:B0)(v:Int):List Int:=(g0p g 0 v).1
def Z0c(g:B0)(a:g.2.2.length<=140737488355328)(v:Int):e03 g v=some (K0b g v):=by grind[W0s,K0b,e03]
def V0i{c:Type}(b:c->c->Int)(x:c):∀(a l:List c),H4 b l (a ++ [x])=D02 b x (H4 b l a)
 | [],l=>rfl
 |y::a,l=>by show H4 b (D02 b y l) (a ++ [x])=D02 b x (H4 b (D02 b y l) a);exact V0i b x a _
def tEW(g:B0)(W:List (Option (List Int)))(v:Int):Q0:=stp (S0 g v (-(T0i (gtD (L9 W v))))) (T0i (gtD (L9 W v))) v
def a0i(g:B0)(s:Tr8):List Q0:=H4 X0 [] (s.2.tail.map (tEW g s.1))
def S0v{g:B0}(hf:H0 g){p:Int}{n:Nat}(C:g.2.1=(n:Int)){b:Tr8}(h:TOk g p n b){v x:Int}(f:v∈b.2)(c:0<=S0 g v x/\S0 g v x ∉ b.2): a0i g (trS g v x b)=D02 X0 (stp v x (S0 g v x)) (a0i g b)/\(trS g v x b).2=b.2 ++ [S0 g v x]:=by
 obtain⟨w,F,G,H⟩:=P0 hf;have E:S0 g v x<(n:Int):=by rcases B03 w v x with e|e<;>omega
 unfold trS;rw[iP c];obtain⟨a,u⟩:=b;obtain⟨d,j⟩:=c;simp only at j f;refine⟨?_,rfl⟩;have s:=h.ok.len;simp only at s;have k:=λ(z:Int) (i:0<=z)=>N03 (A:=a) (y:=some ((L9 a v).getD [] ++ [x])) d oM i;have D:u≠[]:=λe=>by rw[e]at f;cases f
 have q:(u ++ [S0 g v x]).tail=u.tail ++ [S0 g v x]:=by grind
 unfold a0i;simp only;rw[q,List.map_append,List.map_singleton,V0i];have m:tEW g (a.set (S0 g v x).toNat (some ((L9 a v).getD [] ++ [x]))) (S0 g v x)=stp v x (S0 g v x):=by unfold tEW;rw[k _ d,iP rfl];show stp (S0 g (S0 g v x) (-(T0i ((L9 a v).getD [] ++ [x])))) (T0i ((L9 a v).getD [] ++ [x])) (S0 g v x)=_;rw[i0e,I00 hf rfl d]
 have o:u.tail.map (tEW g (a.set (S0 g v x).toNat (some ((L9 a v).getD [] ++ [x]))))=u.tail.map (tEW g a):=by refine List.map_congr_left λz i=>?_;have l:=List.mem_of_mem_tail i;have t:=h.gd.2 z l;unfold tEW;rw[k z t.1,iE λe=>j (by rw[←e];exact l)]
 rw[m,o]
def F0x(g:B0)(v x:Int)(s:Tr8)(c : ¬ (0<=S0 g v x/\S0 g v x ∉ s.2)):trS g v x s=s:=by unfold trS;rw[iE c]
theorem G0x(g:B0)(s:Tr8):(a0i g s).length<=s.2.length:=by
 unfold a0i
 grind[r02,tEW,List.length_map,List.length_tail,List.length_nil]
def D0u{g:B0}(hf:H0 g)(p:Int){n:Nat}(m:g.2.1=(n:Int))(b:List Int)(z:∀ x∈b,x∈Y5 g.1.toNat 1)(H:b.length<=1000000)(i:Nat)(v:Int):∀(d k fuel:Nat) (a:Tr8),TOk g p n a->a.2[i]?=some v->k+d=b.length->d<fuel -> T7 b (i:Int) g.1 g.2.1 g.2.2 fuel (a0i g a) (k:Int) a.2=some (a0i g (A0f g v (b.drop k) a),(A0f g v (b.drop k) a).2)
 |d,k,0,a,e,f,q,hf=>oM
 |0,k,fuel+1,a,e,f,q,hf=>by rw[T7.eq_2,iE oG,J1 oM];rfl
 |d+1,k,fuel+1,a,e,u,q,M=>by
  obtain⟨A,Q,K,R⟩:=P0 hf;have w:k<b.length:=oM;have j:=V3 w;have o:=z _ (mG j);have s:=L1 j;generalize b[k]=x at j o s;have l:=C05 oM o;have N:=I9 n a.2 e.gd.1 e.gd.2;have O:=B03 A v x;have f:=mG u;have I:=e.add hf m f o;obtain⟨t,L⟩:=G0j g v x a;have J:=D0u hf p m b z H i v d (k+1) fuel (trS g v x a) I oG oM oM;have P:=G0x g a;rw[T7.eq_2,iP oG,s,A0f,←J];simp only[E2 u,E2 j,oB,show(g.1,g.2.1,g.2.2)=g from rfl,m04 g v x l.1 oM,F0 (V02 A K.2 v x),G2 w (show b.length<=9223372036854775807 by omega)];by_cases c:0<=S0 g v x/\S0 g v x ∉ a.2
  ·obtain⟨D,E⟩:=S0v hf m e f c;rw[D,E];have F:decide (S0 g v x<0)=false:=dF oM;have G:gi (a.2 ++ [S0 g v x]) (i:Int)=some v:=E2 oG;rw[F];simp only[bF,G1,a0e a.2 _ (show a.2.length<=9223372036854775807 by omega),dF c.2,oB,zF,fT,if_false,G];rw[F0 (by simp;omega),oB];generalize S0 g v x=y at *;by_cases cx:x>0;·rw[iP (by simpa using cx),D08 _ _ oM,oB];unfold stp;rw[iE oM]
   rw[iE (by simpa using cx),D08 _ _ oM,oB,X0b l.1.1 l.1.2];unfold stp;rw[iP (by have:=l.2.1;omega)]
  rw[F0x g v x a c];by_cases c1:0<=S0 g v x;·have C:S0 g v x∈a.2:=Classical.byContradiction λh=>c ⟨c1,h⟩;rw[show decide (S0 g v x<0)=false from dF oM];simp only[bF,G1,a0e a.2 _ (show a.2.length<=9223372036854775807 by omega),dT C,oB,zF,if_true]
  rw[show decide (S0 g v x<0)=true from dT oM];simp only[bT,M1,oB,cT,if_true]
def E0u{g:B0}(hf:H0 g)(p:Int){n:Nat}(d:g.2.1=(n:Int)):∀(f i fuel:Nat) (a:Tr8),TOk g p n a->i<=a.2.length->n+1<=i+f->f<fuel -> b01 (Y5 g.1.toNat 1) g.1 g.2.1 g.2.2 fuel (a0i g a) (i:Int) a.2=some (a0i g (V06 g (Y5 g.1.toNat 1) f i a),(V06 g (Y5 g.1.toNat 1) f i a).2)
 |f,i,0,a,b,j,h,hf=>oM
 |0,i,fuel+1,a,b,j,h,hf=>by have:=I9 n a.2 b.gd.1 b.gd.2;omega
 |f+1,i,fuel+1,a,b,j,h,l=>by
  obtain⟨q,s,u,w⟩:=P0 hf;have m:=I9 n a.2 b.gd.1 b.gd.2;rw[b01.eq_2,oB,F0 oM,oB];by_cases hk:i<a.2.length;·have c:=V3 hk;generalize a.2[i]=v at c;have k:=mG c;have h0:=D0u hf p d (Y5 g.1.toNat 1) (λx c=>c) (by rw[M03];omega) i v (Y5 g.1.toNat 1).length 0 U0 a b c oM (F1 (by rw[M03];omega));rw[show((0:Nat):Int)=0 from rfl,(dZ)]at h0;obtain⟨t,e⟩:=g0l g v (Y5 g.1.toNat 1) a;have o:=E0u hf p d f (i+1) fuel _ (b.inn hf d _ k λx c=>c) oG oM oM;rw[iP (by simpa using hk),h0,oB];grind[G2,V06]
  simp_all[List.getElem?_eq_none,iE,V06]
def T0v{g:B0}(hf:H0 g):k05 g=some (W02 g):=by
 obtain⟨j,k,l,m⟩:=P0 hf;have f:g.2.1=((g.2.1.toNat:Nat):Int):=oM;have h0:=E0u hf 0 f (g.2.1.toNat+1) 0 U0 _ (g0e g (N:=g.2.1.toNat) ⟨iR _,oM⟩) oS oM (F1 oM);have h:=Q0o g.1.toNat oM;rw[show((g.1.toNat:Nat):Int)=g.1 by omega]at h;have i:=N6 g oM;have d:a0i g (V06 g (Y5 g.1.toNat 1) (g.2.1.toNat+1) 0 ((List.replicate g.2.1.toNat none).set (0:Int).toNat (some []),[0]))=W02 g:=by show a0i g (y07 g 0)=_;unfold a0i W02;rw[X0c];rfl
 rw[d]at h0;have e:a0i g ((List.replicate g.2.1.toNat none).set (0:Int).toNat (some []),[0]) = []:=rfl;rw[e,show((0:Nat):Int)=0 from rfl]at h0;obtain⟨a,b,c⟩:=g;simp only at *;unfold k05;grind
def P0z(a es:List Q0)(g:Nat){e:Q0}(o:es[g]?=some e)(w:a.length<=1000):∀(d k fuel:Nat) (b:Bool),k+d=a.length->d<fuel -> Y7 a es (g:Int) fuel b (k:Int)=some (b || decide (e∈a.drop k))
 |d,k,0,b,m,hf=>oM
 |0,k,fuel+1,b,m,hf=>by simp_all[Y7.eq_2,iE,dE,J1]
 |d+1,k,fuel+1,b,m,z=>by
  have p:k<a.length:=oM;have f:=V3 p;have n:=L1 f;generalize a[k]=t at f n;have x:=λv=>P0z a es g o w d (k+1) fuel v oM oM;obtain⟨q,s,u⟩:=t;obtain⟨i,j,l⟩:=e;rw[Y7.eq_2,iP oG,n,G2 p oM];cases b
  ·simp only[bF,G1,E2 f,E2 o,oB,zF,x,Bool.false_or];by_cases c:(q,s,u)=(i,j,l);·rw[c];simp[eqE]
   have y : ¬ (i,j,l)=(q,s,u):=λh=>c h.symm;simp_all[eqE,dF,Bool.false_or,mE,false_or]
  simp_all[bT,M1,oB,cT,Bool.true_or]
def o0r{g:B0}(hf:H0 g)(a:List Q0)(f:a.length<=1000):∀(d k fuel:Nat) (acc:List Q0),k+d=g.2.2.length->d<fuel->acc.length<=k -> G6 g.2.2 g.1 g.2.1 a fuel (k:Int) acc=some (acc++(g.2.2.drop k).filter λe => !decide (e∈a))
 |d,k,0,acc,j,s,i=>oM
 |0,k,fuel+1,acc,j,s,i=>by rw[G6.eq_2,show decide ((k:Int)<((g.2.2.length:Nat):Int))=false from dF oM,J1 oM];simp only[M1,oB,zF,fT,if_false,List.filter_nil,List.append_nil]
 |d+1,k,fuel+1,acc,j,u,i=>by
  obtain⟨w,x,y,z⟩:=P0 hf;have m:k<g.2.2.length:=oM;have b:=V3 m;have l:=L1 b;generalize g.2.2[k]=e at b l;have t:=N6 g oM;have v:=λn h=>o0r hf a f d (k+1) fuel n oM oM h;have h0:=P0z a g.2.2 k b f a.length 0 U0 false oM (F1 oM);rw[show((0:Nat):Int)=0 from rfl,(dZ),Bool.false_or]at h0;obtain⟨o,p,q⟩:=e;rw[G6.eq_2,show decide ((k:Int)<((g.2.2.length:Nat):Int))=true from dT oM];simp only[G1,show(g.1,g.2.1,g.2.2)=g from rfl,t,hf,oB,cT,if_true,h0,E2 b,G2 m (show g.2.2.length<=9223372036854775807 by omega),l,List.filter_cons];by_cases c:(o,p,q)∈a;·grind
  simp only[dF c,bF,if_true];grind[F0]
def p0r{g:B0}(hf:H0 g):O01 g=some (C4 g):=by obtain⟨d,e,f,h⟩:=P0 hf;have a:=T0v hf;have b:=u0n hf;have c:=o0r hf (W02 g) oM g.2.2.length 0 U0 [] oM (F1 oM) oS;grind[C4,O01]
def Q0z(es:List Q0)(e:Q0)(u:es.length<=1000):∀(d k fuel:Nat) (b:Bool),k+d=es.length->d<fuel -> P00 es e.1 e.2.1 e.2.2 fuel b (k:Int)=some (b || decide (e∈es.drop k))
 |d,k,0,b,j,hf=>oM
 |0,k,fuel+1,b,j,hf=>by simp_all[P00.eq_2,iE,dE,J1]
 |d+1,k,fuel+1,b,j,w=>by
  have m:k<es.length:=oM;have a:=V3 m;have l:=L1 a;generalize es[k]=t at a l;have n:=λs=>Q0z es e u d (k+1) fuel s oM oM;obtain⟨o,p,q⟩:=t;obtain⟨f,g,i⟩:=e;simp only at n;rw[P00.eq_2,iP oG,l,G2 m oM];cases b
  ·simp only[bF,G1,E2 a,oB,zF,n,Bool.false_or];by_cases c:(o,p,q)=(f,g,i);·rw[c];simp[eqE]
   have v : ¬ (f,g,i)=(o,p,q):=λh=>c h.symm;simp_all[eqE,dF,Bool.false_or,mE,false_or]
  simp_all[bT,M1,oB,cT,Bool.true_or]
def W0i{g:B0}(hf:H0 g){v:Int}(a:0<=v/\v<g.2.1):K0b g v=tw g 0 v:=by obtain⟨b,c,d,e⟩:=P0 hf;unfold K0b g0p tw;rw[hf,show inR 0 (g.2.1-1) 0=true by simp[inR];omega,show inR 0 (g.2.1-1) v=true by simp[inR];omega];grind
def H0x{g:B0}(hf:H0 g){v:Int}(b:0<=v/\v<g.2.1):∀ x∈tw g 0 v,C3 x:=by
 obtain⟨d,e,f,i⟩:=P0 hf;have a:(0:Int)<=0/\(0:Int)<g.2.1:=⟨oM,oM⟩;have h:=h0e hf a;by_cases hm:v∈M3 g 0;·exact λx c=>(C05 oM ((N01 hf a).let hm x c)).1
 have:tw g 0 v = []:=by unfold tw;rw[←X0c]at hm;have:=(h.ok.iff v b.1 oM).2 hm;simp_all
 grind
def I0x{g:B0}(hf:H0 g){e:Q0}(j:e∈g.2.2):W05 g e=some (Z8 [] (bw g e)).reverse:=by
 obtain⟨s,z,A,C⟩:=P0 hf;have q:(0:Int)<=0/\(0:Int)<g.2.1:=⟨oM,oM⟩;have i:=N01 hf q;have f:=s e j;have w:=i.len e.1;have y:=i.len e.2.2;have o:=N6 g oM;have h:=Q0z g.2.2 e oM g.2.2.length 0 U0 false oM (F1 oM);rw[show((0:Nat):Int)=0 from rfl,(dZ),Bool.false_or,dT j]at h;have k:=Z0c g oM e.1;rw[W0i hf f.1]at k;have l:=Z0c g oM e.2.2;rw[W0i hf f.2.1]at l;have m:=H0x hf f.1;have n:=H0x hf f.2.1;have p:=t08 (tw g 0 e.1 ++ [e.2.1]) (inv (tw g 0 e.2.2)) (λx d=>by
  rcases List.mem_append.1 d with d|d;·exact(m x d).1
  simp at d;rw[d];have:=f.2.2;exact⟨oM,oM⟩) (λx d=>(H0j n x d).1) (by simp[J07];omega)
 unfold bw;obtain⟨a,b,c⟩:=g;obtain⟨t,u,v⟩:=e;simp only at *;unfold W05;simp only[h,oB,o,hf,bT,zF,fT,if_false,k,l];rw[F0 (by simp;omega),oB,y05 _ oM,oB,p,oB]
def q0r{g:B0}(hf:H0 g)(es:List Q0)(f:∀ e∈es,e∈g.2.2)(o:es.length<=1000):∀(d k fuel:Nat) (acc:List (List Int)),k+d=es.length->d<fuel->acc.length<=k -> i00 es g.1 g.2.1 g.2.2 fuel (k:Int) acc=some (acc++(es.drop k).map λe=>(Z8 [] (bw g e)).reverse)
 |d,k,0,acc,c,m,b=>oM
 |0,k,fuel+1,acc,c,m,b=>by simp_all[i00.eq_2,iE,dE,J1]
 |d+1,k,fuel+1,acc,c,u,b=>by have n:k<es.length:=oM;have a:=V3 n;have i:=f _ (mG a);have l:=L1 a;generalize es[k]=e at a l i;have t:=I0x hf i;have v:=λj h=>q0r hf es f o d (k+1) fuel j oM oM h;obtain⟨p,q,s⟩:=e;rw[i00.eq_2,iP oG,E2 a,oB];grind[F0,G2]
def j04(g:B0)(a:g.2.2.length<=140737488355328):Z2 g=some (D1 g):=by grind[D0b,Z2,t03,bind]
def J0x{g:B0}(f:D1 g):l05 g=some (U6 g):=by have hf:=V1 f;obtain⟨l,m,n,o⟩:=P0 hf;have h:=j04 g oM;have i:=p0r hf;have k:(C4 g).length<=g.2.2.length:=List.length_filter_le _ _;have d:=q0r hf (C4 g) (λe j=>(U03.1 j).1) oM (C4 g).length 0 U0 [] oM (F1 oM) oS;rw[show((0:Nat):Int)=0 from rfl,(dZ),(nA)]at d;unfold U6;obtain⟨a,b,c⟩:=g;simp only at *;unfold l05;simp only[h,f,oB,i,bT,fT,if_false,d]
theorem F0u{g:B0}(hf:H0 g=true){w:List Int}(j:∀ x∈w,C3 x)(i:w.length<=140737488355328):H7 g w=some (S4 g w):=by
 obtain⟨d,l,e,m⟩:=P0 hf
 have f:=K0o g d e.2 (by omega) 0 w j i
 have h:=X07 d e.2 w 0 ⟨by omega,by omega⟩
 have k:=k03 g w 0
 unfold S4
 obtain⟨a,b,c⟩:=g
 unfold H7
 simp only[f,oB]
 rw[F0 h,oB,F0 (show I0 (((A2 (a,b,c) 0 w).2:Nat):Int) from⟨by omega,by omega⟩),oB]
 grind[A2,decide_eq_true,decide,decide_eq_false]
def L0b(w:List Int)(a:w.length<=1099511627776):C8 w=some (Z8 [] w).reverse:=by unfold C8;rw[L07 [w] oS (by simp only[b0p];omega)];rfl
def k0l{w:List Int}(b:∀ x∈w,C3 x):∀ x∈(Z8 [] w).reverse,C3 x:=λx a=>by rcases V0g w [] (List.mem_reverse.1 a)with h|h;all_goals grind
def K0x{g:B0}(hf:H0 g)(ws:List (List Int))(i:∀ w∈ws,(∀ x∈w,C3 x)/\w.length<=1099511627776)(j:ws.length<=1099511627776):∀(d k fuel:Nat),k+d=ws.length->d<fuel -> p7 ws g.1 g.2.1 g.2.2 fuel (k:Int)=some (bif(ws.drop k).all λw=>S4 g (Z8 [] w).reverse then .inr ()else .inl false)
 |d,k,0,c,f=>oM
 |0,k,fuel+1,c,f=>by simp_all[p7.eq_2,iE,dE,J1]
 |d+1,k,fuel+1,c,f=>by have h:k<ws.length:=oM;have a:=V3 h;have b:=i _ (mG a);have e:=L1 a;generalize ws[k]=w at a b e;have m:=N06 w [];have l:=K0x hf ws i j d (k+1) fuel oM oM;rw[p7.eq_2,iP oG,E2 a,oB,L0b w b.2,oB,show(g.1,g.2.1,g.2.2)=g from rfl,F0u hf (k0l b.1) oG,oB,G2 h oM,l,e,List.all_cons];cases S4 g (Z8 [] w).reverse<;>rfl
def q0m(b:B0)(g:b.2.2.length<=140737488355328)(ws:List (List Int))(h:∀ w∈ws,(∀ x∈w,C3 x)/\w.length<=1099511627776)(f:ws.length<=1099511627776):a01 b ws=some (j0a b ws):=by
 have e:=l01 b g;have d:D1 b->_:=λc=>K0x (V1 c) ws h f ws.length 0 U0 oM (F1 oM);rw[show((0:Nat):Int)=0 from rfl,(dZ)]at d;unfold j0a;obtain⟨a,b,c⟩:=b;unfold a01;simp only[e,oB];cases cb:D1 (a,b,c);·rfl
 have:=d cb;simp only at this;simp only[bT,fT,if_false,this,oB,Bool.true_and];cases ws.all λw=>S4 (a,b,c) (Z8 [] w).reverse<;>rfl
theorem L0x{g:B0}(a:D1 g=true):(∀ w∈U6 g,(∀ x∈w,C3 x)/\w.length<=81)/\(U6 g).length<=120:=by
 obtain⟨f,h,i,j⟩:=P0 (V1 a)
 refine⟨λw b=>?_,?_⟩
 ·unfold U6 at b
  obtain⟨e,c,rfl⟩:=List.mem_map.1 b
  refine⟨k0l (P0v a (U03.1 c).1),?_⟩
  have d:=N06 (bw g e) []
  grind[H0A,V1,List.length_reverse,List.length_nil]
 grind[U6,List.length_map,C4,List.length_filter_le]
end Go.Proofs.YthkpbcnhdhfifaaGreat
