/- Texts of the claim, joined: Nielsen reduction and its replay: both sides do the same and others. -/
import Derived.Test.YtohcdjhocpakkaaGreatPart25
import Derived.Test.YtohcdjhocpakkaaGreatPart19
namespace Go.Proofs.YtohcdjhocpakkaaGreat
open Go.H
set_option linter.unusedVariables false
set_option linter.unusedSimpArgs false
structure Sz (r:Int) (l:List (List Int)):Prop where
 n:l.length<=6
 t:tot l<=39
 rk:r<=3
 w:∀ w∈l,∀ x∈w,x≠0 /\ -r<=x/\x<=r
theorem W0a:∀ {l:List (List Int)} {w:List Int},w∈l->w.length<=tot l
 |a::l,w,h=>by
  have e:tot (a::l)=a.length+tot l:=rfl
  rcases List.mem_cons.1 h with rfl|h
  ·omega
  ·have:=W0a h;omega
theorem g08:∀ {l:List (List Int)} {i j:Nat} {a b:List Int},i≠j->l[i]?=some a->l[j]?=some b->a.length+b.length<=tot l
 | [],i,j,a,b,_,h,_=>by simp at h
 |c::l,0,0,a,b,h,_,_=>absurd rfl h
 |c::l,0,j+1,a,b,_,d,f=>by
  have e:tot (c::l)=c.length+tot l:=rfl
  have:=W0a (List.mem_of_getElem? (show l[j]?=some b from f))
  obtain rfl:c=a:=oJ d
  omega
 |c::l,i+1,0,a,b,_,d,f=>by
  have e:tot (c::l)=c.length+tot l:=rfl
  have:=W0a (List.mem_of_getElem? (show l[i]?=some a from d))
  obtain rfl:c=b:=oJ f
  omega
 |c::l,i+1,j+1,a,b,h,d,f=>by
  have e:tot (c::l)=c.length+tot l:=rfl
  have:=g08 (l:=l) (i:=i) (j:=j) (by omega) d f
  omega
theorem X0m:∀ {l:List (List Int)} {i:Nat} {w:List Int} (y:List Int),l[i]?=some w->tot (l.set i y)+w.length=tot l+y.length
 | [],i,w,y,h=>by simp at h
 |c::l,0,w,y,h=>by
  obtain rfl:c=w:=oJ h
  show y.length+tot l+c.length=c.length+tot l+y.length
  omega
 |c::l,i+1,w,y,h=>by
  have:=X0m (l:=l) (i:=i) y h
  show c.length+tot (l.set i y)+w.length=c.length+tot l+y.length
  omega
theorem h0q:∀(l:List (List Int)) (i:Nat),tot (l.take i++l.drop (i+1))<=tot l
 | [],i=>by simp
 |c::l,0=>by show tot l<=c.length+tot l;omega
 |c::l,i+1=>by
  have:=h0q l i
  show c.length+tot (l.take i++l.drop (i+1))<=c.length+tot l
  omega
theorem Sz.lw{r:Int}{l:List (List Int)}(h:Sz r l){w:List Int}(a:w∈l):Lw w:=λx b=>by
 have:=h.w w a x b
 have:=h.rk
 exact⟨⟨⟨by omega,by omega⟩,by omega⟩,by omega⟩
theorem Sz.bd{r:Int}{l:List (List Int)}(h:Sz r l):Bd l :=
 ⟨h.n,λw c=>⟨h.lw c,by have:=W0a c;have:=h.t;omega⟩,λi j a b f d g=>by have:=g08 f d g;have:=h.t;omega⟩
theorem F0l{n:Nat}{w x:List Int}{P:Int->Prop}(f:∀ c∈w,P c)(i:∀ c∈x,P c)(g:∀ c∈inv x,P c):∀ c∈p4 n w x,P c:=by
 have d:∀ {a b:List Int},(∀ c∈a,P c)->(∀ c∈b,P c)->∀ c∈K08 a b,P c:=λ{a b} j k c l=>by
  have:=Y0e (a++b) [] (List.mem_reverse.1 l)
  rcases this with h|h
  ·cases h
  ·exact(List.mem_append.1 h).elim (j c) (k c)
 unfold p4
 split
 ·exact d f i
 ·exact d f g
 ·exact d i f
 ·exact d g f
def St(l:List (List Int))(m:Q7)(l1:List (List Int)):Prop :=
 (∃ i:Nat,l[i]?=some []/\m=(4,(i:Int),0,0)/\l1=l.take i++l.drop (i+1)) ∨
 ∃(i j n:Nat) (w x:List Int),i≠j/\l[i]?=some w/\l[j]?=some x/\n<4/\m=(kd n,(i:Int),(j:Int),sg n)/\cN (p4 n w x) w<0/\l1=l.set i (p4 n w x)
inductive Ch:List (List Int)->List Q7->List (List Int)->Prop
 |nil {l:List (List Int)}:Ch l [] l
 |cons {l l1 l2:List (List Int)} {m:Q7} {ms:List Q7}:St l m l1->Ch l1 ms l2->Ch l (m::ms) l2
theorem St.sz{r:Int}{l l1:List (List Int)}{m:Q7}(h:Sz r l)(s:St l m l1):Sz r l1:=by
 rcases s with⟨i,b,_,rfl⟩|⟨i,j,n,w,x,C,b,c,p,_,o,rfl⟩
 ·have D:=(List.getElem?_eq_some_iff.1 b).1
  have p:=h.n
  refine⟨by simp only[List.length_append,List.length_take,List.length_drop];omega,Nat.le_trans (h0q l i) h.t,h.rk,λw a=>h.w w ?_⟩
  rcases List.mem_append.1 a with a|a
  ·exact List.mem_of_mem_take a
  ·exact List.mem_of_mem_drop a
 ·have u:=X0m (p4 n w x) b
  have y:=D0s o
  have A:=h.t
  have k:=h.n
  have q:=h.w w (List.mem_of_getElem? b)
  have d:=h.w x (List.mem_of_getElem? c)
  refine⟨by rw[List.length_set];exact k,by omega,h.rk,λv hv=>?_⟩
  rcases List.mem_or_eq_of_mem_set hv with hv|rfl
  ·exact h.w v hv
  ·refine F0l q d λF f=>?_
   unfold Go.Proofs.YtohcdjhocpakkaaGreat.inv at f
   obtain⟨z,g,rfl⟩:=List.mem_map.1 (List.mem_reverse.1 f)
   have E:=d z g
   have:=h.rk
   rw[Z03 ((h.lw (List.mem_of_getElem? c)) z g).1]
   omega
theorem p0t{l l1:List (List Int)}{m:Q7}(h:Bd l)(s:St l m l1):C3 l m=some (l1,true)/\l4 l m=some (l1,true):=by
 rcases s with⟨i,a,rfl,rfl⟩|⟨i,j,n,w,x,b,a,c,d,rfl,f,rfl⟩
 ·exact⟨N0m h a,O0m h a⟩
 ·exact⟨z0l h b a c d,S0p h b a c d⟩
theorem Y0m:∀ n:Nat,n<4->IntKind.i64.wrap (2+IntKind.i64.wrap (Int.tdiv (n:Int) 2))=kd n/\IntKind.i64.wrap (1-IntKind.i64.wrap (2*Int.tmod (n:Int) 2))=sg n
 |0,_=>by decide
 |1,_=>by decide
 |2,_=>by decide
 |3,_=>by decide
theorem i0f{n:Nat}{w x:List Int}:(p4 n w x).length<=w.length+x.length:=by
 have c:∀ a b:List Int,(K08 a b).length<=a.length+b.length:=λa b=>by
  have:=Q0a (a++b) []
  simp only[K08,List.length_reverse,List.length_append,List.length_nil]at *
  omega
 have hv:=e03 x
 unfold p4
 split
 ·exact c w x
 ·have:=c w (inv x);omega
 ·have:=c x w;omega
 ·have:=c (inv x) w;omega
theorem G0s{l:List (List Int)}{i:Nat}{w:List Int}(b:l[i]?=some w)(a:List Int):gi (l.set i a) (i:Int)=some a :=
 V1 (List.getElem?_set_self (List.getElem?_eq_some_iff.1 b).1)
theorem k0i{r:Int}{l:List (List Int)}(h:Sz r l){i j:Nat}{w x:List Int}(f:i≠j)(a:l[i]?=some w)(b:l[j]?=some x){n:Nat}(d:n<4)(fuel:Nat):
  J3 l (i:Int) (j:Int) (fuel+1) (n:Int)=if cN (p4 n w x) w<0 then some (.inl ((kd n,(i:Int),(j:Int),sg n),true))else J3 l (i:Int) (j:Int) fuel ((n+1:Nat):Int):=by
 have g:=h.lw (List.mem_of_getElem? a)
 have k:=h.lw (List.mem_of_getElem? b)
 have q:=g08 f a b
 have s:=h.t
 have p:=i0f (n:=n) (w:=w) (x:=x)
 obtain⟨m,o⟩:=Y0m n d
 rw[J3.eq_2,if_pos (by simpa using (by omega:(n:Int)<4)),F0 (by decide),oB,oB,m,o,z0l h.bd f a b d,oB]
 simp only[Z2]
 rw[G0s a,oB,V1 a,oB,l0t (R0p g k) g (by omega) (by omega),oB,F0 (l0k _ _),oB,C2 d (by omega)]
 by_cases c:cN (p4 n w x) w<0
 ·rw[if_pos c,decide_eq_true c];rfl
 ·rw[if_neg c,decide_eq_false c];rfl
theorem l0i{r:Int}{l:List (List Int)}(h:Sz r l){i:Nat}{w:List Int}(b:l[i]?=some w){n:Nat}(a:n<4)(fuel:Nat):
  J3 l (i:Int) (i:Int) (fuel+1) (n:Int)=J3 l (i:Int) (i:Int) fuel ((n+1:Nat):Int):=by
 obtain⟨c,d⟩:=Y0m n a
 rw[J3.eq_2,if_pos (by simpa using (by omega:(n:Int)<4)),F0 (by decide),oB,oB,c,d,u0r h.bd b a,oB]
 simp only[L4,oB]
 rw[F0 (by decide),oB,C2 a (by omega)]
 rfl
theorem Z0m(l:List (List Int))(i j:Int)(fuel:Nat):J3 l i j (fuel+1) ((4:Nat):Int)=some (.inr ()):=by
 rw[J3.eq_2,if_neg (by decide)]
def pk(i j:Int)(w x:List Int):(Q7×Bool) ⊕ Unit :=
 if cN (p4 0 w x) w<0 then .inl ((kd 0,i,j,sg 0),true)else if cN (p4 1 w x) w<0 then .inl ((kd 1,i,j,sg 1),true)else if cN (p4 2 w x) w<0 then .inl ((kd 2,i,j,sg 2),true)else if cN (p4 3 w x) w<0 then .inl ((kd 3,i,j,sg 3),true)else .inr ()
theorem nm0{r:Int}{l:List (List Int)}(h:Sz r l){i j:Nat}{w x:List Int}(a:l[i]?=some w)(b:l[j]?=some x):J3 l (i:Int) (j:Int) Q0 0=some (if i=j then .inr ()else pk (i:Int) (j:Int) w x):=by
 have hf:∃ f,Q0=f+1+1+1+1+1:=⟨Q0-5,rfl⟩
 obtain⟨f,hf⟩:=hf
 rw[hf,show(0:Int)=((0:Nat):Int) from rfl]
 by_cases c:i=j
 ·subst c
  rw[if_pos rfl,l0i h a (by omega),l0i h a (by omega),l0i h a (by omega),l0i h a (by omega)]
  exact Z0m _ _ _ _
 ·rw[if_neg c,k0i h c a b (by omega),k0i h c a b (by omega),k0i h c a b (by omega),k0i h c a b (by omega)]
  unfold pk
  split
  ·rfl
  ·split
   ·rfl
   ·split
    ·rfl
    ·split
     ·rfl
     ·exact Z0m _ _ _ _
theorem q0t{l:List (List Int)}{i j:Nat}{w x:List Int}(d:i≠j)(c:l[i]?=some w)(f:l[j]?=some x){a:Q7×Bool}(h:pk (i:Int) (j:Int) w x = .inl a):∃ m l1,a=(m,true)/\St l m l1:=by
 have mk:∀ n,n<4->cN (p4 n w x) w<0->(.inl ((kd n,(i:Int),(j:Int),sg n),true):(Q7×Bool) ⊕ Unit) = .inl a->∃ m l1,a=(m,true)/\St l m l1:=λn g b e =>
  ⟨_,_,(Sum.inl.inj e).symm,.inr ⟨i,j,n,w,x,d,c,f,g,rfl,b,rfl⟩⟩
 unfold pk at h
 split at h
 ·exact mk 0 (by omega) (by assumption) h
 ·split at h
  ·exact mk 1 (by omega) (by assumption) h
  ·split at h
   ·exact mk 2 (by omega) (by assumption) h
   ·split at h
    ·exact mk 3 (by omega) (by assumption) h
    ·cases h
theorem nm1{r:Int}{l:List (List Int)}(h:Sz r l){i:Nat}{w:List Int}(f:l[i]?=some w):∀(d k fuel a:Nat),k+d=l.length->d<fuel->d<a ->
  ∃ X,Z6 l (i:Int) fuel (k:Int)=some X/\B4 l (i:Int) w a (k:Int)=some X/\∀ g,X = .inl g->∃ m l1,g=(m,true)/\St l m l1
 |d,k,0,a,o,hf,j=>by omega
 |d,k,fuel+1,0,o,hf,j=>by omega
 |0,k,fuel+1,a+1,o,hf,j=>by
  refine⟨.inr (),?_,?_,λg e=>by cases e⟩
  ·rw[Z6.eq_2,if_neg (by simp;omega)]
  ·rw[B4.eq_2,if_neg (by simp;omega)]
 |d+1,k,fuel+1,a+1,o,hf,j=>by
  have v:k<l.length:=by omega
  have S:=h.n
  have b:=d5 v
  generalize l[k]=x at b
  obtain⟨X,p,q,s⟩:=nm1 h f d (k+1) fuel a (by omega) (by omega) (by omega)
  have A:=h.lw (List.mem_of_getElem? f)
  have J:=h.lw (List.mem_of_getElem? b)
  rw[B4.eq_2,if_pos (by simp;omega),V1 b,oB,Z6.eq_2,if_pos (by simp;omega),nm0 h f b,oB,C2 v (by omega:l.length<=9223372036854775807)]
  by_cases c:i=k
  ·refine⟨X,?_,?_,s⟩
   ·rw[if_pos c];exact p
   ·rw[if_pos (decide_eq_true (by omega))];exact q
  ·have y:=g08 c f b
   have T:=h.t
   have hv:=e03 x
   have U:=i0f (n:=0) (w:=w) (x:=x)
   have l1:=i0f (n:=1) (w:=w) (x:=x)
   have V:=i0f (n:=2) (w:=w) (x:=x)
   have W:=i0f (n:=3) (w:=w) (x:=x)
   have K:j2 [w,x]=some (p4 0 w x):=f08 (by omega)
   have L:j2 [w,inv x]=some (p4 1 w x):=f08 (by omega)
   have M:j2 [x,w]=some (p4 2 w x):=f08 (by omega)
   have N:j2 [inv x,w]=some (p4 3 w x):=f08 (by omega)
   have z:∀ n,(p4 n w x).length<=1000->O2 (p4 n w x) w=some (cN (p4 n w x) w):=λn I=>m0t (R0p A J) A I (by omega)
   have H:(if decide ((i:Int)=(k:Int))=true then B4 l (i:Int) w a ((k+1:Nat):Int)else
     (V4 x).bind λC=>(j2 ([w,x])).bind λO=>(O2 O w).bind λD=>(grd (K0 D)).bind λ_=>(if(decide (D<0))=true then some (.inl ((2,(i:Int),(k:Int),1),true))else(j2 ([w,C])).bind λP=>(O2 P w).bind λE=>(grd (K0 E)).bind λ_=>(if(decide (E<0))=true then some (.inl ((2,(i:Int),(k:Int),(-1)),true))else(j2 ([x,w])).bind λQ=>(O2 Q w).bind λF=>(grd (K0 F)).bind λ_=>(if(decide (F<0))=true then some (.inl ((3,(i:Int),(k:Int),1),true))else(j2 ([C,w])).bind λR=>(O2 R w).bind λG=>(grd (K0 G)).bind λ_=>(if(decide (G<0))=true then some (.inl ((3,(i:Int),(k:Int),(-1)),true))else(B4 l (i:Int) w a ((k+1:Nat):Int))))))) =
     D0f (pk (i:Int) (k:Int) w x) λ_=>B4 l (i:Int) w a ((k+1:Nat):Int):=by
    rw[if_neg (by simp;omega),S00 x (by omega),oB,K,oB,z 0 (by omega),oB,F0 (l0k _ _),oB,
     L,oB,z 1 (by omega),oB,F0 (l0k _ _),oB,M,oB,z 2 (by omega),oB,F0 (l0k _ _),oB,N,oB,z 3 (by omega),oB,F0 (l0k _ _),oB]
    simp only[decide_eq_true_eq]
    unfold pk
    by_cases c0:cN (p4 0 w x) w<0
    ·rw[if_pos c0,if_pos c0];rfl
    ·rw[if_neg c0,if_neg c0]
     by_cases c1:cN (p4 1 w x) w<0
     ·rw[if_pos c1,if_pos c1];rfl
     ·rw[if_neg c1,if_neg c1]
      by_cases c2:cN (p4 2 w x) w<0
      ·rw[if_pos c2,if_pos c2];rfl
      ·rw[if_neg c2,if_neg c2]
       by_cases c3:cN (p4 3 w x) w<0
       ·rw[if_pos c3,if_pos c3];rfl
       ·rw[if_neg c3,if_neg c3];rfl
   rw[H,if_neg c]
   cases y:pk (i:Int) (k:Int) w x with
   |inl g=>exact⟨.inl g,rfl,rfl,λY e=>by cases e;exact q0t c f b y⟩
   |inr u=>exact⟨X,p,q,s⟩
theorem nm2{r:Int}{l:List (List Int)}(h:Sz r l):∀(d k fuel a:Nat),k+d=l.length->d<fuel->d<a ->
  ∃ X,a7 l fuel (k:Int)=some X/\d7 l a (k:Int)=some X/\∀ b,X = .inl b->∃ m l1,b=(m,true)/\St l m l1
 |d,k,0,a,g,hf,c=>by omega
 |d,k,fuel+1,0,g,hf,c=>by omega
 |0,k,fuel+1,a+1,g,hf,c=>by
  refine⟨.inr (),?_,?_,λb e=>by cases e⟩
  ·rw[a7.eq_2,if_neg (by simp;omega)]
  ·rw[d7.eq_2,if_neg (by simp;omega)]
 |d+1,k,fuel+1,a+1,g,hf,c=>by
  have i:k<l.length:=by omega
  have x:=h.n
  have f:=d5 i
  generalize l[k]=w at f
  obtain⟨X,q,s,t⟩:=nm2 h d (k+1) fuel a (by omega) (by omega) (by omega)
  obtain⟨p,j,o,v⟩:=nm1 h f l.length 0 Q0 Q0 (by omega) (j1 (by omega)) (j1 (by omega))
  rw[show((0:Nat):Int)=0 from rfl]at j o
  rw[a7.eq_2,if_pos (by simp;omega),j,oB,d7.eq_2,if_pos (by simp;omega),V1 f,oB,o,oB,C2 i (by omega:l.length<=9223372036854775807)]
  cases p with
  |inl b=>exact⟨.inl b,rfl,rfl,v⟩
  |inr u=>exact⟨X,q,s,t⟩
theorem nm3{r:Int}{l:List (List Int)}(h:Sz r l):∀(d k fuel a:Nat),k+d=l.length->d<fuel->d<a ->
  ∃ X,Z5 l fuel (k:Int)=some X/\a6 l a (k:Int)=some X/\∀ c,X = .inl c->∃ m l1,c=(m,true)/\St l m l1
 |d,k,0,a,g,hf,f=>by omega
 |d,k,fuel+1,0,g,hf,f=>by omega
 |0,k,fuel+1,a+1,g,hf,f=>by
  refine⟨.inr (),?_,?_,λc e=>by cases e⟩
  ·rw[Z5.eq_2,if_neg (by simp;omega)]
  ·rw[a6.eq_2,if_neg (by simp;omega)]
 |d+1,k,fuel+1,a+1,g,hf,f=>by
  have i:k<l.length:=by omega
  have q:=h.n
  have b:=d5 i
  generalize l[k]=w at b
  obtain⟨X,j,o,p⟩:=nm3 h d (k+1) fuel a (by omega) (by omega) (by omega)
  cases w with
  |nil =>
   refine⟨.inl ((4,(k:Int),0,0),true),?_,?_,λc e=>by cases e;exact⟨_,_,rfl,.inl ⟨k,b,rfl,rfl⟩⟩⟩
   ·rw[Z5.eq_2,if_pos (by simp;omega),V1 b,oB];rfl
   ·rw[a6.eq_2,if_pos (by simp;omega),V1 b,oB];rfl
  |cons x t =>
   refine⟨X,?_,?_,p⟩
   ·rw[Z5.eq_2,if_pos (by simp;omega),V1 b,oB,if_neg (by simp;omega),C2 i (by omega:l.length<=9223372036854775807)];exact j
   ·rw[a6.eq_2,if_pos (by simp;omega),V1 b,oB,if_neg (by simp;omega),C2 i (by omega:l.length<=9223372036854775807)];exact o
theorem H0s{r:Int}{l:List (List Int)}(h:Sz r l):∃ m b,k00 l=some (m,b)/\l00 l=some (m,b)/\(b=true->∃ l1,St l m l1):=by
 have o:=h.n
 obtain⟨X,c,d,j⟩:=nm3 h l.length 0 Q0 Q0 (by omega) (j1 (by omega)) (j1 (by omega))
 obtain⟨i,f,g,k⟩:=nm2 h l.length 0 Q0 Q0 (by omega) (j1 (by omega)) (j1 (by omega))
 rw[show((0:Nat):Int)=0 from rfl]at c d f g
 unfold k00 l00
 rw[c,d,oB,oB]
 cases X with
 |inl a =>
  obtain⟨m,l1,rfl,s⟩:=j a rfl
  exact⟨m,true,rfl,rfl,λ_=>⟨l1,s⟩⟩
 |inr u =>
  simp only[t7]
  rw[f,g,oB]
  cases i with
  |inl a =>
   obtain⟨m,l1,rfl,s⟩:=k a rfl
   exact⟨m,true,rfl,rfl,λ_=>⟨l1,s⟩⟩
  |inr u=>exact⟨_,false,rfl,rfl,λe=>by cases e⟩
theorem i0q{a:List (List Int)}(b:N2 3 a=true):t01 a=some true:=by
 have h:=Q00 b
 unfold t01
 rw[S07 3 a (by omega) (λw c=>by have:=(i02 (h.2.2 w c)).1;omega),b];rfl
theorem r0t{r:Int}{j:List (List Int)}(E:N2 3 j=true):∀(d k fuel f:Nat) (l:List (List Int)) (ms:List Q7),Sz r l->k+d=400->ms.length=k->d<fuel->d<f ->
  ∃ h i,(∃ X,M3 j fuel l (k:Int) ms=some X/\(X = .inl (h,ms++i)∨X = .inr (h,ms++i)))/\N3 f l ms=some (h,ms++i)/\Ch l i h/\Sz r h/\i.length<=d
 |d,k,0,f,l,ms,g,o,p,hf,n=>by omega
 |d,k,fuel+1,0,l,ms,g,o,p,hf,n=>by omega
 |0,k,fuel+1,f+1,l,ms,g,o,p,hf,n=>by
  refine⟨l,[],⟨.inr (l,ms),?_,.inr (by rw[List.append_nil])⟩,?_,.nil,g,Nat.le_refl _⟩
  ·rw[M3.eq_2,decide_eq_false (by omega),L4,oB,if_neg (by decide)]
  ·rw[N3.eq_2,oB,F0 (by omega),oB,if_neg (by simp;omega),List.append_nil]
 |d+1,k,fuel+1,f+1,l,ms,g,o,p,hf,n=>by
  obtain⟨m,b,M,N,O⟩:=H0s g
  have G:M3 j (fuel+1) l (k:Int) ms=(k00 l).bind λP=>match P with|(Q,R)=>match Q with|(q,t,u,v)=>(if(!R)=true then some (.inl (l,ms))else(C3 l (q,t,u,v)).bind λV=>match V with|(W,ab)=>(grd ((ms.length+([(q,t,u,v)]).length)*32<=140737488355328)).bind λ_=>(M3 j fuel W ((k+1:Nat):Int) (ms ++ [(q,t,u,v)]))):=by
   rw[M3.eq_2,decide_eq_true (by omega),Z2,i0q E,oB,if_pos (by decide),C2 (show k<400 by omega) (by omega)]
  have F:N3 (f+1) l ms=(l00 l).bind λS=>match S with|(T,U)=>match T with|(w,x,y,z)=>(if(!U)=true then some (l,ms)else(l4 l (w,x,y,z)).bind λY=>match Y with|(Z,ac)=>(grd ((ms.length+([(w,x,y,z)]).length)*32<=140737488355328)).bind λ_=>(N3 f Z (ms ++ [(w,x,y,z)]))):=by
   rw[N3.eq_2,oB,F0 (by omega),oB,if_pos (by simp;omega)]
  rw[G,F,M,N]
  cases b with
  |false =>
   obtain⟨a,b,c,e⟩:=m
   exact⟨l,[],⟨.inl (l,ms),rfl,.inl (by rw[List.append_nil])⟩,by rw[List.append_nil];rfl,.nil,g,Nat.zero_le _⟩
  |true =>
   obtain⟨l1,s⟩:=O rfl
   obtain⟨H,I⟩:=p0t g.bd s
   obtain⟨h,i,⟨X,J,A⟩,C,K,L,aa⟩:=r0t E d (k+1) fuel f l1 (ms ++ [m]) (s.sz g) (by omega) (by simp;omega) (by omega) (by omega)
   rw[List.append_assoc]at A C
   have D:grd ((ms.length + [m].length)*32<=140737488355328)=some ():=F0 (by simp;omega)
   refine⟨h,m::i,⟨X,?_,A⟩,?_,.cons s K,L,by rw[List.length_cons];omega⟩
   ·obtain⟨a,b,c,e⟩:=m
    simp only[oB,Bool.not_true,Bool.false_eq_true,if_false,H]
    rw[D];exact J
   ·obtain⟨a,b,c,e⟩:=m
    simp only[oB,Bool.not_true,Bool.false_eq_true,if_false,I]
    rw[D];exact C
theorem j0q{r:Int}{l:List (List Int)}(c:N2 3 l=true)(h:Sz r l):∃ a ms,T8 l=some (a,ms)/\U8 l=some (a,ms)/\Ch l ms a/\Sz r a/\ms.length<=400:=by
 have p:=h.n
 have f:=λw b=>(h.bd.w w b).2
 obtain⟨a,o,⟨X,d,g⟩,i,j,k,m⟩:=r0t c 400 0 Q0 Q0 l [] h (by omega) rfl (j1 (by omega)) (j1 (by omega))
 refine⟨a,o,?_,?_,j,k,m⟩
 ·unfold T8
  rw[show((0:Nat):Int)=0 from rfl]at d
  rw[W0b l (by omega) f,oB,d,oB]
  rcases g with rfl|rfl<;>rfl
 ·unfold U8
  rw[Q0p l (by omega) f,oB,T07 3 l (by omega) (λw b=>by have:=(i02 ((Q00 c).2.2 w b)).1;omega),c,oB,if_neg (by decide),i]
  rfl
structure Gd (L:Int->FG) (p:List Int×List Int):Prop where
 w:Lw p.2
 r:Red p.2.reverse=true
 e:ev gen p.2=ev L p.1
theorem B0r(a b:List Int):(K08 a b).reverse=y02 [] (a++b):=List.reverse_reverse _
theorem C0r(a b:List Int):Red (K08 a b).reverse=true:=by rw[B0r];exact V0e _ _ rfl
theorem m0i{G:Type}[Gp G](g:Int->G){a b:List Int}(c:Lw a)(d:Lw b):ev g (K08 a b)=ev g a*ev g b:=by
 have:=X0p g (a++b) [] Lw.nil (c.app d)
 rw[Z0b]at this
 rw[K08,this]
 exact gem _
theorem k0q{G:Type}[Gp G](g:Int->G){n:Nat}{w x:List Int}(b:Lw w)(a:Lw x):ev g (p4 n w x)=(match n with|0=>ev g w*ev g x|1=>ev g w*Gp.i (ev g x)|2=>ev g x*ev g w|_=>Gp.i (ev g x)*ev g w):=by
 match n with
 |0=>exact m0i g b a
 |1 =>
  show ev g (K08 w (inv x))=ev g w*Gp.i (ev g x)
  rw[m0i g b a.inv,j0i g a]
 |2=>exact m0i g a b
 |n+3 =>
  show ev g (K08 (inv x) w)=Gp.i (ev g x)*ev g w
  rw[m0i g a.inv b,j0i g a]
theorem I0s(n:Nat)(w x:List Int):Red (p4 n w x).reverse=true:=by
 unfold p4
 split<;>exact C0r _ _
theorem Gd.p4{L:Int->FG}{p q:List Int×List Int}{n:Nat}(h:Gd L p)(k:Gd L q)(a:Lw p.1)(b:Lw q.1):Gd L (Go.Proofs.YtohcdjhocpakkaaGreat.p4 n p.1 q.1,Go.Proofs.YtohcdjhocpakkaaGreat.p4 n p.2 q.2) where
 w:=R0p h.w k.w
 r:=I0s _ _ _
 e:=by rw[k0q gen h.w k.w,k0q L a b,h.e,k.e]
theorem Gd.len{L:Int->FG}{p:List Int×List Int}{k:Nat}(h:Gd L p)(s:Sh gen k (ev L p.1)):p.2.length<=k:=by
 obtain⟨u,a,c,b⟩:=s
 have:=y0r h.w a (by rw[h.e,b])
 have e:=M0g _ h.r
 rw[List.reverse_reverse]at e
 rw[e,List.length_reverse]at this
 omega
theorem l0q{r:Int}{L:Int->FG}(sh:∀ w:List Int,(∀ x∈w,x≠0 /\ -r<=x/\x<=r)->Sh gen ((w.length+1)*274877906944) (ev L w)){ps:List (List Int×List Int)}(h:Sz r (ps.map (·.1)))(g:∀ p∈ps,Gd L p):Bd (ps.map (·.2)):=by
 have d:∀ p∈ps,p.2.length<=(p.1.length+1)*274877906944:=λp c=>(g p c).len (sh p.1 (h.w p.1 (List.mem_map.2 ⟨p,c,rfl⟩)))
 have y:=h.t
 refine⟨by have:=h.n;rw[List.length_map]at this ⊢;exact this,λw u=>?_,λi j a b s f k=>?_⟩
 ·obtain⟨p,c,rfl⟩:=List.mem_map.1 u
  have m:=W0a (List.mem_map.2 ⟨p,c,rfl⟩:p.1∈ps.map (·.1))
  have o:=d p c
  refine⟨(g p c).w,?_⟩
  have:=Nat.mul_le_mul_right 274877906944 (show p.1.length+1<=40 by omega)
  omega
 ·rw[List.getElem?_map]at f k
  obtain⟨p,c,rfl⟩:=Option.map_eq_some_iff.1 f
  obtain⟨q,l,rfl⟩:=Option.map_eq_some_iff.1 k
  have m:=g08 s (show(ps.map (·.1))[i]?=some p.1 by rw[List.getElem?_map,c];rfl) (show(ps.map (·.1))[j]?=some q.1 by rw[List.getElem?_map,l];rfl)
  have o:=d p (List.mem_of_getElem? c)
  have v:=d q (List.mem_of_getElem? l)
  omega
theorem s0t{r:Int}{L:Int->FG}(sh:∀ w:List Int,(∀ x∈w,x≠0 /\ -r<=x/\x<=r)->Sh gen ((w.length+1)*274877906944) (ev L w)){f:List Q7}(V:f.length<=400){b:List (List Int)}(h0:Bd b):
  ∀ {ms:List Q7} {l E:List (List Int)},Ch l ms E->∀(k fuel y:Nat) (ps:List (List Int×List Int)),f.drop k=ms->ms.length<fuel->ms.length<y->Sz r l->ps.map (·.1)=l->(∀ p∈ps,Gd L p) ->
  ∃ X,d4 f b fuel (ps.map (·.2)) (k:Int)=some X/\i4 f b y (ps.map (·.2)) (k:Int)=some X /\
   (X = .inl (b,false)∨∃ o:List (List Int×List Int),o.map (·.1)=E/\(∀ p∈o,Gd L p)/\X = .inr (o.map (·.2)))
 |ms,l,E,c,k,0,y,ps,z,hf,G,A,u,g=>by omega
 |ms,l,E,c,k,fuel+1,0,ps,z,hf,G,A,u,g=>by omega
 |_,l,_,.nil,k,fuel+1,y+1,ps,z,hf,G,A,u,g=>by
  have H:f.length<=k:=List.drop_eq_nil_iff.1 z
  refine⟨.inr (ps.map (·.2)),?_,?_,.inr ⟨ps,u,g,rfl⟩⟩
  ·rw[d4.eq_2,if_neg (by simp;omega)]
  ·rw[i4.eq_2,if_neg (by simp;omega)]
 |_,l,E,.cons (l1:=l1) (m:=m) (ms:=ms) s c,k,fuel+1,y+1,ps,z,hf,G,A,u,g=>by
  rw[List.length_cons]at hf G
  have H:k<f.length:=Nat.lt_of_not_le λh=>by rw[List.drop_eq_nil_iff.2 h]at z;cases z
  have I:=d5 H
  have S:=K1 I
  rw[z]at S
  obtain⟨ab,ac⟩:=List.cons.inj S
  rw[←ab]at I
  have ak:=h0.n
  have F:Bd (ps.map (·.2)):=l0q sh (by rw[u];exact A) g
  have ai:(C3 (ps.map (·.2)) m=some (ps.map (·.2),false)/\l4 (ps.map (·.2)) m=some (ps.map (·.2),false)) ∨
    ∃ o:List (List Int×List Int),C3 (ps.map (·.2)) m=some (o.map (·.2),true)/\l4 (ps.map (·.2)) m=some (o.map (·.2),true)/\o.map (·.1)=l1/\∀ p∈o,Gd L p:=by
   rcases s with⟨i,C,rfl,rfl⟩|⟨i,j,n,w,x,T,C,J,U,rfl,aj,rfl⟩
   ·rw[←u,List.getElem?_map]at C
    obtain⟨p,d,V⟩:=Option.map_eq_some_iff.1 C
    have D:(ps.map (·.2))[i]?=some p.2:=by rw[List.getElem?_map,d];rfl
    rw[N0m F D,O0m F D]
    cases p.2 with
    |cons a t=>exact .inl ⟨rfl,rfl⟩
    |nil =>
     have e:(ps.take i++ps.drop (i+1)).map (·.2)=(ps.map (·.2)).take i++(ps.map (·.2)).drop (i+1):=by rw[List.map_append,List.map_take,List.map_drop]
     refine .inr ⟨ps.take i++ps.drop (i+1),by rw[e];rfl,by rw[e];rfl,by rw[List.map_append,List.map_take,List.map_drop,u],λp d=>?_⟩
     rcases List.mem_append.1 d with d|d
     ·exact g p (List.mem_of_mem_take d)
     ·exact g p (List.mem_of_mem_drop d)
   ·have ae:=A.lw (List.mem_of_getElem? C)
    have af:=A.lw (List.mem_of_getElem? J)
    rw[←u,List.getElem?_map]at C J
    obtain⟨p,d,rfl⟩:=Option.map_eq_some_iff.1 C
    obtain⟨q,W,rfl⟩:=Option.map_eq_some_iff.1 J
    have D:(ps.map (·.2))[i]?=some p.2:=by rw[List.getElem?_map,d];rfl
    have Y:(ps.map (·.2))[j]?=some q.2:=by rw[List.getElem?_map,W];rfl
    have ad:=(g p (List.mem_of_getElem? d)).p4 (n:=n) (g q (List.mem_of_getElem? W)) ae af
    refine .inr ⟨ps.set i (p4 n p.1 q.1,p4 n p.2 q.2),?_,?_,by rw[List.map_set,u],λv hv=>?_⟩
    ·rw[z0l F T D Y U,List.map_set]
    ·rw[S0p F T D Y U,List.map_set]
    ·rcases List.mem_or_eq_of_mem_set hv with hv|rfl
     ·exact g v hv
     ·exact ad
  have aa:d4 f b (fuel+1) (ps.map (·.2)) (k:Int)=(C3 (ps.map (·.2)) m).bind λO=>match O with|(P,Q)=>(if(!Q)=true then(V7 b).bind λR=>some (.inl (R,false))else(d4 f b fuel P ((k+1:Nat):Int))):=by
   rw[d4.eq_2,if_pos (by simp;omega),V1 I,oB,C2 H (by omega)]
  have Z:i4 f b (y+1) (ps.map (·.2)) (k:Int)=(l4 (ps.map (·.2)) m).bind λO=>match O with|(P,Q)=>(if(!Q)=true then(D6 b).bind λR=>some (.inl (R,false))else(i4 f b y P ((k+1:Nat):Int))):=by
   rw[i4.eq_2,if_pos (by simp;omega),V1 I,oB,C2 H (by omega)]
  rw[aa,Z]
  rcases ai with⟨M,N⟩|⟨o,M,N,ag,ah⟩
  ·rw[M,N,oB,oB]
   simp only[Bool.not_false,if_true]
   rw[W0b b (by omega) (λw K=>(h0.w w K).2),Q0p b (by omega) (λw K=>(h0.w w K).2)]
   exact⟨_,rfl,rfl,.inl rfl⟩
  ·rw[M,N,oB,oB]
   simp only[Bool.not_true,Bool.false_eq_true,if_false]
   exact s0t sh V h0 c (k+1) fuel y o ac.symm (by omega) (by omega) (s.sz A) ag ah
theorem m0q{r:Int}{L:Int->FG}(sh:∀ w:List Int,(∀ x∈w,x≠0 /\ -r<=x/\x<=r)->Sh gen ((w.length+1)*274877906944) (ev L w)){ms:List Q7}(u:ms.length<=400){l o:List (List Int)}(c:Ch l ms o)(m:Sz r l){ps:List (List Int×List Int)}(k:ps.map (·.1)=l)(g:∀ p∈ps,Gd L p):
  ∃ h b,P9 (ps.map (·.2)) ms=some (h,b)/\S9 (ps.map (·.2)) ms=some (h,b)/\(b=true->∃ a:List (List Int×List Int),a.map (·.1)=o/\(∀ p∈a,Gd L p)/\h=a.map (·.2)):=by
 have d:Bd (ps.map (·.2)):=l0q sh (by rw[k];exact m) g
 have v:=d.n
 obtain⟨X,i,j,q⟩:=s0t sh u d c 0 Q0 Q0 ps List.drop_zero (j1 (by omega)) (j1 (by omega)) m k g
 rw[show((0:Nat):Int)=0 from rfl]at i j
 unfold P9 S9
 rw[W0b _ (by omega) (λw f=>(d.w w f).2),Q0p _ (by omega) (λw f=>(d.w w f).2),oB,oB,i,j,oB]
 rcases q with rfl|⟨a,s,t,rfl⟩
 ·exact⟨_,false,rfl,rfl,λe=>by cases e⟩
 ·exact⟨_,true,rfl,rfl,λ_=>⟨a,s,t,rfl⟩⟩
set_option maxRecDepth 10000
def r9(m:H1):Bool:=(inR 1 3 m.1&&decide (((m.2.length:Nat):Int)=m.1))&&W04 m.1 m.2
theorem u0k(r:Int)(a:List (List Int))(i:a.length<=140737488355328)(g:S3 a):∀(d k fuel:Nat),k+d=a.length->d<fuel ->
  S5 a r fuel (k:Int)=some (bif W04 r (a.drop k)then .inr ()else .inl false)
 |d,k,0,c,hf=>by omega
 |0,k,fuel+1,c,hf=>by
  rw[S5.eq_2,if_neg (by simp;omega),I1 (by omega)]
  rfl
 |d+1,k,fuel+1,c,hf=>by
  have f:k<a.length:=by omega
  have b:=d5 f
  have h:=g _ (List.mem_of_getElem? b)
  generalize a[k]=x at b h
  rw[K1 b,S5.eq_2,if_pos (by simp;omega),V1 b,oB,P06 r x h,oB,C2 f (by omega:a.length<=9223372036854775807),
   u0k r a i g d (k+1) fuel (by omega) (by omega)]
  simp only[W04]
  cases I3 r x<;>simp
theorem v0k(r:Int)(a:List (List Int))(i:a.length<=140737488355328)(g:S3 a):∀(d k fuel:Nat),k+d=a.length->d<fuel ->
  T5 a r fuel (k:Int)=some (bif W04 r (a.drop k)then .inr ()else .inl false)
 |d,k,0,c,hf=>by omega
 |0,k,fuel+1,c,hf=>by
  rw[T5.eq_2,if_neg (by simp;omega),I1 (by omega)]
  rfl
 |d+1,k,fuel+1,c,hf=>by
  have f:k<a.length:=by omega
  have b:=d5 f
  have h:=g _ (List.mem_of_getElem? b)
  generalize a[k]=x at b h
  rw[K1 b,T5.eq_2,if_pos (by simp;omega),V1 b,oB,Q06 r x h,oB,C2 f (by omega:a.length<=9223372036854775807),
   v0k r a i g d (k+1) fuel (by omega) (by omega)]
  simp only[W04]
  cases I3 r x<;>simp
theorem Z0a(r:Int)(a:List (List Int))(b:a.length<=140737488355328)(c:S3 a):Y6 (r,a)=some (r9 (r,a)):=by
 have h:=u0k r a b c a.length 0 Q0 (by omega) (j1 b)
 rw[show((0:Nat):Int)=0 from rfl,List.drop_zero]at h
 unfold Y6 r9
 simp only[h,oB,M00]
 cases W04 r a with
 |false=>rw[Bool.and_false];rfl
 |true =>
  rw[Bool.and_true]
  cases inR 1 3 r<;>rfl
theorem a0b(r:Int)(a:List (List Int))(b:a.length<=140737488355328)(c:S3 a):c7 (r,a)=some (r9 (r,a)):=by
 have h:=v0k r a b c a.length 0 Q0 (by omega) (j1 b)
 rw[show((0:Nat):Int)=0 from rfl,List.drop_zero]at h
 unfold c7 r9
 simp only[h,oB,U7]
 cases inR 1 3 r with
 |false=>rfl
 |true =>
  cases decide (((a.length:Nat):Int)=r)with
  |false=>rfl
  |true=>cases W04 r a<;>rfl
structure J0s (r:Int) (ws:List (List Int)):Prop where
 k:1<=r/\r<=3
 n:((ws.length:Nat):Int)=r
 w:∀ w∈ws,I3 r w=true
theorem B08{r:Int}{b:List (List Int)}:r9 (r,b)=true↔J0s r b:=by
 have d:∀ b:List (List Int),W04 r b=true↔∀ w∈b,I3 r w=true:=λb=>by
  induction b with
  |nil=>exact⟨(λ_ w h=>by cases h),λ_=>rfl⟩
  |cons a l f =>
   simp only[W04,Bool.and_eq_true,f]
   exact⟨λh w c=>(List.mem_cons.1 c).elim (λe=>by rw[e];exact h.1) (h.2 w),λh=>⟨h a mS,λw c=>h w (mC _ c)⟩⟩
 unfold r9
 simp only[Bool.and_eq_true,decide_eq_true_eq,inR]
 exact⟨λh=>⟨h.1.1,h.1.2,(d b).1 h.2⟩,λh=>⟨⟨h.k,h.n⟩,(d b).2 h.w⟩⟩
theorem l0f{r:Int}{w:List Int}(h:I3 r w=true)(k:r<=3):A03 w=true:=by
 have a:=(i02 h).2
 have:∀ v:List Int,(∀ x∈v,d05 x=true)->A03 v=true:=λv=>by
  induction v with
  |nil=>intro _;rfl
  |cons x t d =>
   intro hv
   simp only[A03,Bool.and_eq_true]
   exact⟨hv x mS,d λf c=>hv f (mC _ c)⟩
 refine this w λx b=>?_
 obtain⟨_,g,i,j⟩:=a x b
 simp only[d05,inR,Bool.and_eq_true,Bool.not_eq_true',beq_eq_false_iff_ne,decide_eq_true_eq]
 omega
def pc(k:Nat)(w:List Int):List UInt8:=chL (((k+1:Nat):Int))::62::wl w
def pcs:Nat->List (List Int)->List (List UInt8)
 |_,[]=>[]
 |k,w::r=>pc k w::pcs (k+1) r
def fmM(m:H1):List UInt8:=bif r9 m then q06 32 (pcs 0 m.2)else []
theorem K0s{r:Int}{w:List Int}(h:I3 r w=true)(k:Nat):(pc k w).length<=27:=by
 have:=(i02 h).1
 have:=n0i w
 unfold pc
 simp only[List.length_cons]
 omega
theorem q0i{r:Int}:∀ {a:List (List Int)} (k:Nat),(∀ w∈a,I3 r w=true)->bsz (pcs k a)<=28*a.length
 | [],k,h=>by simp[pcs,bsz]
 |w::t,k,h=>by
  have:=q0i (k+1) λv hv=>h v (mC _ hv)
  have:=K0s (h w mS) k
  simp only[pcs,bsz,List.length_cons]
  omega
theorem r0i(m:H1):(fmM m).length<=100:=by
 unfold fmM
 cases h:r9 m with
 |false=>simp
 |true =>
  have a:=B08.1 h
  have c:=q0i 0 a.w
  have d:=a.n
  have f:=a.k
  have b:∀ l:List (List UInt8),(q06 32 l).length<=bsz l:=λl=>by
   cases l with
   |nil=>exact Nat.le_refl _
   |cons x r =>
    have:=Y0a r
    simp only[q06,bsz,List.length_append]
    omega
  have:=b (pcs 0 m.2)
  rw[cond_true]
  omega
theorem fw{r:Int}{w:List Int}(h:I3 r w=true)(a:r<=3):b0c w=B (wl w):=by
 unfold b0c
 rw[l0f h a];rfl
theorem o0q{k:Nat}(a:k<3):d05 (((k+1:Nat):Int))=true:=by
 match k,a with
 |0,_=>decide
 |1,_=>decide
 |2,_=>decide
theorem p0q{r:Int}{a:List (List Int)}(h:J0s r a):∀(d k fuel:Nat) (acc:List (List UInt8)),k+d=a.length->d<fuel->acc.length<=k ->
  I4 a fuel (k:Int) (acc.map B)=some ((acc++pcs k (a.drop k)).map B)
 |d,k,0,acc,g,hf,f=>by omega
 |0,k,fuel+1,acc,g,hf,f=>by
  rw[I4.eq_2,if_neg (by simp;omega),I1 (by omega)]
  simp[pcs]
 |d+1,k,fuel+1,acc,g,hf,f=>by
  have i:k<a.length:=by omega
  have l:=h.n
  have m:=h.k
  have b:=d5 i
  have c:=h.w _ (List.mem_of_getElem? b)
  generalize a[k]=x at b c
  have l1:=(i02 c).1
  have o:=n0i x
  have next:=p0q h d (k+1) fuel (acc ++ [pc k x]) (by omega) (by omega) (by simp only[List.length_append,List.length_singleton];omega)
  have e:W7 (((k+1:Nat):Int))=some (B [chL (((k+1:Nat):Int))]):=by rw[X0a,o0q (by omega)];rfl
  rw[I4.eq_2,if_pos (by simp;omega),V1 b,oB,C2 i (by omega:a.length<=9223372036854775807),e,oB,show(⟨#[62]⟩:ByteArray)=B [62] from rfl,F0 (by rw[U5];simp),oB,F0 (by rw[U5,U5];simp),oB,
   c0c x (by omega),oB,fw c (by omega),F0 (by rw[U5];omega),oB,F09,F0 (by rw[U5,U5];simp only[List.length_append,List.length_singleton];omega),oB,F09,
   F0 (by simp only[List.length_map,List.length_singleton];omega),oB,K1 b]
  have j:acc.map B ++ [B ([chL (((k+1:Nat):Int))] ++ [62]++wl x)]=(acc ++ [pc k x]).map B:=by rw[List.map_append];rfl
  rw[j,next,List.append_assoc];rfl
theorem q0q(r:Int)(a:List (List Int))(b:a.length<=140737488355328)(d:S3 a):p7 (r,a)=some (B (fmM (r,a))):=by
 unfold p7 fmM
 simp only[a0b r a b d,oB]
 cases hm:r9 (r,a)with
 |false=>rfl
 |true =>
  have h:=B08.1 hm
  have c:=h.n
  have i:=h.k
  have e:=p0q h a.length 0 Q0 [] (by omega) (j1 (by omega)) (Nat.le_refl _)
  rw[show((0:Nat):Int)=0 from rfl,List.drop_zero,List.map_nil,List.nil_append]at e
  have f:=q0i 0 h.w
  simp only[Bool.not_true,Bool.false_eq_true,if_false,cond_true]
  rw[e,oB,show(⟨#[32]⟩:ByteArray)=B [32] from rfl,a0n 32 _ _ (by omega),oB]
  cases a with
  |nil=>simp at c;omega
  |cons w t =>
   have g:(q06 32 (pcs 0 (w::t))).length<=bsz (pcs 0 (w::t)):=by
    have:=Y0a (pcs (0+1) t)
    simp only[pcs,q06,bsz,List.length_append]
    omega
   rw[show p0i 32 (⟨#[]⟩:ByteArray) (pcs 0 (w::t))=B (q06 32 (pcs 0 (w::t))) from rfl,F0 (by rw[U5];omega),oB]
theorem r0q{r:Int}{a:List (List Int)}(h:J0s r a):∀(d k fuel:Nat) (acc:List UInt8),k+d=a.length->d<fuel->acc.length<=28*k->0<k ->
  G3 r a fuel (B acc) (k:Int)=some (B (acc++e07 32 (pcs k (a.drop k))))
 |d,k,0,acc,g,hf,f,h0=>by omega
 |0,k,fuel+1,acc,g,hf,f,h0=>by
  have j:=h.n
  rw[G3.eq_2,if_neg (by simp;omega),I1 (by omega)]
  simp[pcs,e07]
 |d+1,k,fuel+1,acc,g,hf,f,h0=>by
  have i:k<a.length:=by omega
  have j:=h.n
  have l:=h.k
  have b:=d5 i
  have c:=h.w _ (List.mem_of_getElem? b)
  generalize a[k]=x at b c
  have l1:=(i02 c).1
  have m:=n0i x
  have next:=r0q h d (k+1) fuel (acc ++ [32] ++ [chL (((k+1:Nat):Int))] ++ [62]++wl x) (by omega) (by omega) (by simp only[List.length_append,List.length_singleton];omega) (by omega)
  rw[G3.eq_2,if_pos (by simp;omega),if_pos (by simp;omega),show(⟨#[32]⟩:ByteArray)=B [32] from rfl,F0 (by rw[U5,U5];simp only[List.length_singleton];omega),oB,C2 i (by omega:a.length<=9223372036854775807),k0f _ (o0q (by omega)),oB,
   F0 (by rw[U5];simp),oB,F09,F0 (by rw[U5,U5];simp only[List.length_append,List.length_singleton];omega),oB,F09,show(⟨#[62]⟩:ByteArray)=B [62] from rfl,F0 (by rw[U5,U5];simp only[List.length_append,List.length_singleton];omega),oB,F09,
   V1 b,oB,p06 x (by omega),oB,fw c (by omega),F0 (by rw[U5];omega),oB,F0 (by rw[U5,U5];simp only[List.length_append,List.length_singleton];omega),oB,F09,next,K1 b]
  simp[pcs,e07,pc]
theorem s0q(r:Int)(a:List (List Int))(f:a.length<=140737488355328)(g:S3 a):o7 (r,a)=some (B (fmM (r,a))):=by
 unfold o7 fmM
 simp only[Z0a r a f g,oB]
 cases hm:r9 (r,a)with
 |false=>rfl
 |true =>
  have h:=B08.1 hm
  have b:=h.n
  have l:=h.k
  simp only[Bool.not_true,Bool.false_eq_true,if_false,cond_true]
  cases a with
  |nil=>simp at b;omega
  |cons x t =>
   have c:=h.w x mS
   have l1:=(i02 c).1
   have m:=n0i x
   have i:(x::t)[0]?=some x:=rfl
   have next:=r0q h t.length 1 (Q0-1) ([chL (((0+1:Nat):Int))] ++ [62]++wl x) (by simp only[List.length_cons];omega) (by have:=j1 (n:=t.length+1) (by simp only[List.length_cons]at b;omega);omega) (by simp only[List.length_append,List.length_singleton];omega) (by omega)
   have d:Q0=(Q0-1)+1:=rfl
   rw[d,G3.eq_2,if_pos (by simp;omega),if_neg (by decide),show IntKind.i64.wrap (0+1)=((0+1:Nat):Int) from by decide,k0f _ (o0q (by omega)),oB,
    F0 (by rw[U5];simp),oB,show(⟨#[]⟩:ByteArray)=B [] from rfl,F0 (by rw[U5,U5];simp),oB,F09,show(⟨#[62]⟩:ByteArray)=B [62] from rfl,F0 (by rw[U5,U5];simp),oB,F09,
    J05 i,oB,p06 x (by omega),oB,fw c (by omega),F0 (by rw[U5];omega),oB,F0 (by rw[U5,U5];simp only[List.length_append,List.length_singleton,List.length_nil];omega),oB,F09,List.nil_append]
   refine(congrArg (λo=>Option.bind o λj=>some j) next).trans ?_
   simp[pcs,q06,pc]
def sgn(k x:Int):Bool:=decide (x=k∨x = -k)
def par(k:Int):List Int->Bool
 | []=>false
 |x::w=>xor (sgn k x) (par k w)
theorem D0r(k x:Int):sgn k (-x)=sgn k x:=by
 unfold sgn
 exact decide_eq_decide.2 ⟨λh=>by omega,λh=>by omega⟩
def Lab(k:Int)(f:Int->Bool)(es:List J0):Prop:=∀ e∈es,f e.2.2=xor (f e.1) (sgn k e.2.1)
theorem b0n{k:Int}{f:Int->Bool}{u x v:Int}(h:f v=xor (f u) (sgn k x)):f (stp u x v).2.2=xor (f (stp u x v).1) (sgn k (stp u x v).2.1):=by
 unfold stp
 by_cases c:x<0
 ·rw[if_pos c]
  simp only[D0r,h]
  cases f u<;>cases sgn k x<;>rfl
 ·rw[if_neg c];exact h
theorem w0k(k v:Int):∀(w:List Int) (u n:Int) (f:Int->Bool),0<=n->u<n->v<n->(w≠[]->f v=xor (f u) (par k w))->∃ b:Int->Bool,(∀ z,z<n->b z=f z)/\Lab k b (p8 v w u n)
 | [],u,n,f,h0,g,hv,h=>⟨f,λ_ _=>rfl,λe a=>by cases a⟩
 | [x],u,n,f,h0,g,hv,h=>⟨f,λ_ _=>rfl,λe a=>by
  rw[p8,List.mem_singleton]at a
  subst a
  have:=h (by simp)
  simp only[par,Bool.xor_false]at this
  exact b0n this⟩
 |x::i::r,u,n,f,h0,g,hv,h=>by
  have d:=h (by simp)
  rw[par]at d
  obtain⟨b,c,f2⟩:=w0k k v (i::r) n (n+1) (λz=>if z=n then xor (f u) (sgn k x)else f z) (by omega) (by omega) (by omega) λ_=>by
   simp only[if_neg (show ¬ v=n by omega),if_true]
   rw[d,Bool.xor_assoc]
  refine⟨b,λz j=>by rw[c z (by omega),if_neg (by omega)],λe a=>?_⟩
  rw[p8]at a
  rcases List.mem_cons.1 a with rfl|a
  ·refine b0n ?_
   rw[c n (by omega),c u (by omega),if_pos rfl,if_neg (by omega)]
  ·exact f2 e a
theorem E0r{k:Int}{g:j0}(i:O0 g=true){f:Int->Bool}(h:Lab k f g.2.2){w:List Int}(j:par k w=false):∃ b,Lab k b (O1 g 0 w 0).1.2.2:=by
 obtain⟨l,m,n,o⟩:=B3 i
 unfold O1
 cases (!w.isEmpty&&decide (g.2.1+(w.length:Int)-1<=40)&&decide (g.2.2.length+w.length<=120))with
 |false=>exact⟨f,h⟩
 |true =>
  obtain⟨b,c,f2⟩:=w0k k 0 w 0 g.2.1 f (by omega) (by omega) (by omega) λ_=>by rw[j,Bool.xor_false]
  refine⟨b,λe a=>?_⟩
  rw[cond_true,D4 Y3]at a
  rcases a with a|a
  ·have d:=l e a
   rw[c _ d.1.2,c _ d.2.1.2]
   exact h e a
  ·exact f2 e a
theorem x0k{k:Int}:∀(j:List (List Int)) {g:j0} {f:Int->Bool},O0 g=true->(∀ w∈j,I3 g.1 w=true)->Lab k f g.2.2->(∀ w∈j,par k w=false)->∃ l,Lab k l (L5 j g).2.2
 | [],g,f,a,c,h,b=>⟨f,h⟩
 |w::r,g,f,a,c,h,b=>by
  obtain⟨n,o,p,q⟩:=B3 a
  obtain⟨l,m⟩:=E0r a h (b w mS)
  exact x0k r (y01 a ⟨iR _,by omega⟩ ⟨iR _,by omega⟩ (c w mS)) (λi d=>by rw[c01];exact c i (mC _ d)) m λi d=>b i (mC _ d)
theorem i0o{k:Int}{f:Int->Bool}{a b:J0}(g:f a.2.2=xor (f a.1) (sgn k a.2.1))(h:f b.2.2=xor (f b.1) (sgn k b.2.1)):∀ p∈d04 a b,f p.1=f p.2:=λp d=>by
 unfold d04 at d
 by_cases c:a.2.1=b.2.1
 ·rw[decide_eq_true c,cond_true]at d
  rcases List.mem_append.1 d with d|d
  ·by_cases c1:a.1=b.1
   ·rw[decide_eq_true c1,cond_true,List.mem_singleton]at d
    have:f a.2.2=f b.2.2:=by rw[g,h,c,c1]
    subst d
    simp only
    split<;>split<;>first|rfl|exact this|exact this.symm
   ·rw[decide_eq_false c1]at d;cases d
  ·by_cases c1:a.2.2=b.2.2
   ·rw[decide_eq_true c1,cond_true,List.mem_singleton]at d
    have:f a.1=f b.1:=by
     rw[c1,h,c]at g
     revert g
     cases f a.1<;>cases f b.1<;>cases sgn k b.2.1<;>simp
    subst d
    simp only
    split<;>split<;>first|rfl|exact this|exact this.symm
   ·rw[decide_eq_false c1]at d;cases d
 ·rw[decide_eq_false c]at d;cases d
theorem c0h{k:Int}{f:Int->Bool}{a:J0}(d:f a.2.2=xor (f a.1) (sgn k a.2.1)):∀(l:List J0),Lab k f l->∀ p∈i01 a l,f p.1=f p.2
 | [],h,p,c=>by cases c
 |b::r,h,p,c=>by
  rcases List.mem_append.1 c with c|c
  ·exact i0o d (h b mS) p c
  ·exact c0h d r (λe g=>h e (mC _ g)) p c
theorem d0h{k:Int}{f:Int->Bool}:∀(l:List J0),Lab k f l->∀ p∈Y4 l,f p.1=f p.2
 | [],h,p,b=>by cases b
 |a::r,h,p,b=>by
  rcases List.mem_append.1 b with b|b
  ·exact c0h (h a mS) r (λe c=>h e (mC _ c)) p b
  ·exact d0h r (λe c=>h e (mC _ c)) p b
theorem j0o{k:Int}{f:Int->Bool}{g:j0}{p:Int×Int}(i:okF g p)(h:Lab k f g.2.2)(m:f p.1=f p.2):∃ j,Lab k j (R4 g p).2.2:=by
 have hv:∀ z:Int,(λz:Int=>if z<p.2 then f z else f (z+1)) (mvV p z)=f z:=λz=>by
  unfold okF at i
  unfold mvV
  simp only
  by_cases c:z=p.2
  ·rw[if_pos c,if_pos i.2.1,m,c]
  ·rw[if_neg c]
   by_cases c2:z>p.2
   ·rw[if_pos c2,if_neg (by omega),show z-1+1=z by omega]
   ·rw[if_neg c2,if_pos (by omega)]
 refine⟨λz=>if z<p.2 then f z else f (z+1),λe n=>?_⟩
 have o:e∈g.2.2.map (mvE p):=by
  rcases(D4 Y3 e _ _).1 n with a|a
  ·cases a
  ·exact a
 obtain⟨d,l,rfl⟩:=List.mem_map.1 o
 have a:=hv d.1
 have b:=hv d.2.2
 simp only at a b
 unfold mvE
 simp only[a,b]
 exact h d l
theorem e0h{k:Int}:∀(n:Nat) {g:j0} {f:Int->Bool},O0 g=true->Lab k f g.2.2->∃ b,Lab k b (a5 n g).1.2.2
 |0,g,f,a,h=>⟨f,h⟩
 |n+1,g,f,a,h=>by
  unfold a5
  cases e:Y4 g.2.2 with
  |nil=>exact⟨f,h⟩
  |cons p l =>
   have c:=P8 a p (by rw[e];exact mS)
   obtain⟨b,d⟩:=j0o c h (d0h _ h p (by rw[e];exact mS))
   exact e0h n (s00 a c) d
theorem t0q{k:Int}{g:j0}(m:O0 g=true){f:Int->Bool}(h:Lab k f g.2.2):∃ s,Lab k s (o04 g).2.2:=by
 obtain⟨t,o⟩:=e0h 40 m h
 have hf:=P01 m
 have u:(E5 g).1=(a5 40 g).1:=by unfold E5;rw[m];rfl
 rw[←u]at o
 obtain⟨E,j,_,_⟩:=a0f hf
 refine⟨λz=>t (E z),λe l=>?_⟩
 have l:e∈(C09 (E5 g).1).2.2:=l
 have i:=(j4 j.fc).1 e l
 have q:=(j00 j.fc l).1
 have n:=j.hom.step e.1 e.2.1 i.1.1 i.1.2 (by rw[q];exact i.2.1.1)
 rw[q]at n
 have y:=j.hom.rng _ i.2.1.1 i.2.1.2
 obtain⟨_,d,w,_,p⟩:=j02 (g:=(E5 g).1) (v:=E e.1) (x:=e.2.1) (by rw[n];exact y.1)
 rw[n]at p
 rcases p with⟨_,a,b,c⟩|⟨a,_⟩
 ·have:=o d w
  rw[a,b,c]at this;exact this
 ·omega
theorem F0r{k r:Int}{a:List (List Int)}(b:N2 r a=true)(h:((0,k,0):J0)∈(u00 r a).1.2.2):∃ w∈a,par k w=true:=by
 refine Classical.byContradiction λl=>?_
 have m:∀ w∈a,par k w=false:=λw j=>by
  cases e:par k w with
  |false=>rfl
  |true=>exact absurd ⟨w,j,e⟩ l
 have c:=Q00 b
 obtain⟨n,d⟩:=x0k (k:=k) a (f:=λ_=>false) (y04 c.1) c.2.2 (λe i=>by cases i) m
 obtain⟨f2,g⟩:=t0q (X01 b) d
 unfold u00 at h
 rw[b,cond_true]at h
 have:=g _ h
 simp only[sgn,true_or,decide_true]at this
 revert this
 cases f2 0<;>simp
theorem C08(r:Int)(a:List (List Int)):(u00 r a).1.2.2.length<=140737488355328:=by
 unfold u00
 cases h:N2 r a with
 |false=>exact Nat.zero_le _
 |true =>
  obtain⟨E,b,_,_⟩:=a0f (P01 (X01 h))
  have:=(j4 b.fc).2.2.2
  show(C09 (E5 (L5 a (r,1,[]))).1).2.2.length<=_
  omega
theorem u0q(g:j0)(d:g.2.2.length<=140737488355328):Y01 g=some (d9 g):=by
 have h:=K0c g d
 obtain⟨a,b,c⟩:=g
 unfold Y01 d9
 simp only[h,oB]
 cases r00 (a,b,c)<;>cases decide (b=1)<;>rfl
theorem v0q(g:j0)(d:g.2.2.length<=140737488355328):Z01 g=some (d9 g):=by
 have h:=N0a g d
 obtain⟨a,b,c⟩:=g
 unfold Z01 d9
 simp only[h,oB]
 cases r00 (a,b,c)<;>cases decide (b=1)<;>rfl
def z02(r:Int)(a:List (List Int)):Bool:=r9 (r,a)&&((u00 r a).2&&d9 (u00 r a).1)
theorem c0n(r:Int)(d:List (List Int))(g:d.length<=140737488355328)(h:S3 d):d8 (r,d)=some (z02 r d):=by
 have i:=Z0a r d g h
 have j:=S0g r d g h
 have f:=u0q _ (C08 r d)
 unfold d8 z02
 simp only[j,oB]
 generalize u00 r d=q at *
 obtain⟨⟨a,b,c⟩,z⟩:=q
 simp only at f
 simp only[i,oB,f]
 cases r9 (r,d)<;>cases z<;>cases d9 (a,b,c)<;>rfl
theorem d0n(r:Int)(d:List (List Int))(g:d.length<=140737488355328)(h:S3 d):O6 (r,d)=some (z02 r d):=by
 have i:=a0b r d g h
 have j:=T0g r d g h
 have f:=v0q _ (C08 r d)
 unfold O6 z02
 simp only[i,oB]
 cases r9 (r,d)with
 |false=>rfl
 |true =>
  simp only[j,oB]
  generalize u00 r d=q at *
  obtain⟨⟨a,b,c⟩,z⟩:=q
  simp only at f
  simp only[f]
  cases z<;>cases d9 (a,b,c)<;>rfl
def h08(r:Int)(a:List (List Int)):Bool:=(u00 r a).2&&decide (R03 (u00 r a).1=((a.length:Nat):Int))
theorem G0r(r:Int)(d:List (List Int))(i:d.length<=140737488355328)(j:S3 d):Q9 r d=some (h08 r d):=by
 have h:=S0g r d i j
 obtain⟨f,g⟩:=x0l _ (C08 r d)
 unfold Q9 h08
 simp only[h,oB]
 generalize u00 r d=q at *
 obtain⟨⟨a,b,c⟩,z⟩:=q
 simp only at f g
 simp only[f]
 cases z with
 |false=>rfl
 |true =>
  rw[Z2,oB,F0 g];rfl
theorem H0r(r:Int)(d:List (List Int))(i:d.length<=140737488355328)(j:S3 d):T9 r d=some (h08 r d):=by
 have h:=T0g r d i j
 have f:=y0l _ (C08 r d)
 have g:=r0r (u00 r d).1
 unfold T9 h08
 simp only[h,oB]
 generalize u00 r d=q at *
 obtain⟨⟨a,b,c⟩,z⟩:=q
 simp only at f g
 simp only[f]
 cases z with
 |false=>rfl
 |true =>
  rw[Z2,oB,F0 g];rfl
def X06(r:Int)(a:List (List Int)):Bool:=r9 (r,a)&&h08 r a
theorem L0s(r:Int)(a:List (List Int))(b:a.length<=140737488355328)(c:S3 a):R9 (r,a)=some (X06 r a):=by
 have d:=Z0a r a b c
 have f:=G0r r a b c
 unfold R9 X06
 simp only[d,f,oB]
 cases r9 (r,a)<;>rfl
theorem M0s(r:Int)(a:List (List Int))(b:a.length<=140737488355328)(c:S3 a):U9 (r,a)=some (X06 r a):=by
 have d:=a0b r a b c
 have f:=H0r r a b c
 unfold U9 X06
 simp only[d,f,oB]
 cases r9 (r,a)<;>rfl
instance gpB:Gp Bool where
 m:=xor
 e:=false
 i:=id
 ac:=by decide
 em:=by decide
 me:=by decide
 im:=by decide
 mi:=by decide
theorem s0i{k:Int}(a:0<k):∀ w:List Int,ev (λx=>decide (x=k)) w=par k w
 | []=>rfl
 |x::w=>by
  show xor (gs (λx=>decide (x=k)) x) (ev (λx=>decide (x=k)) w)=xor (sgn k x) (par k w)
  rw[s0i a w]
  refine congrArg (xor · _) ?_
  unfold gs sgn
  by_cases c:x<0
  ·rw[if_pos c]
   exact decide_eq_decide.2 ⟨λh => .inr (by omega),λh=>by omega⟩
  ·rw[if_neg c]
   exact decide_eq_decide.2 ⟨λh => .inl (by omega),λh=>by omega⟩
theorem N0s{k:Int}(c:0<k){n:Nat}{w x:List Int}(d:Lw w)(f:Lw x):par k (p4 n w x)=xor (par k w) (par k x):=by
 have:=k0q (λx=>decide (x=k)) (n:=n) d f
 rw[s0i c,s0i c,s0i c]at this
 rw[this]
 generalize par k w=a
 generalize par k x=b
 match n with
 |0=>rfl
 |1=>rfl
 |2=>show xor b a=xor a b;cases a<;>cases b<;>rfl
 |n+3=>show xor b a=xor a b;cases a<;>cases b<;>rfl
theorem O0s{r k:Int}(p:0<k){l l1:List (List Int)}{m:Q7}(h:Sz r l)(s:St l m l1)(o:∃ w∈l,par k w=true):∃ w∈l1,par k w=true:=by
 obtain⟨v,hv,d⟩:=o
 obtain⟨t,a⟩:=List.getElem?_of_mem hv
 rcases s with⟨i,b,_,rfl⟩|⟨i,j,n,w,x,g,b,f,z,_,y,rfl⟩
 ·have A:t≠i:=λe=>by rw[e,b]at a;cases a;cases d
  refine⟨v,List.mem_append.2 ?_,d⟩
  by_cases c:t<i
  ·exact .inl (List.mem_of_getElem? (i:=t) (by rw[List.getElem?_take_of_lt c];exact a))
  ·exact .inr (List.mem_of_getElem? (i:=t-(i+1)) (by rw[List.getElem?_drop,show i+1+(t-(i+1))=t by omega];exact a))
 ·have q:=N0s p (n:=n) (h.lw (List.mem_of_getElem? b)) (h.lw (List.mem_of_getElem? f))
  have u:p4 n w x∈l.set i (p4 n w x):=List.mem_of_getElem? (List.getElem?_set_self (List.getElem?_eq_some_iff.1 b).1)
  by_cases c:t=i
  ·rw[c,b]at a
   cases a
   cases hx:par k x with
   |true=>exact⟨x,List.mem_of_getElem? (i:=j) (by rw[List.getElem?_set_ne g];exact f),hx⟩
   |false=>exact⟨_,u,by rw[q,d,hx];rfl⟩
  ·exact⟨v,List.mem_of_getElem? (i:=t) (by rw[List.getElem?_set_ne (λe=>c e.symm)];exact a),d⟩
theorem P0s{r k:Int}(b:0<k){l a:List (List Int)}{ms:List Q7}(c:Ch l ms a):Sz r l->(∃ w∈l,par k w=true)->∃ w∈a,par k w=true:=by
 induction c with
 |nil=>exact λ_ o=>o
 |cons s _ d=>exact λh o=>d (s.sz h) (O0s b h s o)
def hd1(w:List Int):Nat:=(w.headD 0).natAbs
theorem H0l{r:Int}{d f:List (List Int)}{ms:List Q7}(s:N2 r d=true)(m:d9 (u00 r d).1=true)(p:(u00 r d).1.1=r)(q:Sz r d)(c:Ch d ms f)(u:(f.length:Int)=r)(l:∀ w∈f,w.length=1):(f.map hd1).Nodup:=by
 refine pg2 _ ((List.range r.toNat).map (·+1)) (List.Pairwise.map _ (λa b h e=>h (by omega)) List.nodup_range) (λk n=>?_) (by simp only[List.length_map,List.length_range];omega)
 obtain⟨i,g,rfl⟩:=List.mem_map.1 n
 have g:=List.mem_range.1 g
 obtain⟨w,j,o⟩:=P0s (k:=((i+1:Nat):Int)) (by omega) c q (F0r s (M0c m (by omega) (by rw[p];omega)))
 refine List.mem_map.2 ⟨w,j,?_⟩
 obtain⟨t,rfl⟩:=List.length_eq_one_iff.1 (l w j)
 simp only[par,Bool.xor_false,sgn,decide_eq_true_eq]at o
 show t.natAbs=i+1
 omega
def sgw(y:Int)(s:List Int):List Int:=if y<0 then inv s else s
structure Ys (r:Int) (l us:List (List Int)):Prop where
 k:1<=r/\r<=3
 n:(l.length:Int)=r
 u:us.length=l.length
 w:∀ w∈l,∀ x∈w,x≠0 /\ -r<=x/\x<=r
 b:∀ v∈us,v.length<=17592186044416
def iy(y:Int):Nat:=y.natAbs-1
theorem e0n{r a:Int}(f:r<=3)(h0:a≠0)(b : -r<=a)(d:a<=r):(¬ a<0->IntKind.i64.wrap (a-1)=((iy a:Nat):Int))/\(a<0->IntKind.i64.wrap (0-a) = -a/\IntKind.i64.wrap (-a-1)=((iy a:Nat):Int)):=by
 unfold iy
 refine⟨λc=>?_,λc=>⟨?_,?_⟩⟩
 ·rw[w64 (by omega) (by omega)];omega
 ·rw[w64 (by omega) (by omega)];omega
 ·rw[w64 (by omega) (by omega)];omega
section
variable {r:Int} {l us:List (List Int)} {k:Nat} {w s:List Int}
theorem Q0s(h:Ys r l us)(b:l[k]?=some w)(d:us[k]?=some s)(f:w.length≠1∨s.length>24)(fuel:Nat)(u:List (List Int)):P1 r l us (fuel+1) (k:Int) r u=some (.inl ((0,[]),false)):=by
 have g:=(List.getElem?_eq_some_iff.1 b).1
 have i:=h.n
 rw[P1.eq_2,if_pos (by simp;omega),V1 b,oB]
 by_cases c:w.length=1
 ·have a:decide (((w.length:Nat):Int)=1)=true:=decide_eq_true (by omega)
  rw[a,Bool.not_true,Bool.not_false,Z2,V1 d,oB,if_pos (by simp only[cond_false,decide_eq_true_eq];omega)]
 ·have a:decide (((w.length:Nat):Int)=1)=false:=decide_eq_false (by omega)
  rw[a,Bool.not_false,Bool.not_true,L4,oB,if_pos (by rfl)]
theorem b0s(h:Ys r l us){a:Int}(d:l[k]?=some [a])(g:us[k]?=some s)(z:s.length<=24)(fuel:Nat){u:List (List Int)}(C:(u.length:Int)=r):
  P1 r l us (fuel+1) (k:Int) r u=P1 r l us fuel ((k+1:Nat):Int) r (u.set (iy a) (sgw a s)):=by
 have o:=(List.getElem?_eq_some_iff.1 d).1
 have A:=h.n
 have p:=h.k
 obtain⟨t,v,y⟩:=h.w _ (List.mem_of_getElem? d) a (List.mem_singleton.2 rfl)
 obtain⟨q,i⟩:=e0n p.2 t v y
 have m:iy a<u.length:=by unfold iy;omega
 have f:=d5 m
 have j:=h.b _ (List.mem_of_getElem? g)
 rw[P1.eq_2,if_pos (by simp;omega),V1 d,oB,show decide ((([a].length:Nat):Int)=1)=true from rfl,Bool.not_true,Bool.not_false,Z2,V1 g,oB,if_neg (by simp only[cond_false,decide_eq_true_eq];omega),oB,
  J05 (x:=a) rfl,oB,C2 o (by omega:l.length<=9223372036854775807)]
 by_cases c:a<0
 ·rw[if_neg (by simp;omega),oB,J05 (x:=a) rfl,oB,oB,(i c).1,(i c).2,V1 f,oB,R00 s j,oB,Int.toNat_natCast]
  unfold sgw
  rw[if_pos c]
 ·rw[if_pos (by simp;omega),oB,J05 (x:=a) rfl,oB,oB,q c,F0 (by omega),oB,V1 f,oB,Int.toNat_natCast]
  unfold sgw
  rw[if_neg c]
theorem I0r(h:Ys r l us)(a:l[k]?=some w)(b:w.length≠1)(fuel:Nat)(u:List (Option (List Int))):Q1 l us r (fuel+1) (k:Int) r u=some (.inl ((0,[]),false)):=by
 have c:=(List.getElem?_eq_some_iff.1 a).1
 have d:=h.n
 rw[Q1.eq_2,if_pos (by simp;omega),V1 a,oB,if_pos (by simp;omega)]
theorem I0l(y:Int)(s:List Int):(sgw y s).length=s.length:=by
 unfold sgw
 split
 ·exact e03 s
 ·rfl
theorem w0q(h:Ys r l us){a:Int}(f:l[k]?=some [a])(i:us[k]?=some s)(fuel:Nat){u:List (Option (List Int))}(D:(u.length:Int)=r){o:Option (List Int)}(g:u[iy a]?=some o):
  Q1 l us r (fuel+1) (k:Int) r u=if o.isNone=true/\s.length<=24 then Q1 l us r fuel ((k+1:Nat):Int) r (u.set (iy a) (some (sgw a s)))else some (.inl ((0,[]),false)):=by
 have p:=(List.getElem?_eq_some_iff.1 f).1
 have C:=h.n
 have q:=h.k
 obtain⟨v,y,A⟩:=h.w _ (List.mem_of_getElem? f) a (List.mem_singleton.2 rfl)
 obtain⟨t,j⟩:=e0n q.2 v y A
 have m:=h.b _ (List.mem_of_getElem? i)
 have hv:=e03 s
 rw[Q1.eq_2,if_pos (by simp;omega),V1 f,oB,if_neg (show ¬ (!decide ((([a].length:Nat):Int)=1))=true from λe=>by cases e),V1 i,oB,J05 (x:=a) rfl,oB,C2 p (by omega:l.length<=9223372036854775807)]
 unfold sgw
 by_cases c:a<0
 ·have d:inR 1 r (-a)=true:=by unfold inR;simp only[Bool.and_eq_true,decide_eq_true_eq];omega
  rw[if_pos (by simpa using c),S00 s m,oB,(j c).1,U7,d,oB,(j c).2,Bool.not_true,Bool.not_false,Z2,V1 g,oB,if_pos c]
  cases o with
  |some z=>rw[if_pos (by rfl),if_neg (λe=>by cases e.1)]
  |none =>
   by_cases c2:s.length<=24
   ·rw[if_neg (by simp;omega),if_pos ⟨rfl,c2⟩,F0 (by simp;omega),oB,oB,Int.toNat_natCast,List.nil_append]
   ·rw[if_pos (by simp;omega),if_neg λe=>c2 e.2]
 ·have d:inR 1 r a=true:=by unfold inR;simp only[Bool.and_eq_true,decide_eq_true_eq];omega
  rw[if_neg (by simpa using c),U7,d,oB,t c,Bool.not_true,Bool.not_false,Z2,V1 g,oB,if_neg c]
  cases o with
  |some z=>rw[if_pos (by rfl),if_neg (λe=>by cases e.1)]
  |none =>
   by_cases c2:s.length<=24
   ·rw[if_neg (by simp;omega),if_pos ⟨rfl,c2⟩,F0 (by simp;omega),oB,oB,Int.toNat_natCast,List.nil_append]
   ·rw[if_pos (by simp;omega),if_neg λe=>c2 e.2]
end
def bad(w s:List Int):Prop:=w.length≠1∨s.length>24
theorem x0q{r:Int}{l b:List (List Int)}(h:Ys r l b):∀(d k fuel:Nat) (u:List (List Int)),k+d=l.length->d<fuel->(u.length:Int)=r->(∃(i:Nat) (w s:List Int),k<=i/\l[i]?=some w/\b[i]?=some s/\bad w s)->P1 r l b fuel (k:Int) r u=some (.inl ((0,[]),false))
 |d,k,0,u,o,hf,m,_=>by omega
 |0,k,fuel+1,u,o,hf,m,⟨i,w,s,v,a,_⟩=>by
  have:=(List.getElem?_eq_some_iff.1 a).1
  omega
 |d+1,k,fuel+1,u,o,hf,m,f=>by
  have p:k<l.length:=by omega
  have a:=d5 p
  have x:k<b.length:=by rw[h.u];exact p
  have g:=d5 x
  generalize l[k]=w at a
  generalize b[k]=s at g
  by_cases c:bad w s
  ·exact Q0s h a g c fuel u
  ·have q:w.length=1:=Classical.byContradiction λe=>c (.inl e)
   have t:s.length<=24:=Nat.le_of_not_lt λe=>c (.inr e)
   obtain⟨A,rfl⟩:=List.length_eq_one_iff.1 q
   rw[b0s h a g t fuel m]
   refine x0q h d (k+1) fuel _ (by omega) (by omega) (by rw[List.length_set];exact m) ?_
   obtain⟨i,z,y,v,n,j,f⟩:=f
   refine⟨i,z,y,?_,n,j,f⟩
   by_cases e:i=k
   ·rw[e]at n j
    rw[a]at n
    rw[g]at j
    cases n;cases j
    exact absurd f c
   ·omega
theorem y0q{r:Int}{l c:List (List Int)}(h:Ys r l c):∀(d k fuel:Nat) (u:List (Option (List Int))),k+d=l.length->d<fuel->(u.length:Int)=r->(∃(i:Nat) (w s:List Int),k<=i/\l[i]?=some w/\c[i]?=some s/\bad w s)->Q1 l c r fuel (k:Int) r u=some (.inl ((0,[]),false))
 |d,k,0,u,o,hf,j,_=>by omega
 |0,k,fuel+1,u,o,hf,j,⟨i,w,s,t,a,_⟩=>by
  have:=(List.getElem?_eq_some_iff.1 a).1
  omega
 |d+1,k,fuel+1,u,o,hf,j,f=>by
  have p:k<l.length:=by omega
  have a:=d5 p
  have v:k<c.length:=by rw[h.u];exact p
  have n:=d5 v
  generalize l[k]=w at a
  generalize c[k]=s at n
  by_cases c1:w.length=1
  ·obtain⟨q,rfl⟩:=List.length_eq_one_iff.1 c1
   obtain⟨C,D,E⟩:=h.w _ (List.mem_of_getElem? a) q (List.mem_singleton.2 rfl)
   have x:=d5 (show iy q<u.length by unfold iy;omega)
   rw[w0q h a n fuel j x]
   split
   ·rename_i A
    refine y0q h d (k+1) fuel _ (by omega) (by omega) (by rw[List.length_set];exact j) ?_
    obtain⟨i,z,y,t,m,g,f⟩:=f
    refine⟨i,z,y,?_,m,g,f⟩
    by_cases e:i=k
    ·rw[e]at m g
     rw[a]at m
     rw[n]at g
     cases m;cases g
     exact absurd f λb=>b.elim (λb=>b rfl) (λb=>by omega)
    ·omega
   ·rfl
  ·exact I0r h a c1 fuel u
def gd0(u:List (Option (List Int))):List (List Int):=List.map (λo:Option D0=>o.getD ([]:D0)) u
theorem z0q{r:Int}{l j:List (List Int)}(h:Ys r l j)(D:(l.map hd1).Nodup)(E:∀(i:Nat) (w s:List Int),l[i]?=some w->j[i]?=some s -> ¬ bad w s):∀(d k fuel b:Nat) (u:List (Option (List Int))),k+d=l.length->d<fuel->d<b->(u.length:Int)=r ->
  (∀(i:Nat) (a:Int),k<=i->l[i]?=some [a]->u[iy a]?=some none)->(∀ v∈gd0 u,v.length<=24) ->
  ∃ t,P1 r l j fuel (k:Int) r (gd0 u)=some (.inr (r,gd0 t))/\Q1 l j r b (k:Int) r u=some (.inr (r,t))/\(t.length:Int)=r/\∀ v∈gd0 t,v.length<=24
 |d,k,0,b,u,y,hf,z,f,o,m=>by omega
 |d,k,fuel+1,0,u,y,hf,z,f,o,m=>by omega
 |0,k,fuel+1,b+1,u,y,hf,z,f,o,m=>by
  have Y:=h.n
  refine⟨u,?_,?_,f,m⟩
  ·rw[P1.eq_2,if_neg (by simp;omega)]
  ·rw[Q1.eq_2,if_neg (by simp;omega)]
 |d+1,k,fuel+1,b+1,u,y,hf,z,f,o,m=>by
  have F:k<l.length:=by omega
  have g:=d5 F
  have K:k<j.length:=by rw[h.u];exact F
  have q:=d5 K
  generalize l[k]=w at g
  generalize j[k]=s at q
  have c:=E k w s g q
  have G:w.length=1:=Classical.byContradiction λe=>c (.inl e)
  have x:s.length<=24:=Nat.le_of_not_lt λe=>c (.inr e)
  obtain⟨a,rfl⟩:=List.length_eq_one_iff.1 G
  have M:=o k a (Nat.le_refl _) g
  have e:gd0 (u.set (iy a) (some (sgw a s)))=(gd0 u).set (iy a) (sgw a s):=by unfold gd0;rw[List.map_set];rfl
  rw[b0s h g q x fuel (by unfold gd0;rw[List.length_map];exact f),w0q h g q b f M,if_pos ⟨rfl,x⟩,←e]
  refine z0q h D E d (k+1) fuel b _ (by omega) (by omega) (by omega) (by rw[List.length_set];exact f) (λi p X A=>?_) (λv hv=>?_)
  ·have L:iy a≠iy p:=λe=>by
    obtain⟨R,S,T⟩:=h.w _ (List.mem_of_getElem? g) a (List.mem_singleton.2 rfl)
    obtain⟨U,V,W⟩:=h.w _ (List.mem_of_getElem? A) p (List.mem_singleton.2 rfl)
    have C:(l.map hd1)[k]?=some a.natAbs:=by rw[List.getElem?_map,g];rfl
    have H:(l.map hd1)[i]?=some p.natAbs:=by rw[List.getElem?_map,A];rfl
    have:a.natAbs=p.natAbs:=by unfold iy at e;omega
    rw[this]at C
    have J:=(List.getElem?_eq_some_iff.1 C)
    have I:=(List.getElem?_eq_some_iff.1 H)
    obtain⟨N,O⟩:=J
    obtain⟨P,Q⟩:=I
    exact List.pairwise_iff_getElem.1 D k i N P (by omega) (by rw[O,Q])
   rw[List.getElem?_set_ne L]
   exact o i p (by omega) A
  ·rw[e]at hv
   rcases List.mem_or_eq_of_mem_set hv with hv|rfl
   ·exact m v hv
   ·rw[I0l];exact x
theorem J0l{r:Int}{w:List Int}(h:I3 r w=true)(d:r<=3):I3 3 w=true:=by
 simp only[I3,Bool.and_eq_true,decide_eq_true_eq]at h ⊢
 refine⟨⟨by decide,h.1.2⟩,U0g λi b c=>?_⟩
 have:=K0b h.2 i b c
 unfold V04 at this ⊢
 cases hx:w[i]? with
 |none=>rw[hx]at this;exact this
 |some x =>
  rw[hx]at this
  simp only[Bool.or_eq_false_iff]at this ⊢
  refine⟨⟨this.1.1,?_⟩,this.2⟩
  have a:=this.1.2
  simp only[inR,Bool.not_eq_false',Bool.and_eq_true,decide_eq_true_eq]at a ⊢
  omega
def idL(r:Int):List (List Int):=(List.range r.toNat).map λi=>[((i+1:Nat):Int)]
theorem H0t{r:Int}(h:1<=r/\r<=3):b9 r=some ((r,idL r),true)/\c9 r=some ((r,idL r),true):=by
 have:r=1∨r=2∨r=3:=by omega
 rcases this with rfl|rfl|rfl
 ·decide +kernel
 ·decide +kernel
 ·decide +kernel
theorem y0k{r:Int}{b:List (List Int)}(h:N2 r b=true):N2 3 b=true:=by
 have c:=Q00 h
 have f:=Y0b h
 have d:∀ b:List (List Int),(∀ w∈b,I3 r w=true)->W04 3 b=true:=λb=>by
  induction b with
  |nil=>intro _;rfl
  |cons a l g =>
   intro h
   simp only[W04,Bool.and_eq_true]
   exact⟨J0l (h a mS) (by omega),g λw c=>h w (mC _ c)⟩
 simp only[N2,Bool.and_eq_true,decide_eq_true_eq]
 exact⟨⟨⟨by decide,c.2.1⟩,d b c.2.2⟩,f⟩
theorem z0k{r:Int}{a:List (List Int)}(b:N2 r a=true):(u00 r a).1.1=r:=by
 have f:=X01 b
 have c:(E5 (L5 a (r,1,[]))).1=(a5 40 (L5 a (r,1,[]))).1:=by unfold E5;rw[f];rfl
 have d:(u00 r a).1=C09 (E5 (L5 a (r,1,[]))).1:=by unfold u00;rw[b];rfl
 rw[d,U0a,c,p04,q04]
theorem t0t{r:Int}{i:Nat}{v:List Int}(h:(idL r)[i]?=some v):v = [(i:Int)+1]:=by
 unfold idL at h
 rw[List.getElem?_map]at h
 obtain⟨k,a,rfl⟩:=Option.map_eq_some_iff.1 h
 have:=(List.getElem?_eq_some_iff.1 a)
 obtain⟨p,q⟩:=this
 rw[List.getElem_range]at q
 rw[q];rfl
theorem k0o(r:Int)(a:List (List Int))(K:a.length<=140737488355328)(N:S3 a):∃ X:H1×Bool,T00 (r,a)=some X/\U00 (r,a)=some X/\X.1.2.length<=140737488355328/\S3 X.1.2:=by
 have S:=c0n r a K N
 have T:=d0n r a K N
 have y:∃ X:H1×Bool,(some ((0,[]),false):Option (H1×Bool))=some X/\(some ((0,[]),false):Option (H1×Bool))=some X/\X.1.2.length<=140737488355328/\S3 X.1.2 :=
  ⟨((0,[]),false),rfl,rfl,Nat.zero_le _,λw d=>by cases d⟩
 unfold T00 U00
 simp only[S,T,oB]
 cases hsj:z02 r a with
 |false=>exact y
 |true =>
  simp only[Bool.not_true,Bool.false_eq_true,if_false]
  simp only[z02,Bool.and_eq_true]at hsj
  obtain⟨m,C,J⟩:=hsj
  have G:=B08.1 m
  have E:=G.k
  have aa:=G.n
  have d:N2 r a=true:=by
   cases e:N2 r a with
   |true=>rfl
   |false=>unfold u00 at C;rw[e]at C;cases C
  have ad:=Q00 d
  have au:=Y0b d
  have D:Sz r a:=⟨by omega,by omega,E.2,λw m x ae=>by have:=(i02 (ad.2.2 w m)).2 x ae;exact⟨this.2.1,this.2.2⟩⟩
  obtain⟨L,U,sh⟩:=E0l d J aa
  obtain⟨ag,ah⟩:=H0t E
  obtain⟨f,ms,ak,al,c,H,Z⟩:=j0q (y0k d) D
  have ar:(idL r).length=a.length:=by unfold idL;rw[List.length_map,List.length_range];omega
  have an:(a.zip (idL r)).map (·.1)=a:=List.map_fst_zip (by omega)
  have ao:(a.zip (idL r)).map (·.2)=idL r:=List.map_snd_zip (by omega)
  have g:∀ p∈a.zip (idL r),Gd L p:=λp ab=>by
   obtain⟨i,t⟩:=List.getElem?_of_mem ab
   obtain⟨o,F⟩:=p
   obtain⟨q,A⟩:=List.getElem?_zip_eq_some.1 t
   obtain rfl:=t0t A
   have aq:=(List.getElem?_eq_some_iff.1 q).1
   refine⟨Lw.one ⟨⟨by omega,by omega⟩,by omega⟩ (by omega),rfl,?_⟩
   show ev gen [(i:Int)+1]=ev L o
   rw[U i o q,E09]
  obtain⟨av,b,o,F,ai⟩:=m0q sh Z c D an g
  rw[ao]at o F
  rw[ag,ah,ak,al]
  simp only[oB,o,F]
  cases b with
  |false=>exact y
  |true =>
   by_cases hlen:((f.length:Nat):Int)=r
   ·rw[decide_eq_true hlen]
    simp only[Bool.not_true,cond_false,Bool.false_eq_true,if_false]
    obtain⟨z,O,aj,rfl⟩:=ai rfl
    have W:=l0q sh (by rw[O];exact H) aj
    have h:Ys r f (z.map (·.2)):=⟨E,hlen,by rw[←O,List.length_map,List.length_map],H.w,λv hv=>(W.w v hv).2⟩
    rw[F0 (by omega),oB,oB]
    have M:gd0 (List.replicate r.toNat (none:Option D0))=List.replicate r.toNat ([]:D0):=by unfold gd0;rw[List.map_replicate];rfl
    rw[←M]
    by_cases hb:∃(i:Nat) (w s:List Int),0<=i/\f[i]?=some w/\(z.map (·.2))[i]?=some s/\bad w s
    ·have j:=x0q h f.length 0 Q0 (gd0 (List.replicate r.toNat (none:Option D0))) (by omega) (j1 (by omega)) (by unfold gd0;rw[List.length_map,List.length_replicate];omega) hb
     have l:=y0q h f.length 0 Q0 (List.replicate r.toNat (none:Option D0)) (by omega) (j1 (by omega)) (by rw[List.length_replicate];omega) hb
     rw[show((0:Nat):Int)=0 from rfl]at j l
     rw[j,l]
     exact y
    ·have I:∀(i:Nat) (w s:List Int),f[i]?=some w->(z.map (·.2))[i]?=some s -> ¬ bad w s:=λi w s q A Q=>hb ⟨i,w,s,Nat.zero_le _,q,A,Q⟩
     have V:=H0l d J (z0k d) D c hlen λw m=>by
      obtain⟨i,t⟩:=List.getElem?_of_mem m
      have Y:=(List.getElem?_eq_some_iff.1 t).1
      have ac:=d5 (show i<(z.map (·.2)).length by rw[h.u];exact Y)
      exact Classical.byContradiction λe=>I i w _ t ac (.inl e)
     obtain⟨P,j,l,ap,R⟩:=z0q h V I f.length 0 Q0 Q0 (List.replicate r.toNat (none:Option D0)) (by omega) (j1 (by omega)) (j1 (by omega)) (by rw[List.length_replicate];omega)
      (λi am _ af=>by
       obtain⟨aw,ax,ay⟩:=h.w _ (List.mem_of_getElem? af) am (List.mem_singleton.2 rfl)
       rw[List.getElem?_replicate,if_pos (by unfold iy;omega)])
      (λv hv=>by
       rw[M]at hv
       rw[(List.mem_replicate.1 hv).2];exact Nat.zero_le _)
     rw[show((0:Nat):Int)=0 from rfl]at j l
     rw[j,l]
     exact⟨((r,gd0 P),true),rfl,rfl,by show(gd0 P).length<=_;unfold gd0;rw[List.length_map];omega,λv hv=>by have:=R v hv;omega⟩
   ·rw[decide_eq_false hlen];exact y
def d0c(r:Int)(a:List (List Int))(X:H1×Bool):ByteArray :=
 bif r9 (r,a)then(bif X.2 then B (fmM (r,a)++32::(([105,110,118,101,114,115,101]:List UInt8)++32::fmM X.1))else B (fmM (r,a)++((bif X06 r a then 32::([105,110,106,101,99,116,105,118,101]:List UInt8)else [])++(bif z02 r a then 32::([115,117,114,106,101,99,116,105,118,101]:List UInt8)else []))))else B []
theorem ml2(s t:List UInt8)(h:s.length<=100000)(a:t.length<=100000):z9 [B s,B t]=some (B (s++32::t)):=by
 have:=n0q [s,t] (by simp) (by simp only[bsz];omega)
 simpa [q06,e07] using this
theorem ml3(s t u:List UInt8)(h:s.length<=100000)(a:t.length<=100000)(b:u.length<=100000):z9 [B s,B t,B u]=some (B (s++32::(t++32::u))):=by
 have:=n0q [s,t,u] (by simp) (by simp only[bsz];omega)
 simpa [q06,e07] using this
theorem A0q(b:Bool)(s:List UInt8):C01 b (B s)=some (B (bif b then s else [])):=by
 unfold C01
 cases b<;>rfl
theorem l0o(r:Int)(d:List (List Int))(f:d.length<=140737488355328)(g:S3 d):∃ b,g8 (r,d)=some b/\n9 (r,d)=some b:=by
 obtain⟨X,u,v,i,j⟩:=k0o r d f g
 have k:=Z0a r d f g
 have l:=a0b r d f g
 have m:=s0q r d f g
 have n:=q0q r d f g
 have o:=c0n r d f g
 have p:=d0n r d f g
 have q:=L0s r d f g
 have s:=M0s r d f g
 have w:=r0i (r,d)
 refine⟨d0c r d X,?_,?_⟩
 ·unfold g8 d0c
  simp only[k,oB]
  cases r9 (r,d)with
  |false=>rfl
  |true =>
   obtain⟨⟨a,c⟩,z⟩:=X
   have h:=s0q a c i j
   have t:=r0i (a,c)
   simp only[m,oB,u,Bool.not_true,Bool.false_eq_true,if_false,cond_true]
   rw[F0 (by rw[U5];omega),oB]
   cases z with
   |true =>
    simp only[if_true,cond_true,h,oB,show(⟨#[32,105,110,118,101,114,115,101,32]⟩:ByteArray)=B [32,105,110,118,101,114,115,101,32] from rfl,F09]
    rw[F0 (by rw[U5,U5];simp only[List.length_cons,List.length_nil];omega),oB,F0 (by rw[U5];omega),oB,F0 (by rw[U5,U5];simp only[List.length_append,List.length_cons,List.length_nil];omega),oB]
    simp
   |false =>
    simp only[Bool.false_eq_true,if_false,cond_false,q,o,oB,show(⟨#[32,105,110,106,101,99,116,105,118,101]⟩:ByteArray)=B [32,105,110,106,101,99,116,105,118,101] from rfl,show(⟨#[32,115,117,114,106,101,99,116,105,118,101]⟩:ByteArray)=B [32,115,117,114,106,101,99,116,105,118,101] from rfl,A0q,F09]
    cases X06 r d<;>cases z02 r d<;>(simp only[cond_true,cond_false];repeat (rw[F0 (by simp only[U5,List.length_append,List.length_cons,List.length_nil];omega),oB]))<;>simp
 ·unfold n9 d0c
  simp only[l,oB]
  cases r9 (r,d)with
  |false=>rfl
  |true =>
   obtain⟨⟨a,c⟩,z⟩:=X
   have h:=q0q a c i j
   have t:=r0i (a,c)
   simp only[n,oB,v,Bool.not_true,Bool.false_eq_true,if_false,cond_true]
   rw[F0 (by rw[U5];omega),oB]
   cases z with
   |true =>
    simp only[if_true,cond_true,h,oB,show(⟨#[105,110,118,101,114,115,101]⟩:ByteArray)=B [105,110,118,101,114,115,101] from rfl]
    rw[F0 (by rw[U5];omega),oB,ml3 _ _ _ (by omega) (by simp) (by omega),oB,F0 (by simp only[U5,List.length_append,List.length_cons,List.length_nil];omega),oB]
   |false =>
    simp only[Bool.false_eq_true,if_false,cond_false,s,p,oB,show(⟨#[105,110,106,101,99,116,105,118,101]⟩:ByteArray)=B [105,110,106,101,99,116,105,118,101] from rfl,show(⟨#[115,117,114,106,101,99,116,105,118,101]⟩:ByteArray)=B [115,117,114,106,101,99,116,105,118,101] from rfl]
    cases X06 r d with
    |false =>
     simp only[Bool.false_eq_true,if_false,cond_false,List.nil_append]
     cases z02 r d with
     |false=>simp
     |true =>
      simp only[if_true,cond_true]
      rw[ml2 _ _ (by omega) (by simp),oB,F0 (by simp only[U5,List.length_append,List.length_cons,List.length_nil];omega),oB]
    |true =>
     simp only[if_true,cond_true]
     rw[ml2 _ _ (by omega) (by simp),oB,F0 (by simp only[U5,List.length_append,List.length_cons,List.length_nil];omega),oB]
     cases z02 r d with
     |false=>simp
     |true =>
      simp only[if_true,cond_true]
      rw[ml2 _ _ (by simp only[List.length_append,List.length_cons,List.length_nil];omega) (by simp),oB,F0 (by simp only[U5,List.length_append,List.length_cons,List.length_nil];omega),oB]
      simp
end Go.Proofs.YtohcdjhocpakkaaGreat
