/- Texts of the claim, joined: Plain laws: a word rewritten in the basis and others. -/
import Derived.Test.YtkjhghloldgioaaGreatPart24
import Derived.Test.YtkjhghloldgioaaGreatPart18
namespace Go.Proofs.YtkjhghloldgioaaGreat
open Go.H
set_option linter.unusedVariables false
set_option linter.unusedSimpArgs false
def M06(e:O0):List O0->Nat->Option Nat
 | [],_=>none
 |x::l,k=>if e=x then some k else M06 e l (k+1)
theorem Q0f{e:O0}:∀ {l:List O0} {k i:Nat},M06 e l k=some i->i<k+l.length
 | [],k,i,h=>by cases h
 |x::l,k,i,h=>by
  unfold M06 at h
  split at h
  ·cases h;simp
  ·have:=Q0f h
   simp only[List.length_cons];omega
def sgK(x:Int)(k:Nat):Int:=if 0<x then(k:Int)+1 else -(k:Int)-1
def x0a(x v n:Int):List O0->Nat->List Int
 | [],_=>[]
 |e::l,k=>if stp v x n=e then sgK x k::x0a x v n l (k+1)else x0a x v n l (k+1)
theorem I0k{x v n:Int}:∀ {l:List O0} {k:Nat},stp v x n ∉ l->x0a x v n l k = []
 | [],k,h=>rfl
 |e::l,k,h=>by
  unfold x0a
  rw[if_neg λc=>h (by rw[c];exact mS)]
  exact I0k λc=>h (mC _ c)
theorem B0h{x v n:Int}:∀ {l:List O0} {k:Nat},l.Nodup->x0a x v n l k=(M06 (stp v x n) l k).toList.map (sgK x)
 | [],k,h=>rfl
 |e::l,k,h=>by
  obtain⟨a,b⟩:=List.nodup_cons.1 h
  unfold x0a M06
  split
  ·rename_i c
   rw[I0k (by rw[c];exact a)];rfl
  ·exact B0h b
def rwL(g:l0)(E:List O0):Int->List Int->List Int
 |_,[]=>[]
 |v,x::w=>(M06 (stp v x (S0 g v x)) E 0).toList.map (sgK x)++rwL g E (S0 g v x) w
theorem u0n{a:Type}(o:Option a):o.toList.length<=1:=by cases o<;>simp
theorem X0d(g:l0)(E:List O0):∀(w:List Int) (v:Int),(rwL g E v w).length<=w.length
 | [],v=>Nat.le_refl _
 |x::w,v=>by
  have a:=X0d g E w (S0 g v x)
  have b:=u0n (M06 (stp v x (S0 g v x)) E 0)
  unfold rwL
  simp only[List.length_append,List.length_map,List.length_cons]
  omega
theorem Y0l(g:l0)(E:List O0)(b:E.length<=1000):∀(w:List Int) (v:Int),∀ y∈rwL g E v w,-1000<=y/\y<=1000
 | [],v,y,h=>by cases h
 |x::w,v,y,h=>by
  unfold rwL at h
  rcases List.mem_append.1 h with h|h
  ·obtain⟨k,a,rfl⟩:=List.mem_map.1 h
   have a:=Q0f (Option.mem_toList.1 a)
   unfold sgK
   split<;>omega
  ·exact Y0l g E b w _ y h
theorem d0q(w:List Int)(i:Nat)(x:Int)(m:w[i]?=some x)(f:E5 x)(h0:x≠0)(v n:Int)(E:List O0)(y:E.length<=1000):∀(d k fuel:Nat) (acc:List Int),k+d=E.length->d<fuel->acc.length<=100000+k ->
  F4 E w (i:Int) v n fuel (k:Int) acc=some (acc++x0a x v n (E.drop k) k)
 |d,k,0,acc,p,hf,o=>by omega
 |0,k,fuel+1,acc,p,hf,o=>by
  rw[F4.eq_2,if_neg (by simp only[decide_eq_true_eq];omega),J1 (by omega)];simp[x0a]
 |d+1,k,fuel+1,acc,p,hf,o=>by
  have z:k<E.length:=by omega
  have l:=L5 z
  have q:=N1 l
  generalize E[k]=e at l q
  have j:=λs h=>d0q w i x m f h0 v n E y d (k+1) fuel s (by omega) (by omega) h
  have t:=w64 (show -9223372036854775808<=(k:Int)+1 by omega) (by omega)
  have u:IntKind.i64.wrap (IntKind.i64.wrap (0-(k:Int))-1) = -(k:Int)-1:=by
   rw[w64 (show -9223372036854775808<=0-(k:Int) by omega) (by omega),w64 (by omega) (by omega)];omega
  obtain⟨a,b,c⟩:=e
  rw[F4.eq_2,if_pos (by simp only[decide_eq_true_eq];omega),P2 m,oB,q,x0a]
  simp only[P2 l,t,u,chk,n08 f.1 f.2]
  unfold stp sgK
  by_cases hp:0<x
  ·have g : ¬ x<0:=by omega
   simp only[decide_eq_true (show x>0 from hp),decide_eq_false g,if_pos hp,if_neg g,cond_true,cond_false,oB,Bool.false_eq_true,if_false]
   by_cases c1:(v,x,n)=(a,b,c)
   ·rw[if_pos ((n04 _ _).2 c1.symm),if_pos c1,H0 (by simp only[List.length_singleton];omega),oB]
    have:=j (acc ++ [(k:Int)+1]) (by simp only[List.length_append,List.length_singleton];omega)
    rw[show((k+1:Nat):Int)=(k:Int)+1 by omega]at this
    rw[this,List.append_assoc];rfl
   ·rw[if_neg λh=>c1 ((n04 _ _).1 h).symm,if_neg c1]
    have:=j acc (by omega)
    rw[show((k+1:Nat):Int)=(k:Int)+1 by omega]at this
    exact this
  ·have g:x<0:=by omega
   simp only[decide_eq_false (show ¬ x>0 from hp),decide_eq_true g,if_neg hp,if_pos g,cond_true,cond_false,oB,Bool.false_eq_true,if_false,P2 m,n08 f.1 f.2]
   by_cases c1:(n,-x,v)=(a,b,c)
   ·rw[if_pos ((n04 _ _).2 c1.symm),if_pos c1,H0 (by simp only[List.length_singleton];omega),oB]
    have:=j (acc ++ [-(k:Int)-1]) (by simp only[List.length_append,List.length_singleton];omega)
    rw[show((k+1:Nat):Int)=(k:Int)+1 by omega]at this
    rw[this,List.append_assoc];rfl
   ·rw[if_neg λh=>c1 ((n04 _ _).1 h).symm,if_neg c1]
    have:=j acc (by omega)
    rw[show((k+1:Nat):Int)=(k:Int)+1 by omega]at this
    exact this
theorem e0q{g:l0}(l:K0 g=true)(w:List Int)(n:∀ x∈w,E5 x/\x≠0)(o:w.length<=1000)(E:List O0)(e:E.length<=1000)(f:E.Nodup):∀(d k fuel:Nat) (v:Int) (acc:List Int),k+d=w.length->d<fuel->acc.length<=k ->
  P6 w g.1 g.2.1 g.2.2 E fuel v (k:Int) acc=some (acc++rwL g E v (w.drop k))
 |d,k,0,v,acc,i,hf,h=>by omega
 |0,k,fuel+1,v,acc,i,hf,h=>by
  rw[P6.eq_2,if_neg (by simp only[decide_eq_true_eq];omega),J1 (by omega)];simp[rwL]
 |d+1,k,fuel+1,v,acc,i,hf,h=>by
  obtain⟨p,t,q,u⟩:=C1 l
  have m:k<w.length:=by omega
  have a:=L5 m
  obtain⟨b,h0⟩:=n _ (List.mem_of_getElem? a)
  have j:=N1 a
  generalize w[k]=x at a b h0 j
  have c:=d0q w k x a b h0 v (S0 g v x) E e E.length 0 U0 acc (by omega) (D1 (by omega)) (by omega)
  rw[show((0:Nat):Int)=0 from rfl,List.drop_zero,B0h f]at c
  have s:=u0n (M06 (stp v x (S0 g v x)) E 0)
  rw[P6.eq_2,if_pos (by simp only[decide_eq_true_eq];omega),P2 a,oB,show(g.1,g.2.1,g.2.2)=g from rfl,l02 g v x b (by omega),oB,H0 (C00 p q.2 v x),oB,c,oB,A2 m (by omega),
   e0q l w n o E e f d (k+1) fuel _ _ (by omega) (by omega) (by simp only[List.length_append,List.length_map];omega),j,rwL,List.append_assoc]
theorem J0k(es:List O0)(e:O0)(o:es.length<=1000):∀(d k fuel:Nat),k+d=es.length->d<fuel ->
  I1 es e.1 e.2.1 e.2.2 fuel (k:Int)=some (match M06 e (es.drop k) k with|some i => .inl (i:Int)|none => .inr ())
 |d,k,0,f,hf=>by omega
 |0,k,fuel+1,f,hf=>by
  rw[I1.eq_2,if_neg (by simp only[decide_eq_true_eq];omega),J1 (by omega)];rfl
 |d+1,k,fuel+1,f,hf=>by
  have j:k<es.length:=by omega
  have a:=L5 j
  have g:=N1 a
  generalize es[k]=b at a g
  obtain⟨l,m,n⟩:=b
  rw[I1.eq_2,if_pos (by simp only[decide_eq_true_eq];omega),P2 a,oB,g,M06]
  simp only[show(e.1,e.2.1,e.2.2)=e from rfl]
  by_cases c:e=(l,m,n)
  ·rw[if_pos ((n04 _ _).2 c),if_pos c]
  ·rw[if_neg λh=>c ((n04 _ _).1 h),if_neg c,A2 j (by omega)]
   exact J0k es e o d (k+1) fuel (by omega) (by omega)
theorem b0r(es:List O0)(e:O0)(d:es.length<=1000):L2 es e=some (match M06 e es 0 with|some i=>(i:Int)|none => -1):=by
 have h:=J0k es e d es.length 0 U0 (by omega) (D1 (by omega))
 rw[show((0:Nat):Int)=0 from rfl,List.drop_zero]at h
 obtain⟨a,b,c⟩:=e
 unfold L2
 simp only at h ⊢
 rw[h,oB]
 cases M06 (a,b,c) es 0<;>rfl
theorem D0r{g:l0}(q:K0 g=true)(w:List Int)(t:∀ x∈w,E5 x/\x≠0)(B:w.length<=1000)(E:List O0)(m:E.length<=1000):∀(d k fuel:Nat) (v:Int) (acc:List Int),k+d=w.length->d<fuel->acc.length<=k ->
  l5 w g.1 g.2.1 g.2.2 E fuel v (k:Int) acc=some (acc++rwL g E v (w.drop k))
 |d,k,0,v,acc,o,hf,n=>by omega
 |0,k,fuel+1,v,acc,o,hf,n=>by
  rw[l5.eq_2,if_neg (by simp only[decide_eq_true_eq];omega),J1 (by omega)];simp[rwL]
 |d+1,k,fuel+1,v,acc,o,hf,n=>by
  obtain⟨D,H,F,I⟩:=C1 q
  have s:k<w.length:=by omega
  have f:=L5 s
  obtain⟨j,h0⟩:=t _ (List.mem_of_getElem? f)
  have p:=N1 f
  generalize w[k]=x at f j h0 p
  have A:=b0r E (stp v x (S0 g v x)) m
  have C:=z0i v x (S0 g v x) j
  have l:=λu h=>D0r q w t B E m d (k+1) fuel (S0 g v x) u (by omega) (by omega) h
  rw[l5.eq_2,if_pos (by simp only[decide_eq_true_eq];omega),P2 f,oB,show(g.1,g.2.1,g.2.2)=g from rfl,m02 g v x j (by omega),oB,H0 (C00 D F.2 v x),oB,C,oB,A2 s (by omega),p,rwL]
  generalize stp v x (S0 g v x)=e at *
  obtain⟨a,b,c⟩:=e
  simp only[A]
  cases hfe:M06 (a,b,c) E 0 with
  |none =>
   simp only[oB]
   rw[H0 (show I0 (-1) from⟨by omega,by omega⟩),oB,if_neg (by simp),l acc (by omega)]
   simp
  |some i =>
   have G:=Q0f hfe
   have y:=w64 (show -9223372036854775808<=(i:Int)+1 by omega) (by omega)
   have z:IntKind.i64.wrap (IntKind.i64.wrap (0-(i:Int))-1) = -(i:Int)-1:=by
    rw[w64 (show -9223372036854775808<=0-(i:Int) by omega) (by omega),w64 (by omega) (by omega)];omega
   simp only[oB,y,z]
   rw[H0 (show I0 (i:Int) from⟨by omega,by omega⟩),oB,if_pos (by simp only[decide_eq_true_eq];omega)]
   simp only[Option.toList_some,List.map_cons,List.map_nil]
   unfold sgK
   by_cases hp:0<x
   ·rw[if_pos (by simp only[decide_eq_true_eq];omega),if_pos hp,H0 (by simp only[List.length_singleton];omega),oB,l _ (by simp only[List.length_append,List.length_singleton];omega),List.append_assoc]
   ·rw[if_neg (by simp only[decide_eq_true_eq];omega),if_neg hp,H0 (by simp only[List.length_singleton];omega),oB,l _ (by simp only[List.length_append,List.length_singleton];omega),List.append_assoc]
def z0d(g:l0)(w:List Int):List Int×Bool:=bif f02 g w then((J07 [] (rwL g (q00 g) 0 w)).reverse,true)else([],false)
theorem C0c{g:l0}(hf:K0 g=true):(q00 g).length<=120/\(q00 g).Nodup:=by
 obtain⟨b,c,d,f⟩:=C1 hf
 have a:=List.length_filter_le (λe => !decide (e∈P03 g)) g.2.2
 exact⟨by unfold q00;omega,(w0c (S04 (E2 hf))).filter _⟩
theorem f0q{g:l0}(hf:K0 g=true)(w:List Int):(z0d g w).1.length<=w.length/\∀ y∈(z0d g w).1,I0 y:=by
 have c:=X0d g (q00 g) w 0
 have a:=r0b (rwL g (q00 g) 0 w) []
 have b:=Y0l g (q00 g) (by have:=(C0c hf).1;omega) w 0
 unfold z0d
 cases f02 g w with
 |false=>exact⟨Nat.zero_le _,λy h=>by cases h⟩
 |true =>
  refine⟨by simp only[cond_true,List.length_reverse,List.length_nil]at a ⊢;omega,λy h=>?_⟩
  rcases x0k _ _ (List.mem_reverse.1 h)with h|h
  ·cases h
  ·have:=b y h
   exact⟨by omega,by omega⟩
theorem g0q{g:l0}(k:O2 g=true){w:List Int}(f:U1 g.1 w=true):i01 g w=some (z0d g w):=by
 have hf:=c8 k
 obtain⟨s,t,u,v⟩:=C1 hf
 obtain⟨z,h⟩:=g03 f
 have i:=T02 w (λx e=>(h x e).1.1) (by omega)
 rw[s0b f]at i
 have m:=y08 (r:=g.1) k f
 have n:=Y0p hf
 obtain⟨p,l⟩:=C0c hf
 have d:=e0q hf w (λx e=>⟨(h x e).1,(h x e).2.1⟩) (by omega) (q00 g) (by omega) l w.length 0 U0 0 [] (by omega) (D1 (by omega)) (by simp)
 rw[show((0:Nat):Int)=0 from rfl,List.drop_zero,List.nil_append]at d
 have q:=X0d g (q00 g) w 0
 have j:=T02 (rwL g (q00 g) 0 w) (λy o=>by have:=Y0l g (q00 g) (by omega) w 0 y o;exact⟨by omega,by omega⟩) (by omega)
 unfold z0d
 obtain⟨a,b,c⟩:=g
 unfold i01
 simp only[i,m,n,d,oB]at d j ⊢
 cases f02 (a,b,c) w with
 |false=>rfl
 |true=>simp only[Bool.not_true,Bool.false_eq_true,if_false,cond_true,d,j,oB]
theorem h0q{g:l0}(i:O2 g=true){w:List Int}(e:U1 g.1 w=true):j01 g w=some (z0d g w):=by
 have hf:=c8 i
 obtain⟨q,s,t,u⟩:=C1 hf
 obtain⟨v,k⟩:=g03 e
 have f:=v0b w (by omega)
 rw[s0b e]at f
 have l:=K0f (r:=g.1) i e
 have m:=W0q hf
 obtain⟨n,o⟩:=C0c hf
 have d:=D0r hf w (λx j=>⟨(k x j).1,(k x j).2.1⟩) (by omega) (q00 g) (by omega) w.length 0 U0 0 [] (by omega) (D1 (by omega)) (by simp)
 rw[show((0:Nat):Int)=0 from rfl,List.drop_zero,List.nil_append]at d
 have p:=X0d g (q00 g) w 0
 have h:=L09 [rwL g (q00 g) 0 w] (by simp) (by simp only[k0o];omega)
 unfold z0d
 obtain⟨a,b,c⟩:=g
 unfold j01
 simp only[f,l,m,d,oB]at d h ⊢
 cases f02 (a,b,c) w with
 |false=>rfl
 |true=>simp only[Bool.not_true,Bool.false_eq_true,if_false,cond_true,d,h,oB];rfl
theorem R0f:∀(d:Nat) (g:l0),(Y03 d g).1=g.1
 |0,g=>rfl
 |d+1,g=>by
  unfold Y03
  cases Q9 g with
  |none=>rfl
  |some k=>exact R0f d _
theorem r07{g:l0}(a:T0 g=true):O2 (p04 g)=true:=q0h (t05 a)
theorem S0f:∀(n:Nat) (g:l0),(p01 n g).1.1=g.1
 |0,g=>rfl
 |n+1,g=>by
  unfold p01
  cases Q8 g.2.2 with
  |nil=>rfl
  |cons f r=>exact S0f n _
theorem Z0l(g:l0):(p04 g).1=g.1:=by
 show(Y03 40 (V8 g).1).1=g.1
 rw[R0f]
 unfold V8
 cases T0 g
 ·rfl
 ·exact S0f 40 g
theorem T0f:∀(a:List (List Int)) (g:l0),(z07 a g).1=g.1
 | [],g=>rfl
 |w::a,g=>by
  show(z07 a (C3 g 0 w 0).1).1=g.1
  rw[T0f a,N04]
theorem a0m{r:Int}{a:List (List Int)}(h:(N9 r a).2=true):O2 (N9 r a).1=true/\(N9 r a).1.1=r:=by
 unfold N9 at h ⊢
 cases hA:c7 r a
 ·rw[hA]at h;cases h
 ·rw[cond_true]
  exact⟨r07 (m0a hA),by show(p04 _).1=r;rw[Z0l,T0f]⟩
def U02(g:l0)(w:List Int):l0×Bool:=bif O2 g&&U1 g.1 w then
 (bif decide (((w.length:Nat):Int)=0)then(g,true)else(bif(C3 g 0 w 0).2 then(p04 (C3 g 0 w 0).1,true)else((0,0,[]),false)))else((0,0,[]),false)
theorem b0m{g:l0}(d:O2 g=true){w:List Int}(e:U1 g.1 w=true)(m:w.length<=140737488355328):K01 g w=some (U02 g w):=by
 obtain⟨n,o,p⟩:=s02 d
 have i:=E2 (P01 d)
 have j:=T05 g (by omega)
 have f:=F02 g.1 w m
 have k:=J9 g (by omega)
 have l:=j0d i e
 have h:=z08 (P00 i (u:=0) (v:=0) (w:=w) ⟨iR _,by omega⟩ ⟨iR _,by omega⟩ e)
 unfold U02
 rw[d,e]at *
 generalize C3 g 0 w 0=q at *
 obtain⟨s,t,x⟩:=g
 obtain⟨⟨a,b,c⟩,ok⟩:=q
 unfold K01
 simp only at f h
 simp only[j,f,k,l,oB,O1,Bool.not_true,Bool.not_false,cond_false,cond_true,Bool.false_eq_true,if_false,Bool.and_self]
 cases decide (((w.length:Nat):Int)=0)
 ·simp only[Bool.false_eq_true,if_false,cond_false]
  cases ok
  ·simp
  ·simp only[Bool.not_true,Bool.false_eq_true,if_false,cond_true,h,oB]
 ·simp
theorem c0m{g:l0}(d:O2 g=true){w:List Int}(e:U1 g.1 w=true)(m:w.length<=140737488355328):L01 g w=some (U02 g w):=by
 obtain⟨n,o,p⟩:=s02 d
 have i:=E2 (P01 d)
 have j:=H02 g (by omega)
 have f:=G02 g.1 w m
 have k:=l00 g (by omega)
 have l:=k0d i e
 have h:=A08 (P00 i (u:=0) (v:=0) (w:=w) ⟨iR _,by omega⟩ ⟨iR _,by omega⟩ e)
 unfold U02
 rw[d,e]at *
 generalize C3 g 0 w 0=q at *
 obtain⟨s,t,x⟩:=g
 obtain⟨⟨a,b,c⟩,ok⟩:=q
 unfold L01
 simp only at f h
 simp only[j,f,k,l,oB,O1,Bool.not_true,Bool.not_false,cond_false,cond_true,Bool.false_eq_true,if_false,Bool.and_self]
 cases decide (((w.length:Nat):Int)=0)
 ·simp only[Bool.false_eq_true,if_false,cond_false]
  cases ok
  ·simp
  ·simp only[Bool.not_true,Bool.false_eq_true,if_false,cond_true,h,oB]
 ·simp
def u05:r00×Bool:=((0,0,[],[],[],(0,0,[]),0),false)
def N3(k r:Int)(l:List (List Int))(w:List Int):r00×Bool :=
 bif(N9 r l).2&&U1 r w then
  (bif decide (k=1)then(bif(z0d (N9 r l).1 w).2 then((k,r,l,w,(z0d (N9 r l).1 w).1,(N9 r l).1,0),true)else u05)
  else bif decide (k=2)then(bif(B07 (N9 r l).1 w).2 then((k,r,l,w,[],(B07 (N9 r l).1 w).1,0),true)else u05)
  else bif decide (k=3)then(bif(U02 (N9 r l).1 w).2&&F06 (N9 r l).1 (U02 (N9 r l).1 w).1 then((k,r,l,w,[],(U02 (N9 r l).1 w).1,0),true)else u05)
  else bif decide (k=4)then(bif(g01 (N9 r l).1 w).2 then((k,r,l,w,[],(g01 (N9 r l).1 w).1,0),true)else u05)
  else bif decide (k=5)then(bif decide (c03 (N9 r l).1=((l.length:Nat):Int))then((k,r,l,w,[],(N9 r l).1,c03 (N9 r l).1),true)else u05)
  else bif decide (k=6)then(bif decide (R01 (N9 r l).1>0)then((k,r,l,w,[],(N9 r l).1,R01 (N9 r l).1),true)else u05)
  else u05)else u05
theorem i0q(a b:l0):F06 a b=F06 b a:=decide_eq_decide.2 ⟨Eq.symm,Eq.symm⟩
theorem d0m(k r:Int)(l:List (List Int))(w:List Int)(L:l.length<=1048576)(y:∀ x∈l,x.length<=1048576)(z:N00 l)(M:w.length<=1048576):K02 k r l w=some (N3 k r l w):=by
 have o:=j0s l (by omega) (λx A=>by have:=y x A;omega)
 have p:=q0o r l (by omega) z
 have d:=F02 r w (by omega)
 have u:=λh => @a0m r l h
 unfold N3 K02 Q03 i03
 rw[o,oB,H0 (by simp only[List.length_nil];omega),oB,List.nil_append]
 simp only[p,oB]
 generalize N9 r l=q at *
 obtain⟨g,ok⟩:=q
 cases ok
 ·obtain⟨a,b,c⟩:=g
  simp[Y2,u05]
 have n:=u rfl
 simp only at n
 cases hW:U1 r w
 ·obtain⟨a,b,c⟩:=g
  rw[hW]at d
  simp[O1,d,u05]
 obtain⟨e,v⟩:=n
 have m:U1 g.1 w=true:=by rw[v];exact hW
 obtain⟨I,J,K⟩:=s02 e
 have s:=g0q e m
 have f2:=s0o g (by omega) w (by omega)
 have f3:=b0m e m (by omega)
 have t:=R0l g (by omega) w (by omega)
 have f:=L0f g (by omega)
 have i:=M09 g (by omega)
 have j:=Z0g g (U02 g w).1 (by omega)
 rw[hW]at d
 obtain⟨a,b,c⟩:=g
 generalize z0d (a,b,c) w=a1 at *
 generalize B07 (a,b,c) w=a2 at *
 generalize U02 (a,b,c) w=a3 at *
 generalize g01 (a,b,c) w=a4 at *
 generalize c03 (a,b,c)=a5 at *
 generalize R01 (a,b,c)=a6 at *
 obtain⟨N,F⟩:=a1
 obtain⟨⟨O,s1,s2⟩,G⟩:=a2
 obtain⟨⟨B,C,D⟩,E⟩:=a3
 obtain⟨⟨P,Q,R⟩,H⟩:=a4
 simp only at j
 simp only[O1,d,oB,Bool.not_true,Bool.not_false,cond_false,cond_true,Bool.false_eq_true,if_false,Bool.and_self,s,f2,f3,t,f.1,i.1,j,H0 f.2,H0 i.2]
 cases decide (k=1)<;>simp only[Bool.false_eq_true,if_false,if_true,cond_false,cond_true,oB]
 ·cases decide (k=2)<;>simp only[Bool.false_eq_true,if_false,if_true,cond_false,cond_true,oB]
  ·cases decide (k=3)<;>simp only[Bool.false_eq_true,if_false,if_true,cond_false,cond_true,oB]
   ·cases decide (k=4)<;>simp only[Bool.false_eq_true,if_false,if_true,cond_false,cond_true,oB]
    ·cases decide (k=5)<;>simp only[Bool.false_eq_true,if_false,if_true,cond_false,cond_true,oB]
     ·cases decide (k=6)<;>simp only[Bool.false_eq_true,if_false,if_true,cond_false,cond_true,oB,Bool.not_false,u05]
      cases decide (a6>0)<;>rfl
     ·cases decide (a5=((l.length:Nat):Int))<;>rfl
    ·cases H<;>rfl
   ·cases E
    ·rfl
    ·simp only[O1,oB,cond_true,Bool.true_and]
     cases F06 (a,b,c) (B,C,D)<;>rfl
  ·cases G<;>rfl
 ·cases F<;>rfl
theorem e0m(k r:Int)(l:List (List Int))(w:List Int)(T:l.length<=1048576)(F:∀ x∈l,x.length<=1048576)(G:N00 l)(U:w.length<=1048576):L02 k r l w=some (N3 k r l w):=by
 have p:=R0s l (by omega) (λx j=>by have:=F x j;omega)
 have o:=w0r (a:=w) (by omega)
 have s:=r0o r l (by omega) G
 have f:=G02 r w (by omega)
 have D:=λh => @a0m r l h
 unfold N3 L02
 simp only[s,oB]
 generalize N9 r l=q at *
 obtain⟨g,ok⟩:=q
 cases ok
 ·obtain⟨b,c,d⟩:=g
  simp[Y2,u05]
 have n:=D rfl
 simp only at n
 cases hW:U1 r w
 ·obtain⟨b,c,d⟩:=g
  rw[hW]at f
  simp[O1,f,u05]
 obtain⟨e,E⟩:=n
 have i:U1 g.1 w=true:=by rw[E];exact hW
 obtain⟨Q,R,S⟩:=s02 e
 have t:=h0q e i
 have f2:=t0o g (by omega) w (by omega)
 have f3:=c0m e i (by omega)
 have y:=S0l g (by omega) w (by omega)
 have z:=T0l g (by omega)
 have A:=n0g g (by omega)
 have H:=(L0f g (by omega)).2
 have I:=(M09 g (by omega)).2
 have B:∀ x:l0,x.2.2.length<=9223372036854775807->N7 x g=some (F06 g x):=λx j=>by rw[i0q];exact X0g x g j
 have C:(U02 g w).1.2.2.length<=9223372036854775807:=by
  unfold U02
  rw[e,i]
  cases decide (((w.length:Nat):Int)=0)
  ·cases (C3 g 0 w 0).2
   ·simp
   ·simp only[Bool.and_self,cond_true,cond_false]
    have:=s02 (r07 (P00 (E2 (P01 e)) (u:=0) (v:=0) (w:=w) ⟨iR _,by omega⟩ ⟨iR _,by omega⟩ i))
    omega
  ·simp only[Bool.and_self,cond_true];omega
 have m:=B _ C
 rw[hW]at f
 obtain⟨b,c,d⟩:=g
 generalize z0d (b,c,d) w=a1 at *
 generalize B07 (b,c,d) w=a2 at *
 generalize U02 (b,c,d) w=a3 at *
 generalize g01 (b,c,d) w=a4 at *
 generalize c03 (b,c,d)=a5 at *
 generalize R01 (b,c,d)=a6 at *
 obtain⟨V,N⟩:=a1
 obtain⟨⟨W,s1,s2⟩,O⟩:=a2
 obtain⟨⟨J,K,L⟩,M⟩:=a3
 obtain⟨⟨X,Y,Z⟩,P⟩:=a4
 simp only at m
 simp only[O1,o,p,f,oB,Bool.not_true,Bool.not_false,cond_false,cond_true,Bool.false_eq_true,if_false,Bool.and_self,t,f2,f3,y,z,A,m,H0 H,H0 I]
 cases decide (k=1)<;>simp only[Bool.false_eq_true,if_false,if_true,cond_false,cond_true,oB]
 ·cases decide (k=2)<;>simp only[Bool.false_eq_true,if_false,if_true,cond_false,cond_true,oB]
  ·cases decide (k=3)<;>simp only[Bool.false_eq_true,if_false,if_true,cond_false,cond_true,oB]
   ·cases decide (k=4)<;>simp only[Bool.false_eq_true,if_false,if_true,cond_false,cond_true,oB]
    ·cases decide (k=5)<;>simp only[Bool.false_eq_true,if_false,if_true,cond_false,cond_true,oB]
     ·cases decide (k=6)<;>simp only[Bool.false_eq_true,if_false,if_true,cond_false,cond_true,oB,Bool.not_false,u05]
      cases decide (a6>0)<;>rfl
     ·cases decide (a5=((l.length:Nat):Int))<;>rfl
    ·cases P<;>rfl
   ·cases M
    ·rfl
    ·simp only[O1,oB,cond_true,Bool.true_and]
     cases F06 (b,c,d) (J,K,L)<;>rfl
  ·cases O<;>rfl
 ·cases N<;>rfl
end Go.Proofs.YtkjhghloldgioaaGreat
