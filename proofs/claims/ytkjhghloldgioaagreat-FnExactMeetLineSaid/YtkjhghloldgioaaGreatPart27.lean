/- Texts of the claim, joined: IndexIn: the code counts the vertices over the base, the ref and others. -/
import Derived.Test.YtkjhghloldgioaaGreatPart26
import Derived.Test.YtkjhghloldgioaaGreatPart20
import Derived.Test.YtkjhghloldgioaaGreatPart19
import Derived.Test.YtkjhghloldgioaaGreatH36
namespace Go.Proofs.YtkjhghloldgioaaGreat
open Go.H
set_option linter.unusedVariables false
set_option linter.unusedSimpArgs false
def ImG(a:Int)(g:Int->Int)(n:Nat)(A u:List Int):Prop:=A.length=n/\∀ z:Int,0<=z->z<(n:Int)->gi A z=some (if z∈u then g z else a)
theorem ImG.add{a:Int}{g:Int->Int}{n:Nat}{A u:List Int}(h:ImG a g n A u){s:Int}(h0:0<=s)(e:s<(n:Int)):ImG a g n (A.set s.toNat (g s)) (u ++ [s]):=by
 refine⟨by rw[List.length_set];exact h.1,λz b d=>?_⟩
 have:=h.2 z b d
 unfold gi at this ⊢
 rw[if_pos b]at this ⊢
 rw[List.getElem?_set]
 by_cases c:z=s
 ·subst c
  rw[if_pos rfl,if_pos (by rw[h.1];omega),if_pos (by simp)]
 ·rw[if_neg (by omega),this]
  by_cases c2:z∈u
  ·rw[if_pos c2,if_pos (List.mem_append_left _ c2)]
  ·rw[if_neg c2,if_neg (by simp[c2,c])]
def u05(x y:j0)(g:Int->Int)(v l:Int):Bool:=decide (D0 x v l<0)&&decide (0<=D0 y (g v) l)
def H0k(x y:j0)(g:Int->Int)(ls:List Int)(v:Int):Bool:=ls.any (u05 x y g v)
theorem I0k{g:j0}(a:inG g){v l:Int}(h:D0 g v l<0):D0 g v l = -1:=by
 rcases l8 a v l with e|e<;>omega
theorem L0q{x y:j0}{g:Int->Int}(w:C0 x=true)(H:C0 y=true)(m:Mor x y g)(n:Nat)(U:x.2.1=(n:Int))(ls:List Int)(L:∀ l∈ls,O3 l)(T:ls.length<=1000)(i:Nat)(v:Int):∀(d k fuel:Nat) (A u:List Int),ImG 0 g n A u->gud n u->u[i]?=some v->k+d=ls.length->d<fuel ->
  ∃ a,((ls.drop k).any (u05 x y g v)=false->ImG 0 g n a (j9 x v (ls.drop k) u))/\L6 ls (i:Int) x.1 x.2.1 x.2.2 y.1 y.2.1 y.2.2 fuel (k:Int) A u=some (bif(ls.drop k).any (u05 x y g v)then .inl (-1)else .inr (a,j9 x v (ls.drop k) u))
 |d,k,0,A,u,c,j,f,J,hf=>by omega
 |0,k,fuel+1,A,u,c,j,f,J,hf=>by
  rw[L6.eq_2,if_neg (by simp only[decide_eq_true_eq];omega),N1 (by omega)]
  exact⟨A,λ_=>c,rfl⟩
 |d+1,k,fuel+1,A,u,c,j,f,J,hf=>by
  obtain⟨P,ae,Y,af⟩:=Q0 w
  obtain⟨W,ac,X,ad⟩:=Q0 H
  have z:k<ls.length:=by omega
  have F:=V5 z
  have C:=L _ (List.getElem_mem z)
  have K:=L1 F
  generalize ls[k]=l at F C K
  have O:=List.mem_of_getElem? f
  have E:=j.2 v O
  have Z:=R6 n u j.1 j.2
  have I:=c.2 v E.1 E.2
  rw[if_pos O]at I
  have G:=λa q (h:ImG 0 g n a q) (Q:gud n q) (R:q[i]?=some v)=>L0q w H m n U ls L T i v d (k+1) fuel a q h Q R (by omega) (by omega)
  have D:=m.step v l E.1 (by omega)
  have M := @I0k x P v l
  have N := @t01 x w v l
  rw[K,L6.eq_2,if_pos (by simp only[decide_eq_true_eq];omega),T2 f,oB,T2 F,oB,show(x.1,x.2.1,x.2.2)=x from rfl,N8 x v l C (by omega),oB,F0 (Z7 P Y.2 v l),oB,oB,I,oB,oB,show(y.1,y.2.1,y.2.2)=y from rfl,N8 y (g v) l C (by omega),oB,F0 (Z7 W X.2 (g v) l),oB,G2 z (by omega),j9,List.any_cons]
  rw[show u05 x y g v l=(decide (D0 x v l<0)&&decide (0<=D0 y (g v) l)) from rfl]
  generalize D0 y (g v) l=t at D ⊢
  generalize D0 x v l=s at D M N ⊢
  by_cases c1:s<0
  ·have e:=M c1
   by_cases c2:0<=t
   ·refine⟨A,λh=>?_,?_⟩
    ·rw[decide_eq_true c1,decide_eq_true c2]at h;cases h
    ·rw[decide_eq_true c1,decide_eq_true c2];rfl
   ·obtain⟨a,o,p⟩:=G A u c j f
    have b:L02 u s=u:=by unfold L02;rw[if_neg (by omega)]
    refine⟨a,?_,?_⟩
    ·rw[decide_eq_true c1,decide_eq_false c2,b];exact o
    ·rw[decide_eq_true c1,decide_eq_false c2,decide_eq_false (show ¬ s ≥ 0 by omega),o5,b]
     exact p
  ·have h0:0<=s:=by omega
   have V:=D h0
   have aa:=N h0
   have ab:=m.rng s h0 (by omega)
   rw[decide_eq_false c1,decide_eq_true (show s ≥ 0 from h0),Q2,r08 u s (by omega),oB]
   by_cases c3:s∈u
   ·obtain⟨a,o,p⟩:=G A u c j f
    have b:L02 u s=u:=by unfold L02;rw[if_neg λh=>h.2 c3]
    refine⟨a,?_,?_⟩
    ·rw[b];exact o
    ·rw[decide_eq_true c3,b];exact p
   ·have b:L02 u s=u ++ [s]:=by unfold L02;rw[if_pos ⟨h0,c3⟩]
    have S:=c.2 s h0 (by omega)
    obtain⟨a,o,p⟩:=G (A.set s.toNat (g s)) (u ++ [s]) (c.add h0 (by omega)) (by rw[←b];exact N0g j (.inr ⟨h0,by omega⟩)) (by rw[List.getElem?_append_left (List.getElem?_eq_some_iff.1 f).1];exact f)
    refine⟨a,?_,?_⟩
    ·rw[b];exact o
    ·rw[decide_eq_false c3,b,V]
     simp only[Bool.not_false,cond_true,cond_false,Bool.false_and,Bool.false_or,Bool.false_eq_true,if_false,if_true]
     rw[F0 (by simp;omega),oB,S,oB]
     exact p
theorem M0q{x y:j0}{g:Int->Int}(w:C0 x=true)(H:C0 y=true)(m:Mor x y g)(n:Nat)(U:x.2.1=(n:Int))(ls:List Int)(L:∀ l∈ls,O3 l)(T:ls.length<=1000)(i:Nat)(v:Int):∀(d k fuel:Nat) (A u:List Int),ImG (-1) g n A u->gud n u->u[i]?=some v->k+d=ls.length->d<fuel ->
  ∃ a,((ls.drop k).any (u05 x y g v)=false->ImG (-1) g n a (j9 x v (ls.drop k) u))/\w4 ls x.1 x.2.1 x.2.2 v y.1 y.2.1 y.2.2 fuel (k:Int) A u=some (bif(ls.drop k).any (u05 x y g v)then .inl (-1)else .inr (a,j9 x v (ls.drop k) u))
 |d,k,0,A,u,c,f,j,J,hf=>by omega
 |0,k,fuel+1,A,u,c,f,j,J,hf=>by
  rw[w4.eq_2,if_neg (by simp only[decide_eq_true_eq];omega),N1 (by omega)]
  exact⟨A,λ_=>c,rfl⟩
 |d+1,k,fuel+1,A,u,c,f,j,J,hf=>by
  obtain⟨P,ae,Y,af⟩:=Q0 w
  obtain⟨W,ac,X,ad⟩:=Q0 H
  have z:k<ls.length:=by omega
  have F:=V5 z
  have C:=L _ (List.getElem_mem z)
  have K:=L1 F
  generalize ls[k]=l at F C K
  have O:=List.mem_of_getElem? j
  have E:=f.2 v O
  have Z:=R6 n u f.1 f.2
  have I:=c.2 v E.1 E.2
  rw[if_pos O]at I
  have G:=λa q (h:ImG (-1) g n a q) (Q:gud n q) (R:q[i]?=some v)=>M0q w H m n U ls L T i v d (k+1) fuel a q h Q R (by omega) (by omega)
  have D:=m.step v l E.1 (by omega)
  have M := @I0k x P v l
  have N := @t01 x w v l
  rw[K,w4.eq_2,if_pos (by simp only[decide_eq_true_eq];omega),T2 F,oB,show(x.1,x.2.1,x.2.2)=x from rfl,g00 x v l C (by omega),oB,F0 (Z7 P Y.2 v l),oB,I,oB,show(y.1,y.2.1,y.2.2)=y from rfl,g00 y (g v) l C (by omega),oB,F0 (Z7 W X.2 (g v) l),oB,G2 z (by omega),j9,List.any_cons]
  rw[show u05 x y g v l=(decide (D0 x v l<0)&&decide (0<=D0 y (g v) l)) from rfl]
  generalize D0 y (g v) l=t at D ⊢
  generalize D0 x v l=s at D M N ⊢
  by_cases c1:s<0
  ·have e:=M c1
   by_cases c2:0<=t
   ·refine⟨A,λh=>?_,?_⟩
    ·rw[decide_eq_true c1,decide_eq_true c2]at h;cases h
    ·rw[decide_eq_true c1,decide_eq_true c2,decide_eq_false (show ¬ t<0 by omega)];rfl
   ·obtain⟨a,o,p⟩:=G A u c f j
    have b:L02 u s=u:=by unfold L02;rw[if_neg (by omega)]
    refine⟨a,?_,?_⟩
    ·rw[decide_eq_true c1,decide_eq_false c2,b];exact o
    ·rw[decide_eq_true c1,decide_eq_false c2,decide_eq_true (show t<0 by omega),decide_eq_false (show ¬ s ≥ 0 by omega),o5,b]
     exact p
  ·have h0:0<=s:=by omega
   have V:=D h0
   have aa:=N h0
   have ab:=m.rng s h0 (by omega)
   have S:=c.2 s h0 (by omega)
   rw[decide_eq_false c1,decide_eq_true (show s ≥ 0 from h0),Q2,S,oB,decide_eq_false (show ¬ t<0 by omega)]
   by_cases c3:s∈u
   ·obtain⟨a,o,p⟩:=G A u c f j
    have b:L02 u s=u:=by unfold L02;rw[if_neg λh=>h.2 c3]
    refine⟨a,?_,?_⟩
    ·rw[b];exact o
    ·rw[if_pos c3,decide_eq_false (show ¬ g s<0 by omega),b];exact p
   ·have b:L02 u s=u ++ [s]:=by unfold L02;rw[if_pos ⟨h0,c3⟩]
    obtain⟨a,o,p⟩:=G (A.set s.toNat (g s)) (u ++ [s]) (c.add h0 (by omega)) (by rw[←b];exact N0g f (.inr ⟨h0,by omega⟩)) (by rw[List.getElem?_append_left (List.getElem?_eq_some_iff.1 j).1];exact j)
    refine⟨a,?_,?_⟩
    ·rw[b];exact o
    ·rw[if_neg c3,decide_eq_true (show(-1:Int)<0 by omega),b,V]
     simp only[beq_self_eq_true,Bool.not_true,cond_true,cond_false,Bool.false_and,Bool.false_or,Bool.false_eq_true,if_false,if_true]
     rw[oB,F0 (by simp;omega),oB]
     exact p
theorem q0f{x:j0}(b:C0 x=true){n:Nat}(a:x.2.1=(n:Int))(v:Int)(ls u:List Int)(h:gud n u):gud n (j9 x v ls u):=by
 have c:=(Q0 b).1
 have:=r03 (r:=x.1) (n:=n) (es:=x.2.2) (by rw[←a];exact c) v ls u h
 rw[←a]at this;exact this
theorem t0n{a:Type}{w:List a}{i:Nat}{v:a}(h:w[i]?=some v):w.drop i=v::w.drop (i+1):=L1 h
theorem J0k{x:j0}{ls u:List Int}{f i:Nat}{v:Int}(a:u[i]?=some v):p5 x ls (f+1) i u=p5 x ls f (i+1) (j9 x v ls u)/\(p5 x ls (f+1) i u)[i]?=some v:=by
 have e:p5 x ls (f+1) i u=p5 x ls f (i+1) (j9 x v ls u):=by
  show(match u[i]? with|some v=>p5 x ls f (i+1) (j9 x v ls u)|none=>u)=_
  rw[a]
 refine⟨e,?_⟩
 rw[e]
 obtain⟨g,b⟩:=T00 x v ls u
 obtain⟨h,c⟩:=K06 x ls f (i+1) (j9 x v ls u)
 have d:=(List.getElem?_eq_some_iff.1 a).1
 rw[c,b,List.append_assoc,List.getElem?_append_left d]
 exact a
theorem u0n{x:j0}{ls u:List Int}{f i:Nat}(a:u[i]?=none):p5 x ls (f+1) i u=u:=by
 show(match u[i]? with|some v=>p5 x ls f (i+1) (j9 x v ls u)|none=>u)=_
 rw[a]
theorem b0m{x y:j0}{g:Int->Int}(d:C0 x=true)(o:C0 y=true)(m:Mor x y g)(n:Nat)(k:x.2.1=(n:Int))(ls:List Int)(z:∀ l∈ls,O3 l)(w:ls.length<=1000):∀(f i fuel:Nat) (A u:List Int),ImG 0 g n A u->gud n u->i<=u.length->n+1<=f+i->f<fuel ->
  ∃ h,Y7 ls x.1 x.2.1 x.2.2 y.1 y.2.1 y.2.2 fuel (i:Int) A u=some (bif((p5 x ls f i u).drop i).any (H0k x y g ls)then .inl (-1)else .inr (h,p5 x ls f i u))
 |f,i,0,A,u,j,a,s,q,hf=>by omega
 |0,i,fuel+1,A,u,j,a,s,q,hf=>by have:=R6 n u a.1 a.2;omega
 |f+1,i,fuel+1,A,u,j,a,s,q,hf=>by
  obtain⟨I,J,K,L⟩:=Q0 d
  have H:=R6 n u a.1 a.2
  rw[Y7.eq_2,oB,F0 (by omega),oB]
  by_cases c:i<u.length
  ·have b:=V5 c
   generalize u[i]=v at b
   obtain⟨h,p,h0⟩:=L0q d o m n k ls z w i v ls.length 0 U0 A u j a b (by omega) (C1 (by omega))
   rw[show((0:Nat):Int)=0 from rfl,List.drop_zero]at h0
   rw[List.drop_zero]at p
   obtain⟨D,E⟩:=J0k (x:=x) (ls:=ls) (f:=f) b
   rw[if_pos (by simpa using c),h0,oB,G2 c (by omega),t0n E,List.any_cons]
   rw[show H0k x y g ls v=ls.any (u05 x y g v) from rfl]
   cases e:ls.any (u05 x y g v)with
   |true=>exact⟨A,rfl⟩
   |false =>
    obtain⟨t,F⟩:=T00 x v ls u
    obtain⟨C,G⟩:=b0m d o m n k ls z w f (i+1) fuel h (j9 x v ls u) (p e) (q0f d k v ls u a) (by rw[F,List.length_append];omega) (by omega) (by omega)
    refine⟨C,?_⟩
    rw[D,Bool.false_or]
    exact G
  ·have b:u[i]?=none:=List.getElem?_eq_none (by omega)
   rw[if_neg (by simpa using c),u0n b,List.drop_eq_nil_of_le (by omega)]
   exact⟨A,rfl⟩
theorem N0q(g:Int->Int)(v:Int)(r:List Int):fib g (v::r) 0=(if g v=0 then 1 else 0)+fib g r 0:=by
 unfold fib
 by_cases c:g v=0
 ·rw[List.filter_cons_of_pos (by simpa using c),if_pos c,List.length_cons];omega
 ·rw[List.filter_cons_of_neg (by simpa using c),if_neg c];omega
theorem O0q{x y:j0}{g:Int->Int}(h:C0 x=true)(s:C0 y=true)(m:Mor x y g)(n:Nat)(p:x.2.1=(n:Int))(G:∀ l∈P1 x.1.toNat 1,O3 l)(F:(P1 x.1.toNat 1).length<=1000)(H:d4 x.1=some (P1 x.1.toNat 1)):∀(f i fuel:Nat) (c:Nat) (A u:List Int),ImG (-1) g n A u->gud n u->i<=u.length->c<=i->n+1<=f+i->f<fuel ->
  ∃ k,M6 x.1 x.2.1 x.2.2 y.1 y.2.1 y.2.2 fuel (c:Int) (i:Int) A u=some (bif((p5 x (P1 x.1.toNat 1) f i u).drop i).any (H0k x y g (P1 x.1.toNat 1))then .inl (-1)else .inr (((c+fib g ((p5 x (P1 x.1.toNat 1) f i u).drop i) 0:Nat):Int),k,p5 x (P1 x.1.toNat 1) f i u))
 |f,i,0,c,A,u,j,a,E,C,D,hf=>by omega
 |0,i,fuel+1,c,A,u,j,a,E,C,D,hf=>by have:=R6 n u a.1 a.2;omega
 |f+1,i,fuel+1,c,A,u,j,a,E,C,D,hf=>by
  obtain⟨P,Q,R,S⟩:=Q0 h
  have O:=R6 n u a.1 a.2
  rw[M6.eq_2,oB,F0 (by omega),oB]
  by_cases ci:i<u.length
  ·have b:=V5 ci
   generalize u[i]=v at b
   have J:=List.mem_of_getElem? b
   have I:=a.2 v J
   have z:=j.2 v I.1 I.2
   rw[if_pos J]at z
   obtain⟨k,w,h0⟩:=M0q h s m n p (P1 x.1.toNat 1) G F i v (P1 x.1.toNat 1).length 0 U0 A u j a b (by omega) (C1 (by omega))
   rw[show((0:Nat):Int)=0 from rfl,List.drop_zero]at h0
   rw[List.drop_zero]at w
   obtain⟨K,L⟩:=J0k (x:=x) (ls:=P1 x.1.toNat 1) (f:=f) b
   rw[if_pos (by simpa using ci),T2 b,oB,z,oB,H,oB,oB,h0,oB,G2 ci (by omega),G2 (show c<1000 by omega) (by omega),t0n L,List.any_cons,N0q]
   rw[show H0k x y g (P1 x.1.toNat 1) v=(P1 x.1.toNat 1).any (u05 x y g v) from rfl]
   cases e:(P1 x.1.toNat 1).any (u05 x y g v)with
   |true =>
    refine⟨A,?_⟩
    cases decide (g v=0)<;>rfl
   |false =>
    obtain⟨t,M⟩:=T00 x v (P1 x.1.toNat 1) u
    have d:=λq (N:q<=i+1)=>O0q h s m n p G F H f (i+1) fuel q k (j9 x v (P1 x.1.toNat 1) u) (w e) (q0f h p v _ u a) (by rw[M,List.length_append];omega) N (by omega) (by omega)
    rw[K,Bool.false_or]
    by_cases c0:g v=0
    ·obtain⟨o,d⟩:=d (c+1) (by omega)
     refine⟨o,?_⟩
     rw[if_pos (by simpa using c0),if_pos c0,←Nat.add_assoc]
     exact d
    ·obtain⟨o,d⟩:=d c (by omega)
     refine⟨o,?_⟩
     rw[if_neg (by simpa using c0),if_neg c0,Nat.zero_add]
     exact d
  ·have b:u[i]?=none:=List.getElem?_eq_none (by omega)
   rw[if_neg (by simpa using ci),u0n b,List.drop_eq_nil_of_le (by omega)]
   exact⟨A,rfl⟩
theorem P0q(n:Nat)(g:n<=1000):∀(d k fuel:Nat) (A:List Int),A.length=n->k+d=n->d<fuel->(∀ j:Nat,j<k->A[j]?=some (-1))->∃ b,N6 n fuel (k:Int) A=some b/\b.length=n/\∀ j:Nat,j<n->b[j]?=some (-1)
 |d,k,0,A,a,e,hf,h=>by omega
 |0,k,fuel+1,A,a,e,hf,h=>by
  rw[N6.eq_2,if_neg (by simp only[decide_eq_true_eq];omega)]
  exact⟨A,rfl,a,λj f=>h j (by omega)⟩
 |d+1,k,fuel+1,A,a,e,hf,h=>by
  have i:=V5 (xs:=A) (k:=k) (by omega)
  rw[N6.eq_2,if_pos (by simp only[decide_eq_true_eq];omega),T2 i,oB,G2 (show k<1000 by omega) (by omega),Int.toNat_natCast]
  exact P0q n g d (k+1) fuel (A.set k (-1)) (by rw[List.length_set];exact a) (by omega) (by omega) λj f=>by
   rw[List.getElem?_set]
   by_cases c:k=j
   ·subst c;rw[if_pos rfl,if_pos (by omega)]
   ·rw[if_neg c];exact h j (by omega)
theorem r0f:∀(d:Nat) (g:j0),(Q9 d g).1=g.1
 |0,g=>rfl
 |d+1,g=>by
  unfold Q9
  cases w7 g with
  |none=>rfl
  |some k=>exact r0f d _
theorem g0c(g:j0)(v:Int):(G3 g v).1=g.1:=r0f 40 _
theorem k0h:∀(d:Nat) (g:j0),(X02 d g).1=g.1
 |0,g=>rfl
 |d+1,g=>by
  unfold X02
  cases M02 g with
  |false=>rfl
  |true =>
   rw[cond_true]
   cases b05 g (P1 g.1.toNat 1)with
   |none=>rfl
   |some v=>exact(k0h d _).trans (g0c g v)
theorem K0k:∀(d:Nat) (g:j0),T0 g=true->g.2.1<=(d:Int)+1->∀ x∈h01 d g,O3 x
 |0,g,h,e,x,a=>nomatch a
 |d+1,g,h,e,x,a=>by
  cases hc:M02 g with
  |false=>rw[h01,hc]at a;cases a
  |true =>
   obtain⟨z,b,j,c,f,k⟩:=g0f h hc
   have i:=U04 h hc c f
   rw[h01,hc,cond_true,b]at a
   rcases List.mem_cons.1 a with rfl|a
   ·have q:=(Q0 (Z2 h)).2.1
    exact d04 _ _ (by omega) _ (x0i b).1
   ·exact K0k d _ (e02 (Z2 h) c) (by omega) x a
theorem Q0q{g:j0}{w:List Int}{v u:Int}(h:rdw g v w=some u):G9 g v w=(u,w.length):=by
 have:=(b0c g w v u).1 h
 rw[←this.1,←this.2]
theorem L0k{g:j0}(h:T0 g=true)(n:g.2.2≠[]):∃ l,0<=D0 g 0 l:=by
 refine Classical.byContradiction λk=>?_
 have hf:=Z2 h
 have m:=(Q0 hf).1
 cases hh:g.2.2 with
 |nil=>exact n hh
 |cons e r =>
  have i:e∈g.2.2:=by rw[hh];exact mS
  have f:∀ d∈g.2.2,d.1≠0/\d.2.2≠0:=λd a=>by
   have j:=u00 hf a
   have b:=m d a
   refine⟨λc=>k ⟨d.2.1,?_⟩,λc=>k ⟨-d.2.1,?_⟩⟩
   ·have:=j.1
    rw[c]at this
    rw[this];exact b.2.1.1
   ·have:=j.2
    rw[c]at this
    rw[this];exact b.1.1
  have b:=m e i
  have:=Rch.sub (P:=λz=>z=0) rfl (λd a=>⟨λc=>absurd c (f d a).1,λc=>absurd c (f d a).2⟩) (I0a h b.1.1 b.1.2)
  exact(f e i).1 this
theorem O0o{x y:j0}{g:Int->Int}(C:T0 x=true)(D:T0 y=true)(Y:y.1=x.1)(m:Mor x y g):
  ∃ r:Int,I0 r/\(Y7 (P1 x.1.toNat 1) x.1 x.2.1 x.2.2 y.1 y.2.1 y.2.2 U0 0 (List.replicate x.2.1.toNat (0:Int)) [0]).bind (λX=>I9 X (λq=>match q with|(a,b)=>(grd (y.2.1≠0)).bind λ_=>some (IntKind.i64.wrap (Int.tdiv x.2.1 y.2.1))))=some r /\
   (N6 x.2.1.toNat U0 0 (List.replicate x.2.1.toNat (0:Int))).bind (λA=>(gi A 0).bind λ_=>(M6 x.1 x.2.1 x.2.2 y.1 y.2.1 y.2.2 U0 0 0 (A.set (0:Int).toNat 0) [0]).bind λX=>I9 X (λq=>match q with|(a,b,c)=>some a))=some r:=by
 have d:=Z2 C
 have s:=Z2 D
 obtain⟨ao,ap,aq,ar⟩:=Q0 d
 obtain⟨Z,al,am,an⟩:=Q0 s
 obtain⟨n,t⟩:∃ n:Nat,x.2.1=(n:Int):=⟨x.2.1.toNat,by omega⟩
 have J:x.2.1.toNat=n:=by omega
 have G:∀ l∈P1 x.1.toNat 1,O3 l:=d04 _ _ (by omega)
 have aj:=o8 x.1.toNat 1
 have H:=O0b x.1.toNat (by omega)
 rw[show((x.1.toNat:Nat):Int)=x.1 by omega]at H
 have F:gud n [0]:=⟨by simp,λz p=>by simp at p;subst p;omega⟩
 have I:=m.base
 obtain⟨ad,s1⟩:=b0m d s m n t (P1 x.1.toNat 1) G (by omega) (n+1) 0 U0 (List.replicate n (0:Int)) [0] ⟨by simp,λz ab ac=>by
  have:=T2 (xs:=List.replicate n (0:Int)) (k:=z.toNat) (x:=0) (by rw[List.getElem?_replicate,if_pos (by omega)])
  rw[show((z.toNat:Nat):Int)=z by omega]at this
  rw[this]
  by_cases c:z∈[(0:Int)]
  ·rw[if_pos c,show z=0 by simpa using c,I]
  ·rw[if_neg c]⟩ F (Nat.zero_le _) (by omega) (C1 (by omega))
 obtain⟨f,L,aa,M⟩:=P0q n (by omega) n 0 U0 (List.replicate n (0:Int)) (by simp) (by omega) (C1 (by omega)) λj ai=>by omega
 have N:ImG (-1) g n (f.set 0 0) [0]:=⟨by rw[List.length_set];exact aa,λz ab ac=>by
  have S:(f.set 0 0)[z.toNat]?=some (if z∈[(0:Int)]then g z else -1):=by
   by_cases c:z=0
   ·have p:z.toNat=0:=by omega
    rw[p,List.getElem?_set,if_pos rfl,if_pos (by omega),if_pos (by simpa using c),c,I]
   ·rw[List.getElem?_set,if_neg (by omega),M _ (by omega),if_neg (by simpa using c)]
  have:=T2 S
  rw[show((z.toNat:Nat):Int)=z by omega]at this
  exact this⟩
 obtain⟨ae,w⟩:=O0q d s m n t G (by omega) H (n+1) 0 U0 0 (f.set 0 0) [0] N F (Nat.zero_le _) (Nat.le_refl _) (by omega) (C1 (by omega))
 have W:p5 x (P1 x.1.toNat 1) (n+1) 0 [0]=l3 x:=by unfold l3;rw[J]
 rw[W,List.drop_zero]at s1 w
 rw[show((0:Nat):Int)=0 from rfl]at s1 L w
 have o:=(G02 d).1
 have v:∀ u,u∈l3 x↔0<=u/\u<x.2.1:=λu=>⟨λh=>by have:=o.2 u h;omega,λh=>t08 d (R0e C).2 h.1 h.2⟩
 have R:gi f 0=some (-1):=x09 (M 0 (by omega))
 rw[J,s1,L,oB,oB,R,oB,show(0:Int).toNat=0 from rfl,w,oB]
 cases e:(l3 x).any (H0k x y g (P1 x.1.toNat 1))with
 |true=>exact⟨-1,by decide,rfl,rfl⟩
 |false =>
  have Q:∀ u l,0<=u->u<x.2.1->0<=D0 y (g u) l->0<=D0 x u l:=λu l h0 E K=>by
   refine Classical.byContradiction λak=>?_
   have U:l∈P1 x.1.toNat 1:=by rw[←Y];exact V07 Z (by omega) K
   have:(l3 x).any (H0k x y g (P1 x.1.toNat 1))=true:=List.any_eq_true.2 ⟨u,(v u).2 ⟨h0,E⟩,List.any_eq_true.2 ⟨l,U,by
    unfold u05
    rw[decide_eq_true (show D0 x u l<0 by omega),decide_eq_true K];rfl⟩⟩
   rw[e]at this;cases this
  have O:=X0l d D m o.1 v Q
  have V:(l3 x).length=n:=by
   have E:=R6 _ _ o.1 o.2
   have af:=p0i n (l3 x) λi ah=>(v _).2 ⟨by omega,by omega⟩
   omega
  have P:Int.tdiv x.2.1 y.2.1=((fib g (l3 x) 0:Nat):Int):=by
   rw[Int.tdiv_eq_ediv_of_nonneg (by omega),t,←V,O]
   obtain⟨k,T⟩:∃ k:Nat,y.2.1=(k:Int):=⟨y.2.1.toNat,by omega⟩
   rw[T,Int.toNat_natCast,Int.natCast_mul]
   exact Int.mul_ediv_cancel_left _ (by omega)
  have ag:fib g (l3 x) 0<=40:=by
   have:fib g (l3 x) 0<=(l3 x).length:=List.length_filter_le _ _
   omega
  refine⟨((fib g (l3 x) 0:Nat):Int),⟨by omega,by omega⟩,?_,?_⟩
  ·simp only[cond_false,I9]
   rw[F0 (show y.2.1≠0 by omega),oB,P,w64 (by omega) (by omega)]
  ·simp only[cond_false,I9,Nat.zero_add]
theorem R0q(a b:j0)(U:a.2.2.length<=140737488355328)(V:b.2.2.length<=140737488355328):∃ r,Q5 a b=some r/\C6 a b=some r/\I0 r:=by
 have K:=T0e a b U V
 have Q:=l0f a b U V
 have ag:=S0a a U
 have av:=S0a b V
 cases hin:l00 a b with
 |false =>
  refine⟨-1,?_,?_,by decide⟩
  ·obtain⟨u,A,C⟩:=a
   obtain⟨o,p,q⟩:=b
   unfold Q5
   simp only[K,hin,oB]
   rfl
  ·obtain⟨u,A,C⟩:=a
   obtain⟨o,p,q⟩:=b
   unfold C6
   simp only[Q,hin,oB]
   rfl
 |true =>
  obtain⟨f,m⟩:=V0e hin
  have S:=hin
  unfold l00 at S
  simp only[Bool.and_eq_true,decide_eq_true_eq]at S
  obtain⟨⟨⟨H,d⟩,ak⟩,_⟩:=S
  have n:=Z2 H
  obtain⟨aS,bb,aT,bc⟩:=Q0 n
  obtain⟨G,sl,bd⟩:=J0o d
  obtain⟨aR,_,_⟩:=K0o d
  have aE:=(Q0 (Z2 d)).2.2.1
  have an:=K0k 40 b d (by omega)
  have s:=P0p a n 0 ⟨iR _,by omega⟩ (h01 40 b) an (by omega)
  have Y:=O0p a aS aT.2 (by omega) 0 (h01 40 b) an (by omega)
  have az:=w0t d
  have aJ:(R03 b).1=b.1:=by rw[h0f d];exact k0h 40 b
  have fin:∀ v g,rdw a 0 (h01 40 b)=some v->(0<=v/\v<a.2.1)->Mor (G3 a v) (R03 b) g->∃ r,Q5 a b=some r/\(W7 a=false->C6 a b=some r)/\I0 r:=λv g al aK L=>by
   have Z:=Q0q al
   rw[Z]at s Y
   simp only[Nat.lt_irrefl,decide_false,cond_false]at s Y
   have k:=K0c a (by omega) v
   have N:=D0k a (by omega) v
   unfold A08 at k N
   rw[n,show inR 0 (a.2.1-1) v=true by simp only[inR,Bool.and_eq_true,decide_eq_true_eq];omega]at k N
   simp only[Bool.and_self,cond_true]at k N
   have D:=e02 n aK
   have ab:=g0c a v
   obtain⟨r,O,ac,P⟩:=O0o D az.1 (by rw[aJ,ab];exact ak.symm) L
   have ay:=W02 D
   have F:=P0b (G3 a v).1.toNat (by omega)
   rw[show(((G3 a v).1.toNat:Nat):Int)=(G3 a v).1 by omega]at F
   generalize G3 a v=x at *
   generalize R03 b=y at *
   generalize h01 40 b=w at *
   obtain⟨u,A,C⟩:=a
   obtain⟨o,p,q⟩:=b
   obtain⟨aU,aV,aW⟩:=x
   obtain⟨aX,aY,aZ⟩:=y
   simp only at *
   have am:I0 v:=⟨by omega,by omega⟩
   refine⟨r,?_,λj=>?_,O⟩
   ·unfold Q5
    simp only[K,hin,oB,Bool.not_true,Bool.false_eq_true,if_false,G,s,F0 am,k]
    rw[F0 (by omega),oB,F,oB]
    exact ac
   ·unfold C6
    simp only[Q,hin,oB,Bool.not_true,Bool.false_eq_true,if_false,ag,j,aR,Y,F0 am,N]
    rw[F0 (show I0 ((w.length:Nat):Int) from⟨by omega,by omega⟩),oB,F0 (by omega),oB,List.length_replicate,F0 (by omega),oB]
    exact P
  cases j:W7 a with
  |false =>
   have X:a.2.2≠[]:=λc=>by
    unfold W7 at j
    rw[H,c]at j
    cases j
   obtain⟨v,g,aO,aP,aQ⟩:=l0s H d m (L0k H X)
   obtain⟨r,O,ac,P⟩:=fin v g aO aP aQ
   exact⟨r,O,ac j,P⟩
  |true =>
   have aw:a.2.2.length=0:=by
    unfold W7 at j
    rw[H]at j
    simpa using j
   have aA:a.2.2 = []:=List.eq_nil_of_length_eq_zero aw
   have ai:∀ v l,D0 a v l<0:=λv l=>by
    refine Classical.byContradiction λc=>?_
    obtain⟨_,e,J,_⟩:=A01 (g:=a) (v:=v) (x:=l) (by omega)
    rw[aA]at J;cases J
   have aB:C6 a b=some (bif W7 b then 1 else -1):=by
    obtain⟨u,A,C⟩:=a
    obtain⟨o,p,q⟩:=b
    unfold C6
    simp only[Q,hin,oB,Bool.not_true,Bool.false_eq_true,if_false,ag,j,if_true,av]
    cases W7 (o,p,q)<;>rfl
   refine⟨bif W7 b then 1 else -1,?_,aB,by cases W7 b<;>decide⟩
   cases hcw:h01 40 b with
   |cons z w =>
    have i:W7 b=false:=by
     cases i:W7 b with
     |false=>rfl
     |true =>
      unfold W7 at i
      rw[d]at i
      have R:b.2.2.length=0:=by simpa using i
      have:=y08 d R
      have E:M02 b=false:=by unfold M02;rw[decide_eq_false (show ¬ 1<b.2.1 by omega)];rfl
      rw[h01,E]at hcw;cases hcw
    have Z:G9 a 0 (z::w)=(0,0):=by rw[G9,if_pos (ai 0 z)]
    rw[hcw]at s G
    rw[Z]at s
    simp only[List.length_cons,Nat.zero_lt_succ,decide_true,cond_true]at s
    rw[i]
    generalize R03 b=y at *
    obtain⟨u,A,C⟩:=a
    obtain⟨o,p,q⟩:=b
    obtain⟨aX,aY,aZ⟩:=y
    unfold Q5
    simp only[K,hin,oB,Bool.not_true,Bool.false_eq_true,if_false,G,s]
    rw[F0 (by decide)]
    rfl
   |nil =>
    have E:M02 b=false:=by
     cases E:M02 b with
     |false=>rfl
     |true =>
      obtain⟨z,aq,_⟩:=g0f d E
      rw[h01,E,cond_true,aq]at hcw;cases hcw
    have ao:R03 b=b:=by rw[h0f d,X02,E];rfl
    obtain⟨ar,I,a1,_⟩:=f0f n (v:=0) ⟨iR _,by omega⟩
    have aa:∀ v l,0<=v->v<(G3 a 0).2.1->D0 (G3 a 0) v l<0:=λv l ad ae=>by
     refine Classical.byContradiction λc=>?_
     have ba:=I.hom.step v l ad ae (by omega)
     have a4:=I.hom.rng _ (show 0<=D0 (G3 a 0) v l by omega) (t01 I.fc (by omega))
     have:=ai (ar v) l
     omega
    have W:Mor (G3 a 0) (R03 b) (λ_=>0):=⟨rfl,λv _ _=>by rw[ao];omega,λv l ad ae h=>absurd h (by have:=aa v l ad ae;omega)⟩
    obtain⟨r,O,_,P⟩:=fin 0 _ (by rw[hcw];rfl) ⟨iR _,by omega⟩ W
    have D:=e02 n (v:=0) ⟨iR _,by omega⟩
    have aN:(G3 a 0).2.2.length=0:=by
     cases hh:(G3 a 0).2.2 with
     |nil=>rfl
     |cons e t =>
      have L:e∈(G3 a 0).2.2:=by rw[hh];exact mS
      have aj:=(Q0 I.fc).1 e L
      have a3:=(u00 I.fc L).1
      have:=aa e.1 e.2.1 aj.1.1 aj.1.2
      omega
    have M:=y08 D aN
    have aL:=P0p a n 0 ⟨iR _,by omega⟩ [] (λx aM=>nomatch aM) (by simp)
    have k:=K0c a (by omega) 0
    unfold A08 at k
    rw[n,show inR 0 (a.2.1-1) 0=true by simp only[inR,Bool.and_eq_true,decide_eq_true_eq];omega]at k
    simp only[Bool.and_self,cond_true]at k
    rw[hcw]at G
    rw[ao]at G W
    have af:=Z2 D
    have ab:=g0c a 0
    have ay:=W02 D
    have F:=P0b (G3 a 0).1.toNat (by omega)
    rw[show(((G3 a 0).1.toNat:Nat):Int)=(G3 a 0).1 by omega]at F
    have aC:∀ l∈P1 (G3 a 0).1.toNat 1,O3 l:=d04 _ _ (by omega)
    have a2:=o8 (G3 a 0).1.toNat 1
    obtain⟨a0,s1⟩:=b0m af (Z2 d) W 1 M (P1 (G3 a 0).1.toNat 1) aC (by omega) 2 0 U0 [0] [0] ⟨rfl,λz be aq=>by
     rw[show z=0 by omega];rfl⟩ ⟨by simp,λz ap=>by simp at ap;subst ap;omega⟩ (Nat.zero_le _) (by omega) (C1 (by omega))
    have aH:p5 (G3 a 0) (P1 (G3 a 0).1.toNat 1) 2 0 [0]=l3 (G3 a 0):=by unfold l3;rw[M];rfl
    have aF:∀ v,v∈l3 (G3 a 0)↔v=0:=λv=>by
     have aG:=(G02 af).1
     refine⟨λh=>by have:=aG.2 v h;omega,λh=>by
      obtain⟨t,au⟩:=L06 (G3 a 0)
      rw[au,h];exact mS⟩
    rw[aH,List.drop_zero,show((0:Nat):Int)=0 from rfl]at s1
    have aD:(l3 (G3 a 0)).any (H0k (G3 a 0) b (λ_=>0) (P1 (G3 a 0).1.toNat 1)) = !W7 b:=by
     cases i:W7 b with
     |true =>
      unfold W7 at i
      rw[d]at i
      have R:b.2.2.length=0:=by simpa using i
      have ax:b.2.2 = []:=List.eq_nil_of_length_eq_zero R
      refine List.any_eq_false.2 λv al=>?_
      unfold H0k
      rw[Bool.not_eq_true]
      refine List.any_eq_false.2 λl T=>?_
      unfold u05
      have:D0 b 0 l<0:=by
       refine Classical.byContradiction λc=>?_
       obtain⟨_,e,J,_⟩:=A01 (g:=b) (v:=0) (x:=l) (by omega)
       rw[ax]at J;cases J
      rw[decide_eq_false (show ¬ 0<=D0 b 0 l by omega),Bool.and_false]
      simp
     |false =>
      have X:b.2.2≠[]:=λc=>by
       unfold W7 at i
       rw[d,c]at i
       cases i
      obtain⟨l,T⟩:=L0k d X
      refine List.any_eq_true.2 ⟨0,(aF 0).2 rfl,List.any_eq_true.2 ⟨l,?_,?_⟩⟩
      ·rw[ab,ak]
       exact V07 (Q0 (Z2 d)).1 (by have:=(Q0 (Z2 d)).2.1;omega) T
      ·unfold u05
       rw[decide_eq_true (aa 0 l (iR _) (by omega)),decide_eq_true T];rfl
    rw[aD]at s1
    have ah:W7 b=true->b.2.1=1:=λi=>by
     unfold W7 at i
     rw[d]at i
     exact y08 d (by simpa using i)
    generalize G3 a 0=x at *
    obtain⟨u,A,C⟩:=a
    obtain⟨o,p,q⟩:=b
    obtain⟨aU,aV,aW⟩:=x
    simp only at M F s1 ah aE
    subst M
    unfold Q5
    simp only[K,hin,oB,Bool.not_true,Bool.false_eq_true,if_false,G,aL,k]
    simp only[List.length_nil,Nat.not_lt_zero,decide_false,cond_false]
    rw[show(G9 (u,A,C) 0 []).1=0 from rfl,F0 (show I0 0 by decide)]
    simp only[oB,Bool.not_true,Bool.false_eq_true,if_false,k]
    rw[F0 (by omega),oB,F,oB,show List.replicate (1:Int).toNat (0:Int) = [0] from rfl,s1,oB]
    cases i:W7 (o,p,q)with
    |true =>
     have:=ah i
     subst this
     rfl
    |false=>rfl
abbrev Prs:=List (Int×Int)
theorem s0f(q:Int×Int):∀(ps:Prs) (i:Nat),match lkP q ps i with
  |some k=>i<=k/\ps[k-i]?=some q
  |none=>q ∉ ps
 | [],i=>by simp[lkP]
 |p::r,i=>by
  have a:=s0f q r (i+1)
  unfold lkP
  by_cases c:q=p
  ·subst c;simp
  ·have b:(decide (q.1=p.1)&&decide (q.2=p.2))=false:=by
    cases e:decide (q.1=p.1)&&decide (q.2=p.2)
    ·rfl
    ·simp only[Bool.and_eq_true,decide_eq_true_eq]at e
     exact absurd (Prod.ext e.1 e.2) c
   rw[b,cond_false]
   cases e:lkP q r (i+1)with
   |none=>rw[e]at a;simpa [c] using a
   |some k =>
    rw[e]at a
    simp only at a ⊢
    refine⟨by omega,?_⟩
    have:k-i=(k-(i+1))+1:=by omega
    rw[this,List.getElem?_cons_succ]
    exact a.2
theorem v0n{q:Int×Int}{k:Nat}:∀ {ps:Prs} {i:Nat} (t:Prs),lkP q ps i=some k->lkP q (ps++t) i=some k
 | [],i,t,h=>by simp[lkP]at h
 |p::r,i,t,h=>by
  rw[List.cons_append]
  unfold lkP at h ⊢
  cases c:decide (q.1=p.1)&&decide (q.2=p.2)
  ·rw[c,cond_false]at h;rw[cond_false];exact v0n t h
  ·rw[c,cond_true]at h;rw[cond_true];exact h
theorem w0n{q:Int×Int}:∀ {ps:Prs} {i:Nat},q ∉ ps->lkP q (ps ++ [q]) i=some (i+ps.length)
 | [],i,h=>by simp[lkP]
 |p::r,i,h=>by
  have c:(decide (q.1=p.1)&&decide (q.2=p.2))=false:=by
   cases e:decide (q.1=p.1)&&decide (q.2=p.2)
   ·rfl
   ·simp only[Bool.and_eq_true,decide_eq_true_eq]at e
    exact absurd (List.mem_cons.2 (.inl (Prod.ext e.1 e.2))) h
  rw[List.cons_append,lkP,c,cond_false,w0n (λe=>h (mC _ e))]
  simp;omega
theorem X07{q:Int×Int}{ps:Prs}:lkP q ps 0=none↔q ∉ ps:=by
 have:=s0f q ps 0
 constructor
 ·intro h;rw[h]at this;exact this
 ·intro h
  cases e:lkP q ps 0 with
  |none=>rfl
  |some k=>rw[e]at this;exact absurd (List.mem_of_getElem? this.2) h
theorem P06{q:Int×Int}{ps:Prs}{k:Nat}(h:lkP q ps 0=some k):ps[k]?=some q:=by
 have:=s0f q ps 0
 rw[h]at this
 simpa using this.2
theorem A0i{q:Int×Int}{ps:Prs}(h:q∈ps):∃ k,lkP q ps 0=some k:=by
 cases e:lkP q ps 0 with
 |none=>exact absurd h (X07.1 e)
 |some k=>exact⟨k,rfl⟩
theorem x0n{q:Int×Int}{ps:Prs}(t:Prs)(h:q∈ps):lkZ q (ps++t)=lkZ q ps:=by
 obtain⟨k,e⟩:=A0i h
 unfold lkZ
 rw[e,v0n t e]
def stP(a b:j0)(x:Int)(p:Int×Int):Option (Int×Int):=bif decide (D0 a p.1 x<0) || decide (D0 b p.2 x<0)then none else some (D0 a p.1 x,D0 b p.2 x)
abbrev PSt:=Prs×List M0
def pbS(i:Nat)(x:Int)(q:Option (Int×Int))(S:PSt):PSt:=match q with
 |none=>S
 |some q=>match lkP q S.1 0 with
  |some k=>(S.1,bif decide (0<x)then S.2 ++ [((i:Int),x,(k:Int))]else S.2)
  |none=>(S.1 ++ [q],bif decide (0<x)then S.2 ++ [((i:Int),x,(S.1.length:Int))]else S.2)
def pbI(a b:j0)(i:Nat)(p:Int×Int):List Int->PSt->PSt
 | [],S=>S
 |x::r,S=>pbI a b i p r (pbS i x (stP a b x p) S)
def pbO(a b:j0)(ls:List Int):Nat->Nat->PSt->PSt
 |0,_,S=>S
 |f+1,i,S=>match S.1[i]? with
  |none=>S
  |some p=>pbO a b ls f (i+1) (pbI a b i p ls S)
def W04(a b:j0)(ps:Prs):Prop:=∀ q∈ps,(0<=q.1/\q.1<a.2.1)/\(0<=q.2/\q.2<b.2.1)
theorem S0q{a b:j0}(d:inG a)(e:inG b){x:Int}{p q:Int×Int}(h:stP a b x p=some q):(0<=q.1/\q.1<a.2.1)/\(0<=q.2/\q.2<b.2.1):=by
 unfold stP at h
 cases c:decide (D0 a p.1 x<0) || decide (D0 b p.2 x<0)with
 |true=>rw[c]at h;cases h
 |false =>
  rw[c,cond_false]at h
  cases h
  simp only[Bool.or_eq_false_iff,decide_eq_false_iff_not]at c
  have f:=l8 d p.1 x
  have g:=l8 e p.2 x
  exact⟨by omega,by omega⟩
theorem Q06{q:Int×Int}{S:PSt}{k:Nat}(h:lkP q S.1 0=some k)(i:Nat)(x:Int):pbS i x (some q) S=(S.1,bif decide (0<x)then S.2 ++ [((i:Int),x,(k:Int))]else S.2):=by
 simp only[pbS,h]
theorem R06{q:Int×Int}{S:PSt}(h:lkP q S.1 0=none)(i:Nat)(x:Int):pbS i x (some q) S=(S.1 ++ [q],bif decide (0<x)then S.2 ++ [((i:Int),x,(S.1.length:Int))]else S.2):=by
 simp only[pbS,h]
theorem l0d(i:Nat)(x:Int)(q:Option (Int×Int))(S:PSt):∃ t,(pbS i x q S).1=S.1++t:=by
 cases q with
 |none=>exact⟨[],by simp[pbS]⟩
 |some q =>
  cases e:lkP q S.1 0 with
  |none=>exact⟨[q],by rw[R06 e]⟩
  |some k=>exact⟨[],by rw[Q06 e];simp⟩
theorem S06(a b:j0)(i:Nat)(p:Int×Int):∀(ls:List Int) (c:PSt),∃ t,(pbI a b i p ls c).1=c.1++t
 | [],c=>⟨[],by simp[pbI]⟩
 |x::r,c=>by
  obtain⟨f,d⟩:=l0d i x (stP a b x p) c
  obtain⟨g,e⟩:=S06 a b i p r (pbS i x (stP a b x p) c)
  exact⟨f++g,by rw[pbI,e,d,List.append_assoc]⟩
theorem B0i{a b:j0}(l:inG a)(m:inG b)(i:Nat)(x:Int)(p:Int×Int)(c:PSt)(d:W04 a b c.1)(f:c.1.Nodup):W04 a b (pbS i x (stP a b x p) c).1/\(pbS i x (stP a b x p) c).1.Nodup:=by
 cases e:stP a b x p with
 |none=>exact⟨d,f⟩
 |some q =>
  have n:=S0q l m e
  cases e2:lkP q c.1 0 with
  |none =>
   rw[R06 e2]
   refine⟨λt o=>?_,?_⟩
   ·rcases List.mem_append.1 o with h|h
    ·exact d t h
    ·simp at h;subst h;exact n
   ·show(c.1 ++ [q]).Nodup
    rw[List.nodup_append]
    refine⟨f,by simp,λu s v g j=>?_⟩
    simp at g
    subst g
    subst j
    exact X07.1 e2 s
  |some k=>rw[Q06 e2];exact⟨d,f⟩
theorem t0f{a b:j0}(f:inG a)(g:inG b)(i:Nat)(p:Int×Int):∀(ls:List Int) (c:PSt),W04 a b c.1->c.1.Nodup->W04 a b (pbI a b i p ls c).1/\(pbI a b i p ls c).1.Nodup
 | [],c,d,e=>⟨d,e⟩
 |x::r,c,d,e=>by
  obtain⟨h,j⟩:=B0i f g i x p c d e
  exact t0f f g i p r _ h j
def enP(m:Int)(p:Int×Int):Int:=p.1*m+p.2
theorem C0i{m:Int}{p q:Int×Int}(b:0<=p.2/\p.2<m)(d:0<=q.2/\q.2<m)(h:enP m p=enP m q):p=q:=by
 unfold enP at h
 have a:p.1=q.1:=by
  rcases Int.lt_trichotomy p.1 q.1 with c|c|c
  ·exfalso
   have:(p.1+1)*m<=q.1*m:=Int.mul_le_mul_of_nonneg_right (by omega) (by omega)
   rw[Int.add_mul,Int.one_mul]at this
   omega
  ·exact c
  ·exfalso
   have:(q.1+1)*m<=p.1*m:=Int.mul_le_mul_of_nonneg_right (by omega) (by omega)
   rw[Int.add_mul,Int.one_mul]at this
   omega
 rw[a]at h
 exact Prod.ext a (by omega)
theorem h06{n m:Int}{p:Int×Int}(b:0<=p.1/\p.1<n)(d:0<=p.2/\p.2<m):0<=enP m p/\enP m p<n*m:=by
 unfold enP
 have c:0<=p.1*m:=Int.mul_nonneg b.1 (by omega)
 have a:(p.1+1)*m<=n*m:=Int.mul_le_mul_of_nonneg_right (by omega) (by omega)
 rw[Int.add_mul,Int.one_mul]at a
 omega
theorem D0i{m:Int}{p:Int×Int}(b:0<=p.1)(a:0<=p.2/\p.2<m):Int.tdiv (enP m p) m=p.1/\Int.tmod (enP m p) m=p.2:=by
 have h0:0<=enP m p:=by
  unfold enP
  have:0<=p.1*m:=Int.mul_nonneg b (by omega)
  omega
 rw[Int.tdiv_eq_ediv_of_nonneg h0,Int.tmod_eq_emod_of_nonneg h0]
 unfold enP
 refine⟨?_,?_⟩
 ·rw[Int.add_comm,Int.add_mul_ediv_right _ _ (by omega),Int.ediv_eq_zero_of_lt a.1 a.2];omega
 ·rw[Int.add_comm,Int.add_mul_emod_self_right,Int.emod_eq_of_lt a.1 a.2]
theorem P03{a b:j0}(i:1<=a.2.1/\a.2.1<=40)(j:1<=b.2.1/\b.2.1<=40){ps:Prs}(c:W04 a b ps)(f:ps.Nodup):ps.length<=1600:=by
 have g:(ps.map (enP b.2.1)).Nodup:=by
  rw[List.Nodup,List.pairwise_map]
  exact List.Pairwise.imp_of_mem (λ{x y} m n k e=>k (C0i (c x m).2 (c y n).2 e)) f
 have h:inV 1600 (ps.map (enP b.2.1)):=by
  intro v l
  obtain⟨p,d,rfl⟩:=List.mem_map.1 l
  have:=h06 (c p d).1 (c p d).2
  have o:a.2.1*b.2.1<=40*40:=Int.mul_le_mul i.2 j.2 (by omega) (by omega)
  exact⟨this.1,by omega⟩
 have:=R6 1600 _ g h
 simpa using this
def eL(a b:j0)(ps:Prs)(i:Nat)(p:Int×Int):List Int->List M0
 | []=>[]
 |x::r=>(match stP a b x p with
  |some q=>bif decide (0<x)then [((i:Int),x,lkZ q ps)]else []
  |none=>[])++eL a b ps i p r
def eB(a b:j0)(ls:List Int)(ps:Prs):Prs->Nat->List M0
 | [],_=>[]
 |p::r,i=>eL a b ps i p ls++eB a b ls ps r (i+1)
theorem T0q{a b:j0}{ps:Prs}(t:Prs){i:Nat}{p:Int×Int}:∀ {ls:List Int},(∀ x∈ls,∀ q,stP a b x p=some q->q∈ps)->eL a b (ps++t) i p ls=eL a b ps i p ls
 | [],_=>rfl
 |x::r,h=>by
  rw[eL,eL,T0q t λy c=>h y (mC _ c)]
  cases e:stP a b x p with
  |none=>rfl
  |some q=>simp only[x0n t (h x mS q e)]
theorem C08{a b:j0}{i:Nat}{p:Int×Int}:∀(ls:List Int) (c:PSt),(pbI a b i p ls c).2=c.2++eL a b (pbI a b i p ls c).1 i p ls/\∀ x∈ls,∀ q,stP a b x p=some q->q∈(pbI a b i p ls c).1
 | [],c=>⟨by simp[pbI,eL],λx n=>nomatch n⟩
 |x::r,c=>by
  obtain⟨l,m⟩:=C08 r (pbS i x (stP a b x p) c)
  obtain⟨t,d⟩:=S06 a b i p r (pbS i x (stP a b x p) c)
  have key:∀ q,stP a b x p=some q->q∈(pbS i x (stP a b x p) c).1/\(pbS i x (stP a b x p) c).2=c.2++(bif decide (0<x)then [((i:Int),x,lkZ q (pbS i x (stP a b x p) c).1)]else []):=λq e=>by
   rw[e]
   cases e2:lkP q c.1 0 with
   |none =>
    rw[R06 e2]
    refine⟨by simp,?_⟩
    have j:=w0n (i:=0) (X07.1 e2)
    simp only[lkZ,j,Nat.zero_add]
    cases decide (0<x)<;>simp
   |some k =>
    rw[Q06 e2]
    refine⟨List.mem_of_getElem? (P06 e2),?_⟩
    simp only[lkZ,e2]
    cases decide (0<x)<;>simp
  refine⟨?_,λy f q e=>?_⟩
  ·rw[pbI,l,eL,←List.append_assoc]
   congr 1
   cases e:stP a b x p with
   |none=>simp[pbS]
   |some q =>
    obtain⟨g,h⟩:=key q e
    rw[e]at g h d
    rw[h]
    congr 1
    rw[d]
    simp only[x0n t g]
  ·rw[pbI]
   rcases List.mem_cons.1 f with rfl|f
   ·rw[d];exact List.mem_append_left _ (key q e).1
   ·exact m y f q e
theorem y0n{a b:j0}{i:Nat}{p:Int×Int}{ls:List Int}{S:PSt}{j:Nat}{q:Int×Int}(h:S.1[j]?=some q):(pbI a b i p ls S).1[j]?=some q:=by
 obtain⟨t,e⟩:=S06 a b i p ls S
 rw[e,List.getElem?_append_left (List.getElem?_eq_some_iff.1 h).1];exact h
theorem T0a{a b:j0}(n:inG a)(o:inG b)(w:1<=a.2.1/\a.2.1<=40)(y:1<=b.2.1/\b.2.1<=40)(ls:List Int):∀(f i:Nat) (d:PSt),W04 a b d.1->d.1.Nodup->i<=d.1.length->1601<=i+f ->
  ∃ t,(pbO a b ls f i d).1=d.1++t/\W04 a b (d.1++t)/\(d.1++t).Nodup/\(pbO a b ls f i d).2=d.2++eB a b ls (d.1++t) ((d.1++t).drop i) i /\
   ∀ j p,i<=j->(d.1++t)[j]?=some p->∀ x∈ls,∀ q,stP a b x p=some q->q∈d.1++t
 |0,i,d,g,h,D,E=>by
  have:=P03 w y g h
  omega
 |f+1,i,d,g,h,D,E=>by
  cases e:d.1[i]? with
  |none =>
   have F:i=d.1.length:=by have:=List.getElem?_eq_none_iff.1 e;omega
   refine⟨[],?_⟩
   rw[List.append_nil]
   refine⟨by simp[pbO,e],g,h,?_,λj p G k=>?_⟩
   ·rw[pbO,e,F,List.drop_length];simp[eB]
   ·have:=(List.getElem?_eq_some_iff.1 k).1
    omega
  |some p =>
   obtain⟨A,C⟩:=t0f n o i p ls d g h
   obtain⟨z,m⟩:=C08 (a:=a) (b:=b) (i:=i) (p:=p) ls d
   obtain⟨N,u⟩:=S06 a b i p ls d
   have O:=(List.getElem?_eq_some_iff.1 e).1
   obtain⟨t,H,I,J,K,L⟩:=T0a n o w y ls f (i+1) (pbI a b i p ls d) A C (by rw[u];simp;omega) (by omega)
   refine⟨N++t,?_⟩
   rw[←List.append_assoc,←u]
   have k:((pbI a b i p ls d).1++t)[i]?=some p:=by
    have:=y0n (a:=a) (b:=b) (i:=i) (p:=p) (ls:=ls) e
    rw[List.getElem?_append_left (List.getElem?_eq_some_iff.1 this).1];exact this
   refine⟨by rw[pbO,e];exact H,I,J,?_,λj M G l x v q s=>?_⟩
   ·rw[pbO,e]
    show(pbO a b ls f (i+1) (pbI a b i p ls d)).2=_
    rw[K,z,L1 k,eB,T0q t m,List.append_assoc]
   ·rcases Nat.lt_or_ge i j with c|c
    ·exact L j M c l x v q s
    ·have:j=i:=by omega
     subst this
     rw[k]at l;cases l
     exact List.mem_append_left _ (m x v q s)
theorem E0i{R:Nat}(a:R<=900):∀ x∈P1 R 1,O3 x:=d04 R 1 (by omega)
theorem p0s(u x v:Int)(a:O3 x)(h:0<x):y00 u x v=some (u,x,v):=by
 rw[e0q u x v a]
 unfold stp
 simp[h]
 omega
theorem A0t(q:Int×Int)(ps:Prs)(b:ps.length<=1000000):lkM q ps=some (lkZ q ps):=by
 have h:I0 (lkI (lkZ q ps)):=by
  unfold lkI lkZ lkB
  cases e:lkP q ps 0 with
  |none=>exact⟨by decide,by decide⟩
  |some k =>
   have a:=(List.getElem?_eq_some_iff.1 (P06 e)).1
   simp only[Int.natCast_nonneg,decide_true,cond_true]
   exact⟨by omega,by omega⟩
 unfold lkM
 rw[F0 h];rfl
theorem U0q{a b:j0}(Q:C0 a=true)(R:C0 b=true)(af:a.1=b.1)(ls:List Int)(V:∀ x∈ls,O3 x)(ae:ls.length<=1000)(i:Nat)(p:Int×Int)(u v:Int):∀(d k fuel:Nat) (f:PSt),k+d=ls.length->d<fuel ->
  W04 a b f.1->f.1.Nodup->f.1[i]?=some p->f.2.length<=i*1000+k->i<=2000 ->
  R3 ls (i:Int) a.1 a.2.1 a.2.2 b.1 b.2.1 b.2.2 fuel (k:Int) u v f.1 f.2=some (u,v,(pbI a b i p (ls.drop k) f).1,(pbI a b i p (ls.drop k) f).2)
 |d,k,0,f,S,hf,F,G,D,P,A=>by omega
 |0,k,fuel+1,f,S,hf,F,G,D,P,A=>by
  rw[R3.eq_2,if_neg (by simp only[decide_eq_true_eq];omega),N1 (by omega)];rfl
 |d+1,k,fuel+1,f,S,hf,F,G,D,P,A=>by
  have U:k<ls.length:=by omega
  have K:=V5 U
  have J:=V _ (List.mem_of_getElem? K)
  have T:=L1 K
  generalize ls[k]=x at K J T
  obtain⟨Z,am,ah,ak⟩:=Z0 (K0 Q)
  obtain⟨aa,an,ai,al⟩:=Z0 (K0 R)
  have E:=λab=>U0q Q R af ls V ae i p u v d (k+1) fuel ab (by omega) (by omega)
  have M:=g00 a p.1 x J (by omega)
  have N:=g00 b p.2 x J (by omega)
  have X:=Z7 Z (by omega) p.1 x
  have Y:=Z7 aa (by omega) p.2 x
  have aj:=P03 ah ai F G
  obtain⟨m,n⟩:=B0i Z aa i x p f F G
  obtain⟨t,ag⟩:=l0d i x (stP a b x p) f
  have o:(pbS i x (stP a b x p) f).1[i]?=some p:=by rw[ag,List.getElem?_append_left (List.getElem?_eq_some_iff.1 D).1];exact D
  have W:∀ v,0<x->y00 (i:Int) x v=some ((i:Int),x,v):=λv h=>p0s _ _ _ J h
  rw[R3.eq_2,if_pos (by simp only[decide_eq_true_eq];omega),T2 K,oB,T2 D,oB,G2 U (by omega),T,pbI]
  obtain⟨s,C⟩:=p
  obtain⟨g,j,l⟩:=a
  obtain⟨w,y,z⟩:=b
  simp only at M N X Y E m n o ⊢
  rw[M,oB,F0 X,oB,oB,N,oB,F0 Y,oB]
  have I:stP (g,j,l) (w,y,z) x (s,C)=(bif decide (D0 (g,j,l) s x<0) || decide (D0 (w,y,z) C x<0)then none else some (D0 (g,j,l) s x,D0 (w,y,z) C x)):=rfl
  have ad:(bif decide (D0 (g,j,l) s x<0)then true else decide (D0 (w,y,z) C x<0))=(decide (D0 (g,j,l) s x<0) || decide (D0 (w,y,z) C x<0)):=by
   cases decide (D0 (g,j,l) s x<0)<;>rfl
  rw[ad]
  cases c:decide (D0 (g,j,l) s x<0) || decide (D0 (w,y,z) C x<0)with
  |true =>
   rw[c,cond_true]at I
   rw[if_pos rfl,I]
   exact E f F G D (by omega) A
  |false =>
   rw[c,cond_false]at I
   rw[I]at m n o ⊢
   rw[if_neg (by simp),A0t _ _ (by omega),oB]
   generalize (D0 (g,j,l) s x,D0 (w,y,z) C x)=q at *
   cases e:lkP q f.1 0 with
   |none =>
    rw[R06 e]at m n o ⊢
    have L:lkZ q f.1 = -1:=by unfold lkZ;rw[e]
    rw[L,if_pos (by decide),oB,F0 (by omega),oB,F0 (by simp;omega),oB]
    by_cases c2:0<x
    ·have:=E (f.1 ++ [q],f.2 ++ [((i:Int),x,(f.1.length:Int))]) m n o (by simp;omega) A
     rw[if_pos (by simpa using c2),W _ c2,oB]
     simp only[c2,decide_true,cond_true]at this ⊢
     rw[F0 (by simp;omega),oB]
     exact this
    ·have:=E (f.1 ++ [q],f.2) m n o (by simp;omega) A
     rw[if_neg (by simpa using c2)]
     simp only[c2,decide_false,cond_false]at this ⊢
     exact this
   |some H =>
    rw[Q06 e]at m n o ⊢
    have L:lkZ q f.1=(H:Int):=by unfold lkZ;rw[e]
    have O:lkB (H:Int)=true:=by unfold lkB;simp
    have ac:lkI (H:Int)=(H:Int):=by unfold lkI;rw[O];rfl
    rw[L,O,if_neg (by simp),ac]
    by_cases c2:0<x
    ·have:=E (f.1,f.2 ++ [((i:Int),x,(H:Int))]) m n o (by simp;omega) A
     rw[if_pos (by simpa using c2),W _ c2,oB]
     simp only[c2,decide_true,cond_true]at this ⊢
     rw[F0 (by simp;omega),oB]
     exact this
    ·have:=E (f.1,f.2) m n o (by simp;omega) A
     rw[if_neg (by simpa using c2)]
     simp only[c2,decide_false,cond_false]at this ⊢
     exact this
theorem h0c{a b:j0}{ps:Prs}{i:Nat}{p:Int×Int}:∀(ls:List Int),(eL a b ps i p ls).length<=ls.length
 | []=>by simp[eL]
 |x::r=>by
  have:=h0c (a:=a) (b:=b) (ps:=ps) (i:=i) (p:=p) r
  rw[eL,List.length_append,List.length_cons]
  have h:(match stP a b x p with
   |some q=>bif decide (0<x)then [((i:Int),x,lkZ q ps)]else []
   |none=>[]).length<=1:=by
   cases stP a b x p with
   |none=>simp
   |some q=>cases decide (0<x)<;>simp
  exact Nat.le_trans (Nat.add_le_add h this) (by omega)
theorem F0i{a b:j0}{ls:List Int}{ps:Prs}:∀(r:Prs) (i:Nat),(eB a b ls ps r i).length<=r.length*ls.length
 | [],i=>by simp[eB]
 |p::r,i=>by
  have c:=h0c (a:=a) (b:=b) (ps:=ps) (i:=i) (p:=p) ls
  have d:=F0i (a:=a) (b:=b) (ls:=ls) (ps:=ps) r (i+1)
  rw[eB,List.length_append,List.length_cons,Nat.add_mul,Nat.one_mul]
  omega
theorem V0q{a b:j0}(h:C0 a=true)(j:C0 b=true)(q:a.1=b.1)(u v:Int):∀(d i fuel:Nat) (c:PSt),i+d=1601->d<fuel->W04 a b c.1->c.1.Nodup->i<=c.1.length->c.2.length<=i*1000 ->
  U6 a.1 a.2.1 a.2.2 b.1 b.2.1 b.2.2 fuel (i:Int) u v c.1 c.2=some (u,v,(pbO a b (P1 a.1.toNat 1) d i c).1,(pbO a b (P1 a.1.toNat 1) d i c).2)
 |d,i,0,c,o,hf,f,g,n,k=>by omega
 |0,i,fuel+1,c,o,hf,f,g,n,k=>by
  obtain⟨s,H,l,F⟩:=Z0 (K0 h)
  obtain⟨t,I,m,G⟩:=Z0 (K0 j)
  have:=P03 l m f g
  omega
 |d+1,i,fuel+1,c,o,hf,f,g,n,k=>by
  obtain⟨s,H,l,F⟩:=Z0 (K0 h)
  obtain⟨t,I,m,G⟩:=Z0 (K0 j)
  have M:=P03 l m f g
  obtain⟨R,z⟩:∃ R:Nat,a.1=(R:Int):=⟨a.1.toNat,by omega⟩
  have C:i<=2000:=by omega
  rw[U6.eq_2,oB,F0 (by omega),oB]
  cases e:c.1[i]? with
  |none =>
   have:=List.getElem?_eq_none_iff.1 e
   rw[if_neg (by simp only[decide_eq_true_eq];omega)]
   simp only[pbO,e]
  |some p =>
   have N:=(List.getElem?_eq_some_iff.1 e).1
   have A:a.1.toNat=R:=by omega
   obtain⟨x,y⟩:=t0f s t i p (P1 R 1) c f g
   obtain⟨w,J⟩:=C08 (a:=a) (b:=b) (i:=i) (p:=p) (P1 R 1) c
   obtain⟨O,D⟩:=S06 a b i p (P1 R 1) c
   have L:=o8 R 1
   have K:=h0c (a:=a) (b:=b) (ps:=(pbI a b i p (P1 R 1) c).1) (i:=i) (p:=p) (P1 R 1)
   have h0:=U0q h j q (P1 R 1) (E0i (by omega)) (by omega) i p u v (P1 R 1).length 0 U0 c (by omega) (C1 (by omega)) f g e (Nat.le_trans k (Nat.le_add_right _ _)) C
   have E:=V0q h j q u v d (i+1) fuel (pbI a b i p (P1 R 1) c) (by omega) (by omega) x y (by rw[D];simp;omega) (by rw[w,List.length_append];omega)
   rw[if_pos (by simp only[decide_eq_true_eq];omega)]
   rw[List.drop_zero,show((0:Nat):Int)=0 from rfl]at h0
   rw[show d4 a.1=some (P1 R 1) by rw[z];exact O0b R (by omega),oB,h0,oB]
   simp only
   rw[G2 (show i<2000 by omega) (by omega),E]
   rw[A]
   simp only[pbO,e]
def U0a(a b:j0)(u v:Int):j0×Bool:=bif C0 a&&(C0 b&&(decide (a.1=b.1)&&(inR 0 (a.2.1-1) u&&inR 0 (b.2.1-1) v)))then
    (bif decide (40<(pbO a b (P1 a.1.toNat 1) 1601 0 ([(u,v)],[])).1.length) || decide (120<(pbO a b (P1 a.1.toNat 1) 1601 0 ([(u,v)],[])).2.length)then((0,0,[]),false)
     else((a.1,((pbO a b (P1 a.1.toNat 1) 1601 0 ([(u,v)],[])).1.length:Int),F6 D1 [] (pbO a b (P1 a.1.toNat 1) 1601 0 ([(u,v)],[])).2),true))else((0,0,[]),false)
theorem u0f{a b:j0}{u v:Int}(d:inR 0 (a.2.1-1) u=true)(e:inR 0 (b.2.1-1) v=true):W04 a b [(u,v)]:=by
 intro q c
 simp at c
 subst c
 simp only[inR,Bool.and_eq_true,decide_eq_true_eq]at d e
 exact⟨by omega,by omega⟩
theorem W0q{a b:j0}(z:a.2.2.length<=140737488355328)(A:b.2.2.length<=140737488355328)(u v:Int):E00 a b u v=some (U0a a b u v):=by
 have p:=n8 a z
 have f2:=n8 b A
 have f3:C0 a=true->T3 a u=some (inR 0 (a.2.1-1) u):=λh=>Y0l a (K0 h) u
 have q:C0 b=true->T3 b v=some (inR 0 (b.2.1-1) v):=λh=>Y0l b (K0 h) v
 have m:C0 a=true->C0 b=true->a.1=b.1->inR 0 (a.2.1-1) u=true->inR 0 (b.2.1-1) v=true->_:=λc d e g i=>V0q c d e a.1 0 1601 0 U0 ([(u,v)],[]) (by omega) (C1 (by omega)) (u0f g i) (by simp) (by simp) (by simp)
 have s:C0 a=true->C0 b=true->inR 0 (a.2.1-1) u=true->inR 0 (b.2.1-1) v=true->∀ ls,ls.length<=1000->(pbO a b ls 1601 0 ([(u,v)],[])).1.length<=1600/\(pbO a b ls 1601 0 ([(u,v)],[])).2.length<=1600000:=λc d g i ls J=>by
  obtain⟨P,R,C,z⟩:=Z0 (K0 c)
  obtain⟨Q,T,D,A⟩:=Z0 (K0 d)
  obtain⟨t,L,M,N,O,_⟩:=T0a P Q C D ls 1601 0 ([(u,v)],[]) (u0f g i) (by simp) (by simp) (by omega)
  have y:=P03 C D M N
  refine⟨by rw[L];exact y,?_⟩
  rw[O,List.drop_zero,List.nil_append]
  exact Nat.le_trans (F0i _ _) (Nat.mul_le_mul y J)
 unfold U0a
 obtain⟨f,k,n⟩:=a
 obtain⟨j,l,o⟩:=b
 unfold E00
 simp only at p f2 f3 q m ⊢
 rw[p,oB]
 cases c:C0 (f,k,n)with
 |false=>simp[chk]
 |true =>
  rw[show(!!true)=true from rfl,Q2,f2,oB]
  cases d:C0 (j,l,o)with
  |false=>simp[chk]
  |true =>
   by_cases e:f=j
   ·have G:=f3 c
    rw[show(!(bif(bif(!true)then true else(!true))then true else(!decide (f=j))))=true by simp[e],Q2,G,oB]
    cases g:inR 0 (k-1) u with
    |false=>simp[chk]
    |true =>
     rw[show(!(bif(bif(bif(!true)then true else(!true))then true else(!decide (f=j)))then true else(!true)))=true by simp[e],Q2,q d,oB]
     cases i:inR 0 (l-1) v with
     |false=>simp
     |true =>
      have w:=m c d e g i
      have x:=s c d g i
      rw[if_neg (by simp[e])]
      rw[show((0:Nat):Int)=0 from rfl]at w
      rw[w,oB]
      have K:=(Z0 (K0 c)).2.1
      simp only at K
      obtain⟨H,I⟩:=x (P1 f.toNat 1) (by rw[o8];omega)
      clear m s x
      generalize pbO (f,k,n) (j,l,o) (P1 f.toNat 1) 1601 0 ([(u,v)],[])=S at *
      obtain⟨ps,es⟩:=S
      simp only at H I ⊢
      rw[oB,F0 (by omega),oB,oB,F0 (by omega),oB]
      have E:decide (((ps.length:Nat):Int)>40)=decide (40<ps.length):=by rw[decide_eq_decide];omega
      have F:decide (((es.length:Nat):Int)>120)=decide (120<es.length):=by rw[decide_eq_decide];omega
      rw[E,F]
      cases decide (40<ps.length)<;>cases decide (120<es.length)<;>simp[B0a es (by omega),c,d,e,g,i]
   ·simp[chk,e]
def c09(m:Int)(N:Nat)(a:List Bool)(ps:Prs):Prop:=a.length=N/\∀ j:Nat,j<N->a[j]?=some (decide ((j:Int)∈ps.map (enP m)))
theorem z0n{a b:j0}{ps:Prs}(h:W04 a b ps){q:Int×Int}(f:0<=q.2/\q.2<b.2.1):enP b.2.1 q∈ps.map (enP b.2.1)↔q∈ps:=by
 constructor
 ·intro e
  obtain⟨p,c,d⟩:=List.mem_map.1 e
  have:=C0i (h p c).2 f d
  rw[←this];exact c
 ·exact λe=>List.mem_map.2 ⟨q,e,rfl⟩
theorem i0c{m:Int}{N:Nat}{a:List Bool}{ps:Prs}(h:c09 m N a ps){q:Int×Int}(f:0<=enP m q)(g:enP m q<(N:Int)):c09 m N (a.set (enP m q).toNat true) (ps ++ [q]):=by
 refine⟨by simp[h.1],λj b=>?_⟩
 rw[List.getElem?_set]
 by_cases c:(enP m q).toNat=j
 ·have d:(j:Int)∈(ps ++ [q]).map (enP m):=List.mem_map.2 ⟨q,by simp,by omega⟩
  rw[if_pos c,if_pos (by rw[h.1];omega),decide_eq_true d]
 ·rw[if_neg c,h.2 j b]
  have:((j:Int)∈(ps ++ [q]).map (enP m))↔(j:Int)∈ps.map (enP m):=by
   rw[List.map_append,List.mem_append]
   constructor
   ·rintro(e|e)
    ·exact e
    ·simp at e;omega
   ·exact .inl
  simp only[this]
theorem X0q{a b:j0}(F:C0 a=true)(G:C0 b=true)(ls:List Int)(K:∀ x∈ls,O3 x)(ac:ls.length<=1000)(i:Nat)(p:Int×Int):∀(d k fuel:Nat) (f:PSt) (g:List Bool),k+d=ls.length->d<fuel ->
  W04 a b f.1->f.1.Nodup->f.1[i]?=some p->c09 b.2.1 (a.2.1*b.2.1).toNat g f.1 ->
  ∃ o,Y5 ls (i:Int) b.2.1 a.1 a.2.1 a.2.2 b.1 b.2.2 fuel (k:Int) g (f.1.map (enP b.2.1))=some (o,(pbI a b i p (ls.drop k) f).1.map (enP b.2.1))/\c09 b.2.1 (a.2.1*b.2.1).toNat o (pbI a b i p (ls.drop k) f).1
 |d,k,0,f,g,H,hf,h,n,j,l=>by omega
 |0,k,fuel+1,f,g,H,hf,h,n,j,l=>by
  rw[Y5.eq_2,if_neg (by simp only[decide_eq_true_eq];omega),N1 (by omega)]
  exact⟨g,rfl,l⟩
 |d+1,k,fuel+1,f,g,H,hf,h,n,j,l=>by
  have J:k<ls.length:=by omega
  have z:=V5 J
  have A:=K _ (List.mem_of_getElem? z)
  have I:=L1 z
  generalize ls[k]=x at z A I
  obtain⟨D,aA,P,aw⟩:=Z0 (K0 F)
  obtain⟨E,aB,Q,ax⟩:=Z0 (K0 G)
  have C:=λR o=>X0q F G ls K ac i p d (k+1) fuel R o (by omega) (by omega)
  have W:=N8 a p.1 x A (by omega)
  have X:=N8 b p.2 x A (by omega)
  have ai:=Z7 D (by omega) p.1 x
  have aj:=Z7 E (by omega) p.2 x
  have au:=P03 P Q h n
  have L:=h p (List.mem_of_getElem? j)
  obtain⟨S,T⟩:=D0i (m:=b.2.1) L.1.1 L.2
  obtain⟨v,w⟩:=B0i D E i x p f h n
  obtain⟨t,af⟩:=l0d i x (stP a b x p) f
  have y:(pbS i x (stP a b x p) f).1[i]?=some p:=by rw[af,List.getElem?_append_left (List.getElem?_eq_some_iff.1 j).1];exact j
  have Z:gi (f.1.map (enP b.2.1)) (i:Int)=some (enP b.2.1 p):=T2 (by rw[List.getElem?_map,j];rfl)
  rw[Y5.eq_2,if_pos (by simp only[decide_eq_true_eq];omega)]
  simp only[Z,oB,F0 (show b.2.1≠0 by omega),T2 z,S,T]
  rw[w64 (by omega) (by omega),I,pbI]
  have u:stP a b x p=(bif decide (D0 a p.1 x<0) || decide (D0 b p.2 x<0)then none else some (D0 a p.1 x,D0 b p.2 x)):=rfl
  have ay:=l8 D p.1 x
  have az:=l8 E p.2 x
  have U:(a.1,a.2.1,a.2.2)=a:=rfl
  have V:(b.1,b.2.1,b.2.2)=b:=rfl
  simp only[U,V]
  rw[W,oB,F0 ai,oB,X,oB,F0 aj,oB,G2 J (by omega)]
  have Y:(bif decide (D0 a p.1 x ≥ 0)then decide (D0 b p.2 x ≥ 0)else false) = !(decide (D0 a p.1 x<0) || decide (D0 b p.2 x<0)):=by
   have an:decide (D0 a p.1 x ≥ 0) = !decide (D0 a p.1 x<0):=by rw[←decide_not,decide_eq_decide];omega
   have ao:decide (D0 b p.2 x ≥ 0) = !decide (D0 b p.2 x<0):=by rw[←decide_not,decide_eq_decide];omega
   rw[an,ao]
   cases decide (D0 a p.1 x<0)<;>cases decide (D0 b p.2 x<0)<;>rfl
  rw[Y]
  cases c:decide (D0 a p.1 x<0) || decide (D0 b p.2 x<0)with
  |true =>
   rw[c,cond_true]at u
   rw[u]
   rw[show(!true)=false from rfl,o5,oB,if_neg (by simp)]
   exact C f g h n j l
  |false =>
   rw[c,cond_false]at u
   simp only[Bool.or_eq_false_iff,decide_eq_false_iff_not]at c
   rw[u]at v w y ⊢
   have M:0<=D0 a p.1 x/\D0 a p.1 x<a.2.1:=by omega
   have N:0<=D0 b p.2 x/\D0 b p.2 x<b.2.1:=by omega
   generalize D0 a p.1 x=s at *
   generalize D0 b p.2 x=r at *
   have O:=h06 (p:=(s,r)) M N
   have ap:a.2.1*b.2.1<=40*40:=Int.mul_le_mul P.2 Q.2 (by omega) (by omega)
   have av:0<=s*b.2.1:=Int.mul_nonneg M.1 (by omega)
   have ar:enP b.2.1 (s,r)=s*b.2.1+r:=rfl
   have ag:IntKind.i64.wrap (IntKind.i64.wrap (s*b.2.1)+r)=enP b.2.1 (s,r):=by
    rw[w64 (x:=s*b.2.1) (by omega) (by omega),w64 (by omega) (by omega)];rfl
   rw[ag]
   have ah:((enP b.2.1 (s,r)).toNat:Int)=enP b.2.1 (s,r):=by omega
   have aq:((a.2.1*b.2.1).toNat:Int)=a.2.1*b.2.1:=by omega
   have aa:gi g (enP b.2.1 (s,r))=some (decide ((s,r)∈f.1)):=by
    unfold gi
    rw[if_pos O.1,l.2 _ (by omega),ah]
    simp only[z0n h (q:=(s,r)) N]
   rw[show(!false)=true from rfl,Q2,aa,oB]
   cases e:lkP (s,r) f.1 0 with
   |none =>
    have ad:=X07.1 e
    rw[R06 e]at v w y ⊢
    have ae:=i0c l O.1 (by omega)
    obtain⟨o,al,am⟩:=C (f.1 ++ [(s,r)],_) _ v w y ae
    rw[if_pos (by simp[ad]),oB,F0 (by simp;omega),oB]
    refine⟨o,?_,am⟩
    rw[←al]
    simp only[List.map_append,List.map_cons,List.map_nil]
   |some ak =>
    have ab:(s,r)∈f.1:=List.mem_of_getElem? (P06 e)
    rw[Q06 e]at v w y ⊢
    rw[if_neg (by simp[ab])]
    exact C (f.1,bif decide (0<x)then f.2 ++ [((i:Int),x,(ak:Int))]else f.2) g h n j l
theorem Y0q{a b:j0}(j:C0 a=true)(k:C0 b=true)(ls:List Int)(t:∀ x∈ls,O3 x)(s:ls.length<=1000):∀(d i fuel:Nat) (c:PSt) (f:List Bool),i+d=1601->d<fuel->W04 a b c.1->c.1.Nodup->i<=c.1.length->c09 b.2.1 (a.2.1*b.2.1).toNat f c.1 ->
  ∃ I,r8 ls b.2.1 a.1 a.2.1 a.2.2 b.1 b.2.2 fuel (i:Int) f (c.1.map (enP b.2.1))=some (I,(pbO a b ls d i c).1.map (enP b.2.1))
 |d,i,0,c,f,q,hf,g,h,o,l=>by omega
 |0,i,fuel+1,c,f,q,hf,g,h,o,l=>by
  obtain⟨w,G,m,E⟩:=Z0 (K0 j)
  obtain⟨y,H,n,F⟩:=Z0 (K0 k)
  have:=P03 m n g h
  omega
 |d+1,i,fuel+1,c,f,q,hf,g,h,o,l=>by
  obtain⟨w,G,m,E⟩:=Z0 (K0 j)
  obtain⟨y,H,n,F⟩:=Z0 (K0 k)
  have L:=P03 m n g h
  rw[r8.eq_2,oB,List.length_map,F0 (by omega),oB]
  cases e:c.1[i]? with
  |none =>
   have:=List.getElem?_eq_none_iff.1 e
   rw[if_neg (by simp only[decide_eq_true_eq];omega)]
   simp only[pbO,e]
   exact⟨f,rfl⟩
  |some p =>
   have M:=(List.getElem?_eq_some_iff.1 e).1
   obtain⟨z,A⟩:=t0f w y i p ls c g h
   obtain⟨N,C⟩:=S06 a b i p ls c
   obtain⟨J,u,v⟩:=X0q j k ls t s i p ls.length 0 U0 c f (by omega) (C1 (by omega)) g h e l
   rw[List.drop_zero,show((0:Nat):Int)=0 from rfl]at u
   rw[List.drop_zero]at v
   obtain⟨K,D⟩:=Y0q j k ls t s d (i+1) fuel (pbI a b i p ls c) J (by omega) (by omega) z A (by rw[C];simp;omega) v
   rw[if_pos (by simp only[decide_eq_true_eq];omega),u,oB]
   simp only
   rw[G2 (show i<2000 by omega) (by omega),D]
   simp only[pbO,e]
   exact⟨K,rfl⟩
theorem v0f{a b:j0}(e:C0 a=true)(f:C0 b=true)(K:a.1=b.1){u v:Int}(c:0<=u/\u<a.2.1)(i:0<=v/\v<b.2.1):
  B9 a b u v=some ((pbO a b (P1 a.1.toNat 1) 1601 0 ([(u,v)],[])).1.map (enP b.2.1)):=by
 obtain⟨P,S,z,N⟩:=Z0 (K0 e)
 obtain⟨Q,T,A,O⟩:=Z0 (K0 f)
 obtain⟨R,m⟩:∃ R:Nat,a.1=(R:Int):=⟨a.1.toNat,by omega⟩
 have n:a.1.toNat=R:=by omega
 have h0:W04 a b [(u,v)]:=λq g=>by simp at g;subst g;exact⟨c,i⟩
 have k:=h06 (p:=(u,v)) c i
 have H:a.2.1*b.2.1<=40*40:=Int.mul_le_mul z.2 A.2 (by omega) (by omega)
 have J:enP b.2.1 (u,v)=u*b.2.1+v:=rfl
 have L:0<=u*b.2.1:=Int.mul_nonneg c.1 (by omega)
 have M:((enP b.2.1 (u,v)).toNat:Int)=enP b.2.1 (u,v):=by omega
 have I:((a.2.1*b.2.1).toNat:Int)=a.2.1*b.2.1:=by omega
 have t:c09 b.2.1 (a.2.1*b.2.1).toNat ((List.replicate (a.2.1*b.2.1).toNat false).set (enP b.2.1 (u,v)).toNat true) [(u,v)]:=by
  have:c09 b.2.1 (a.2.1*b.2.1).toNat (List.replicate (a.2.1*b.2.1).toNat false) []:=⟨by simp,λj s=>by rw[List.getElem?_replicate,if_pos s];simp⟩
  have:=i0c this (q:=(u,v)) k.1 (by omega)
  simpa using this
 obtain⟨U,h⟩:=Y0q e f (P1 R 1) (E0i (by omega)) (by rw[o8];omega) 1601 0 U0 ([(u,v)],[]) _ (by omega) (C1 (by omega)) h0 (by simp) (by simp) t
 rw[show((0:Nat):Int)=0 from rfl]at h
 rw[n]
 have w:IntKind.i64.wrap (IntKind.i64.wrap (u*b.2.1)+v)=enP b.2.1 (u,v):=by
  rw[w64 (x:=u*b.2.1) (by omega) (by omega),w64 (by omega) (by omega)];rfl
 have y:IntKind.i64.wrap (a.2.1*b.2.1)=a.2.1*b.2.1:=w64 (by omega) (by omega)
 have o:gi (List.replicate (a.2.1*b.2.1).toNat (false:Bool)) (enP b.2.1 (u,v))=some false:=by
  unfold gi
  rw[if_pos k.1,List.getElem?_replicate,if_pos (by omega)]
 have l:d5 (if b.1<a.1 then b.1 else a.1)=some (P1 R 1):=by
  rw[if_neg (by omega),m];exact P0b R (by omega)
 obtain⟨C,D,E⟩:=a
 obtain⟨F,d,G⟩:=b
 unfold B9
 simp only at *
 rw[w,y,F0 ⟨by omega,by omega,by omega,by omega⟩,oB,show gi [enP d (u,v)] 0=some (enP d (u,v)) from x09 rfl,oB,o,oB,l,oB]
 simp only[List.map_cons,List.map_nil]at h
 rw[h];rfl
theorem q0s{f:Type}{l:List f}(h:l.Nodup){i j:Nat}{x:f}(g:l[i]?=some x)(k:l[j]?=some x):i=j:=by
 obtain⟨a,b⟩:=List.getElem?_eq_some_iff.1 g
 obtain⟨d,e⟩:=List.getElem?_eq_some_iff.1 k
 rcases Nat.lt_trichotomy i j with c|c|c
 ·exact absurd (b.trans e.symm) (List.pairwise_iff_getElem.1 h i j a d c)
 ·exact c
 ·exact absurd (e.trans b.symm) (List.pairwise_iff_getElem.1 h j i d a c)
theorem A0n{a b:j0}{ps:Prs}{i:Nat}{p:Int×Int}(d x:Nat)(f:1<=x):eL a b ps i p (P1 (d+1) x)=(match stP a b (x:Int) p with
  |some q=>[((i:Int),(x:Int),lkZ q ps)]
  |none=>[])++eL a b ps i p (P1 d (x+1)):=by
 have c:decide (0<(x:Int))=true:=decide_eq_true (by omega)
 have e:decide (0 < -(x:Int))=false:=decide_eq_false (by omega)
 rw[P1,eL,eL,c,e]
 cases stP a b (x:Int) p<;>cases stP a b (-(x:Int)) p<;>simp
theorem M0k{a b:j0}{x:Int}{p:Int×Int}:(stP a b x p=none/\(bif decide (D0 a p.1 x ≥ 0)then decide (D0 b p.2 x ≥ 0)else false)=false) ∨
  (stP a b x p=some (D0 a p.1 x,D0 b p.2 x)/\0<=D0 a p.1 x/\0<=D0 b p.2 x):=by
 unfold stP
 cases c:decide (D0 a p.1 x<0) || decide (D0 b p.2 x<0)with
 |true =>
  refine .inl ⟨rfl,?_⟩
  simp only[Bool.or_eq_true,decide_eq_true_eq]at c
  by_cases c1:D0 a p.1 x<0
  ·rw[decide_eq_false (by omega)];rfl
  ·rw[decide_eq_true (by omega),cond_true,decide_eq_false (by omega)]
 |false =>
  simp only[Bool.or_eq_false_iff,decide_eq_false_iff_not]at c
  exact .inr ⟨rfl,by omega,by omega⟩
theorem Z0q{a b:j0}(f:C0 a=true)(q:C0 b=true)(H:a.1=b.1)(ps:Prs)(o:W04 a b ps)(i:Nat)(p:Int×Int)(g:ps[i]?=some p)(z:Prs):∀(d x fuel c:Nat),x+d=a.1.toNat+1->1<=x->d<fuel->c+d<=1000000 ->
  Z5 b.1 a.1 (ps.map (enP b.2.1)) (i:Int) b.2.1 a.2.1 a.2.2 b.2.2 fuel (c:Int) (x:Int)=some (((c+(eL a b z i p (P1 d x)).length:Nat):Int))
 |d,x,0,c,t,h,hf,s=>by omega
 |0,x,fuel+1,c,t,h,hf,s=>by
  obtain⟨y,N,L,K⟩:=Z0 (K0 f)
  rw[Z5.eq_2,if_neg (by rw[if_neg (show ¬ b.1<a.1 by omega)];simp only[decide_eq_true_eq];omega)]
  simp[P1,eL]
 |d+1,x,fuel+1,c,t,h,hf,s=>by
  obtain⟨y,N,L,K⟩:=Z0 (K0 f)
  obtain⟨M,Q,P,O⟩:=Z0 (K0 q)
  have u:O3 (x:Int):=⟨⟨by omega,by omega⟩,by omega⟩
  have j:=λA=>Z0q f q H ps o i p g z d (x+1) fuel A (by omega) (by omega) (by omega)
  have F:=N8 a p.1 (x:Int) u (by omega)
  have n:=N8 b p.2 (x:Int) u (by omega)
  have I:=Z7 y (by omega) p.1 (x:Int)
  have w:=Z7 M (by omega) p.2 (x:Int)
  have v:=o p (List.mem_of_getElem? g)
  obtain⟨C,l⟩:=D0i (m:=b.2.1) v.1.1 v.2
  have G:gi (ps.map (enP b.2.1)) (i:Int)=some (enP b.2.1 p):=T2 (by rw[List.getElem?_map,g];rfl)
  have D:(a.1,a.2.1,a.2.2)=a:=rfl
  have E:(b.1,b.2.1,b.2.2)=b:=rfl
  rw[Z5.eq_2,if_pos (by rw[if_neg (show ¬ b.1<a.1 by omega)];simp only[decide_eq_true_eq];omega)]
  simp only[G,oB,F0 (show b.2.1≠0 by omega),C,D,E]
  rw[w64 (by omega) (by omega),F,oB,F0 I,oB,G2 (show x<2000 by omega) (by omega),A0n d x h]
  rcases M0k (a:=a) (b:=b) (x:=(x:Int)) (p:=p)with⟨k,e⟩|⟨k,e,J⟩
  ·rw[k]
   cases hA:decide (D0 a p.1 (x:Int) ≥ 0)with
   |false =>
    simp only[o5,oB]
    rw[F0 (show I0 0 from⟨by omega,by omega⟩),oB,if_neg (by simp),j c (by omega)]
    simp
   |true =>
    rw[hA,cond_true]at e
    simp only[Q2,oB,l]
    rw[n,oB,F0 w,oB,e,if_neg (by simp),j c (by omega)]
    simp
  ·rw[k,decide_eq_true e]
   simp only[Q2,oB,l]
   rw[n,oB,F0 w,oB,decide_eq_true J,if_pos (show(bif true then true else false)=true from rfl),G2 (show c<2000000 by omega) (by omega),j (c+1) (by omega)]
   simp only[List.length_append,List.length_cons,List.length_nil]
   congr 2
   omega
theorem c0m{a b:j0}(e:C0 a=true)(h:C0 b=true)(m:a.1=b.1)(ps:Prs)(g:W04 a b ps)(q:ps.length<=1600):∀(d i fuel c:Nat),i+d=ps.length->d<fuel->c+10*d<=100000 ->
  i7 (ps.map (enP b.2.1)) b.1 a.1 b.2.1 a.2.1 a.2.2 b.2.2 fuel (c:Int) (i:Int)=some (((c+(eB a b (P1 a.1.toNat 1) ps (ps.drop i) i).length:Nat):Int))
 |d,i,0,c,k,hf,j=>by omega
 |0,i,fuel+1,c,k,hf,j=>by
  rw[i7.eq_2,if_neg (by simp only[decide_eq_true_eq,List.length_map];omega),N1 (by omega)]
  simp[eB]
 |d+1,i,fuel+1,c,k,hf,j=>by
  obtain⟨u,v,t,s⟩:=Z0 (K0 e)
  have o:i<ps.length:=by omega
  have f:=V5 o
  have l:=L1 f
  generalize ps[i]=p at f l
  have h0:=Z0q e h m ps g i p f ps a.1.toNat 1 U0 c (by omega) (by omega) (C1 (by omega)) (by omega)
  have n:=h0c (a:=a) (b:=b) (ps:=ps) (i:=i) (p:=p) (P1 a.1.toNat 1)
  rw[o8]at n
  rw[i7.eq_2,if_pos (by simp only[decide_eq_true_eq,List.length_map];omega),show(1:Int)=((1:Nat):Int) from rfl,h0,oB,l,eB,show((1:Nat):Int)=1 from rfl,G2 (show i<2000 by omega) (by omega),c0m e h m ps g q d (i+1) fuel _ (by omega) (by omega) (by omega),List.length_append]
  congr 2
  omega
theorem a0r(m:Int)(ps:Prs)(C:ps.length<=1600)(s r:Int)(i x u v:Int)(o:∀ p∈ps,enP m p=enP m (s,r)->p=(s,r))(t:IntKind.i64.wrap (IntKind.i64.wrap (s*m)+r)=enP m (s,r))(E:0<=s)(D:0<=r)(l:ps.Nodup){a:Nat}(g:lkP (s,r) ps 0=some a):
  ∀(d k fuel:Nat) (es:List M0),k+d=ps.length->d<fuel->es.length+d<=1000000->K4 (ps.map (enP m)) s r m i x fuel (k:Int) u v es=some (u,v,if k<=a then H01 D1 (i,x,(a:Int)) es else es)
 |d,k,0,es,j,hf,n=>by omega
 |0,k,fuel+1,es,j,hf,n=>by
  have:=(List.getElem?_eq_some_iff.1 (P06 g)).1
  rw[K4.eq_2,if_neg (by simp only[List.length_map];rw[decide_eq_false (by omega)];simp),if_neg (by omega)]
 |d+1,k,fuel+1,es,j,hf,n=>by
  have q:k<ps.length:=by omega
  have b:=V5 q
  have z:gi (ps.map (enP m)) (k:Int)=some (enP m ps[k]):=T2 (by rw[List.getElem?_map,b];rfl)
  have f:=P06 g
  have w:=λy h=>a0r m ps C s r i x u v o t E D l g d (k+1) fuel y (by omega) (by omega) h
  rw[K4.eq_2,if_pos (by simp only[List.length_map];rw[decide_eq_true (show((k:Nat):Int)<((ps.length:Nat):Int) by omega),decide_eq_true (show s ≥ 0 by omega),decide_eq_true (show r ≥ 0 by omega)];rfl),z,oB,t,G2 q (by omega)]
  by_cases c:ps[k]=(s,r)
  ·have A:k=a:=by
    rw[c]at b
    exact q0s l b f
   subst A
   have:=j04 (i,x,(k:Int)) es
   rw[if_pos (by simp[c]),g0i _ _ (by omega),oB,w _ (by omega),if_neg (by omega),if_pos (Nat.le_refl _)]
  ·have F:k≠a:=λe=>by
    subst e
    rw[b]at f
    exact c (oJ f)
   rw[if_neg (by simp only[decide_eq_true_eq];exact λe=>c (o _ (List.getElem_mem _) e)),w _ (by omega)]
   by_cases c2:k<=a
   ·rw[if_pos (by omega),if_pos c2]
   ·rw[if_neg (by omega),if_neg c2]
theorem w0f{d:Type}(c:d->d->Int):∀(a b l:List d),F6 c l (a++b)=F6 c (F6 c l a) b
 | [],b,l=>rfl
 |x::a,b,l=>w0f c a b (H01 c x l)
theorem b0r{a b:j0}(j:C0 a=true)(t:C0 b=true)(Y:a.1=b.1)(ps:Prs)(g:W04 a b ps)(o:ps.Nodup)(D:ps.length<=1600)(i:Nat)(p:Int×Int)(k:ps[i]?=some p)(u v:Int)
  (w:∀ x∈P1 a.1.toNat 1,∀ q,stP a b x p=some q->q∈ps):∀(d x fuel:Nat) (es:List M0),x+d=a.1.toNat+1->1<=x->d<fuel->es.length+d<=900000 ->
  S5 a.1 (ps.map (enP b.2.1)) (i:Int) b.2.1 a.2.1 a.2.2 b.1 b.2.2 fuel (x:Int) u v es=some (u,v,F6 D1 es (eL a b ps i p (P1 d x)))
 |d,x,0,es,y,c,hf,A=>by omega
 |0,x,fuel+1,es,y,c,hf,A=>by
  obtain⟨n,ag,K,ad⟩:=Z0 (K0 j)
  rw[S5.eq_2,if_neg (by simp only[decide_eq_true_eq];omega)]
  simp[P1,eL,F6]
 |d+1,x,fuel+1,es,y,c,hf,A=>by
  obtain⟨n,ag,K,ad⟩:=Z0 (K0 j)
  obtain⟨L,ap,ae,am⟩:=Z0 (K0 t)
  have E:O3 (x:Int):=⟨⟨by omega,by omega⟩,by omega⟩
  have I:=λS h=>b0r j t Y ps g o D i p k u v w d (x+1) fuel S (by omega) (by omega) (by omega) h
  have Q:=N8 a p.1 (x:Int) E (by omega)
  have R:=N8 b p.2 (x:Int) E (by omega)
  have aa:=Z7 n (by omega) p.1 (x:Int)
  have ab:=Z7 L (by omega) p.2 (x:Int)
  have F:=g p (List.mem_of_getElem? k)
  obtain⟨M,N⟩:=D0i (m:=b.2.1) F.1.1 F.2
  have V:gi (ps.map (enP b.2.1)) (i:Int)=some (enP b.2.1 p):=T2 (by rw[List.getElem?_map,k];rfl)
  have O:(a.1,a.2.1,a.2.2)=a:=rfl
  have P:(b.1,b.2.1,b.2.2)=b:=rfl
  have an:=l8 n p.1 (x:Int)
  have ao:=l8 L p.2 (x:Int)
  rw[S5.eq_2,if_pos (by simp only[decide_eq_true_eq];omega)]
  simp only[V,oB,F0 (show b.2.1≠0 by omega),M,N,O,P]
  rw[w64 (by omega) (by omega),Q,oB,F0 aa,oB,R,oB,F0 ab,oB,G2 (show x<2000 by omega) (by omega),A0n d x c]
  rcases M0k (a:=a) (b:=b) (x:=(x:Int)) (p:=p)with⟨f,l⟩|⟨f,l,ac⟩
  ·rw[f]
   have U:U0=(U0-1)+1:=by unfold U0;omega
   rw[U,K4.eq_2,if_neg (by
    rw[Bool.not_eq_true]
    generalize decide ((0:Int)<_)=z
    cases z
    ·rfl
    ·rw[cond_true];exact l),oB]
   simp only
   rw[I es (by omega)]
   rfl
  ·rw[f]
   generalize D0 a p.1 (x:Int)=s at *
   generalize D0 b p.2 (x:Int)=r at *
   have G:0<=s/\s<a.2.1:=by omega
   have H:0<=r/\r<b.2.1:=by omega
   have ak:=h06 (p:=(s,r)) G H
   have ah:a.2.1*b.2.1<=40*40:=Int.mul_le_mul K.2 ae.2 (by omega) (by omega)
   have al:0<=s*b.2.1:=Int.mul_nonneg G.1 (by omega)
   have ai:enP b.2.1 (s,r)=s*b.2.1+r:=rfl
   have Z:IntKind.i64.wrap (IntKind.i64.wrap (s*b.2.1)+r)=enP b.2.1 (s,r):=by
    rw[w64 (x:=s*b.2.1) (by omega) (by omega),w64 (by omega) (by omega)];rfl
   have W:(s,r)∈ps:=w (x:Int) (J03 a.1.toNat 1 x c (by omega)).1 _ f
   obtain⟨J,C⟩:=A0i W
   have h0:=a0r b.2.1 ps D s r (i:Int) (x:Int) u v (λaf X e=>C0i (g af X).2 H e) Z l ac o C ps.length 0 U0 es (by omega) (C1 (by omega)) (by omega)
   rw[if_pos (Nat.zero_le _),show((0:Nat):Int)=0 from rfl]at h0
   have aj:=j04 ((i:Int),(x:Int),(J:Int)) es
   rw[h0,oB]
   simp only
   rw[I _ (by omega)]
   have T:lkZ (s,r) ps=(J:Int):=by unfold lkZ;rw[C]
   rw[T]
   rfl
theorem c0r{a b:j0}(e:C0 a=true)(h:C0 b=true)(s:a.1=b.1)(ps:Prs)(f:W04 a b ps)(g:ps.Nodup)(o:ps.length<=1600)(u v:Int)
  (k:∀(j:Nat) (p:Int×Int),ps[j]?=some p->∀ x∈P1 a.1.toNat 1,∀ q,stP a b x p=some q->q∈ps):∀(d i fuel:Nat) (es:List M0),i+d=ps.length->d<fuel->es.length+10*d<=800000 ->
  a5 (ps.map (enP b.2.1)) a.1 b.2.1 a.2.1 a.2.2 b.1 b.2.2 fuel (i:Int) u v es=some (u,v,F6 D1 es (eB a b (P1 a.1.toNat 1) ps (ps.drop i) i))
 |d,i,0,es,l,hf,n=>by omega
 |0,i,fuel+1,es,l,hf,n=>by
  rw[a5.eq_2,if_neg (by simp only[decide_eq_true_eq,List.length_map];omega),N1 (by omega)]
  rfl
 |d+1,i,fuel+1,es,l,hf,n=>by
  obtain⟨C,D,A,z⟩:=Z0 (K0 e)
  have w:i<ps.length:=by omega
  have c:=V5 w
  have m:=L1 c
  generalize ps[i]=p at c m
  have h0:=b0r e h s ps f g o i p c u v (k i p c) a.1.toNat 1 U0 es (by omega) (by omega) (C1 (by omega)) (by omega)
  have t:=h0c (a:=a) (b:=b) (ps:=ps) (i:=i) (p:=p) (P1 a.1.toNat 1)
  have y:=I03 (eL a b ps i p (P1 a.1.toNat 1)) es
  rw[o8]at t
  rw[a5.eq_2,if_pos (by simp only[decide_eq_true_eq,List.length_map];omega),show(1:Int)=((1:Nat):Int) from rfl,h0,oB,m,eB,w0f]
  simp only
  rw[show((1:Nat):Int)=1 from rfl,G2 (show i<2000 by omega) (by omega),c0r e h s ps f g o u v k d (i+1) fuel _ (by omega) (by omega) (by omega)]
theorem x0f{a b:j0}(g:C0 a=true)(h:C0 b=true){u v:Int}(k:inR 0 (a.2.1-1) u=true)(l:inR 0 (b.2.1-1) v=true)(ls:List Int):
  ∃ ps:Prs,(pbO a b ls 1601 0 ([(u,v)],[]))=(ps,eB a b ls ps ps 0)/\W04 a b ps/\ps.Nodup/\1<=ps.length/\ps.length<=1600/\∀(j:Nat) (p:Int×Int),ps[j]?=some p->∀ x∈ls,∀ q,stP a b x p=some q->q∈ps:=by
 obtain⟨s,A,e,y⟩:=Z0 (K0 g)
 obtain⟨w,C,f,z⟩:=Z0 (K0 h)
 obtain⟨t,m,c,d,n,o⟩:=T0a s w e f ls 1601 0 ([(u,v)],[]) (u0f k l) (by simp) (by simp) (by omega)
 refine⟨[(u,v)]++t,Prod.ext m (by rw[n];simp),c,d,by simp,P03 e f c d,λj p i=>o j p (Nat.zero_le _) i⟩
theorem d0r{a b:j0}(z:a.2.2.length<=140737488355328)(L:b.2.2.length<=140737488355328)(u v:Int):C00 a b u v=some (U0a a b u v):=by
 have s:=i9 a z
 have f2:=i9 b L
 unfold U0a
 have A:C0 a=true->C0 b=true->a.1=b.1->inR 0 (a.2.1-1) u=true->inR 0 (b.2.1-1) v=true->∃ ps:Prs,B9 a b u v=some (ps.map (enP b.2.1)) /\
   (pbO a b (P1 a.1.toNat 1) 1601 0 ([(u,v)],[]))=(ps,eB a b (P1 a.1.toNat 1) ps ps 0)/\ps.length<=1600/\C8 a b (ps.map (enP b.2.1))=some (((eB a b (P1 a.1.toNat 1) ps ps 0).length:Nat):Int)/\(eB a b (P1 a.1.toNat 1) ps ps 0).length<=1600000 /\
   a5 (ps.map (enP b.2.1)) a.1 b.2.1 a.2.1 a.2.2 b.1 b.2.2 U0 0 a.1 (((ps.map (enP b.2.1)).length:Nat):Int) []=some (a.1,((ps.length:Nat):Int),F6 D1 [] (eB a b (P1 a.1.toNat 1) ps ps 0)):=λd e c i j=>by
  obtain⟨ps,w,y,J,_,n,K⟩:=x0f d e i j (P1 a.1.toNat 1)
  obtain⟨P,Q,O,z⟩:=Z0 (K0 d)
  have m:=v0f d e c (C0q i) (C0q j)
  rw[w]at m
  have h:=c0m d e c ps y n ps.length 0 U0 0 (by omega) (C1 (by omega)) (by omega)
  have q:=c0r d e c ps y J n a.1 ((ps.length:Nat):Int) K ps.length 0 U0 [] (by omega) (C1 (by omega)) (by simp;omega)
  rw[List.drop_zero]at h q
  have C:=F0i (a:=a) (b:=b) (ls:=P1 a.1.toNat 1) (ps:=ps) ps 0
  have D:(P1 a.1.toNat 1).length<=1000:=by rw[o8];omega
  refine⟨ps,m,w,n,?_,Nat.le_trans C (Nat.mul_le_mul n D),?_⟩
  ·unfold C8
   simp only[Int.natCast_zero,Nat.zero_add]at h
   simp only[h,oB]
  ·rw[List.length_map];exact q
 obtain⟨f,k,o⟩:=a
 obtain⟨g,l,p⟩:=b
 unfold C00
 simp only at s f2 A ⊢
 rw[s,oB]
 cases d:C0 (f,k,o)with
 |false=>simp[chk]
 |true =>
  have H:=(Z0 (K0 d)).2.2.1
  simp only at H
  rw[show(!!true)=true from rfl,Q2,f2,oB]
  cases e:C0 (g,l,p)with
  |false=>simp[chk]
  |true =>
   have I:=(Z0 (K0 e)).2.2.1
   simp only at I
   by_cases c:f=g
   ·rw[show(!(bif(bif(!true)then true else(!true))then true else(!decide (f=g))))=true by simp[c],Q2,N04,w64 (x:=k-1) (by omega) (by omega),oB]
    cases i:inR 0 (k-1) u with
    |false=>simp[chk]
    |true =>
     rw[show(!(bif(bif(bif(!true)then true else(!true))then true else(!decide (f=g)))then true else(!true)))=true by simp[c],Q2,N04,w64 (x:=l-1) (by omega) (by omega),oB]
     cases j:inR 0 (l-1) v with
     |false=>simp
     |true =>
      obtain⟨ps,E,F,M,G,N,t⟩:=A d e c i j
      rw[if_neg (by simp[c]),E,oB,G,oB,F0 ⟨by omega,by omega⟩,oB,F]
      simp only[List.length_map]at t ⊢
      generalize eB (f,k,o) (g,l,p) (P1 f.toNat 1) ps ps 0=es at *
      have m:decide (((ps.length:Nat):Int)>40)=decide (40<ps.length):=by rw[decide_eq_decide];omega
      have h:decide (((es.length:Nat):Int)>120)=decide (120<es.length):=by rw[decide_eq_decide];omega
      rw[m,h]
      subst c
      cases decide (40<ps.length)<;>cases decide (120<es.length)<;>simp[t,d,e,i,j]
   ·simp[chk,c]
theorem l0h{a:Type}{xs:List a}{i:Int}{x:a}(h:gi xs i=some x)(y:a):gi (xs.set i.toNat y) i=some y:=by
 obtain⟨h0,b⟩:=s0a h
 have:=(List.getElem?_eq_some_iff.1 b).1
 unfold gi
 rw[if_pos h0,List.getElem?_set,if_pos rfl,if_pos this]
theorem m0h{b:Type}{xs:List b}{i j:Int}(c:0<=i)(a:0<=j)(d:i≠j)(y:b):gi (xs.set i.toNat y) j=gi xs j:=by
 unfold gi
 rw[if_pos a,if_pos a,List.getElem?_set,if_neg (by omega)]
def y0f(n m:Int)(M:D4)(G:Prs):Prop:=∀ q:Int×Int,(0<=q.1/\q.1<n)->(0<=q.2/\q.2<m)->∃ row y,gi M q.1=some row/\gi row q.2=some y/\(y<0↔q ∉ G)
theorem y0f.put{n m:Int}{b:D4}{G:Prs}(h:y0f n m b G){q:Int×Int}(l:0<=q.1/\q.1<n)(o:0<=q.2/\q.2<m){row:P0}(i:gi b q.1=some row){v:Int}(t:0<=v):y0f n m (b.set q.1.toNat (row.set q.2.toNat v)) (G ++ [q]):=by
 intro p j k
 obtain⟨r,y,f,a,g⟩:=h p j k
 by_cases c:p.1=q.1
 ·have s:r=row:=by rw[c,i]at f;exact(oJ f).symm
  subst s
  refine⟨r.set q.2.toNat v,?_⟩
  rw[c,l0h i]
  by_cases c2:p.2=q.2
  ·refine⟨v,rfl,by rw[c2]at a ⊢;exact l0h a v,?_⟩
   have:p=q:=Prod.ext c c2
   subst this
   simp;omega
  ·refine⟨y,rfl,by rw[m0h o.1 k.1 (λe=>c2 e.symm)];exact a,?_⟩
   rw[g]
   simp only[List.mem_append,List.mem_singleton,not_or]
   exact⟨λe=>⟨e,λd=>c2 (by rw[d])⟩,λe=>e.1⟩
 ·refine⟨r,y,by rw[m0h l.1 j.1 (λe=>c e.symm)];exact f,a,?_⟩
  rw[g]
  simp only[List.mem_append,List.mem_singleton,not_or]
  exact⟨λe=>⟨e,λd=>c (by rw[d])⟩,λe=>e.1⟩
theorem r0s{P:Int×Int->Prop}{i:Nat}{x:Int}{q:Option (Int×Int)}{b:PSt}(d:∀ a,q=some a->P a)(c:∀ a∈b.1,P a):∀ a∈(pbS i x q b).1,P a:=by
 cases q with
 |none=>exact c
 |some q =>
  cases e:lkP q b.1 0 with
  |none =>
   rw[R06 e]
   intro a h
   rcases List.mem_append.1 h with h|h
   ·exact c a h
   ·simp at h;subst h;exact d _ rfl
  |some k=>rw[Q06 e];exact c
theorem B0n{a b:j0}{P:Int×Int->Prop}{i:Nat}{p:Int×Int}:∀ {ls:List Int},(∀ x∈ls,∀ q,stP a b x p=some q->P q)->∀(c:PSt),(∀ q∈c.1,P q)->∀ q∈(pbI a b i p ls c).1,P q
 | [],_,c,d=>d
 |x::r,h,c,d=>B0n (λy e=>h y (mC _ e)) _ (r0s (h x mS) d)
theorem e0r{a b:j0}(Z:C0 a=true)(aa:C0 b=true)(ls:List Int)(ae:∀ x∈ls,O3 x)(aq:ls.length<=1000)(i:Nat)(p:Int×Int)(out:List r00)(av:out.length<=1000000)(u v w:Int)(z:Bool)(G:Prs)
  (Y:∀ x∈ls,∀ q,stP a b x p=some q->q ∉ G):∀(d k fuel:Nat) (f:PSt) (g:D4),k+d=ls.length->d<fuel ->
  W04 a b f.1->f.1.Nodup->f.1[i]?=some p->f.2.length<=i*1000+k->i<=2000->y0f a.2.1 b.2.1 g (G++f.1) ->
  ∃ L,c5 ls (i:Int) a.1 a.2.1 a.2.2 b.1 b.2.1 b.2.2 out fuel (k:Int) u v w ((f.2.length:Nat):Int) z f.1 g=some (u,v,w,(((pbI a b i p (ls.drop k) f).2.length:Nat):Int),z,(pbI a b i p (ls.drop k) f).1,L)/\y0f a.2.1 b.2.1 L (G++(pbI a b i p (ls.drop k) f).1)
 |d,k,0,f,g,ab,hf,J,K,F,X,C,A=>by omega
 |0,k,fuel+1,f,g,ab,hf,J,K,F,X,C,A=>by
  rw[c5.eq_2,if_neg (by simp only[decide_eq_true_eq];omega),N1 (by omega)];exact⟨g,rfl,A⟩
 |d+1,k,fuel+1,f,g,ab,hf,J,K,F,X,C,A=>by
  have ad:k<ls.length:=by omega
  have M:=V5 ad
  have Q:=List.mem_of_getElem? M
  have P:=ae _ Q
  have N:=Y _ Q
  have ac:=L1 M
  generalize ls[k]=x at M Q P ac N
  obtain⟨T,aF,ay,aD⟩:=Z0 (K0 Z)
  obtain⟨U,aG,aA,aE⟩:=Z0 (K0 aa)
  have H:=λal L=>e0r Z aa ls ae aq i p out av u v w z G Y d (k+1) fuel al L (by omega) (by omega)
  have V:=g00 a p.1 x P (by omega)
  have W:=g00 b p.2 x P (by omega)
  have ah:=Z7 T (by omega) p.1 x
  have ai:=Z7 U (by omega) p.2 x
  have az:=l8 T p.1 x
  have aB:=l8 U p.2 x
  have aC:=P03 ay aA J K
  obtain⟨j,l⟩:=B0i T U i x p f J K
  obtain⟨t,aw⟩:=l0d i x (stP a b x p) f
  have o:(pbS i x (stP a b x p) f).1[i]?=some p:=by rw[aw,List.getElem?_append_left (List.getElem?_eq_some_iff.1 F).1];exact F
  rw[c5.eq_2,if_pos (by simp only[decide_eq_true_eq];omega),T2 M,oB,T2 F,oB,G2 ad (by omega),ac,pbI]
  have E:stP a b x p=(bif decide (D0 a p.1 x<0) || decide (D0 b p.2 x<0)then none else some (D0 a p.1 x,D0 b p.2 x)):=rfl
  have am:(a.1,a.2.1,a.2.2)=a:=rfl
  have an:(b.1,b.2.1,b.2.2)=b:=rfl
  obtain⟨D,I⟩:=p
  simp only[am,an]at V W ah ai az aB H j l o E N ⊢
  rw[V,oB,F0 ah,oB,oB,W,oB,F0 ai,oB]
  have ao:(bif decide (D0 a D x<0)then true else decide (D0 b I x<0))=(decide (D0 a D x<0) || decide (D0 b I x<0)):=by
   cases decide (D0 a D x<0)<;>rfl
  rw[ao]
  cases c:decide (D0 a D x<0) || decide (D0 b I x<0)with
  |true =>
   rw[c,cond_true]at E
   rw[if_pos rfl,E]
   exact H f g J K F (by omega) C A
  |false =>
   rw[c,cond_false]at E
   simp only[Bool.or_eq_false_iff,decide_eq_false_iff_not]at c
   have af:0<=D0 a D x/\D0 a D x<a.2.1:=by omega
   have ag:0<=D0 b I x/\D0 b I x<b.2.1:=by omega
   have ar:=N _ E
   rw[E]at j l o ⊢
   rw[if_neg (by simp)]
   generalize D0 a D x=s at *
   generalize D0 b I x=r at *
   obtain⟨row,y,S,aj,ak⟩:=A (s,r) af ag
   simp only at S aj
   simp only[S,aj,oB]
   cases e:lkP (s,r) f.1 0 with
   |none =>
    have au:=X07.1 e
    have R:y<0:=ak.2 (by simp only[List.mem_append,not_or];exact⟨ar,au⟩)
    have O:=A.put (q:=(s,r)) af ag S (v:=((out.length:Nat):Int)) (by omega)
    rw[List.append_assoc]at O
    rw[R06 e]at j l o ⊢
    simp only[decide_eq_true R,if_true]
    rw[F0 (by omega),oB,F0 (by simp;omega),oB]
    by_cases c2:0<x
    ·have:=H (f.1 ++ [(s,r)],f.2 ++ [((i:Int),x,(f.1.length:Int))]) _ j l o (by simp;omega) C O
     simp only[c2,decide_true,cond_true,List.length_append,List.length_singleton]at this ⊢
     rw[if_pos (by simp),G2 (n:=f.2.length) (m:=9000000) (by omega) (by omega)]
     exact this
    ·have:=H (f.1 ++ [(s,r)],f.2) _ j l o (by simp;omega) C O
     rw[if_neg (by simpa using c2)]
     simp only[c2,decide_false,cond_false]at this ⊢
     exact this
   |some ax =>
    have ap:(s,r)∈f.1:=List.mem_of_getElem? (P06 e)
    have R : ¬ y<0:=λh=>ak.1 h (List.mem_append_right _ ap)
    rw[Q06 e]at j l o ⊢
    simp only[decide_eq_false R,Bool.false_eq_true,if_false]
    by_cases c2:0<x
    ·have:=H (f.1,f.2 ++ [((i:Int),x,(ax:Int))]) g j l o (by simp;omega) C A
     simp only[c2,decide_true,cond_true,List.length_append,List.length_singleton]at this ⊢
     rw[if_pos (by simp),G2 (n:=f.2.length) (m:=9000000) (by omega) (by omega)]
     exact this
    ·have:=H (f.1,f.2) g j l o (by simp;omega) C A
     rw[if_neg (by simpa using c2)]
     simp only[c2,decide_false,cond_false]at this ⊢
     exact this
def eqP(p:Int×Int):Bool:=decide (p.1=p.2)
theorem f0r{a b:j0}(m:C0 a=true)(n:C0 b=true)(out:List r00)(M:out.length<=1000000)(u v:Int)(G:Prs){G':Int×Int->Prop}(K:∀ p,G' p->p ∉ G)
  (k:∀ p,G' p->∀ x∈P1 a.1.toNat 1,∀ q,stP a b x p=some q->G' q):∀(d i fuel:Nat) (c:PSt) (f:D4) (z:Bool),i+d=1601->d<fuel->W04 a b c.1->c.1.Nodup->i<=c.1.length->c.2.length<=i*1000->(∀ p∈c.1,G' p)->y0f a.2.1 b.2.1 f (G++c.1) ->
  ∃ F,C9 a.1 a.2.1 a.2.2 b.1 b.2.1 b.2.2 out fuel (i:Int) u v (i:Int) ((c.2.length:Nat):Int) z c.1 f=some (u,v,(((pbO a b (P1 a.1.toNat 1) d i c).1.length:Nat):Int),(((pbO a b (P1 a.1.toNat 1) d i c).2.length:Nat):Int),(z || ((pbO a b (P1 a.1.toNat 1) d i c).1.drop i).any eqP),(pbO a b (P1 a.1.toNat 1) d i c).1,F) /\
   y0f a.2.1 b.2.1 F (G++(pbO a b (P1 a.1.toNat 1) d i c).1)
 |d,i,0,c,f,z,L,hf,g,h,J,w,j,l=>by omega
 |0,i,fuel+1,c,f,z,L,hf,g,h,J,w,j,l=>by
  obtain⟨D,ah,o,af⟩:=Z0 (K0 m)
  obtain⟨E,ai,s,ag⟩:=Z0 (K0 n)
  have:=P03 o s g h
  omega
 |d+1,i,fuel+1,c,f,z,L,hf,g,h,J,w,j,l=>by
  obtain⟨D,ah,o,af⟩:=Z0 (K0 m)
  obtain⟨E,ai,s,ag⟩:=Z0 (K0 n)
  have an:=P03 o s g h
  obtain⟨R,Z⟩:∃ R:Nat,a.1=(R:Int):=⟨a.1.toNat,by omega⟩
  have ad:i<=2000:=by omega
  have y:a.1.toNat=R:=by omega
  rw[y]at k ⊢
  rw[C9.eq_2,oB,F0 (by omega),oB]
  cases e:c.1[i]? with
  |none =>
   have:=List.getElem?_eq_none_iff.1 e
   rw[if_neg (by simp only[decide_eq_true_eq];omega)]
   have ac:i=c.1.length:=by omega
   simp only[pbO,e]
   refine⟨f,?_,l⟩
   rw[ac,List.drop_length];simp
  |some p =>
   have ao:=(List.getElem?_eq_some_iff.1 e).1
   obtain⟨H,I⟩:=t0f D E i p (P1 R 1) c g h
   obtain⟨X,ak⟩:=C08 (a:=a) (b:=b) (i:=i) (p:=p) (P1 R 1) c
   obtain⟨ap,O⟩:=S06 a b i p (P1 R 1) c
   have am:=o8 R 1
   have al:=h0c (a:=a) (b:=b) (ps:=(pbI a b i p (P1 R 1) c).1) (i:=i) (p:=p) (P1 R 1)
   have N:=j p (List.mem_of_getElem? e)
   obtain⟨V,Q,S⟩:=e0r m n (P1 R 1) (E0i (by omega)) (by omega) i p out M u v (((i+1:Nat)):Int) (z || eqP p) G (λx C q A=>K q (k p N x C q A)) (P1 R 1).length 0 U0 c f (by omega) (C1 (by omega)) g h e (Nat.le_trans w (Nat.le_add_right _ _)) ad l
   rw[List.drop_zero,show((0:Nat):Int)=0 from rfl]at Q
   rw[List.drop_zero]at S
   have Y:∀ q∈(pbI a b i p (P1 R 1) c).1,G' q:=B0n (P:=G') (λx C q A=>k p N x C q A) c j
   obtain⟨W,T,U⟩:=f0r m n out M u v G K (by rw[y];exact k) d (i+1) fuel (pbI a b i p (P1 R 1) c) V (z || eqP p) (by omega) (by omega) H I (by rw[O];simp;omega) (by rw[X,List.length_append];omega) Y S
   rw[y]at T U
   obtain⟨t,aj,_⟩:=T0a D E o s (P1 R 1) d (i+1) (pbI a b i p (P1 R 1) c) H I (by rw[O];simp;omega) (by omega)
   have ab:(pbO a b (P1 R 1) d (i+1) (pbI a b i p (P1 R 1) c)).1[i]?=some p:=by
    have:=y0n (a:=a) (b:=b) (i:=i) (p:=p) (ls:=P1 R 1) e
    rw[aj,List.getElem?_append_left (List.getElem?_eq_some_iff.1 this).1];exact this
   rw[if_pos (by simp only[decide_eq_true_eq];omega)]
   have aa:(chk (!z) (gi c.1 (i:Int)) (0,0))=some (bif z then(0,0)else p):=by
    cases z
    ·rw[show(!false)=true from rfl,Q2,T2 e];rfl
    ·rfl
   have ae:(bif z then true else decide ((bif z then((0,0):Int×Int)else p).1=(bif z then((0,0):Int×Int)else p).2))=(z || eqP p):=by
    cases z<;>rfl
   rw[aa,oB]
   simp only[]
   rw[oB,show d4 a.1=some (P1 R 1) by rw[Z];exact O0b R (by omega),oB,ae,G2 (show i<2000 by omega) (by omega),Q,oB]
   simp only
   rw[T]
   simp only[pbO,e]
   rw[L1 ab]
   refine⟨W,?_,U⟩
   rw[List.any_cons,Bool.or_assoc]
abbrev pbA(a b:j0)(q:Int×Int):PSt:=pbO a b (P1 a.1.toNat 1) 1601 0 ([q],[])
def d0m(a b:j0)(q:Int×Int):r00:=(q.1,q.2,(((pbA a b q).1.length:Nat):Int),(((pbA a b q).2.length:Nat):Int),(pbA a b q).1.any eqP)
def T06(a b:j0)(T:Prs×List r00)(q:Int×Int):Prs×List r00:=bif decide (q∈T.1)then T else(T.1++(pbA a b q).1,T.2 ++ [d0m a b q])
def z0f(u:Nat)(v:Nat):Nat->Prs
 |0=>[]
 |d+1=>((u:Int),(v:Int))::z0f u (v+1) d
def J05(m:Nat)(u:Nat):Nat->Prs
 |0=>[]
 |d+1=>z0f u 0 m++J05 m (u+1) d
def A0f(a b:j0)(G:Prs):Prop:=∀ p∈G,∀ x∈P1 a.1.toNat 1,∀ q,stP a b x p=some q->q∈G
theorem s0s{a b:j0}(f:C0 a=true)(g:C0 b=true){x:Int}{p q:Int×Int}(h:stP a b x p=some q)(i:0<=p.1/\0<=p.2):stP a b (-x) q=some p:=by
 unfold stP at h
 cases c:decide (D0 a p.1 x<0) || decide (D0 b p.2 x<0)with
 |true=>rw[c]at h;cases h
 |false =>
  rw[c,cond_false]at h
  cases h
  simp only[Bool.or_eq_false_iff,decide_eq_false_iff_not]at c
  have d:=P8 f (v:=p.1) (x:=x) rfl (by omega)
  have e:=P8 g (v:=p.2) (x:=x) rfl (by omega)
  unfold stP
  simp only[d,e]
  rw[decide_eq_false (by omega),decide_eq_false (by omega)]
  rfl
theorem g0r{d:Nat}{x:Int}(h:x∈P1 d 1): -x∈P1 d 1:=by
 obtain⟨j,a,b,c⟩:=S07 d 1 x h
 have:=J03 d 1 j a b
 rcases c with rfl|rfl
 ·exact this.2
 ·rw[Int.neg_neg];exact this.1
def h0r(a b:j0)(G:Prs)(p:Int×Int):Prop:=(0<=p.1/\0<=p.2)/\p ∉ G
theorem A0f.out{a b:j0}(c:C0 a=true)(d:C0 b=true){G:Prs}(h:A0f a b G):∀ p,h0r a b G p->∀ x∈P1 a.1.toNat 1,∀ q,stP a b x p=some q->h0r a b G q:=by
 intro p f x j q g
 obtain⟨k,_⟩:=Z0 (K0 c)
 obtain⟨l,_⟩:=Z0 (K0 d)
 have e:=S0q k l g
 exact⟨⟨e.1.1,e.2.1⟩,λi=>f.2 (h q i (-x) (g0r j) p (s0s c d g f.1))⟩
theorem n0h{a b:j0}(d:C0 a=true)(f:C0 b=true){q:Int×Int}(i:0<=q.1/\q.1<a.2.1)(k:0<=q.2/\q.2<b.2.1):
  W04 a b (pbA a b q).1/\(pbA a b q).1.Nodup/\(pbA a b q).1.length<=1600/\(pbA a b q).2=eB a b (P1 a.1.toNat 1) (pbA a b q).1 (pbA a b q).1 0/\A0f a b (pbA a b q).1/\q∈(pbA a b q).1:=by
 obtain⟨ps,o,s,w,G,y,z⟩:=x0f d f (u:=q.1) (v:=q.2) (by simp[inR];omega) (by simp[inR];omega) (P1 a.1.toNat 1)
 obtain⟨D,J,A,H⟩:=Z0 (K0 d)
 obtain⟨E,K,C,I⟩:=Z0 (K0 f)
 obtain⟨t,F,_⟩:=T0a D E A C (P1 a.1.toNat 1) 1601 0 ([q],[]) (λh c=>by simp at c;subst c;exact⟨i,k⟩) (by simp) (by simp) (by omega)
 have e:pbA a b q=(ps,eB a b (P1 a.1.toNat 1) ps ps 0):=o
 refine⟨by rw[e];exact s,by rw[e];exact w,by rw[e];exact y,by rw[e],λp g x n h m=>?_,by rw[F];simp⟩
 rw[e]at g ⊢
 obtain⟨j,l⟩:=List.getElem?_of_mem g
 exact z j p l x n h m
theorem A0f.add{a b:j0}{G P:Prs}(f:A0f a b G)(g:A0f a b P):A0f a b (G++P):=by
 intro p c x e q d
 rcases List.mem_append.1 c with c|c
 ·exact List.mem_append_left _ (f p c x e q d)
 ·exact List.mem_append_right _ (g p c x e q d)
theorem B0f{a b:j0}:∀(d:Prs) (c:Prs×List r00),(d.foldl (T06 a b) c).2.length<=c.2.length+d.length
 | [],c=>by simp
 |q::r,c=>by
  have:=B0f (a:=a) (b:=b) r (T06 a b c q)
  have e:(T06 a b c q).2.length<=c.2.length+1:=by
   unfold T06
   cases decide (q∈c.1)
   ·rw[cond_false];simp
   ·rw[cond_true];omega
  rw[List.foldl_cons,List.length_cons];omega
theorem C0f(u:Nat):∀ d v,(z0f u v d).length=d
 |0,v=>rfl
 |d+1,v=>by rw[z0f,List.length_cons,C0f u d]
theorem i0r{a b:j0}(l:C0 a=true)(j:C0 b=true)(O:a.1=b.1)(u:Nat)(D:(u:Int)<a.2.1):∀(d v fuel:Nat) (f:Prs×List r00) (g:D4),v+d=b.2.1.toNat->d<fuel->A0f a b f.1->y0f a.2.1 b.2.1 g f.1->f.2.length+d<=100000 ->
  ∃ o,D7 b.2.1 (u:Int) a.1 a.2.1 a.2.2 b.1 b.2.2 fuel (v:Int) f.2 g=some (((z0f u v d).foldl (T06 a b) f).2,o)/\y0f a.2.1 b.2.1 o ((z0f u v d).foldl (T06 a b) f).1/\A0f a b ((z0f u v d).foldl (T06 a b) f).1
 |d,v,0,f,g,w,hf,k,i,z=>by omega
 |0,v,fuel+1,f,g,w,hf,k,i,z=>by
  obtain⟨T,U,S,R⟩:=Z0 (K0 j)
  rw[D7.eq_2,if_neg (by simp only[decide_eq_true_eq];omega)]
  exact⟨g,rfl,i,k⟩
 |d+1,v,fuel+1,f,g,w,hf,k,i,z=>by
  obtain⟨ab,ac,Z,Y⟩:=Z0 (K0 l)
  obtain⟨T,U,S,R⟩:=Z0 (K0 j)
  have P:(v:Int)<b.2.1:=by omega
  have m:(0:Int)<=((u:Int),(v:Int)).1/\((u:Int),(v:Int)).1<a.2.1:=⟨by simp,D⟩
  have n:(0:Int)<=((u:Int),(v:Int)).2/\((u:Int),(v:Int)).2<b.2.1:=⟨by simp,P⟩
  obtain⟨row,y,s,H,I⟩:=i ((u:Int),(v:Int)) m n
  simp only at s H
  obtain⟨V,f2,f3,W,L,X⟩:=n0h l j m n
  have F:=λK o=>i0r l j O u D d (v+1) fuel K o (by omega) (by omega)
  rw[D7.eq_2,if_pos (by simp only[decide_eq_true_eq];omega)]
  simp only[s,H,oB]
  rw[z0f,List.foldl_cons,G2 (show v<2000 by omega) (by omega)]
  cases c:decide (((u:Int),(v:Int))∈f.1)with
  |true =>
   have E:y ≥ 0:=by
    have : ¬ y<0:=λh=>I.1 h (of_decide_eq_true c)
    omega
   rw[if_pos (by simpa using E)]
   have e:T06 a b f ((u:Int),(v:Int))=f:=by unfold T06;rw[c];rfl
   rw[e]
   exact F f g k i (by omega)
  |false =>
   have A:((u:Int),(v:Int)) ∉ f.1:=of_decide_eq_false c
   have E:y<0:=I.2 A
   rw[if_neg (by simp only[decide_eq_true_eq];omega)]
   have e:T06 a b f ((u:Int),(v:Int))=(f.1++(pbA a b ((u:Int),(v:Int))).1,f.2 ++ [d0m a b ((u:Int),(v:Int))]):=by unfold T06;rw[c];rfl
   have M:=i.put m n s (v:=((f.2.length:Nat):Int)) (by omega)
   have N:∀ p,h0r a b f.1 p->∀ x∈P1 a.1.toNat 1,∀ q,stP a b x p=some q->h0r a b f.1 q:=A0f.out l j k
   obtain⟨J,G,Q⟩:=f0r l j f.2 (by omega) (u:Int) (v:Int) f.1 (G':=h0r a b f.1) (λp h=>h.2) N 1601 0 U0 ([((u:Int),(v:Int))],[]) _ false (by omega) (C1 (by omega)) (λaa t=>by simp at t;subst t;exact⟨m,n⟩) (by simp) (by simp) (by simp) (λp C=>by simp at C;subst C;exact⟨⟨m.1,n.1⟩,A⟩) M
   rw[F0 (by omega),oB]
   simp only[List.length_nil,Int.natCast_zero]at G
   rw[G,oB]
   simp only
   rw[F0 (by simp;omega),oB,e]
   have:=F (f.1++(pbA a b ((u:Int),(v:Int))).1,f.2 ++ [d0m a b ((u:Int),(v:Int))]) J (k.add L) Q (by simp;omega)
   simp only[d0m,List.drop_zero,Bool.false_or]at this ⊢
   exact this
theorem j0r{a b:j0}(f:C0 a=true)(h:C0 b=true)(l:a.1=b.1):∀(d u fuel:Nat) (c:Prs×List r00) (e:D4),u+d=a.2.1.toNat->d<fuel->A0f a b c.1->y0f a.2.1 b.2.1 e c.1->c.2.length+40*d<=90000 ->
  ∃ n,E8 a.2.1 b.2.1 a.1 a.2.2 b.1 b.2.2 fuel (u:Int) c.2 e=some (((J05 b.2.1.toNat u d).foldl (T06 a b) c).2,n)
 |d,u,0,c,e,j,hf,i,g,k=>by omega
 |0,u,fuel+1,c,e,j,hf,i,g,k=>by
  obtain⟨y,z,x,w⟩:=Z0 (K0 f)
  rw[E8.eq_2,if_neg (by simp only[decide_eq_true_eq];omega)]
  exact⟨e,rfl⟩
 |d+1,u,fuel+1,c,e,j,hf,i,g,k=>by
  obtain⟨y,z,x,w⟩:=Z0 (K0 f)
  obtain⟨D,E,C,A⟩:=Z0 (K0 h)
  obtain⟨o,m,s,t⟩:=i0r f h l u (by omega) b.2.1.toNat 0 U0 c e (by omega) (C1 (by omega)) i g (by omega)
  have q:=B0f (a:=a) (b:=b) (z0f u 0 b.2.1.toNat) c
  rw[C0f]at q
  obtain⟨p,v⟩:=j0r f h l d (u+1) fuel _ o (by omega) (by omega) t s (by omega)
  rw[show((0:Nat):Int)=0 from rfl]at m
  rw[E8.eq_2,if_pos (by simp only[decide_eq_true_eq];omega),m,oB,J05,List.foldl_append]
  simp only
  rw[G2 (show u<2000 by omega) (by omega),v]
  exact⟨p,rfl⟩
theorem k0r(u:Nat)(b:Nat)(p:b<=1000):∀(d k fuel:Nat) (a:D4) (row:P0),k+d=b->d<fuel->a[u]?=some row->row.length=b->(∀ j,j<k->row[j]?=some (-1)) ->
  ∃ f,D8 (u:Int) b fuel (k:Int) a=some f/\f.length=a.length/\(∀ j,j≠u->f[j]?=a[j]?)/\∃ m,f[u]?=some m/\m.length=b/\∀ j,j<b->m[j]?=some (-1)
 |d,k,0,a,row,n,hf,g,h,i=>by omega
 |0,k,fuel+1,a,row,n,hf,g,h,i=>by
  rw[D8.eq_2,if_neg (by simp only[decide_eq_true_eq];omega)]
  exact⟨a,rfl,rfl,λ_ _=>rfl,row,g,h,λj l=>i j (by omega)⟩
 |d+1,k,fuel+1,a,row,n,hf,g,h,i=>by
  have q:=(List.getElem?_eq_some_iff.1 g).1
  obtain⟨f,s,t,v,w⟩:=k0r u b p d (k+1) fuel (a.set u (row.set k (-1))) (row.set k (-1)) (by omega) (by omega) (by rw[List.getElem?_set,if_pos rfl,if_pos q]) (by simpa using h) (λj l=>by
   rw[List.getElem?_set]
   by_cases c:k=j
   ·rw[if_pos c,if_pos (by omega)]
   ·rw[if_neg c];exact i j (by omega))
  have o:k<row.length:=by omega
  rw[D8.eq_2,if_pos (by simp only[decide_eq_true_eq];omega),T2 g,oB,T2 (V5 o),oB,G2 (show k<2000 by omega) (by omega)]
  refine⟨f,s,by rw[t];simp,λj l=>?_,w⟩
  rw[v j l,List.getElem?_set,if_neg (λe=>l e.symm)]
theorem l0r(n m:Nat)(v:n<=1000)(k:m<=1000):∀(d u fuel:Nat) (a:D4),u+d=n->d<fuel->a.length=n->(∀ i,i<u->∃ row,a[i]?=some row/\row.length=m/\∀ j,j<m->row[j]?=some (-1)) ->
  ∃ g,F8 n (m:Int) fuel (u:Int) a=some g/\∀ i,i<n->∃ row,g[i]?=some row/\row.length=m/\∀ j,j<m->row[j]?=some (-1)
 |d,u,0,a,h,hf,f,b=>by omega
 |0,u,fuel+1,a,h,hf,f,b=>by
  rw[F8.eq_2,if_neg (by simp only[decide_eq_true_eq];omega)]
  exact⟨a,rfl,λi t=>b i (by omega)⟩
 |d+1,u,fuel+1,a,h,hf,f,b=>by
  have o:u<a.length:=by omega
  have l:(a.set u (List.replicate m (0:Int)))[u]?=some (List.replicate m 0):=by rw[List.getElem?_set,if_pos rfl,if_pos o]
  obtain⟨q,p,w,x,y⟩:=k0r u m k m 0 U0 (a.set u (List.replicate m (0:Int))) _ (by omega) (C1 (by omega)) l (by simp) (λj E=>by omega)
  obtain⟨s,z,A⟩:=l0r n m v k d (u+1) fuel q (by omega) (by omega) (by rw[w];simpa using f) (λi t=>by
   by_cases c:i=u
   ·subst c;exact y
   ·obtain⟨row,C,D⟩:=b i (by omega)
    exact⟨row,by rw[x i c,List.getElem?_set,if_neg (λe=>c e.symm)];exact C,D⟩)
  rw[show((0:Nat):Int)=0 from rfl]at p
  rw[F8.eq_2,if_pos (by simp only[decide_eq_true_eq];omega),F0 ⟨by omega,by omega,by omega,by omega⟩,oB,T2 (V5 o),oB]
  simp only[Int.toNat_natCast,T2 l,oB,List.length_replicate,p]
  rw[G2 (show u<2000 by omega) (by omega),z]
  exact⟨s,rfl,A⟩
def u01(a b:j0):List r00:=((J05 b.2.1.toNat 0 a.2.1.toNat).foldl (T06 a b) ([],[])).2
theorem m0r{a b:j0}(d:C0 a=true)(e:C0 b=true)(v:a.1=b.1):∃ h,C01 a b=some (u01 a b,h):=by
 obtain⟨L,O,J,H⟩:=Z0 (K0 d)
 obtain⟨M,P,K,I⟩:=Z0 (K0 e)
 obtain⟨n,t⟩:∃ n:Nat,a.2.1=(n:Int):=⟨a.2.1.toNat,by omega⟩
 obtain⟨m,s⟩:∃ m:Nat,b.2.1=(m:Int):=⟨b.2.1.toNat,by omega⟩
 obtain⟨c,f,w⟩:=l0r n m (by omega) (by omega) n 0 U0 (List.replicate n []) (by omega) (C1 (by omega)) (by simp) (λi G=>by omega)
 have o:y0f a.2.1 b.2.1 c []:=λq k l=>by
  obtain⟨row,x,N,y⟩:=w q.1.toNat (by omega)
  refine⟨row,-1,?_,?_,by simp⟩
  ·unfold gi;rw[if_pos k.1];exact x
  ·unfold gi;rw[if_pos l.1];exact y _ (by omega)
 obtain⟨j,g⟩:=j0r d e v a.2.1.toNat 0 U0 ([],[]) c (by omega) (C1 (by omega)) (λp u=>by simp at u) o (by simp;omega)
 rw[show((0:Nat):Int)=0 from rfl]at f g
 unfold u01
 obtain⟨z,A,C⟩:=a
 obtain⟨D,E,F⟩:=b
 unfold C01
 simp only at *
 subst t s
 simp only[Int.toNat_natCast]at *
 rw[F0 ⟨by omega,by omega,by omega,by omega⟩,oB,oB,List.length_replicate,F0 (by omega),oB,f,oB,g,oB]
 exact⟨j,rfl⟩
def C0n(e v:Int):Int:=IntKind.i64.wrap (IntKind.i64.wrap (e-v)+1)
def F09(m:Nat)(k:Nat):Nat->Prs
 |0=>[]
 |d+1=>(((k / m:Nat):Int),((k % m:Nat):Int))::F09 m (k+1) d
theorem N0k(m:Nat):∀(d e k:Nat),F09 m k (d+e)=F09 m k d++F09 m (k+d) e
 |0,e,k=>by simp[F09]
 |d+1,e,k=>by
  rw[show d+1+e=(d+e)+1 by omega,F09,F09,N0k m d e (k+1),List.cons_append,show k+1+d=k+(d+1) by omega]
theorem O0k(m u:Nat):∀(d v:Nat),v+d<=m->F09 m (u*m+v) d=z0f u v d
 |0,v,h=>rfl
 |d+1,v,h=>by
  have c:0<m:=by omega
  have a:(u*m+v) / m=u:=by rw[Nat.add_comm,Nat.add_mul_div_right _ _ c,Nat.div_eq_of_lt (by omega)];omega
  have b:(u*m+v) % m=v:=by rw[Nat.add_comm,Nat.add_mul_mod_self_right,Nat.mod_eq_of_lt (by omega)]
  rw[F09,z0f,a,b,show u*m+v+1=u*m+(v+1) by omega,O0k m u d (v+1) (by omega)]
theorem P0k(m:Nat):∀(d u:Nat),F09 m (u*m) (d*m)=J05 m u d
 |0,u=>by simp[F09,J05]
 |d+1,u=>by
  have a:=O0k m u m 0 (by omega)
  rw[Nat.add_zero]at a
  rw[J05,Nat.add_mul,Nat.one_mul,Nat.add_comm (d*m) m,N0k,a,show u*m+m=(u+1)*m by rw[Nat.add_mul,Nat.one_mul],P0k m d (u+1)]
theorem D0n(n m:Nat)(b:0<m):∀(d k:Nat),k+d<=n*m->∀ q∈F09 m k d,(0<=q.1/\q.1<(n:Int))/\(0<=q.2/\q.2<(m:Int))
 |0,k,h,q,a=>by simp[F09]at a
 |d+1,k,h,q,a=>by
  rcases List.mem_cons.1 a with rfl|a
  ·have c:k / m<n:=by rw[Nat.div_lt_iff_lt_mul b];omega
   have e:=Nat.mod_lt k b
   exact⟨⟨Int.natCast_nonneg _,Int.ofNat_lt.2 c⟩,⟨Int.natCast_nonneg _,Int.ofNat_lt.2 e⟩⟩
  ·exact D0n n m b d (k+1) (by omega) q a
theorem t0s(m k:Nat):enP (m:Int) (((k / m:Nat):Int),((k % m:Nat):Int))=(k:Int):=by
 unfold enP
 have:=Nat.div_add_mod k m
 rw[Nat.mul_comm]at this
 simp only
 rw[←Int.natCast_mul]
 omega
theorem o0h(m:Nat):∀ d u,(J05 m u d).length=d*m
 |0,u=>by simp[J05]
 |d+1,u=>by rw[J05,List.length_append,C0f,o0h m d (u+1),Nat.add_mul];omega
theorem n0r(m:Int)(N:Nat)(a:Prs)(j:∀ q∈a,0<=enP m q/\enP m q<(N:Int))(s:a.length<=100000):∀(d k fuel:Nat) (b:List Bool) (G:Prs),k+d=a.length->d<fuel->c09 m N b G ->
  ∃ f,I4 (a.map (enP m)) fuel (k:Int) b=some f/\c09 m N f (G++a.drop k)
 |d,k,0,b,G,g,hf,h=>by omega
 |0,k,fuel+1,b,G,g,hf,h=>by
  rw[I4.eq_2,if_neg (by simp only[decide_eq_true_eq,List.length_map];omega),N1 (by omega),List.append_nil]
  exact⟨b,rfl,h⟩
 |d+1,k,fuel+1,b,G,g,hf,h=>by
  have p:k<a.length:=by omega
  have e:=V5 p
  have c:=j _ (List.mem_of_getElem? e)
  have i:=L1 e
  generalize a[k]=q at e c i
  have n:gi (a.map (enP m)) (k:Int)=some (enP m q):=T2 (by rw[List.getElem?_map,e];rfl)
  have o:∃ z,gi b (enP m q)=some z:=by
   unfold gi
   rw[if_pos c.1,h.2 _ (by omega)]
   exact⟨_,rfl⟩
  obtain⟨z,t⟩:=o
  obtain⟨f,u,l⟩:=n0r m N a j s d (k+1) fuel _ (G ++ [q]) (by omega) (by omega) (i0c h c.1 c.2)
  rw[I4.eq_2,if_pos (by simp only[decide_eq_true_eq,List.length_map];omega),n,oB,t,oB,G2 (show k<200000 by omega) (by omega),u,i]
  exact⟨f,rfl,by rw[List.append_assoc]at l;exact l⟩
def crS(a b:j0)(T:Prs×P0)(q:Int×Int):Prs×P0:=bif decide (q∈T.1)then T else(T.1++(pbA a b q).1,T.2 ++ [C0n (((pbA a b q).2.length:Nat):Int) (((pbA a b q).1.length:Nat):Int)])
theorem o0r{a b:j0}(l:C0 a=true)(o:C0 b=true)(y:a.1=b.1)(n m:Nat)(x:a.2.1=(n:Int))(j:b.2.1=(m:Int)):∀(d k fuel:Nat) (f:Prs×P0) (g:List Bool),k+d=n*m->d<fuel->W04 a b f.1->c09 b.2.1 (n*m) g f.1->f.2.length+d<=1000000 ->
  ∃ t,K3 b.2.1 a.1 a.2.1 a.2.2 b.1 b.2.2 fuel (k:Int) f.2 g=some (((F09 m k d).foldl (crS a b) f).2,t)
 |d,k,0,f,g,C,hf,s,i,D=>by omega
 |0,k,fuel+1,f,g,C,hf,s,i,D=>by
  obtain⟨ad,af,ng,Y⟩:=Z0 (K0 l)
  obtain⟨ac,ae,Z,X⟩:=Z0 (K0 o)
  have P:n*m<=40*40:=Nat.mul_le_mul (by omega) (by omega)
  rw[K3.eq_2,oB,i.1,F0 (by omega),oB,if_neg (by simp only[decide_eq_true_eq];omega)]
  exact⟨g,rfl⟩
 |d+1,k,fuel+1,f,g,C,hf,s,i,D=>by
  obtain⟨ad,af,ng,Y⟩:=Z0 (K0 l)
  obtain⟨ac,ae,Z,X⟩:=Z0 (K0 o)
  have U:0<m:=by omega
  have P:n*m<=40*40:=Nat.mul_le_mul (by omega) (by omega)
  have E:=D0n n m U (d+1) k (by omega) _ mS
  have S:=t0s m k
  have G:=λJ t=>o0r l o y n m x j d (k+1) fuel J t (by omega) (by omega)
  have T:gi g (k:Int)=some (decide ((((k / m:Nat):Int),((k % m:Nat):Int))∈f.1)):=by
   rw[T2 (i.2 k (by omega))]
   congr 1
   rw[decide_eq_decide,←S,←j]
   exact z0n s (by rw[j];exact E.2)
  have K:Int.tdiv (k:Int) (m:Int)=((k / m:Nat):Int):=by rw[Int.tdiv_eq_ediv_of_nonneg (by omega)];rfl
  have L:Int.tmod (k:Int) (m:Int)=((k % m:Nat):Int):=by rw[Int.tmod_eq_emod_of_nonneg (by omega)];rfl
  have M:IntKind.i64.wrap ((k / m:Nat):Int)=((k / m:Nat):Int):=w64 (by omega) (by have:=Nat.div_le_self k m;omega)
  have V:b.2.1≠0:=by omega
  rw[K3.eq_2,oB,i.1,F0 (by omega),oB,if_pos (by simp only[decide_eq_true_eq];omega),T,oB,F09,List.foldl_cons,G2 (show k<2000 by omega) (by omega)]
  simp only[F0 V]
  rw[j,K,L,M,←j]
  generalize F:(((k / m:Nat):Int),((k % m:Nat):Int))=q at *
  have aa:((k / m:Nat):Int)=q.1:=by rw[←F]
  have ab:((k % m:Nat):Int)=q.2:=by rw[←F]
  rw[aa,ab]
  cases c:decide (q∈f.1)with
  |true =>
   have e:crS a b f q=f:=by unfold crS;rw[c];rfl
   rw[if_pos rfl,e]
   exact G f g s i (by omega)
  |false =>
   have e:crS a b f q=(f.1++(pbA a b q).1,f.2 ++ [C0n (((pbA a b q).2.length:Nat):Int) (((pbA a b q).1.length:Nat):Int)]):=by unfold crS;rw[c];rfl
   have v:(0<=q.1/\q.1<a.2.1)/\(0<=q.2/\q.2<b.2.1):=by rw[x,j];exact E
   obtain⟨u,f2,f3,z,ag,ah⟩:=n0h l o v.1 v.2
   have W:=v0f l o y v.1 v.2
   have R:((n*m:Nat):Int)=a.2.1*b.2.1:=by rw[x,j];simp
   obtain⟨t,H,I⟩:=n0r b.2.1 (n*m) (pbA a b q).1 (λp h=>by rw[R];exact h06 (u p h).1 (u p h).2) (by omega) (pbA a b q).1.length 0 U0 g f.1 (by omega) (C1 (by omega)) i
   rw[List.drop_zero]at I
   rw[show((0:Nat):Int)=0 from rfl]at H
   have w:=c0m l o y (pbA a b q).1 u f3 (pbA a b q).1.length 0 U0 0 (by omega) (C1 (by omega)) (by omega)
   rw[List.drop_zero,←z]at w
   have A:=F0i (a:=a) (b:=b) (ls:=P1 a.1.toNat 1) (ps:=(pbA a b q).1) (pbA a b q).1 0
   rw[←z,o8]at A
   have ai:(pbA a b q).2.length<=1600*6:=Nat.le_trans A (Nat.mul_le_mul f3 (by omega))
   have Q:C8 a b ((pbA a b q).1.map (enP b.2.1))=some (((pbA a b q).2.length:Nat):Int):=by
    unfold C8
    simp only[Int.natCast_zero,Nat.zero_add]at w
    simp only[w,oB]
   have N:(a.1,a.2.1,a.2.2)=a:=rfl
   have O:(b.1,b.2.1,b.2.2)=b:=rfl
   rw[if_neg (by simp),N,O,oB,oB,show(q.1,q.2)=q from rfl]at *
   rw[W,oB]
   rw[show(pbO a b (P1 a.1.toNat 1) 1601 0 ([q],[]))=pbA a b q from rfl,H,oB,Q,oB,F0 ⟨by omega,by omega⟩,oB,F0 (by simp;omega),oB,e]
   have:=G (f.1++(pbA a b q).1,f.2 ++ [C0n (((pbA a b q).2.length:Nat):Int) (((pbA a b q).1.length:Nat):Int)]) t (λp h=>by
    rcases List.mem_append.1 h with h|h
    ·exact s p h
    ·exact u p h) I (by simp;omega)
   simp only[List.length_map]at this ⊢
   exact this
def rkP(p:r00):Int:=C0n p.2.2.2.1 p.2.2.1
theorem p0r(a b:j0):∀(e:Prs) (d:Prs×List r00),(e.foldl (crS a b) (d.1,d.2.map rkP))=((e.foldl (T06 a b) d).1,(e.foldl (T06 a b) d).2.map rkP)
 | [],d=>rfl
 |q::r,d=>by
  have f:=p0r a b r
  rw[List.foldl_cons,List.foldl_cons]
  by_cases c:q∈d.1
  ·rw[show crS a b (d.1,d.2.map rkP) q=(d.1,d.2.map rkP) by unfold crS;rw[decide_eq_true c];rfl,show T06 a b d q=d by unfold T06;rw[decide_eq_true c];rfl]
   exact f d
  ·rw[show crS a b (d.1,d.2.map rkP) q=(d.1++(pbA a b q).1,(d.2 ++ [d0m a b q]).map rkP) by unfold crS;rw[decide_eq_false c,List.map_append];rfl,show T06 a b d q=(d.1++(pbA a b q).1,d.2 ++ [d0m a b q]) by unfold T06;rw[decide_eq_false c];rfl]
   exact f (d.1++(pbA a b q).1,d.2 ++ [d0m a b q])
theorem V0a{a b:j0}(c:C0 a=true)(d:C0 b=true):(u01 a b).length<=1600:=by
 obtain⟨j,l,ng,g⟩:=Z0 (K0 c)
 obtain⟨i,k,h,f⟩:=Z0 (K0 d)
 have:=B0f (a:=a) (b:=b) (J05 b.2.1.toNat 0 a.2.1.toNat) ([],[])
 rw[o0h]at this
 have e:a.2.1.toNat*b.2.1.toNat<=40*40:=Nat.mul_le_mul (by omega) (by omega)
 unfold u01
 simp only[List.length_nil]at this
 omega
def b03(a b:j0):P0:=bif T0 a&&(T0 b&&decide (a.1=b.1))then(u01 a b).map rkP else []
theorem Q0k(a b:j0)(I:a.2.2.length<=140737488355328)(f:b.2.2.length<=140737488355328):K8 a b=some (b03 a b):=by
 have l:=M03 a I
 have f2:=M03 b f
 have x:T0 a=true->T0 b=true->a.1=b.1->∃ d,K3 b.2.1 a.1 a.2.1 a.2.2 b.1 b.2.2 U0 0 [] (List.replicate (a.2.1*b.2.1).toNat false)=some ((u01 a b).map rkP,d):=λh k c=>by
  have s:=E2 h
  have t:=E2 k
  obtain⟨L,N,ng,J⟩:=Z0 (K0 s)
  obtain⟨K,M,y,f⟩:=Z0 (K0 t)
  obtain⟨n,v⟩:∃ n:Nat,a.2.1=(n:Int):=⟨a.2.1.toNat,by omega⟩
  obtain⟨m,u⟩:∃ m:Nat,b.2.1=(m:Int):=⟨b.2.1.toNat,by omega⟩
  have E:n*m<=40*40:=Nat.mul_le_mul (by omega) (by omega)
  have F:(a.2.1*b.2.1).toNat=n*m:=by rw[v,u,←Int.natCast_mul,Int.toNat_natCast]
  obtain⟨d,k⟩:=o0r s t c n m v u (n*m) 0 U0 ([],[]) (List.replicate (n*m) false) (by omega) (C1 (by omega)) (λp H=>by simp at H) ⟨by simp,λj G=>by rw[List.getElem?_replicate,if_pos G];simp⟩ (by simp;omega)
  have o:=P0k m n 0
  rw[Nat.zero_mul]at o
  have q:=p0r a b (J05 m 0 n) ([],[])
  simp only[List.map_nil]at q
  rw[o,q]at k
  refine⟨d,?_⟩
  rw[F]
  unfold u01
  rw[show a.2.1.toNat=n by omega,show b.2.1.toNat=m by omega]
  exact k
 have w:T0 a=true->T0 b=true->IntKind.i64.wrap (a.2.1*b.2.1)=a.2.1*b.2.1/\0<=a.2.1*b.2.1/\a.2.1*b.2.1<=1600:=λh k=>by
  obtain⟨L,N,ng,J⟩:=Z0 (K0 (E2 h))
  obtain⟨K,M,y,f⟩:=Z0 (K0 (E2 k))
  have E:a.2.1*b.2.1<=40*40:=Int.mul_le_mul ng.2 y.2 (by omega) (by omega)
  have h0:0<=a.2.1*b.2.1:=Int.mul_nonneg (by omega) (by omega)
  exact⟨w64 (by omega) (by omega),h0,by omega⟩
 unfold b03
 obtain⟨g,z,A⟩:=a
 obtain⟨i,C,D⟩:=b
 unfold K8
 simp only at l f2 x w ⊢
 rw[l,oB]
 cases h:T0 (g,z,A)with
 |false=>rfl
 |true =>
  rw[show(!(!true))=true from rfl,Q2,f2,oB]
  cases k:T0 (i,C,D)with
  |false=>rfl
  |true =>
   by_cases c:g=i
   ·obtain⟨d,e⟩:=x h k c
    obtain⟨O,P,Q⟩:=w h k
    rw[decide_eq_true c]
    rw[if_neg (by simp),O,F0 ⟨by omega,by omega,by omega,by omega⟩,oB,e]
    rfl
   ·rw[decide_eq_false c]
    rfl
theorem q0r(l:t05)(h:l.length<=100000):∀(d k fuel:Nat) (acc:P0),k+d=l.length->d<fuel->acc.length+d<=1000000->W3 l fuel (k:Int) acc=some (acc++(l.drop k).map rkP)
 |d,k,0,acc,c,hf,b=>by omega
 |0,k,fuel+1,acc,c,hf,b=>by
  rw[W3.eq_2,if_neg (by simp only[decide_eq_true_eq];omega),N1 (by omega)];simp
 |d+1,k,fuel+1,acc,c,hf,b=>by
  have g:k<l.length:=by omega
  have a:=V5 g
  have e:=L1 a
  generalize l[k]=p at a e
  have i:=λf=>q0r l h d (k+1) fuel f (by omega) (by omega)
  rw[W3.eq_2,if_pos (by simp only[decide_eq_true_eq];omega),T2 a,oB,e,List.map_cons,G2 (show k<200000 by omega) (by omega)]
  obtain⟨j,m,n,o,q⟩:=p
  simp only
  rw[F0 (by simp;omega),oB,i _ (by simp;omega),List.append_assoc];rfl
theorem R0k(a b:j0)(p:a.2.2.length<=140737488355328)(q:b.2.2.length<=140737488355328):L8 a b=some (b03 a b):=by
 have i:=p8 a p
 have f2:=p8 b q
 have f3:T0 a=true->T0 b=true->a.1=b.1->∃ d,C01 a b=some (u01 a b,d):=λh k c=>m0r (E2 h) (E2 k) c
 have j:T0 a=true->T0 b=true->W3 (u01 a b) U0 0 []=some ((u01 a b).map rkP):=λh k=>by
  have s:=V0a (E2 h) (E2 k)
  have:=q0r (u01 a b) (by omega) (u01 a b).length 0 U0 [] (by omega) (C1 (by omega)) (by simp;omega)
  simpa using this
 unfold b03
 obtain⟨f,l,m⟩:=a
 obtain⟨g,n,o⟩:=b
 unfold L8
 simp only at i f2 f3 j ⊢
 rw[i,oB]
 cases h:T0 (f,l,m)with
 |false=>rfl
 |true =>
  rw[show(!(!true))=true from rfl,Q2,f2,oB]
  cases k:T0 (g,n,o)with
  |false=>rfl
  |true =>
   by_cases c:f=g
   ·obtain⟨d,e⟩:=f3 h k c
    rw[decide_eq_true c]
    rw[if_neg (by simp),e,oB]
    simp only
    rw[j h k]
    rfl
   ·rw[decide_eq_false c]
    rfl
theorem p0h(a b:j0):(b03 a b).length<=1600:=by
 unfold b03
 cases h:T0 a with
 |false=>simp
 |true =>
  cases k:T0 b with
  |false=>simp
  |true =>
   have:=V0a (E2 h) (E2 k)
   cases decide (a.1=b.1)<;>simp<;>omega
def nsS(n r:Int):Int:=IntKind.i64.wrap (n+(if(IntKind.i64.wrap (r-1))>0 then(IntKind.i64.wrap (r-1))else 0))
theorem Q0s(l:P0)(f:l.length<=100000):∀(d k fuel:Nat) (n:Int),k+d=l.length->d<fuel->T5 l fuel n (k:Int)=some ((l.drop k).foldl nsS n)
 |d,k,0,n,a,hf=>by omega
 |0,k,fuel+1,n,a,hf=>by
  rw[T5.eq_2,if_neg (by simp only[decide_eq_true_eq];omega),N1 (by omega)];rfl
 |d+1,k,fuel+1,n,a,hf=>by
  have e:k<l.length:=by omega
  have b:=V5 e
  have c:=L1 b
  rw[T5.eq_2,if_pos (by simp only[decide_eq_true_eq];omega),T2 b,oB,c,List.foldl_cons,G2 (show k<200000 by omega) (by omega)]
  exact Q0s l f d (k+1) fuel _ (by omega) (by omega)
theorem R0s(l:P0)(f:l.length<=100000):∀(d k fuel:Nat) (n:Int),k+d=l.length->d<fuel->U5 l fuel n (k:Int)=some ((l.drop k).foldl nsS n)
 |d,k,0,n,a,hf=>by omega
 |0,k,fuel+1,n,a,hf=>by
  rw[U5.eq_2,if_neg (by simp only[decide_eq_true_eq];omega),N1 (by omega)];rfl
 |d+1,k,fuel+1,n,a,hf=>by
  have e:k<l.length:=by omega
  have b:=V5 e
  have c:=L1 b
  rw[U5.eq_2,if_pos (by simp only[decide_eq_true_eq];omega),T2 b,oB,c,List.foldl_cons,G2 (show k<200000 by omega) (by omega)]
  exact R0s l f d (k+1) fuel _ (by omega) (by omega)
def v00(a b:j0):Int:=(b03 a b).foldl nsS 0
theorem B0t:∀(l:P0) (n:Int),I0 n->I0 (l.foldl nsS n)
 | [],n,h=>h
 |r::l,n,h=>B0t l _ (J0 _)
theorem r0r(a b:j0)(e:a.2.2.length<=140737488355328)(f:b.2.2.length<=140737488355328):D00 a b=some (v00 a b):=by
 have d:=Q0k a b e f
 have m:=p0h a b
 have c:=Q0s (b03 a b) (by omega) (b03 a b).length 0 U0 0 (by omega) (C1 (by omega))
 rw[List.drop_zero,show((0:Nat):Int)=0 from rfl]at c
 unfold v00
 obtain⟨g,h,i⟩:=a
 obtain⟨j,k,l⟩:=b
 unfold D00
 simp only[d,oB,c]
theorem s0r(a b:j0)(e:a.2.2.length<=140737488355328)(f:b.2.2.length<=140737488355328):F00 a b=some (v00 a b):=by
 have d:=R0k a b e f
 have m:=p0h a b
 have c:=R0s (b03 a b) (by omega) (b03 a b).length 0 U0 0 (by omega) (C1 (by omega))
 rw[List.drop_zero,show((0:Nat):Int)=0 from rfl]at c
 unfold v00
 obtain⟨g,h,i⟩:=a
 obtain⟨j,k,l⟩:=b
 unfold F00
 simp only[d,oB,c]
def I5(g:j0):Int:=if(IntKind.i64.wrap (T01 g-1))>0 then(IntKind.i64.wrap (T01 g-1))else 0
theorem D08(g:j0):I0 (I5 g):=by
 unfold I5
 split
 ·exact J0 _
 ·decide
theorem d09(g:j0)(f:g.2.2.length<=140737488355328):R8 g=some (I5 g):=by
 obtain⟨d,e⟩:=O06 g f
 unfold I5
 obtain⟨a,b,c⟩:=g
 unfold R8
 simp only[d,oB,F0 e]
theorem e09(g:j0)(d:g.2.2.length<=140737488355328):S8 g=some (I5 g):=by
 have e:=m0f g d
 have f:=(O06 g d).2
 unfold I5
 obtain⟨a,b,c⟩:=g
 unfold S8
 simp only[e,oB,F0 f]
theorem t0r{a b:j0}{ps:Prs}{i:Nat}{p:Int×Int}{e:M0}:∀ {ls:List Int},e∈eL a b ps i p ls->∃ x∈ls,∃ q,0<x/\stP a b x p=some q/\e=((i:Int),x,lkZ q ps)
 | [],h=>by simp[eL]at h
 |x::r,h=>by
  rw[eL]at h
  rcases List.mem_append.1 h with h|h
  ·cases e2:stP a b x p with
   |none=>rw[e2]at h;simp at h
   |some q =>
    rw[e2]at h
    by_cases c:0<x
    ·simp only[c,decide_true,cond_true,List.mem_singleton]at h
     exact⟨x,mS,q,c,e2,h⟩
    ·simp only[c,decide_false,cond_false]at h
     cases h
  ·obtain⟨y,j,q,d,f,g⟩:=t0r h
   exact⟨y,mC _ j,q,d,f,g⟩
theorem u0r{a b:j0}{ls:List Int}{ps:Prs}{e:M0}:∀ {r:Prs} {i:Nat},e∈eB a b ls ps r i->∃ j p,r[j]?=some p/\∃ x∈ls,∃ q,0<x/\stP a b x p=some q/\e=(((i+j:Nat):Int),x,lkZ q ps)
 | [],i,h=>by simp[eB]at h
 |p::r,i,h=>by
  rw[eB]at h
  rcases List.mem_append.1 h with h|h
  ·obtain⟨x,g,q,c,d,f⟩:=t0r h
   exact⟨0,p,rfl,x,g,q,c,d,f⟩
  ·obtain⟨j,l,k,x,g,q,c,d,f⟩:=u0r h
   exact⟨j+1,l,by simpa using k,x,g,q,c,d,by rw[f];congr 1;omega⟩
theorem S0k:∀(d i:Nat) (x:Int),x∈P1 d i->1<=i->0<x->1<=x/\x<(i+d:Int)
 |0,i,x,h,a,h0=>by simp[P1]at h
 |d+1,i,x,h,a,h0=>by
  simp only[P1,List.mem_cons]at h
  rcases h with rfl|rfl|h
  ·omega
  ·omega
  ·have:=S0k d (i+1) x h (by omega) h0
   omega
theorem C0t{q:Int×Int}{ps:Prs}(h:q∈ps):0<=lkZ q ps/\lkZ q ps<(ps.length:Int):=by
 obtain⟨k,e⟩:=A0i h
 have:=(List.getElem?_eq_some_iff.1 (P06 e)).1
 unfold lkZ
 rw[e]
 exact⟨by simp,by simp only;omega⟩
theorem D0f{a b:j0}{u v:Int}(h:(U0a a b u v).2=true):E1 (U0a a b u v).1=true:=by
 unfold U0a at h ⊢
 cases c:C0 a&&(C0 b&&(decide (a.1=b.1)&&(inR 0 (a.2.1-1) u&&inR 0 (b.2.1-1) v)))with
 |false=>rw[c]at h;cases h
 |true =>
  rw[c,cond_true]at h
  rw[cond_true]
  simp only[Bool.and_eq_true,decide_eq_true_eq]at c
  obtain⟨d,i,z,k,l⟩:=c
  obtain⟨ps,s,E,F,D,G,t⟩:=x0f d i k l (P1 a.1.toNat 1)
  rw[s]at h ⊢
  simp only at h ⊢
  cases c2:decide (40<ps.length) || decide (120<(eB a b (P1 a.1.toNat 1) ps ps 0).length)with
  |true=>rw[c2]at h;cases h
  |false =>
   rw[cond_false]
   simp only[Bool.or_eq_false_iff,decide_eq_false_iff_not]at c2
   have o:=(Z0 (K0 d)).2.1
   refine I06 o ⟨by omega,by omega⟩ (by omega) λe m=>?_
   obtain⟨j,p,f,x,g,q,w,y,rfl⟩:=u0r m
   have A:=(List.getElem?_eq_some_iff.1 f).1
   have n:=C0t (t j p f x g q y)
   have C:=S0k _ _ _ g (Nat.le_refl _) w
   simp only
   exact⟨by omega,n,by omega,by omega⟩
theorem P0o{g:j0}(a:E1 g=true):(z08 g).2.2.length<=120:=R0b (L9 40 (R04 a))
def s00(a b:j0):j0×Bool:=bif T0 a&&(T0 b&&(U0a a b 0 0).2)then(z08 (U0a a b 0 0).1,true)else((0,0,[]),false)
theorem E0f{a b:j0}(k:a.2.2.length<=140737488355328)(l:b.2.2.length<=140737488355328):p7 a b=some (s00 a b):=by
 have m:=M03 a k
 have f2:=M03 b l
 have f3:=d0r k l 0 0
 have j:(U0a a b 0 0).2=true->_:=λh=>B0k (D0f h)
 unfold s00
 obtain⟨c,d,e⟩:=a
 obtain⟨f,g,i⟩:=b
 unfold p7
 simp only[m,f2,f3,oB]
 generalize U0a (c,d,e) (f,g,i) 0 0=r at *
 obtain⟨⟨n,o,p⟩,t⟩:=r
 cases h1:T0 (c,d,e)
 ·simp[chk]
 ·cases h2:T0 (f,g,i)
  ·simp[chk]
  ·cases t
   ·simp[chk]
   ·simp only at j
    simp[chk,j]
theorem F0f{a b:j0}(k:a.2.2.length<=140737488355328)(l:b.2.2.length<=140737488355328):r7 a b=some (s00 a b):=by
 have m:=p8 a k
 have f2:=p8 b l
 have f3:=W0q k l 0 0
 have j:(U0a a b 0 0).2=true->_:=λh=>C0k (D0f h)
 unfold s00
 obtain⟨c,d,e⟩:=a
 obtain⟨f,g,i⟩:=b
 unfold r7
 simp only[m,f2,f3,oB]
 generalize U0a (c,d,e) (f,g,i) 0 0=r at *
 obtain⟨⟨n,o,p⟩,t⟩:=r
 cases h1:T0 (c,d,e)
 ·simp[chk]
 ·cases h2:T0 (f,g,i)
  ·simp[chk]
  ·cases t
   ·simp[chk]
   ·simp only at j
    simp[chk,j]
theorem G0f{a b:j0}:(s00 a b).1.2.2.length<=120:=by
 unfold s00
 cases c:T0 a&&(T0 b&&(U0a a b 0 0).2)with
 |false=>simp
 |true =>
  simp only[Bool.and_eq_true]at c
  exact P0o (D0f c.2.2)
set_option maxRecDepth 10000
abbrev B(l:List UInt8):ByteArray:=⟨l.toArray⟩
def L0c(a:UInt8):List (List UInt8)->List UInt8
 | []=>[]
 |x::r=>a::x++L0c a r
def X0k(a:UInt8):List (List UInt8)->List UInt8
 | []=>[]
 |x::r=>x++L0c a r
def bsz:List (List UInt8)->Nat
 | []=>0
 |x::r=>x.length+1+bsz r
theorem G0i:∀ xs:List (List UInt8),xs.length<=bsz xs
 | []=>by simp
 |w::r=>by have:=G0i r;simp only[bsz,List.length_cons];omega
theorem Z06(b:UInt8)(xs:List (List UInt8))(g:bsz xs<=140737488355328):∀(d k fuel:Nat) (acc:List UInt8),k+d=xs.length->d<fuel->acc.length+bsz (xs.drop k)<=140737488355328 ->
  o9 (xs.map B) (B [b]) fuel (B acc) (k:Int)=some (B (acc++L0c b (xs.drop k)))
 |d,k,0,acc,e,hf,a=>by omega
 |0,k,fuel+1,acc,e,hf,a=>by
  rw[o9.eq_2,if_neg (by simp;omega),N1 (by omega)]
  simp[L0c]
 |d+1,k,fuel+1,acc,e,hf,a=>by
  have f:k<xs.length:=by omega
  have c:=V5 f
  have h:=G0i xs
  generalize xs[k]=x at c
  rw[L1 c]at a ⊢
  simp only[bsz]at a
  have next:=Z06 b xs g d (k+1) fuel (acc ++ [b]++x) (by omega) (by omega) (by simp only[List.length_append,List.length_singleton];omega)
  rw[o9.eq_2,if_pos (by simp;omega),T2 (x:=B x) (by rw[List.getElem?_map,c];rfl),oB,F0 (by rw[i06,i06];simp only[List.length_singleton];omega),oB,u0s,
   F0 (by rw[i06,i06];simp only[List.length_append,List.length_singleton];omega),oB,u0s,G2 f (by omega:xs.length<=9223372036854775807),next]
  simp[L0c]
def G0n(a:UInt8)(e:ByteArray):List (List UInt8)->ByteArray
 | []=>e
 |x::r=>B (X0k a (x::r))
theorem v0s(a:UInt8)(e:ByteArray)(xs:List (List UInt8))(c:bsz xs<=140737488355328):a03 (xs.map B) (B [a]) e=some (G0n a e xs):=by
 unfold a03
 cases xs with
 |nil=>rfl
 |cons x r =>
  simp only[bsz]at c
  have d:=G0i r
  have h:=Z06 a r (by omega) r.length 0 U0 x (by omega) (C1 (by omega)) (by rw[List.drop_zero];omega)
  rw[show((0:Nat):Int)=0 from rfl,List.drop_zero]at h
  rw[if_neg (by simp;omega),x09 (x:=B x) rfl,oB,D06,if_pos (by simp;omega),oB]
  have b:(List.drop (1:Int).toNat (List.take ((((x::r).map B).length:Nat):Int).toNat ((x::r).map B)))=r.map B:=by
   rw[Int.toNat_natCast,List.take_length];rfl
  rw[b,h]
  rfl
theorem Q0o(n:Int):(T0k n).size<=21:=by
 unfold T0k
 have:=d0e 20 n.natAbs []
 simp only[List.length_nil]at this
 split
 ·show 1<=_;omega
 ·split
  ·rw[i06];simp only[List.length_cons];omega
  ·rw[i06];omega
def fI(n:Int):List UInt8:=if n=0 then [48]else if n<0 then 45::H08 20 n.natAbs []else H08 20 n.natAbs []
theorem e0m(n:Int):T0k n=B (fI n):=by
 unfold T0k fI
 split
 ·rfl
 ·split<;>rfl
theorem E05(n:Int):(fI n).length<=21:=by
 have:=Q0o n
 rw[e0m,i06]at this
 exact this
theorem Y0k:∀ xs:List (List UInt8),(L0c 32 xs).length=bsz xs
 | []=>rfl
 |x::r=>by
  have:=Y0k r
  simp only[L0c,bsz,List.length_cons,List.length_append]
  omega
theorem D0t(xs:List (List UInt8))(b:xs≠[])(a:bsz xs<=1000000000):K02 (xs.map B)=some (B (X0k 32 xs)):=by
 unfold K02
 rw[show(⟨#[32]⟩:ByteArray)=B [32] from rfl,v0s 32 _ xs (by omega),oB]
 cases xs with
 |nil=>exact absurd rfl b
 |cons x r =>
  have c:=Y0k r
  simp only[bsz]at a
  rw[show ∀ e,G0n 32 e (x::r)=B (X0k 32 (x::r)) from λe=>rfl,F0 (by rw[i06];simp only[X0k,List.length_append];omega)]
  rfl
theorem ln9(s1 s2 a b c d e f g:List UInt8)(h:s1.length<=100)(i:s2.length<=100)(j:a.length<=100)(k:b.length<=100)(l:c.length<=100)(m:d.length<=100)(n:e.length<=100)(o:f.length<=100)(p:g.length<=100):
  K02 [B s1,B s2,B a,B b,B c,B d,B e,B f,B g]=some (B (s1++32::(s2++32::(a++32::(b++32::(c++32::(d++32::(e++32::(f++32::g))))))))):=by
 have:=D0t [s1,s2,a,b,c,d,e,f,g] (by simp) (by simp only[bsz];omega)
 simpa [X0k,L0c] using this
def n04(a b:j0):Int:=(Q5 a b).getD 0
theorem H0n(a b:j0)(f:a.2.2.length<=140737488355328)(g:b.2.2.length<=140737488355328):Q5 a b=some (n04 a b)/\C6 a b=some (n04 a b)/\I0 (n04 a b):=by
 obtain⟨r,c,d,e⟩:=R0q a b f g
 unfold n04
 rw[c,d]
 exact⟨rfl,rfl,e⟩
def G09(a b:j0):Int×Int:=bif(s00 a b).2 then(n04 (s00 a b).1 a,n04 (s00 a b).1 b)else(-1,-1)
theorem W0t(a b:j0)(e:a.2.2.length<=140737488355328)(f:b.2.2.length<=140737488355328):B6 a b=some (G09 a b)/\D6 a b=some (G09 a b)/\I0 (G09 a b).1/\I0 (G09 a b).2:=by
 have k:=E0f e f
 have l:=F0f e f
 have x := @G0f a b
 obtain⟨g,h,c⟩:=H0n (s00 a b).1 a (by omega) e
 obtain⟨i,j,d⟩:=H0n (s00 a b).1 b (by omega) f
 unfold G09
 generalize s00 a b=G at *
 obtain⟨⟨u,v,w⟩,t⟩:=G
 obtain⟨m,n,o⟩:=a
 obtain⟨p,q,s⟩:=b
 simp only at g h c i j d
 unfold B6 D6
 simp only[k,l,oB]
 cases t with
 |false=>exact⟨rfl,rfl,(show I0 (-1) by decide),(show I0 (-1) by decide)⟩
 |true =>
  simp only[g,h,i,j,oB,F0 c,F0 d,cond_true]
  exact⟨rfl,rfl,c,d⟩
def U01(a b:j0):ByteArray:=bif(s00 a b).2 then B (([114,97,110,107]:List UInt8)++32::(fI (T01 (s00 a b).1)++32::(([105,110,100,105,99,101,115]:List UInt8)++32::(fI (G09 a b).1++32::(fI (G09 a b).2++32::(([115,117,109]:List UInt8)++32::(fI (v00 a b)++32::(([97,116,32,109,111,115,116]:List UInt8)++32::fI (IntKind.i64.wrap (I5 a*I5 b))))))))))else B []
theorem H0f(a b:j0)(c:a.2.2.length<=140737488355328)(d:b.2.2.length<=140737488355328):v02 a b=some (U01 a b):=by
 have q:=E0f c d
 have M := @G0f a b
 obtain⟨k,g⟩:=O06 (s00 a b).1 (by omega)
 obtain⟨s,_,e,f⟩:=W0t a b c d
 have u:=r0r a b c d
 have l:I0 (v00 a b):=B0t _ _ (by decide)
 have v:=d09 a c
 have w:=d09 b d
 have m:=D08 a
 have n:=D08 b
 have x:=E05 (T01 (s00 a b).1)
 have y:=E05 (G09 a b).1
 have z:=E05 (G09 a b).2
 have O:=E05 (v00 a b)
 have P:=E05 (IntKind.i64.wrap (I5 a*I5 b))
 have h:=v01 _ g
 have f2:=v01 _ e
 have f3:=v01 _ f
 have o:=v01 _ l
 have p:=v01 _ (J0 (I5 a*I5 b))
 unfold U01
 generalize G09 a b=I at *
 generalize v00 a b=N at *
 generalize I5 a=ra at *
 generalize I5 b=rb at *
 generalize s00 a b=G at *
 obtain⟨⟨J,K,L⟩,t⟩:=G
 obtain⟨A,C,D⟩:=a
 obtain⟨E,F,H⟩:=b
 obtain⟨i,j⟩:=I
 simp only at k g x h y z f2 f3 e f
 unfold v02
 simp only[q,oB]
 cases t with
 |false=>rfl
 |true =>
  simp only[Bool.not_true,Bool.false_eq_true,if_false,k,s,u,v,w,oB,cond_true,F0 g,F0 e,F0 f,F0 l,F0 m,F0 n,h,f2,f3,o,p,e0m,u0s,show(⟨#[114,97,110,107,32]⟩:ByteArray)=B [114,97,110,107,32] from rfl,show(⟨#[32,105,110,100,105,99,101,115,32]⟩:ByteArray)=B [32,105,110,100,105,99,101,115,32] from rfl,show(⟨#[32]⟩:ByteArray)=B [32] from rfl,show(⟨#[32,115,117,109,32]⟩:ByteArray)=B [32,115,117,109,32] from rfl,show(⟨#[32,97,116,32,109,111,115,116,32]⟩:ByteArray)=B [32,97,116,32,109,111,115,116,32] from rfl,show(⟨#[114,97,110,107]⟩:ByteArray)=B [114,97,110,107] from rfl,show(⟨#[105,110,100,105,99,101,115]⟩:ByteArray)=B [105,110,100,105,99,101,115] from rfl,show(⟨#[115,117,109]⟩:ByteArray)=B [115,117,109] from rfl,show(⟨#[97,116,32,109,111,115,116]⟩:ByteArray)=B [97,116,32,109,111,115,116] from rfl,show(⟨#[]⟩:ByteArray)=B [] from rfl]
  repeat (rw[F0 (by simp only[i06,List.length_append,List.length_cons,List.length_nil];omega),oB])
  simp[List.append_assoc]
theorem I0f(a b:j0)(c:a.2.2.length<=140737488355328)(d:b.2.2.length<=140737488355328):w02 a b=some (U01 a b):=by
 have s:=F0f c d
 have O := @G0f a b
 have k:=m0f (s00 a b).1 (by omega)
 have g:=(O06 (s00 a b).1 (by omega)).2
 obtain⟨_,u,e,f⟩:=W0t a b c d
 have v:=s0r a b c d
 have m:I0 (v00 a b):=B0t _ _ (by decide)
 have w:=e09 a c
 have x:=e09 b d
 have n:=D08 a
 have o:=D08 b
 have y:=E05 (T01 (s00 a b).1)
 have z:=E05 (G09 a b).1
 have A:=E05 (G09 a b).2
 have P:=E05 (v00 a b)
 have Q:=E05 (IntKind.i64.wrap (I5 a*I5 b))
 have h:=w01 _ g
 have f2:=w01 _ e
 have f3:=w01 _ f
 have p:=w01 _ m
 have q:=w01 _ (J0 (I5 a*I5 b))
 have l:=ln9 ([114,97,110,107]:List UInt8) (fI (T01 (s00 a b).1)) ([105,110,100,105,99,101,115]:List UInt8) (fI (G09 a b).1) (fI (G09 a b).2) ([115,117,109]:List UInt8) (fI (v00 a b)) ([97,116,32,109,111,115,116]:List UInt8) (fI (IntKind.i64.wrap (I5 a*I5 b))) (by simp) (by omega) (by simp) (by omega) (by omega) (by simp) (by omega) (by simp) (by omega)
 unfold U01
 generalize G09 a b=I at *
 generalize v00 a b=N at *
 generalize I5 a=ra at *
 generalize I5 b=rb at *
 generalize s00 a b=G at *
 obtain⟨⟨K,L,M⟩,t⟩:=G
 obtain⟨C,D,E⟩:=a
 obtain⟨F,H,J⟩:=b
 obtain⟨i,j⟩:=I
 simp only at k g y h z A f2 f3 e f l
 unfold w02
 simp only[s,oB]
 cases t with
 |false=>rfl
 |true =>
  simp only[Bool.not_true,Bool.false_eq_true,if_false,k,u,v,w,x,oB,cond_true,F0 g,F0 e,F0 f,F0 m,F0 n,F0 o,h,f2,f3,p,q,e0m,show(⟨#[114,97,110,107,32]⟩:ByteArray)=B [114,97,110,107,32] from rfl,show(⟨#[32,105,110,100,105,99,101,115,32]⟩:ByteArray)=B [32,105,110,100,105,99,101,115,32] from rfl,show(⟨#[32]⟩:ByteArray)=B [32] from rfl,show(⟨#[32,115,117,109,32]⟩:ByteArray)=B [32,115,117,109,32] from rfl,show(⟨#[32,97,116,32,109,111,115,116,32]⟩:ByteArray)=B [32,97,116,32,109,111,115,116,32] from rfl,show(⟨#[114,97,110,107]⟩:ByteArray)=B [114,97,110,107] from rfl,show(⟨#[105,110,100,105,99,101,115]⟩:ByteArray)=B [105,110,100,105,99,101,115] from rfl,show(⟨#[115,117,109]⟩:ByteArray)=B [115,117,109] from rfl,show(⟨#[97,116,32,109,111,115,116]⟩:ByteArray)=B [97,116,32,109,111,115,116] from rfl,show(⟨#[]⟩:ByteArray)=B [] from rfl]
  repeat (rw[F0 (by simp only[i06,List.length_append,List.length_cons,List.length_nil];omega),oB])
  rw[l,oB,F0 (by simp only[i06,List.length_append,List.length_cons,List.length_nil];omega),oB]
end Go.Proofs.YtkjhghloldgioaaGreat
