/- Texts of the claim, joined: Plain laws: powers of a word inside a subgroup and others. -/
import Derived.Test.YtkjhghloldgioaaGreatPart24
import Derived.Test.YtkjhghloldgioaaGreatPart18
import Derived.Test.YtkjhghloldgioaaGreatPart23
namespace Go.Proofs.YtkjhghloldgioaaGreat
open Go.H
set_option linter.unusedVariables false
set_option linter.unusedSimpArgs false
theorem y0p:∀(n:Nat) (l:List Int),rd l->l≠[]->(ccA n l).1≠[]
 |0,l,h,h0=>h0
 |n+1,l,h,h0=>by
  by_cases c:2<=l.length/\l.headD 0 = -(l.getLastD 0)
  ·obtain⟨a,m,b,rfl,d,f,g⟩:=h0q c.1
   have i:=c.2
   rw[d,f]at i
   unfold ccA
   rw[if_pos c]
   simp only[g]
   refine y0p n m (f0q (P:=[a]) (Q:=[b]) (by simpa using h)) λe=>?_
   subst e
   exact h [] a b [] rfl (by omega)
  ·rw[D09 c];exact h0
def pwA(g:j0)(c:List Int)(s:Int):Nat->Int->Int->Int
 |0,_,_=>0
 |d+1,v,k=>if(P1 g v c).2<c.length then 0 else if(P1 g v c).1=s then k else pwA g c s d (P1 g v c).1 (k+1)
def j03(g:j0)(w:List Int):Int :=
 bif w.isEmpty then 1 else(bif decide ((P1 g 0 (M00 w).2).2<(M00 w).2.length)then 0 else pwA g (M00 w).1 (P1 g 0 (M00 w).2).1 g.2.1.toNat (P1 g 0 (M00 w).2).1 1)
theorem f0o(g:j0)(c:List Int)(s:Int):∀(d:Nat) (v k:Int),0<=k->0<=pwA g c s d v k/\pwA g c s d v k<=k+d
 |0,v,k,h=>by simp only[pwA];omega
 |d+1,v,k,h=>by
  have:=f0o g c s d (P1 g v c).1 (k+1) (by omega)
  unfold pwA
  split
  ·omega
  ·split<;>omega
theorem g0o{g:j0}(a:0<=g.2.1/\g.2.1<=40)(w:List Int):0<=j03 g w/\j03 g w<=1000:=by
 have:=f0o g (M00 w).1 (P1 g 0 (M00 w).2).1 g.2.1.toNat (P1 g 0 (M00 w).2).1 1 (by omega)
 unfold j03
 cases w.isEmpty with
 |true=>show(0:Int)<=1/\(1:Int)<=1000;omega
 |false =>
  cases decide ((P1 g 0 (M00 w).2).2<(M00 w).2.length)with
  |true=>show(0:Int)<=0/\(0:Int)<=1000;omega
  |false=>simp only[cond_false];omega
theorem h0o{g:j0}(e:H0 g=true)(c:List Int)(h:∀ x∈c,L5 x)(o:c.length<=1000)(b:Int):∀(d k fuel:Nat) (v:Int),(k:Int)+d=g.2.1+1->d<fuel->(0<=v/\v<g.2.1) ->
  (A5 g.2.1 g.1 g.2.2 c b (fuel+1) v true (k:Int)).bind (λX=>V7 X λ_=>some 0)=some (pwA g c b d v (k:Int))
 |0,k,fuel,v,i,hf,a=>by
  rw[A5.eq_2,if_neg (by simp only[decide_eq_false (show ¬ (k:Int)<=g.2.1 by omega),cond_false];decide)];rfl
 |d+1,k,0,v,i,hf,a=>by omega
 |d+1,k,fuel+1,v,i,hf,a=>by
  obtain⟨j,q,p,s⟩:=W0 e
  have l:=d0g g e v a c h (by omega)
  have m:=A01 j p.2 c v ⟨by omega,by omega⟩
  have n:=Y03 j c v a
  rw[A5.eq_2,if_pos (by simp only[decide_eq_true (show(k:Int)<=g.2.1 by omega),cond_true]),show(g.1,g.2.1,g.2.2)=g from rfl,l,oB,pwA]
  have f:IntKind.i64.wrap ((k:Int)+1)=((k+1:Nat):Int):=by rw[w64 (by omega) (by omega)];omega
  by_cases c1:(P1 g v c).2<c.length
  ·simp only[decide_eq_true c1,cond_true,if_pos c1,cond_false,f]
   rw[B0 (show J0 (-1) from⟨by omega,by omega⟩),oB,if_neg (by decide),A5.eq_2,if_neg (by cases decide (((k+1:Nat):Int)<=g.2.1)<;>decide)]
   rfl
  ·simp only[decide_eq_false c1,cond_true,if_neg c1,cond_false,f]
   rw[B0 m,oB]
   by_cases c2:(P1 g v c).1=b
   ·rw[if_pos (by rw[c2];simp),if_pos c2];rfl
   ·rw[if_neg (by simp[c2]),if_neg c2,h0o e c h o b d (k+1) fuel _ (by omega) (by omega) n,show((k+1:Nat):Int)=(k:Int)+1 by omega]
theorem i0o{g:j0}(i:H0 g=true)(c:List Int)(f:∀ x∈c,L5 x)(p:c.length<=1000)(a:Int):∀(d k fuel:Nat) (v:Int),(k:Int)+d=g.2.1+1->d<fuel->(0<=v/\v<g.2.1) ->
  (l7 g.2.1 g.1 g.2.2 c a (fuel+1) v (k:Int)).bind (λX=>V7 X λ_=>some 0)=some (pwA g c a d v (k:Int))
 |0,k,fuel,v,h,hf,b=>by
  rw[l7.eq_2,if_neg (by simp only[decide_eq_true_eq];omega)];rfl
 |d+1,k,0,v,h,hf,b=>by omega
 |d+1,k,fuel+1,v,h,hf,b=>by
  obtain⟨e,s,j,t⟩:=W0 i
  have m:=S0c g e j.2 (by omega) v c f (by omega)
  have n:=A01 e j.2 c v ⟨by omega,by omega⟩
  have o:=Y03 e c v b
  have q:=z01 g c v
  have l:IntKind.i64.wrap ((k:Int)+1)=((k+1:Nat):Int):=by rw[w64 (by omega) (by omega)];omega
  rw[l7.eq_2,if_pos (by simp only[decide_eq_true_eq];omega),show(g.1,g.2.1,g.2.2)=g from rfl,m,oB,pwA]
  simp only[l]
  rw[B0 n,oB,B0 (show J0 (((P1 g v c).2:Nat):Int) from⟨by omega,by omega⟩),oB]
  by_cases c1:(P1 g v c).2<c.length
  ·rw[if_pos (by simp only[decide_eq_true_eq];omega),if_pos c1];rfl
  ·rw[if_neg (by simp only[decide_eq_true_eq];omega),if_neg c1]
   by_cases c2:(P1 g v c).1=a
   ·rw[if_pos (by simp only[decide_eq_true_eq];exact c2),if_pos c2];rfl
   ·rw[if_neg (by simp only[decide_eq_true_eq];exact c2),if_neg c2,i0o i c f p a d (k+1) fuel _ (by omega) (by omega) o,show((k+1:Nat):Int)=(k:Int)+1 by omega]
theorem z0g{r:Int}{w:List Int}(h:Q2 r w=true):sm r w:=λx a=>((t00 h).2 x a).2
theorem A0g{r:Int}{w:List Int}(h:Q2 r w=true):r<=3:=by
 simp only[Q2,Bool.and_eq_true,decide_eq_true_eq,inR]at h
 omega
theorem g0l{r:Int}{w:List Int}(a:Q2 r w=true):sm r (M00 w).1/\sm r (M00 w).2/\(M00 w).1.length<=24/\(M00 w).2.length<=24/\(w≠[]->(M00 w).1≠[]):=by
 obtain⟨wl,e⟩:=t00 a
 have c:=z0g a
 unfold M00
 rw[Y02 a]
 have b:=V0o (n:=(n01 [] w).length) c
 have d:=f0l (n01 [] w).length w
 refine⟨b.1,b.2,by omega,by omega,λh=>y0p _ _ ?_ h⟩
 have:=g0q (c0o (A0g a) (U0b w [] (λx h=>by cases h) c) (j0i w [] rfl))
 rwa [Y02 a]at this
theorem m0m{g:j0}(t:L3 g=true){w:List Int}(d:Q2 g.1 w=true):f00 g w=some (j03 g w):=by
 have hf:=Q5 t
 obtain⟨y,G,D,H⟩:=W0 hf
 obtain⟨wl,F⟩:=t00 d
 obtain⟨s1,s2,I,J,E⟩:=g0l d
 have n:=J8 w (λx j=>(F x j).1.1) (by omega)
 rw[Y02 d]at n
 have o:=K06 g (by omega)
 rw[t]at o
 have f:=r03 g.1 w (by omega)
 rw[d]at f
 have C:=d0o (A0g d) (z0g d) (by omega)
 have v:∀ {l:List Int},sm g.1 l->∀ x∈l,L5 x:=λh x j=>by have:=h x j;exact⟨⟨by omega,by omega⟩,by omega⟩
 have z:(0:Int)<=0/\(0:Int)<g.2.1:=⟨iR _,by omega⟩
 have p:=d0g g hf 0 z (M00 w).2 (v s2) (by omega)
 have i:=A01 y D.2 (M00 w).2 0 ⟨by omega,by omega⟩
 have u:=Y03 y (M00 w).2 0 z
 have s:=h0o hf (M00 w).1 (v s1) (by omega) (P1 g 0 (M00 w).2).1 g.2.1.toNat 1 9223372036854775807 (P1 g 0 (M00 w).2).1 (by omega) (by omega) u
 have k:(M00 w).1.length=0↔w = []:=⟨λh=>Classical.byContradiction λc=>E c (List.eq_nil_of_length_eq_zero h),λh=>by subst h;rfl⟩
 unfold j03
 generalize M00 w=q at *
 obtain⟨A,e⟩:=q
 obtain⟨a,b,c⟩:=g
 simp only at f p i u s k ⊢
 unfold f00
 simp only[n,o,oB,Bool.not_true,Bool.not_false,L1,f,cond_false,Bool.false_eq_true,if_false,C,p]
 by_cases c0:w = []
 ·subst c0
  have m:=k.2 rfl
  rw[m]
  cases decide ((P1 (a,b,c) 0 e).2<e.length)with
  |true=>simp only[cond_true];rw[B0 (show J0 (-1) from⟨by omega,by omega⟩)];rfl
  |false=>simp only[cond_false];rw[B0 i];rfl
 ·have m : ¬ A.length=0:=λh=>c0 (k.1 h)
  rw[show w.isEmpty=false by cases w with|nil=>exact absurd rfl c0|cons x r=>rfl]
  by_cases c1:(P1 (a,b,c) 0 e).2<e.length
  ·simp only[decide_eq_true c1,cond_true,cond_false]
   rw[B0 (show J0 (-1) from⟨by omega,by omega⟩),oB,if_neg (by simp only[decide_eq_true_eq];omega),show P0=9223372036854775807+1 from rfl,A5.eq_2,if_neg (by cases decide ((1:Int)<=b)<;>decide)]
   rfl
  ·simp only[decide_eq_false c1,cond_false]
   rw[B0 i,oB,if_neg (by simp only[decide_eq_true_eq];omega)]
   exact s
theorem n0m{g:j0}(p:L3 g=true){w:List Int}(d:Q2 g.1 w=true):g00 g w=some (j03 g w):=by
 have hf:=Q5 p
 obtain⟨i,E,u,F⟩:=W0 hf
 obtain⟨wl,I⟩:=t00 d
 obtain⟨s1,s2,G,C,H⟩:=g0l d
 have j:=K05 w (by omega)
 rw[Y02 d]at j
 have k:=r02 g (by omega)
 rw[p]at k
 have e:=s03 g.1 w (by omega)
 rw[d]at e
 have v:=e0o (A0g d) (z0g d) (by omega)
 have t:∀ {l:List Int},sm g.1 l->∀ x∈l,L5 x:=λh x A=>by have:=h x A;exact⟨⟨by omega,by omega⟩,by omega⟩
 have z:(0:Int)<=0/\(0:Int)<g.2.1:=⟨iR _,by omega⟩
 have m:=S0c g i u.2 (by omega) 0 (M00 w).2 (t s2) (by omega)
 have n:=A01 i u.2 (M00 w).2 0 ⟨by omega,by omega⟩
 have y:=z01 g (M00 w).2 0
 have s:=Y03 i (M00 w).2 0 z
 have o:=i0o hf (M00 w).1 (t s1) (by omega) (P1 g 0 (M00 w).2).1 g.2.1.toNat 1 9223372036854775807 (P1 g 0 (M00 w).2).1 (by omega) (by omega) s
 unfold j03
 generalize M00 w=q at *
 obtain⟨D,f⟩:=q
 obtain⟨a,b,c⟩:=g
 simp only at e m n s y o C ⊢
 unfold g00
 simp only[j,k,oB,Bool.not_true,Bool.not_false,L1,e,cond_false,Bool.false_eq_true,if_false]
 cases w with
 |nil=>rfl
 |cons x r =>
  rw[if_neg (by simp only[List.length_cons,decide_eq_true_eq];omega),v]
  simp only[oB,m,List.isEmpty_cons,cond_false]
  rw[B0 n,oB,B0 (show J0 (((P1 (a,b,c) 0 f).2:Nat):Int) from⟨by omega,by omega⟩),oB]
  by_cases c1:(P1 (a,b,c) 0 f).2<f.length
  ·rw[if_pos (by simp only[decide_eq_true_eq];omega),decide_eq_true c1];rfl
  ·rw[if_neg (by simp only[decide_eq_true_eq];omega),decide_eq_false c1]
   exact o
def F0i(n:Int):ByteArray:=if n=0 then⟨#[48]⟩else if n<0 then⟨(45::C07 20 n.natAbs []).toArray⟩else⟨(C07 20 n.natAbs []).toArray⟩
def N00(n:Int)(m:Nat):Int:=if n<0 then -(m:Int)else m
theorem h0l(n:Int)(m:Nat):(N00 n m).tmod 10=N00 n (m % 10):=by
 unfold N00
 split
 ·rw[Int.neg_tmod,show(10:Int)=((10:Nat):Int) from rfl,←Int.ofNat_tmod]
 ·rw[show(10:Int)=((10:Nat):Int) from rfl,←Int.ofNat_tmod]
theorem i0l(n:Int)(m:Nat):(N00 n m).tdiv 10=N00 n (m / 10):=by
 unfold N00
 split
 ·rw[Int.neg_tdiv,show(10:Int)=((10:Nat):Int) from rfl,←Int.ofNat_tdiv]
 ·rw[show(10:Int)=((10:Nat):Int) from rfl,←Int.ofNat_tdiv]
theorem G0i{n:Int}{m:Nat}:N00 n m=0↔m=0:=by
 unfold N00
 split<;>omega
theorem U0q{X:Int}{m:Nat}(acc:List UInt8)(e:X=((m % 10:Nat):Int)):strOfNums [IntKind.u8.wrap (IntKind.i64.wrap (48+X))]++⟨acc.toArray⟩=⟨(UInt8.ofNat (48+m % 10)::acc).toArray⟩:=by
 have a:IntKind.u8.wrap (IntKind.i64.wrap (48+X))=((48+m % 10:Nat):Int):=by
  rw[e]
  simp[IntKind.wrap,IntKind.signed,IntKind.bits]
  omega
 rw[a,show strOfNums [((48+m % 10:Nat):Int)]=⟨#[UInt8.ofNat (48+m % 10)]⟩ from by simp only[strOfNums,List.map_cons,List.map_nil,Int.toNat_natCast]]
 generalize UInt8.ofNat (48+m % 10)=d
 apply ByteArray.ext
 rw[ByteArray.data_append]
 simp
theorem H0i(a b:List UInt8):(⟨a.toArray⟩:ByteArray)++⟨b.toArray⟩=⟨(a++b).toArray⟩:=by
 apply ByteArray.ext
 rw[ByteArray.data_append]
 simp
theorem J00(a:List UInt8):(⟨a.toArray⟩:ByteArray).size=a.length:=by simp[ByteArray.size]
theorem z0p{n:Int}{m:Nat}(h:m<=9223372036854775808)(a:n<0∨m<=9223372036854775807):J0 (N00 n m):=by
 unfold N00
 split<;>constructor<;>omega
theorem k03(n:Int):∀(f m fuel:Nat) (acc:List UInt8),m<10 ^ f->f<fuel->m<=9223372036854775808->acc.length+f<=100->(n<0∨m<=9223372036854775807) ->
  J4 fuel (N00 n m) ⟨acc.toArray⟩=some ⟨(C07 f m acc).toArray⟩
 |f,m,0,acc,a,c,d,g,h=>by omega
 |0,m,fuel+1,acc,a,c,d,g,h=>by
  have:m=0:=by simp at a;exact a
  subst this
  rw[J4.eq_2,show N00 n 0=0 by unfold N00;split<;>simp]
  rfl
 |f+1,m,fuel+1,acc,a,c,d,g,h=>by
  rw[J4.eq_2]
  by_cases h0:m=0
  ·subst h0
   rw[show N00 n 0=0 by unfold N00;split<;>simp]
   simp[C07]
  ·have o:N00 n m≠0:=λe=>h0 (G0i.1 e)
   have next:=k03 n f (m / 10) fuel (UInt8.ofNat (48+m % 10)::acc) (by rw[Nat.pow_succ]at a;omega) (by omega) (by omega) (by simp only[List.length_cons];omega) (by omega)
   have l:IntKind.i64.wrap ((N00 n m).tdiv 10)=N00 n (m / 10):=by
    rw[i0l]
    have:=z0p (n:=n) (m:=m / 10) (by omega) (by omega)
    exact w64 this.1 this.2
   rw[if_pos (by simpa using o),l,h0l]
   simp only[show ∀ k:Unit->Option ByteArray,(grd (10≠0)).bind k=k () from λk=>rfl]
   have i:∀ X:Int,X=((m % 10:Nat):Int)->((grd ([IntKind.u8.wrap (IntKind.i64.wrap (48+X))].length<=9223372036854775807)).bind λ_=>(grd ((strOfNums [IntKind.u8.wrap (IntKind.i64.wrap (48+X))]).size+(⟨acc.toArray⟩:ByteArray).size<=9223372036854775807)).bind λ_ =>
     J4 fuel (N00 n (m / 10)) (strOfNums [IntKind.u8.wrap (IntKind.i64.wrap (48+X))]++⟨acc.toArray⟩))=some ⟨(C07 (f+1) m acc).toArray⟩:=λX j=>by
    rw[B0 (by simp),oB,B0 (by rw[strOfNums_size,J00];simp only[List.length_singleton];omega),oB,U0q acc j,next]
    simp[C07,h0]
   by_cases hneg:N00 n (m % 10)<0
   ·rw[if_pos (by simpa using hneg)]
    refine i _ ?_
    unfold N00 at hneg ⊢
    split at hneg
    ·rename_i b
     rw[if_pos b,w64 (by omega) (by omega)];omega
    ·omega
   ·rw[if_neg (by simpa using hneg)]
    refine i _ ?_
    unfold N00 at hneg ⊢
    split at hneg
    ·rename_i b
     rw[if_pos b];omega
    ·rename_i b
     rw[if_neg b]
theorem I0i(n:Int):N00 n n.natAbs=n:=by unfold N00;split<;>omega
theorem K01(n:Int)(a:J0 n):g6 n=some (F0i n):=by
 unfold g6 F0i
 by_cases h0:n=0
 ·rw[if_pos (by simpa using h0),if_pos h0]
 ·rw[if_neg (by simpa using h0),if_neg h0]
  have h:=k03 n 20 n.natAbs P0 [] (by have:=a.1;have:=a.2;omega) (by unfold P0;omega) (by have:=a.1;have:=a.2;omega) (by simp) (by have:=a.2;omega)
  rw[I0i]at h
  rw[h,oB]
  have b:=J0c 20 n.natAbs []
  simp only[List.length_nil]at b
  by_cases hneg:n<0
  ·rw[if_pos (by simpa using hneg),if_pos hneg,B0 (by have e:=J00 (C07 20 n.natAbs []);have c:(⟨#[45]⟩:ByteArray).size=1:=rfl;omega),oB]
   exact congrArg some (H0i [45] _)
  ·rw[if_neg (by simpa using hneg),if_neg hneg]
def N06:Nat->Nat->List Int
 |0,_=>[]
 |f+1,m=>if m=0 then []else((48+m % 10:Nat):Int)::N06 f (m / 10)
theorem J0i:∀(f m:Nat),(N06 f m).length<=f
 |0,m=>by simp[N06]
 |f+1,m=>by
  simp only[N06]
  split
  ·simp
  ·have:=J0i f (m / 10)
   simp only[List.length_cons];omega
theorem x07:∀(f m:Nat) (acc:List UInt8),C07 f m acc=(N06 f m).reverse.map (λx=>UInt8.ofNat x.toNat)++acc
 |0,m,acc=>by simp[C07,N06]
 |f+1,m,acc=>by
  simp only[C07,N06]
  split
  ·simp
  ·rw[x07 f (m / 10)]
   simp only[List.reverse_cons,List.map_append,List.map_cons,List.map_nil,Int.toNat_natCast,List.append_assoc,List.singleton_append]
theorem l03(n:Int):∀(f m fuel:Nat) (acc:List Int),m<10 ^ f->f<fuel->m<=9223372036854775808->acc.length+f<=100->(n<0∨m<=9223372036854775807) ->
  K4 fuel (N00 n m) acc=some (acc++N06 f m)
 |f,m,0,acc,a,c,d,g,h=>by omega
 |0,m,fuel+1,acc,a,c,d,g,h=>by
  have:m=0:=by simp at a;exact a
  subst this
  rw[K4.eq_2,show N00 n 0=0 by unfold N00;split<;>simp]
  simp[N06]
 |f+1,m,fuel+1,acc,a,c,d,g,h=>by
  rw[K4.eq_2]
  by_cases h0:m=0
  ·subst h0
   rw[show N00 n 0=0 by unfold N00;split<;>simp]
   simp[N06]
  ·have p:N00 n m≠0:=λe=>h0 (G0i.1 e)
   have next:=l03 n f (m / 10) fuel (acc ++ [((48+m % 10:Nat):Int)]) (by rw[Nat.pow_succ]at a;omega) (by omega) (by omega) (by simp only[List.length_append,List.length_singleton];omega) (by omega)
   have o:IntKind.i64.wrap ((N00 n m).tdiv 10)=N00 n (m / 10):=by
    rw[i0l]
    have:=z0p (n:=n) (m:=m / 10) (by omega) (by omega)
    exact w64 this.1 this.2
   rw[if_pos (by simpa using p),o,h0l]
   simp only[show ∀ k:Unit->Option (List Int),(grd (10≠0)).bind k=k () from λk=>rfl]
   have i:∀ X:Int,X=((m % 10:Nat):Int)->((grd ((acc.length + [IntKind.u8.wrap (IntKind.i64.wrap (48+X))].length)*1<=140737488355328)).bind λ_ =>
     K4 fuel (N00 n (m / 10)) (acc ++ [IntKind.u8.wrap (IntKind.i64.wrap (48+X))]))=some (acc++N06 (f+1) m):=λX j=>by
    have l:IntKind.u8.wrap (IntKind.i64.wrap (48+X))=((48+m % 10:Nat):Int):=by
     rw[j]
     simp[IntKind.wrap,IntKind.signed,IntKind.bits]
     omega
    rw[l,B0 (by simp only[List.length_singleton];omega),oB,next]
    simp[N06,h0]
   by_cases hneg:N00 n (m % 10)<0
   ·rw[if_pos (by simpa using hneg)]
    refine i _ ?_
    unfold N00 at hneg ⊢
    split at hneg
    ·rename_i b
     rw[if_pos b,w64 (by omega) (by omega)];omega
    ·omega
   ·rw[if_neg (by simpa using hneg)]
    refine i _ ?_
    unfold N00 at hneg ⊢
    split at hneg
    ·rename_i b
     rw[if_pos b];omega
    ·rename_i b
     rw[if_neg b]
theorem A0p(xs:List Int)(o:xs.length<=140737488355328):∀(fuel i j:Nat) (a:List Int),i+j+1=xs.length->j+1-i<fuel->a.length=xs.length->(∀ t,t<xs.length->a[t]?=if t<i∨j<t then xs[xs.length-1-t]? else xs[t]?) ->
  A3 fuel (i:Int) (j:Int) a=some xs.reverse
 |0,i,j,a,m,n,l,d=>by omega
 |fuel+1,i,j,a,m,n,l,d=>by
  rw[A3.eq_2]
  by_cases hij:i<j
  ·have h:=a5 (show i<a.length by omega)
   have e:=a5 (show j<a.length by omega)
   generalize p:a[i]=xi at h
   generalize q:a[j]=xj at e
   rw[if_pos (by simp;omega),U1 e,oB,U1 h,oB,oB]
   rw[U1 (k:=j) (x:=xj) (by rw[List.getElem?_set];simp;rw[if_neg (by omega)];exact e),oB,V1 hij (by omega),j09 (by omega) (by omega)]
   refine A0p xs o fuel (i+1) (j-1) _ (by omega) (by omega) (by simpa using l) (λt b=>?_)
   have f:=d i (by omega)
   have g:=d j (by omega)
   rw[if_neg (by omega)]at f g
   rw[h]at f
   rw[e]at g
   simp only[Int.toNat_natCast]
   by_cases t1:j=t
   ·subst t1
    rw[List.getElem?_set_self (by simp only[List.length_set];omega),if_pos (Or.inr (by omega)),show xs.length-1-j=i by omega]
    exact f
   ·rw[List.getElem?_set_ne t1]
    by_cases t2:i=t
    ·subst t2
     rw[List.getElem?_set_self (by omega),if_pos (Or.inl (by omega)),show xs.length-1-i=j by omega]
     exact g
    ·rw[List.getElem?_set_ne t2,d t b]
     by_cases c:t<i∨j<t
     ·rw[if_pos c,if_pos (by omega)]
     ·rw[if_neg c,if_neg (by omega)]
  ·rw[if_neg (by simp;omega)]
   refine congrArg some (List.ext_getElem? λt=>?_)
   rcases Nat.lt_or_ge t xs.length with b|b
   ·rw[d t b,List.getElem?_reverse b]
    by_cases c:t<i∨j<t
    ·rw[if_pos c]
    ·rw[if_neg c,show xs.length-1-t=t by omega]
   ·rw[List.getElem?_eq_none (by omega),List.getElem?_eq_none (by simpa using b)]
theorem j0o(xs:List Int)(h0:0<xs.length)(a:xs.length<=1000):A3 P0 0 (IntKind.i64.wrap (((xs.length:Nat):Int)-1)) xs=some xs.reverse:=by
 rw[j09 h0 (by omega)]
 exact A0p xs (by omega) P0 0 (xs.length-1) xs (by omega) (by unfold P0;omega) rfl (λt b=>by rw[if_neg (by omega)])
theorem e03(n:Int)(a:J0 n):j7 n=some (F0i n):=by
 unfold j7 F0i
 by_cases h0:n=0
 ·rw[if_pos (by simpa using h0),if_pos h0]
 ·rw[if_neg (by simpa using h0),if_neg h0]
  have h:=l03 n 20 n.natAbs P0 [] (by have:=a.1;have:=a.2;omega) (by unfold P0;omega) (by have:=a.1;have:=a.2;omega) (by simp) (by have:=a.2;omega)
  rw[I0i,List.nil_append]at h
  have c:=J0i 20 n.natAbs
  have b:0<(N06 20 n.natAbs).length:=by simp only[N06];rw[if_neg (by omega)];simp
  rw[h,oB]
  simp only[oB]
  by_cases hneg:n<0
  ·rw[if_pos (by simpa using hneg),if_pos hneg,B0 (by simp only[List.length_singleton];omega),oB,B0 (by simp only[List.length_append,List.length_singleton];omega),oB,
    j0o _ (by simp) (by simp only[List.length_append,List.length_singleton];omega),oB,B0 (by simp only[List.length_reverse,List.length_append,List.length_singleton];omega),oB,x07]
   simp[strOfNums]
  ·rw[if_neg (by simpa using hneg),if_neg hneg,B0 (by omega),oB,
    j0o _ b (by omega),oB,B0 (by simp only[List.length_reverse];omega),oB,x07]
   simp[strOfNums]
set_option maxRecDepth 10000
abbrev B(l:List UInt8):ByteArray:=⟨l.toArray⟩
theorem k0o(l:List UInt8):k0j (B l) ⟨#[]⟩=l.isEmpty:=by
 rw[k0n]
 cases l with
 |nil=>rfl
 |cons x r =>
  rw[decide_eq_false (λe=>by have:=congrArg ByteArray.size e;simp[B,ByteArray.size]at this)]
  rfl
def chL(x:Int):UInt8:=if x<0 then UInt8.ofNat (64+x.natAbs)else UInt8.ofNat (96+x.natAbs)
def wl(w:List Int):List UInt8:=match w with
 | []=>[49]
 |x::r=>(x::r).map chL
def b03(a:UInt8):List (List UInt8)->List UInt8
 | []=>[]
 |x::r=>a::x++b03 a r
def m03(a:UInt8):List (List UInt8)->List UInt8
 | []=>[]
 |x::r=>x++b03 a r
def bsz:List (List UInt8)->Nat
 | []=>0
 |x::r=>x.length+1+bsz r
theorem B0g:∀ xs:List (List UInt8),xs.length<=bsz xs
 | []=>by simp
 |w::r=>by have:=B0g r;simp only[bsz,List.length_cons];omega
theorem R05(b:UInt8)(xs:List (List UInt8))(g:bsz xs<=140737488355328):∀(d k fuel:Nat) (acc:List UInt8),k+d=xs.length->d<fuel->acc.length+bsz (xs.drop k)<=140737488355328 ->
  s8 (xs.map B) (B [b]) fuel (B acc) (k:Int)=some (B (acc++b03 b (xs.drop k)))
 |d,k,0,acc,e,hf,a=>by omega
 |0,k,fuel+1,acc,e,hf,a=>by
  rw[s8.eq_2,if_neg (by simp;omega),H1 (by omega)]
  simp[b03]
 |d+1,k,fuel+1,acc,e,hf,a=>by
  have f:k<xs.length:=by omega
  have c:=a5 f
  have h:=B0g xs
  generalize xs[k]=x at c
  rw[J1 c]at a ⊢
  simp only[bsz]at a
  have next:=R05 b xs g d (k+1) fuel (acc ++ [b]++x) (by omega) (by omega) (by simp only[List.length_append,List.length_singleton];omega)
  rw[s8.eq_2,if_pos (by simp;omega),U1 (x:=B x) (by rw[List.getElem?_map,c];rfl),oB,B0 (by rw[J00,J00];simp only[List.length_singleton];omega),oB,H0i,
   B0 (by rw[J00,J00];simp only[List.length_append,List.length_singleton];omega),oB,H0i,V1 f (by omega:xs.length<=9223372036854775807),next]
  simp[b03]
def V0b(a:UInt8)(e:ByteArray):List (List UInt8)->ByteArray
 | []=>e
 |x::r=>B (m03 a (x::r))
theorem j0l(a:UInt8)(e:ByteArray)(xs:List (List UInt8))(c:bsz xs<=140737488355328):o01 (xs.map B) (B [a]) e=some (V0b a e xs):=by
 unfold o01
 cases xs with
 |nil=>rfl
 |cons x r =>
  simp only[bsz]at c
  have d:=B0g r
  have h:=R05 a r (by omega) r.length 0 P0 x (by omega) (j1 (by omega)) (by rw[List.drop_zero];omega)
  rw[show((0:Nat):Int)=0 from rfl,List.drop_zero]at h
  rw[if_neg (by simp;omega),p0a (x:=B x) rfl,oB,x02,if_pos (by simp;omega),oB]
  have b:(List.drop (1:Int).toNat (List.take ((((x::r).map B).length:Nat):Int).toNat ((x::r).map B)))=r.map B:=by
   rw[Int.toNat_natCast,List.take_length];rfl
  rw[b,h]
  rfl
theorem o0m(n:Int):(F0i n).size<=21:=by
 unfold F0i
 have:=J0c 20 n.natAbs []
 simp only[List.length_nil]at this
 split
 ·show 1<=_;omega
 ·split
  ·rw[J00];simp only[List.length_cons];omega
  ·rw[J00];omega
def fI(n:Int):List UInt8:=if n=0 then [48]else if n<0 then 45::C07 20 n.natAbs []else C07 20 n.natAbs []
theorem O06(n:Int):F0i n=B (fI n):=by
 unfold F0i fI
 split
 ·rfl
 ·split<;>rfl
theorem M05(n:Int):(fI n).length<=21:=by
 have:=o0m n
 rw[O06,J00]at this
 exact this
theorem B0q(n:Int):(fI n).isEmpty=false:=by
 unfold fI
 split
 ·rfl
 ·split
  ·rfl
  ·rw[x07]
   have:0<(N06 20 n.natAbs).length:=by simp only[N06];rw[if_neg (by omega)];simp
   cases h:((N06 20 n.natAbs).reverse.map (λx=>UInt8.ofNat x.toNat) ++ [])with
   |nil =>
    have a:=congrArg List.length h
    simp only[List.append_nil,List.length_map,List.length_reverse,List.length_nil]at a
    omega
   |cons x r=>rfl
def C0g(w:List Int):Prop:=∀ x∈w,J0 x
def C0q:ByteArray:=⟨#[110,111,110,101]⟩
def y07(a:List Int):ByteArray:=V0b 32 C0q (a.map fI)
def G0d:List Int->List UInt8
 | []=>[110,111,110,101]
 |k::r=>m03 32 ((k::r).map fI)
theorem P06(a:List Int):y07 a=B (G0d a):=by cases a<;>rfl
theorem Q0j:∀ a:List Int,bsz (a.map fI)<=22*a.length
 | []=>by simp[bsz]
 |k::r=>by
  have:=Q0j r
  have:=M05 k
  simp only[List.map_cons,bsz,List.length_cons]
  omega
theorem H0d:∀ xs:List (List UInt8),(b03 32 xs).length=bsz xs
 | []=>rfl
 |x::r=>by
  have:=H0d r
  simp only[b03,bsz,List.length_cons,List.length_append]
  omega
theorem I0d(a:List Int):(G0d a).length<=4+22*a.length:=by
 cases a with
 |nil=>simp[G0d]
 |cons k r =>
  have b:=H0d (r.map fI)
  have c:=Q0j r
  have d:=M05 k
  simp only[G0d,List.map_cons,m03,List.length_append,List.length_cons]
  omega
theorem W0o(a:List Int):(G0d a).isEmpty=false:=by
 cases a with
 |nil=>rfl
 |cons k r =>
  have:=B0q k
  simp only[G0d,List.map_cons,m03]
  cases h:fI k with
  |nil=>rw[h]at this;cases this
  |cons x t=>rfl
theorem g02(a:List Int)(c:C0g a)(i:a.length<=1073741824):∀(d k fuel:Nat) (acc:List UInt8),k+d=a.length->d<fuel->0<k->acc.length<=22*k ->
  I2 a fuel (B acc) (k:Int)=some (B (acc++b03 32 ((a.drop k).map fI)))
 |d,k,0,acc,f,hf,h0,e=>by omega
 |0,k,fuel+1,acc,f,hf,h0,e=>by
  rw[I2.eq_2,if_neg (by simp;omega),H1 (by omega)]
  simp[b03]
 |d+1,k,fuel+1,acc,f,hf,h0,e=>by
  have g:k<a.length:=by omega
  have b:=a5 g
  have h:=c _ (List.mem_of_getElem? b)
  generalize a[k]=x at b h
  have j:=M05 x
  have next:=g02 a c i d (k+1) fuel (acc ++ [32]++fI x) (by omega) (by omega) (by omega) (by simp only[List.length_append,List.length_singleton];omega)
  rw[J1 b,I2.eq_2,if_pos (by simp;omega),if_pos (by simp;omega)]
  simp only[K01 x h,O06,show(⟨#[32]⟩:ByteArray)=B [32] from rfl,H0i,oB,J00,U1 b]
  rw[B0 (by simp only[List.length_singleton];omega),oB,B0 (by omega),oB,B0 (by simp only[List.length_append,List.length_singleton];omega),oB,
   V1 g (by omega:a.length<=9223372036854775807),next]
  simp[b03]
theorem D07(a:List Int)(b:C0g a)(c:a.length<=1073741824):t8 a=some (y07 a):=by
 unfold t8
 cases a with
 |nil=>rw[show P0=(P0-1)+1 from rfl,I2.eq_2,if_neg (by simp),oB,if_pos (L0e.2 rfl)];rfl
 |cons x r =>
  have d:=b x mS
  have e:=M05 x
  have next:=g02 (x::r) b c r.length 1 (P0-1) (fI x) (by simp only[List.length_cons];omega) (by simp only[List.length_cons]at c;unfold P0;omega) (by omega) (by omega)
  rw[show P0=(P0-1)+1 from rfl,I2.eq_2,if_pos (by simp),if_neg (by simp),p0a (x:=x) rfl]
  simp only[K01 x d,O06,show(⟨#[]⟩:ByteArray)=B [] from rfl,H0i,oB,J00,List.nil_append]
  rw[B0 (by omega),oB,B0 (by simp only[List.length_nil];omega),oB,show IntKind.i64.wrap (0+1)=((1:Nat):Int) by decide,next,oB,show(B []:ByteArray)=⟨#[]⟩ from rfl,k0o]
  have:=W0o (x::r)
  simp only[G0d,List.map_cons,m03]at this
  simp only[List.drop_succ_cons,List.drop_zero]
  rw[this]
  rfl
theorem h02(a:List Int)(c:C0g a)(i:a.length<=1073741824):∀(d k fuel:Nat) (acc:List ByteArray),k+d=a.length->d<fuel->acc.length=k ->
  G4 a fuel (k:Int) acc=some (acc++(a.drop k).map λx=>B (fI x))
 |d,k,0,acc,f,hf,e=>by omega
 |0,k,fuel+1,acc,f,hf,e=>by
  rw[G4.eq_2,if_neg (by simp;omega),H1 (by omega)]
  simp
 |d+1,k,fuel+1,acc,f,hf,e=>by
  have g:k<a.length:=by omega
  have b:=a5 g
  have h:=c _ (List.mem_of_getElem? b)
  generalize a[k]=x at b h
  have j:=M05 x
  have next:=h02 a c i d (k+1) fuel (acc ++ [B (fI x)]) (by omega) (by omega) (by simp only[List.length_append,List.length_singleton];omega)
  rw[J1 b,G4.eq_2,if_pos (by simp;omega),U1 b,oB,e03 x h,oB,O06,
   B0 (by rw[J00];omega),oB,B0 (by simp only[List.length_singleton];omega),oB,V1 g (by omega:a.length<=9223372036854775807),next]
  simp
theorem E07(a:List Int)(b:C0g a)(c:a.length<=1073741824):w8 a=some (y07 a):=by
 unfold w8
 have h:=h02 a b c a.length 0 P0 [] (by omega) (j1 (by omega)) rfl
 have d:=Q0j a
 rw[show((0:Nat):Int)=0 from rfl,List.drop_zero,List.nil_append]at h
 rw[h,oB,show(a.map λw=>B (fI w))=(a.map fI).map B by simp,show(⟨#[32]⟩:ByteArray)=B [32] from rfl,j0l 32 _ _ (by omega),oB,
  show V0b 32 ⟨#[110,111,110,101]⟩ (a.map fI)=y07 a from rfl,P06,B0 (by have:=I0d a;rw[J00];omega)]
 rfl
theorem R0j(xs:List (List UInt8))(b:xs≠[])(a:bsz xs<=1000000000):p00 (xs.map B)=some (B (m03 32 xs)):=by
 unfold p00
 rw[show(⟨#[32]⟩:ByteArray)=B [32] from rfl,j0l 32 _ xs (by omega),oB]
 cases xs with
 |nil=>exact absurd rfl b
 |cons x r =>
  have c:=H0d r
  simp only[bsz]at a
  rw[show ∀ e,V0b 32 e (x::r)=B (m03 32 (x::r)) from λe=>rfl,B0 (by rw[J00];simp only[m03,List.length_append];omega)]
  rfl
theorem W0b{g:j0}{w:List Int}(h:(C00 g w).2=true):L02 (C00 g w).1=true:=by
 unfold C00 at h ⊢
 cases c:(L3 g&&(Q2 g.1 w && !U00 g w))with
 |false=>rw[c]at h;cases h
 |true =>
  rw[c]at h
  simp only[cond_true]at h ⊢
  cases c1:(F00 g w).2 with
  |false=>rw[c1]at h;cases h
  |true =>
   rw[c1]at h
   simp only[cond_true]at h ⊢
   cases c2:(T01 (F00 g w).1).2 with
   |false=>rw[c2]at h;cases h
   |true =>
    obtain⟨_,a,b,d⟩:=y0g c2
    rw[d]
    have:=W0n a b
    unfold I06 at this
    simp only[cond_true]
    unfold u07
    rw[s0g (M06 a b)]
    exact this
def byT(S:j0×Bool):List UInt8:=bif S.2 then [111,117,116,32,98,121,32,105,110,100,101,120,32]++fI S.1.2.1 else [111,117,116]
def pwT(n:Int)(s:List UInt8):List UInt8:=if n>0 then s ++ [32,112,111,119,101,114,32]++fI n else s
def p01(g:j0)(w:List Int):ByteArray :=
 bif L3 g&&Q2 g.1 w then(bif(x08 g w).2 then B ([105,110,32,97,115,32]++G0d (x08 g w).1)else B (pwT (j03 g w) (byT (C00 g w))))else B []
theorem bs3:(⟨#[111,117,116]⟩:ByteArray)=B [111,117,116]:=rfl
theorem H0a(g:j0)(v:g.2.2.length<=1099511627776)(w:List Int)(q:w.length<=140737488355328):B8 g w=some (p01 g w):=by
 have e:=K06 g (by omega)
 have d:=r03 g.1 w q
 have k:=k0m g v w q
 unfold p01
 cases hc:L3 g with
 |false =>
  rw[hc]at e
  obtain⟨a,b,c⟩:=g
  unfold B8
  simp only[e,oB,Bool.not_false,Bool.not_true,J2,cond_true,if_true,Bool.false_and,cond_false]
 |true =>
  rw[hc]at e
  cases hwd:Q2 g.1 w with
  |false =>
   rw[hwd]at d
   obtain⟨a,b,c⟩:=g
   simp only at d
   unfold B8
   simp only[e,oB,Bool.not_false,Bool.not_true,L1,d,cond_false,if_true,Bool.true_and]
  |true =>
   rw[hwd]at d
   have hf:=Q5 hc
   obtain⟨F,G,H,I⟩:=W0 hf
   obtain⟨wl,J⟩:=t00 hwd
   have t:=Z0n hc hwd
   obtain⟨A,C⟩:=E0i hf w
   have m:=m0m hc hwd
   have E:=g0o (g:=g) ⟨by omega,by omega⟩ w
   have f:=D07 (x08 g w).1 C (by omega)
   rw[P06]at f
   have u:=I0d (x08 g w).1
   have p:(C00 g w).2=true->1<=(C00 g w).1.2.1/\(C00 g w).1.2.1<=40:=λh=>(W0 (Q5 (v0d (W0b h)))).2.2.1
   have i:=K01 (j03 g w) ⟨by omega,by omega⟩
   have D:=M05 (j03 g w)
   have f2:=M05 (C00 g w).1.2.1
   have s:(C00 g w).2=true->_:=λh=>K01 (C00 g w).1.2.1 ⟨by have:=p h;omega,by have:=p h;omega⟩
   have o:J0 (j03 g w):=⟨by omega,by omega⟩
   generalize x08 g w=R at *
   obtain⟨l,ok⟩:=R
   obtain⟨a,b,c⟩:=g
   simp only at d f u A
   unfold B8
   simp only[e,oB,Bool.not_true,Bool.not_false,L1,d,cond_false,Bool.false_eq_true,if_false,t,Bool.true_and,cond_true]
   cases ok with
   |true =>
    simp only[if_true,f,oB,show(⟨#[105,110,32,97,115,32]⟩:ByteArray)=B [105,110,32,97,115,32] from rfl,H0i,J00,List.length_cons,List.length_nil,cond_true]
    rw[B0 (by omega),oB,B0 (by omega),oB]
   |false =>
    generalize C00 (a,b,c) w=S at *
    generalize j03 (a,b,c) w=n at *
    obtain⟨⟨x,y,z⟩,ok⟩:=S
    unfold byT pwT
    cases ok with
    |true =>
     have j:=s rfl
     simp only at j f2
     simp only[Bool.false_eq_true,if_false,k,oB,if_true,bs3,show(⟨#[32,98,121,32,105,110,100,101,120,32]⟩:ByteArray)=B [32,98,121,32,105,110,100,101,120,32] from rfl,show(⟨#[32,112,111,119,101,114,32]⟩:ByteArray)=B [32,112,111,119,101,114,32] from rfl,H0i,J00,j,O06,m,i,List.length_append,List.length_cons,List.length_nil,cond_true,cond_false]
     rw[B0 (by omega),oB,B0 (by omega),oB,B0 (by omega),oB,B0 o,oB]
     by_cases c:n>0
     ·rw[if_pos (by simpa using c),if_pos c,B0 (by omega),oB,B0 (by omega),oB,B0 (by omega),oB]
      simp only[List.append_assoc,List.cons_append,List.nil_append]
     ·rw[if_neg (by simpa using c),if_neg c]
      simp only[List.append_assoc,List.cons_append,List.nil_append]
    |false =>
     simp only[Bool.false_eq_true,if_false,k,oB,bs3,show(⟨#[32,112,111,119,101,114,32]⟩:ByteArray)=B [32,112,111,119,101,114,32] from rfl,H0i,J00,O06,m,i,List.length_append,List.length_cons,List.length_nil,cond_false]
     rw[B0 o,oB]
     by_cases c:n>0
     ·rw[if_pos (by simpa using c),if_pos c,B0 (by omega),oB,B0 (by omega),oB,B0 (by omega),oB]
     ·rw[if_neg (by simpa using c),if_neg c]
theorem I0a(g:j0)(G:g.2.2.length<=1099511627776)(w:List Int)(v:w.length<=140737488355328):C8 g w=some (p01 g w):=by
 have f:=r02 g (by omega)
 have e:=s03 g.1 w v
 have p:=l0m g G w v
 unfold p01
 cases hc:L3 g with
 |false =>
  rw[hc]at f
  obtain⟨a,b,c⟩:=g
  unfold C8
  simp only[f,oB,Bool.not_false,Bool.not_true,J2,cond_true,if_true,Bool.false_and,cond_false]
 |true =>
  rw[hc]at f
  cases hwd:Q2 g.1 w with
  |false =>
   rw[hwd]at e
   obtain⟨a,b,c⟩:=g
   simp only at e
   unfold C8
   simp only[f,oB,Bool.not_false,Bool.not_true,L1,e,cond_false,if_true,Bool.true_and]
  |true =>
   rw[hwd]at e
   have hf:=Q5 hc
   obtain⟨O,P,Q,T⟩:=W0 hf
   obtain⟨wl,U⟩:=t00 hwd
   have D:=a0o hc hwd
   obtain⟨J,K⟩:=E0i hf w
   have q:=n0m hc hwd
   have M:=g0o (g:=g) ⟨by omega,by omega⟩ w
   have i:=E07 (x08 g w).1 K (by omega)
   rw[P06]at i
   have E:=I0d (x08 g w).1
   have k:(C00 g w).2=true->1<=(C00 g w).1.2.1/\(C00 g w).1.2.1<=40:=λh=>(W0 (Q5 (v0d (W0b h)))).2.2.1
   have F:(C00 g w).2=true->c00 (C00 g w).1=some (C00 g w).1.2.1:=λh=>by
    rw[e0e _ (by have:=(W0 (Q5 (v0d (W0b h)))).2.2.2;omega)]
    unfold D0a
    rw[W0b h];rfl
   have m:=e03 (j03 g w) ⟨by omega,by omega⟩
   have L:=M05 (j03 g w)
   have f2:=M05 (C00 g w).1.2.1
   have C:(C00 g w).2=true->_:=λh=>e03 (C00 g w).1.2.1 ⟨by have:=k h;omega,by have:=k h;omega⟩
   have s:J0 (j03 g w):=⟨by omega,by omega⟩
   generalize x08 g w=R at *
   obtain⟨l,ok⟩:=R
   obtain⟨a,b,c⟩:=g
   simp only at e i E J
   unfold C8
   simp only[f,oB,Bool.not_true,Bool.not_false,L1,e,cond_false,Bool.false_eq_true,if_false,D,Bool.true_and,cond_true]
   cases ok with
   |true =>
    have H:=R0j [[105,110,32,97,115],G0d l] (by simp) (by simp only[bsz,List.length_cons,List.length_nil];omega)
    simp only[if_true,i,oB,J00]
    rw[B0 (by omega),oB,show [(⟨#[105,110,32,97,115]⟩:ByteArray),B (G0d l)] = [[105,110,32,97,115],G0d l].map B from rfl,H,oB,B0 (by rw[J00];simp only[m03,b03,List.length_append,List.length_cons,List.length_nil];omega),oB]
    simp[m03,b03]
   |false =>
    generalize C00 (a,b,c) w=S at *
    generalize j03 (a,b,c) w=n at *
    obtain⟨⟨x,y,z⟩,ok⟩:=S
    unfold byT pwT
    have u:=λ(d:List UInt8) (N:d.length<=1000)=>R0j [d,[112,111,119,101,114],fI n] (by simp) (by simp only[bsz,List.length_cons,List.length_nil];omega)
    cases ok with
    |true =>
     have o:=C rfl
     have A:=F rfl
     have I:=k rfl
     simp only at o f2 A I
     have t:=R0j [[111,117,116],[98,121,32,105,110,100,101,120],fI y] (by simp) (by simp only[bsz,List.length_cons,List.length_nil];omega)
     have j:=u ([111,117,116,32,98,121,32,105,110,100,101,120,32]++fI y) (by simp only[List.length_append,List.length_cons,List.length_nil];omega)
     rw[show m03 32 [[111,117,116],[98,121,32,105,110,100,101,120],fI y] = [111,117,116,32,98,121,32,105,110,100,101,120,32]++fI y by simp[m03,b03]]at t
     simp only[Bool.false_eq_true,if_false,p,oB,if_true,A,o,O06,J00,q,m,cond_true,cond_false]
     rw[B0 (show J0 y from⟨by omega,by omega⟩),oB,B0 (by omega),oB,bs3,show [B [111,117,116],(⟨#[98,121,32,105,110,100,101,120]⟩:ByteArray),B (fI y)] = [[111,117,116],[98,121,32,105,110,100,101,120],fI y].map B from rfl,t,oB,B0 (by rw[J00];simp only[List.length_append,List.length_cons,List.length_nil];omega),oB,B0 s,oB]
     by_cases c:n>0
     ·rw[if_pos (by simpa using c),if_pos c,B0 (by omega),oB,show ∀ d,[B d,(⟨#[112,111,119,101,114]⟩:ByteArray),B (fI n)] = [d,[112,111,119,101,114],fI n].map B from λd=>rfl,j,oB,B0 (by rw[J00];simp only[m03,b03,List.length_append,List.length_cons,List.length_nil];omega),oB]
      simp[m03,b03]
     ·rw[if_neg (by simpa using c),if_neg c]
    |false =>
     have j:=u [111,117,116] (by decide)
     simp only[Bool.false_eq_true,if_false,p,oB,bs3,J00,O06,q,m,cond_false]
     rw[B0 s,oB]
     by_cases c:n>0
     ·rw[if_pos (by simpa using c),if_pos c,B0 (by omega),oB,show ∀ d,[B d,(⟨#[112,111,119,101,114]⟩:ByteArray),B (fI n)] = [d,[112,111,119,101,114],fI n].map B from λd=>rfl,j,oB,B0 (by rw[J00];simp only[m03,b03,List.length_append,List.length_cons,List.length_nil];omega),oB]
      simp[m03,b03]
     ·rw[if_neg (by simpa using c),if_neg c]
end Go.Proofs.YtkjhghloldgioaaGreat
