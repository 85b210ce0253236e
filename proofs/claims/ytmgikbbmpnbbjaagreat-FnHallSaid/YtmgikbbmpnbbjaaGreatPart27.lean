/- Texts of the claim, joined: AreConjugateSubgroups, ConjugacyClasses: the plain law and others. -/
import Derived.Test.YtmgikbbmpnbbjaaGreatPart26
import Derived.Test.YtmgikbbmpnbbjaaGreatPart25
import Derived.Test.YtmgikbbmpnbbjaaGreatPart20
namespace Go.Proofs.YtmgikbbmpnbbjaaGreat
open Go.H
set_option linter.unusedVariables false
set_option linter.unusedSimpArgs false
theorem E0q(w a:List Int)(c:E9 w)(b:E9 a):E9 (L0a a w)/\(L0a a w).length<=a.length+w.length:=⟨Q0i w a b c,U08 w a⟩
theorem F0q{x y:l0}(a:L1 x=true){p q:List Int}(f:p.length<=40/\E9 p)(B:q.length<=40/\E9 q):∀(d v fuel:Nat),v+d=x.2.1.toNat->d<fuel ->
  ∃ r,U2 x.2.1 x.1 x.2.2 y.1 y.2.1 y.2.2 p q fuel (v:Int)=some r/\((∃ w,r = .inl (w,true))/\j06 x y d v=true∨r = .inr ()/\j06 x y d v=false)
 |d,v,0,b,hf=>by omega
 |0,v,fuel+1,b,hf=>by
  have c:=(H8 a).2.1
  rw[U2.eq_2,if_neg (by simp only[decide_eq_true_eq];omega)]
  exact⟨_,rfl,.inr ⟨rfl,rfl⟩⟩
 |d+1,v,fuel+1,b,hf=>by
  obtain⟨J,o,K⟩:=H8 a
  have e:=K5 a
  have g:0<=(v:Int)/\(v:Int)<x.2.1:=by omega
  have j:=Y07 e g
  have L:=H8 (f03 e g)
  have i:=R0c (Z5 x (v:Int)) y (by omega)
  have m:=i09 x (by omega) (v:Int)
  have h:=T0t e g
  have t:=o0l x 0 (v:Int)
  have N:(p9 x (v:Int)).length<=40:=t
  have u:=j05 p (p9 x (v:Int)) f.2 h (by omega)
  have l:=E0q (p++p9 x (v:Int)) [] (r07 f.2 h) (λz D=>nomatch D)
  simp only[List.length_append,List.length_nil]at l
  have s:=j07 q (by omega)
  have M:(inv q).length=q.length:=by simp[inv]
  have A:=j05 (L0a [] (p++p9 x (v:Int))).reverse (inv q) (Q0o l.1) (E0s q) (by rw[List.length_reverse];omega)
  obtain⟨r,k,C⟩:=F0q (y:=y) a f B d (v+1) fuel (by omega) (by omega)
  rw[U2.eq_2,if_pos (by simp only[decide_eq_true_eq];omega)]
  unfold j06
  obtain⟨E,n,F⟩:=x
  obtain⟨G,H,I⟩:=y
  simp only at k i m j o b
  simp only[j,i,oB]
  cases m07 (Z5 (E,n,F) (v:Int)) (G,H,I)
  ·rw[if_neg (by simp),show IntKind.i64.wrap ((v:Int)+1)=((v+1:Nat):Int) from A2 (show v<n.toNat by omega) (by omega),cond_false]
   exact⟨r,k,C⟩
  ·rw[if_pos rfl,m,oB,u,oB,s,oB,A,oB,cond_true]
   exact⟨_,rfl,.inl ⟨⟨_,rfl⟩,rfl⟩⟩
theorem G0q{x y:l0}(a:L1 x=true){p q:List Int}(s:p.length<=40/\E9 p)(t:q.length<=40/\E9 q):∀(d v fuel:Nat),v+d=x.2.1.toNat->d<fuel ->
  ∃ r,V2 x.2.1 x.1 x.2.2 y.1 y.2.1 y.2.2 q p fuel (v:Int)=some r/\((∃ w,r = .inl (w,true))/\j06 x y d v=true∨r = .inr ()/\j06 x y d v=false)
 |d,v,0,b,hf=>by omega
 |0,v,fuel+1,b,hf=>by
  have c:=(H8 a).2.1
  rw[V2.eq_2,if_neg (by simp only[decide_eq_true_eq];omega)]
  exact⟨_,rfl,.inr ⟨rfl,rfl⟩⟩
 |d+1,v,fuel+1,b,hf=>by
  obtain⟨E,l,F⟩:=H8 a
  have f:=K5 a
  have j:0<=(v:Int)/\(v:Int)<x.2.1:=by omega
  have g:=R0a f j
  have G:=H8 (f03 f j)
  have e:=Q0c (Z5 x (v:Int)) y (by omega)
  have i:=j09 x (by omega) (v:Int)
  have n:=o0l x 0 (v:Int)
  have I:(p9 x (v:Int)).length<=40:=n
  have m:=L0c q (by omega)
  have H:(inv q).length=q.length:=by simp[inv]
  have o:=L0g [p,p9 x (v:Int),inv q] (by simp) (by simp only[l0q];omega)
  obtain⟨r,h,u⟩:=G0q (y:=y) a s t d (v+1) fuel (by omega) (by omega)
  rw[V2.eq_2,if_pos (by simp only[decide_eq_true_eq];omega)]
  unfold j06
  obtain⟨z,k,A⟩:=x
  obtain⟨B,C,D⟩:=y
  simp only at h e i g l b
  simp only[g,e,oB]
  cases m07 (Z5 (z,k,A) (v:Int)) (B,C,D)
  ·rw[if_neg (by simp),show IntKind.i64.wrap ((v:Int)+1)=((v+1:Nat):Int) from A2 (show v<k.toNat by omega) (by omega),cond_false]
   exact⟨r,h,u⟩
  ·rw[if_pos rfl,i,oB,m,oB,o,oB,cond_true]
   exact⟨_,rfl,.inl ⟨⟨_,rfl⟩,rfl⟩⟩
theorem Z0o(a b:l0)(C:a.2.2.length<=140737488355328)(D:b.2.2.length<=140737488355328):∃ w,N2 a b=some (w,R01 a b):=by
 have c:=Y03 a C
 have d:=Y03 b D
 have z:=λh => @d0i a h
 have A:=λh => @d0i b h
 have B:=λh => @k0d a h
 unfold R01
 cases ca:L1 a
 ·refine⟨[],?_⟩
  rw[ca]at c
  obtain⟨k,l,m⟩:=a
  obtain⟨n,o,s⟩:=b
  unfold N2
  simp[c,C3]
 cases cb:L1 b
 ·refine⟨[],?_⟩
  rw[ca]at c;rw[cb]at d
  obtain⟨k,l,m⟩:=a
  obtain⟨n,o,s⟩:=b
  unfold N2
  simp[c,d,K1]
 by_cases cr:a.1=b.1
 ·obtain⟨g,u⟩:=z ca
  generalize y04 40 a=p at g u
  obtain⟨i,v⟩:=A cb
  generalize y04 40 b=q at i v
  have t:=(B ca).1
  obtain⟨r,f,j⟩:=G0q (y:=m04 b) t u v (m04 a).2.1.toNat 0 P0 (by omega) (F1 (by have:=H8 t;omega))
  rw[show((0:Nat):Int)=0 from rfl]at f
  rw[ca]at c;rw[cb]at d
  rw[decide_eq_true cr]
  generalize m04 a=x at g f j t
  generalize m04 b=y at i f j
  obtain⟨k,l,m⟩:=a
  obtain⟨n,o,s⟩:=b
  obtain⟨E,F,G⟩:=x
  obtain⟨H,I,J⟩:=y
  simp only at cr f j
  rcases j with⟨⟨w,rfl⟩,e⟩|⟨rfl,e⟩
  ·refine⟨w,?_⟩
   unfold N2
   simp only[c,d,K1,oB,Bool.not_true,Bool.not_false,cond_false,decide_eq_true cr,Bool.false_eq_true,if_false,g,i,f,Bool.and_self,cond_true,e]
   rfl
  ·refine⟨[],?_⟩
   unfold N2
   simp only[c,d,K1,oB,Bool.not_true,Bool.not_false,cond_false,decide_eq_true cr,Bool.false_eq_true,if_false,g,i,f,Bool.and_self,cond_true,e]
   rfl
 ·refine⟨[],?_⟩
  rw[ca]at c;rw[cb]at d
  rw[decide_eq_false cr]
  obtain⟨k,l,m⟩:=a
  obtain⟨n,o,s⟩:=b
  simp only at cr
  unfold N2
  simp[c,d,K1,cr]
theorem a0p(a b:l0)(O:a.2.2.length<=140737488355328)(P:b.2.2.length<=140737488355328):∃ w,j2 a b=some (w,R01 a b):=by
 have c:=U0a a O
 have d:=U0a b P
 have L:=λh => @c0i a h
 have M:=λh => @c0i b h
 have F:=λh => @k0d a h
 have N:=λh => @k0d b h
 unfold R01
 cases ca:L1 a
 ·refine⟨[],?_⟩
  rw[ca]at c
  obtain⟨u,v,z⟩:=a
  obtain⟨A,B,C⟩:=b
  unfold j2
  simp[c,C3]
 cases cb:L1 b
 ·refine⟨[],?_⟩
  rw[ca]at c;rw[cb]at d
  obtain⟨u,v,z⟩:=a
  obtain⟨A,B,C⟩:=b
  unfold j2
  simp[c,d,K1]
 by_cases cr:a.1=b.1
 ·obtain⟨m,G⟩:=L ca
  generalize y04 40 a=p at m G
  obtain⟨n,H⟩:=M cb
  generalize y04 40 b=q at n H
  have o:=(F ca).1
  have s:=b0i o (F ca).2 (N cb).2
  obtain⟨r,g,t⟩:=F0q (y:=m04 b) o G H (m04 a).2.1.toNat 0 P0 (by omega) (F1 (by have:=H8 o;omega))
  rw[show((0:Nat):Int)=0 from rfl]at g
  rw[ca]at c;rw[cb]at d
  rw[decide_eq_true cr]
  generalize m04 a=x at m g t o s
  generalize m04 b=y at n g t s
  obtain⟨u,v,z⟩:=a
  obtain⟨A,B,C⟩:=b
  obtain⟨I,f,i⟩:=x
  obtain⟨J,j,l⟩:=y
  simp only at cr g t s
  by_cases hs:f=j/\i.length=l.length
  ·have D:decide (f=j)=true:=decide_eq_true hs.1
   have E:decide (((i.length:Nat):Int)=((l.length:Nat):Int))=true:=decide_eq_true (by omega)
   rcases t with⟨⟨w,rfl⟩,e⟩|⟨rfl,e⟩
   ·refine⟨w,?_⟩
    unfold j2
    simp only[c,d,K1,oB,Bool.not_true,Bool.not_false,cond_false,decide_eq_true cr,Bool.false_eq_true,if_false,m,n,g,Bool.and_self,cond_true,e,D,E]
    rfl
   ·refine⟨[],?_⟩
    unfold j2
    simp only[c,d,K1,oB,Bool.not_true,Bool.not_false,cond_false,decide_eq_true cr,Bool.false_eq_true,if_false,m,n,g,Bool.and_self,cond_true,e,D,E]
    rfl
  ·refine⟨[],?_⟩
   have Q:j06 (I,f,i) (J,j,l) f.toNat 0=false:=by
    cases hh:j06 (I,f,i) (J,j,l) f.toNat 0
    ·rfl
    ·exact absurd (by have:=(s hh).1;exact⟨this.1.symm,this.2.symm⟩) hs
   have K:(bif !decide (f=j)then true else !decide (((i.length:Nat):Int)=((l.length:Nat):Int)))=true:=by
    by_cases q1:f=j
    ·rw[decide_eq_true q1,decide_eq_false (show ¬ ((i.length:Nat):Int)=((l.length:Nat):Int) from λk=>hs ⟨q1,by omega⟩)];rfl
    ·rw[decide_eq_false q1];rfl
   unfold j2
   simp only[c,d,K1,oB,Bool.not_true,Bool.not_false,cond_false,decide_eq_true cr,Bool.false_eq_true,if_false,m,n,Bool.and_self,cond_true,Q]
   rw[K];rfl
 ·refine⟨[],?_⟩
  rw[ca]at c;rw[cb]at d
  rw[decide_eq_false cr]
  obtain⟨u,v,z⟩:=a
  obtain⟨A,B,C⟩:=b
  simp only at cr
  unfold j2
  simp[c,d,K1,cr]
def W0b(l:List l0)(c:List Int):l0:=(l[(c.headD 0).toNat]?).getD (0,0,[])
def u07(l:List l0)(g:l0):List (List Int)->Bool
 | []=>false
 |c::r=>bif R01 g (W0b l c)then true else u07 l g r
def V04(l:List l0)(g:l0)(i:Int):List (List Int)->List (List Int)
 | []=>[]
 |c::r=>bif R01 g (W0b l c)then(c ++ [i])::r else c::V04 l g i r
def N0g(l:List l0):Nat->Nat->List (List Int)->List (List Int)
 |0,_,out=>out
 |d+1,k,out=>match l[k]? with
  |some g=>N0g l d (k+1) (bif u07 l g out then V04 l g (k:Int) out else out ++ [[(k:Int)]])
  |none=>out
def B05(l:List l0):List (List Int):=N0g l l.length 0 []
def okC(k:Nat)(c:List Int):Prop:=c.length<=k/\∃ j:Nat,j<k/\∃ r,c=(j:Int)::r
theorem okC.up{k:Nat}{c:List Int}(h:okC k c):okC (k+1) c:=by
 obtain⟨b,j,d,r,a⟩:=h
 exact⟨by omega,j,by omega,r,a⟩
theorem okC.app{k:Nat}{c:List Int}(h:okC k c)(i:Int):okC (k+1) (c ++ [i]):=by
 obtain⟨b,j,d,r,a⟩:=h
 exact⟨by simp;omega,j,by omega,r ++ [i],by rw[a];rfl⟩
theorem P0n{l:List l0}{g:l0}{i:Int}{k:Nat}:∀ {out:List (List Int)},(∀ c∈out,okC k c)->(∀ c∈V04 l g i out,okC (k+1) c)/\(V04 l g i out).length=out.length
 | [],h=>⟨λc b=>(nomatch b),rfl⟩
 |c::r,h=>by
  have b:=h c mS
  have e:=P0n (l:=l) (g:=g) (i:=i) (out:=r) λd a=>h d (mC _ a)
  unfold V04
  cases R01 g (W0b l c)
  ·rw[cond_false]
   refine⟨λd a=>?_,by simp[e.2]⟩
   rcases List.mem_cons.1 a with rfl|a
   ·exact b.up
   ·exact e.1 d a
  ·rw[cond_true]
   refine⟨λd a=>?_,by simp⟩
   rcases List.mem_cons.1 a with rfl|a
   ·exact b.app i
   ·exact(h d (mC _ a)).up
theorem Q0n{A B:List (List Int)}{c d:List Int}:(A++c::B).set A.length d=A++d::B:=by simp
theorem R0n{A B:List (List Int)}{c:List Int}:gi (A++c::B) (A.length:Int)=some c:=B3 (by simp)
theorem y0l{l:List l0}{j:Nat}{r:List Int}{h:l0}(a:l[j]?=some h):W0b l ((j:Int)::r)=h:=by
 unfold W0b
 rw[List.headD_cons,Int.toNat_natCast,a];rfl
theorem H0q(l:List l0)(b:n0g l){i:Nat}{g:l0}(a:l[i]?=some g):∀(B A:List (List Int)) (fuel:Nat),(∀ c∈B,okC i c)->A.length+B.length<=i->B.length+1<fuel ->
  T2 l (i:Int) fuel false (A.length:Int) (A++B)=some (u07 l g B,A++V04 l g (i:Int) B)
 |B,A,0,f,e,hf=>by omega
 | [],A,fuel+1,f,e,hf=>by
  have t:=b.1
  have D:=(List.getElem?_eq_some_iff.1 a).1
  rw[T2.eq_2]
  simp only[oB,List.append_nil]
  simp only[List.length_nil,Nat.add_zero]at e
  rw[J0 (by omega),oB,decide_eq_false (show ¬ ((A.length:Nat):Int)<((A.length:Nat):Int) by omega)]
  simp only[cond_false,Bool.false_eq_true,if_false]
  unfold u07 V04
  rw[List.append_nil]
 |c::B,A,fuel+1,f,e,hf=>by
  have t:=b.1
  have D:=(List.getElem?_eq_some_iff.1 a).1
  simp only[List.length_cons]at e hf
  obtain⟨G,j,H,r,rfl⟩:=f c mS
  obtain⟨h,k⟩:∃ h,l[j]?=some h:=⟨_,List.getElem?_eq_getElem (by omega)⟩
  have z:=b.2 g (List.mem_of_getElem? a)
  have C:=b.2 h (List.mem_of_getElem? k)
  obtain⟨w,F⟩:=a0p h g C z
  have m:(A++((j:Int)::r)::B).length=A.length+B.length+1:=by simp;omega
  have x:decide ((A.length:Int)<(((A++((j:Int)::r)::B).length:Nat):Int))=true:=decide_eq_true (by rw[m];omega)
  have o:=H0q l b a B (A ++ [(j:Int)::r]) fuel (λd y=>f d (mC _ y)) (by simp;omega) (by omega)
  rw[List.length_append,List.length_singleton,List.append_assoc,List.singleton_append]at o
  rw[T2.eq_2]
  simp only[oB]
  rw[J0 (by rw[m];omega),oB,x]
  simp only[cond_true,Bool.not_false,if_true]
  rw[R0n,oB,show gi ((j:Int)::r) 0=some (j:Int) from J0c rfl,oB,B3 k,oB]
  unfold u07 V04
  rw[y0l k,x0q g h]
  obtain⟨h0,u,v⟩:=h
  obtain⟨p,q,s⟩:=g
  simp only[B3 a,oB,F]
  have n:IntKind.i64.wrap ((A.length:Int)+1)=((A.length+1:Nat):Int):=A2 (show A.length<A.length+1 by omega) (by omega)
  cases R01 (h0,u,v) (p,q,s)
  ·rw[if_neg (by simp),n,cond_false,cond_false,o,List.append_assoc,List.singleton_append]
  ·simp only[List.length_cons]at G
   rw[if_pos rfl,J0 (by simp),oB,J0 (by simp only[List.length_cons,List.length_nil];omega),oB,n,cond_true,cond_true,Int.toNat_natCast,Q0n]
   obtain _|fuel:=fuel
   ·omega
   ·rw[T2.eq_2]
    simp only[oB]
    have E:(A++((j:Int)::r ++ [(i:Int)])::B).length=A.length+B.length+1:=by simp;omega
    rw[J0 (by rw[E];omega),oB,if_neg (by cases decide (((A.length+1:Nat):Int)<(((A++((j:Int)::r ++ [(i:Int)])::B).length:Nat):Int))<;>simp)]
theorem I0q(l:List l0)(b:n0g l){i:Nat}{g:l0}(f:l[i]?=some g):∀(B A:List (List Int)) (fuel:Nat),(∀ c∈B,okC i c)->A.length+B.length<=i->B.length+1<fuel ->
  d4 (A.length+B.length) l g.1 g.2.1 g.2.2 (i:Int) fuel false (A.length:Int) (A++B)=some (u07 l g B,A++V04 l g (i:Int) B)
 |B,A,0,a,e,hf=>by omega
 | [],A,fuel+1,a,e,hf=>by
  rw[d4.eq_2,if_neg (by simp)]
  unfold u07 V04
  rfl
 |c::B,A,fuel+1,a,e,hf=>by
  have C:=b.1
  have D:=(List.getElem?_eq_some_iff.1 f).1
  simp only[List.length_cons]at e hf
  obtain⟨z,j,E,r,rfl⟩:=a c mS
  obtain⟨h,k⟩:∃ h,l[j]?=some h:=⟨_,List.getElem?_eq_getElem (by omega)⟩
  have u:=b.2 g (List.mem_of_getElem? f)
  have v:=b.2 h (List.mem_of_getElem? k)
  obtain⟨w,x⟩:=Z0o g h u v
  have m:=I0q l b f B (A ++ [(j:Int)::r]) fuel (λd t=>a d (mC _ t)) (by simp;omega) (by omega)
  rw[List.length_append,List.length_singleton,List.append_assoc,List.singleton_append]at m
  rw[d4.eq_2,if_pos (by simp only[List.length_cons,decide_eq_true_eq];omega),R0n,oB,show gi ((j:Int)::r) 0=some (j:Int) from J0c rfl,oB,B3 k,oB]
  unfold u07 V04
  rw[y0l k]
  obtain⟨h0,q,s⟩:=h
  obtain⟨n,o,p⟩:=g
  simp only at m ⊢
  simp only[oB,x]
  have y:IntKind.i64.wrap ((A.length:Int)+1)=((A.length+1:Nat):Int):=A2 (show A.length<A.length+1 by omega) (by omega)
  cases R01 (n,o,p) (h0,q,s)
  ·rw[if_neg (by simp),y,cond_false,cond_false,List.length_cons,show A.length+(B.length+1)=A.length+1+B.length by omega,m,List.append_assoc,List.singleton_append]
  ·simp only[List.length_cons]at z
   rw[if_pos rfl,J0 (by simp),oB,J0 (by simp only[List.length_cons,List.length_nil];omega),oB,cond_true,cond_true,Int.toNat_natCast,Q0n]
theorem g0s{l:List l0}{g:l0}{k:Nat}{out:List (List Int)}(h:∀ c∈out,okC k c)(b:out.length<=k):
  (∀ c∈(bif u07 l g out then V04 l g (k:Int) out else out ++ [[(k:Int)]]),okC (k+1) c)/\(bif u07 l g out then V04 l g (k:Int) out else out ++ [[(k:Int)]]).length<=k+1:=by
 cases u07 l g out
 ·rw[cond_false]
  refine⟨λc a=>?_,by simp;omega⟩
  rcases List.mem_append.1 a with a|a
  ·exact(h c a).up
  ·rw[List.mem_singleton.1 a]
   exact⟨by simp,k,by omega,[],rfl⟩
 ·rw[cond_true]
  have:=P0n (l:=l) (g:=g) (i:=(k:Int)) h
  exact⟨this.1,by omega⟩
theorem J0q(l:List l0)(i:n0g l):∀(d k fuel:Nat) (out:List (List Int)),k+d=l.length->d<fuel->(∀ c∈out,okC k c)->out.length<=k ->
  J3 l fuel (k:Int) out=some (N0g l d k out)
 |d,k,0,out,j,hf,e,h=>by omega
 |0,k,fuel+1,out,j,hf,e,h=>by
  rw[J3.eq_2,if_neg (by simp only[decide_eq_true_eq];omega)];rfl
 |d+1,k,fuel+1,out,j,hf,e,h=>by
  have q:=i.1
  have m:k<l.length:=by omega
  have f:=a7 m
  generalize l[k]=g at f
  have n:=g0s (l:=l) (g:=g) e h
  have h0:=H0q l i f out [] P0 e (by simp;omega) (F1 (by omega))
  rw[List.length_nil,List.nil_append,List.nil_append,show((0:Nat):Int)=0 from rfl]at h0
  have a:=J0q l i d (k+1) fuel _ (by omega) (by omega) n.1 n.2
  rw[J3.eq_2,if_pos (by simp only[decide_eq_true_eq];omega),h0,oB]
  unfold N0g
  rw[f,A2 m (by omega)]
  simp only
  cases ha:u07 l g out
  ·rw[ha,cond_false]at a
   rw[cond_false]
   have p:V04 l g (k:Int) out=out:=by
    have:∀ o:List (List Int),u07 l g o=false->V04 l g (k:Int) o=o:=λo=>by
     induction o with
     |nil=>intro _;rfl
     |cons c r a =>
      intro b
      unfold u07 at b
      unfold V04
      cases hc:R01 g (W0b l c)
      ·rw[hc,cond_false]at b
       rw[cond_false,a b]
      ·rw[hc]at b;cases b
    exact this out ha
   rw[p]
   simp only[Bool.not_false,if_true]
   rw[J0 (by simp only[List.length_singleton];omega),oB,a]
  ·rw[ha,cond_true]at a
   rw[cond_true]
   simp only[Bool.not_true,Bool.false_eq_true,if_false]
   exact a
theorem K0q(l:List l0)(n:n0g l):∀(d k fuel:Nat) (out:List (List Int)),k+d=l.length->d<fuel->(∀ c∈out,okC k c)->out.length<=k ->
  K3 l fuel (k:Int) out=some (N0g l d k out)
 |d,k,0,out,p,hf,j,m=>by omega
 |0,k,fuel+1,out,p,hf,j,m=>by
  rw[K3.eq_2,if_neg (by simp only[decide_eq_true_eq];omega)];rfl
 |d+1,k,fuel+1,out,p,hf,j,m=>by
  have u:=n.1
  have q:k<l.length:=by omega
  have i:=a7 q
  generalize l[k]=g at i
  have s:=g0s (l:=l) (g:=g) j m
  have h0:=I0q l n i out [] P0 j (by simp;omega) (F1 (by omega))
  rw[List.length_nil,List.nil_append,List.nil_append,show((0:Nat):Int)=0 from rfl,Nat.zero_add]at h0
  have a:=K0q l n d (k+1) fuel _ (by omega) (by omega) s.1 s.2
  rw[K3.eq_2,if_pos (by simp only[decide_eq_true_eq];omega),B3 i,oB]
  unfold N0g
  rw[i,A2 q (by omega)]
  obtain⟨b,e,f⟩:=g
  simp only at h0 ⊢
  rw[oB,J0 (by omega),oB,h0,oB]
  simp only
  cases ha:u07 l (b,e,f) out
  ·rw[ha,cond_false]at a
   rw[cond_false]
   have t:V04 l (b,e,f) (k:Int) out=out:=by
    have:∀ o:List (List Int),u07 l (b,e,f) o=false->V04 l (b,e,f) (k:Int) o=o:=λo=>by
     induction o with
     |nil=>intro _;rfl
     |cons c r a =>
      intro h
      unfold u07 at h
      unfold V04
      cases hc:R01 (b,e,f) (W0b l c)
      ·rw[hc,cond_false]at h
       rw[cond_false,a h]
      ·rw[hc]at h;cases h
    exact this out ha
   rw[t]
   simp only[Bool.not_false,if_true]
   rw[J0 (by simp only[List.length_singleton];omega),oB,a]
  ·rw[ha,cond_true]at a
   rw[cond_true]
   simp only[Bool.not_true,Bool.false_eq_true,if_false]
   exact a
theorem O0g(l:List l0)(a:n0g l):p8 l=some (B05 l):=by
 have h:=J0q l a l.length 0 P0 [] (by omega) (F1 (by have:=a.1;omega)) (λc b=>nomatch b) (Nat.le_refl _)
 rw[show((0:Nat):Int)=0 from rfl]at h
 unfold p8
 rw[h];rfl
theorem P0g(l:List l0)(a:n0g l):F4 l=some (B05 l):=by
 have h:=K0q l a l.length 0 P0 [] (by omega) (F1 (by have:=a.1;omega)) (λc b=>nomatch b) (Nat.le_refl _)
 rw[show((0:Nat):Int)=0 from rfl]at h
 unfold F4
 rw[h];rfl
theorem z0l{l:List l0}{g:l0}{i:Int}:∀ out:List (List Int),R07 List.length (V04 l g i out)<=R07 List.length out+1
 | []=>by simp[V04,R07]
 |c::r=>by
  have:=z0l (l:=l) (g:=g) (i:=i) r
  unfold V04
  cases R01 g (W0b l c)
  ·simp only[cond_false,R07];omega
  ·simp only[cond_true,R07,List.length_append,List.length_singleton];omega
theorem S0n:∀ a b:List (List Int),R07 List.length (a++b)=R07 List.length a+R07 List.length b
 | [],b=>by simp[R07]
 |c::a,b=>by simp only[List.cons_append,R07,S0n a b];omega
theorem T0n(l:List l0):∀(d k:Nat) (out:List (List Int)),R07 List.length (N0g l d k out)<=R07 List.length out+d
 |0,k,out=>Nat.le_refl _
 |d+1,k,out=>by
  unfold N0g
  cases l[k]? with
  |none=>simp only;omega
  |some g =>
   simp only
   have a:=T0n l d (k+1) (bif u07 l g out then V04 l g (k:Int) out else out ++ [[(k:Int)]])
   refine Nat.le_trans a ?_
   cases u07 l g out
   ·rw[cond_false,S0n];simp[R07];omega
   ·rw[cond_true];have:=z0l (l:=l) (g:=g) (i:=(k:Int)) out;omega
def F0m(r n:Int):Bool:=match V3 r n with
 |some (L,b)=>(bif b then decide (z9 r n=some ((L.length:Nat):Int))else true)&&(decide (L.length<=1000)&&match F4 L with
  |some C=>decide (B02 L L=some true)&&(decide (X00 C L P0 0 0=some (.inr ((L.length:Nat):Int)))&&decide (W00 L n P0 0=some (.inr ())))
  |none=>false)
 |none=>false
theorem L0q:∀ r∈([0,1,2,3,4]:List Int),∀ n∈([0,1,2,3,4]:List Int),F0m r n=true:=by decide +kernel
def a0t(r n:Int):Bool:=match z9 r n,S01 r n with
 |some a,some b=>decide (a=b)&&decide (I0 a)
 |_,_=>false
theorem b0t:∀ r∈([-1,0,1,2,3,4]:List Int),∀ n∈([-1,0,1,2,3,4,5,6,7,8]:List Int),a0t r n=true:=by decide +kernel
def c0t(n:Int):Bool:=match w9 n,S7 n with
 |some a,some b=>decide (a=b)&&decide (I0 a)
 |_,_=>false
theorem d0t:∀ n∈([-1,0,1,2,3,4,5,6,7,8,9,10,11,12,13]:List Int),c0t n=true:=by decide +kernel
theorem U0n(l:List Int)(c:l.length<=2000000):∀(d k fuel:Nat),k+d=l.length->d<fuel->F7 l l fuel (k:Int)=some (.inr ())
 |d,k,0,a,hf=>by omega
 |0,k,fuel+1,a,hf=>by rw[F7.eq_2,if_neg (by simp only[decide_eq_true_eq];omega)]
 |d+1,k,fuel+1,a,hf=>by
  have b:k<l.length:=by omega
  rw[F7.eq_2,if_pos (by simp only[decide_eq_true_eq];omega)]
  simp only[B3 (a7 b),oB,A2 b (show l.length<=9223372036854775807 by omega)]
  rw[if_neg (by simp)]
  exact U0n l c d (k+1) fuel (by omega) (by omega)
theorem V0n(l:List Int)(a:l.length<=2000000):k00 l l=some true:=by
 have h:=U0n l a l.length 0 P0 (by omega) (by unfold P0;omega)
 unfold k00
 rw[if_neg (by simp),show(0:Int)=((0:Nat):Int) from rfl,h];rfl
theorem W0n(l:List (List Int))(e:l.length<=2000000)(c:∀ w∈l,w.length<=2000000):∀(d k fuel:Nat),k+d=l.length->d<fuel->M6 l l fuel (k:Int)=some (.inr ())
 |d,k,0,b,hf=>by omega
 |0,k,fuel+1,b,hf=>by rw[M6.eq_2,if_neg (by simp only[decide_eq_true_eq];omega)]
 |d+1,k,fuel+1,b,hf=>by
  have a:k<l.length:=by omega
  rw[M6.eq_2,if_pos (by simp only[decide_eq_true_eq];omega)]
  simp only[B3 (a7 a),oB,V0n _ (c _ (List.getElem_mem a)),A2 a (show l.length<=9223372036854775807 by omega)]
  rw[if_neg (by simp)]
  exact W0n l e c d (k+1) fuel (by omega) (by omega)
theorem E0r(l:List (List Int))(a:l.length<=2000000)(b:∀ w∈l,w.length<=2000000):C00 l l=some true:=by
 have h:=W0n l a b l.length 0 P0 (by omega) (by unfold P0;omega)
 unfold C00
 rw[if_neg (by simp),show(0:Int)=((0:Nat):Int) from rfl,h];rfl
theorem A0l(l:List l0)(g:l0)(i:Int):∀ out:List (List Int),(V04 l g i out).length=out.length
 | []=>rfl
 |c::r=>by
  unfold V04
  cases R01 g (W0b l c)
  ·simp only[cond_false,List.length_cons,A0l l g i r]
  ·simp only[cond_true,List.length_cons]
theorem X0n(l:List l0):∀(d k:Nat) (out:List (List Int)),(N0g l d k out).length<=out.length+d
 |0,k,out=>Nat.le_refl _
 |d+1,k,out=>by
  unfold N0g
  cases l[k]? with
  |none=>simp only;omega
  |some g =>
   simp only
   refine Nat.le_trans (X0n l d (k+1) _) ?_
   cases u07 l g out
   ·rw[cond_false];simp;omega
   ·rw[cond_true,A0l];omega
theorem B0l:∀(o:List (List Int)) (w:List Int),w∈o->w.length<=R07 List.length o
 |c::r,w,h=>by
  unfold R07
  rcases List.mem_cons.1 h with rfl|h
  ·omega
  ·have:=B0l r w h;omega
theorem M0q(l:List l0):∀(d k:Nat),(noA l d k).length<=d
 |0,k=>Nat.le_refl _
 |d+1,k=>by
  unfold noA
  have:=M0q l d (k+1)
  cases l[k]? with
  |none=>simp
  |some g =>
   show(bif e02 g then(k:Int)::noA l d (k+1)else noA l d (k+1)).length<=d+1
   cases e02 g<;>simp only[cond_true,cond_false,List.length_cons]<;>omega
theorem e0t{bs:List Int}(c:bs.length<=1048576):∃ r n:Int,p6 bs=some (r,n)/\(0<=r/\r<5)/\(0<=n/\n<5):=by
 obtain⟨q,e,f⟩:=p0n c
 obtain⟨r,j,a,h,g⟩:=b00 f (n:=5) (by decide) (by decide)
 obtain⟨n,k,b,d,i⟩:=b00 g (n:=5) (by decide) (by decide)
 refine⟨r,n,?_,h,d⟩
 unfold p6
 simp only[e,a,b,oB,J0 (show I0 r from⟨by omega,by omega⟩),J0 (show I0 n from⟨by omega,by omega⟩)]
theorem D0t{bs:List Int}(c:bs.length<=1048576):∃ r n:Int,U9 bs=some (r,n)/\(-1<=r/\r<5)/\(-1<=n/\n<9):=by
 obtain⟨q,e,d⟩:=p0n c
 obtain⟨r,j,a,i,f⟩:=b00 d (n:=6) (by decide) (by decide)
 obtain⟨n,k,b,g,h⟩:=b00 f (n:=10) (by decide) (by decide)
 refine⟨r-1,n-1,?_,by omega,by omega⟩
 unfold U9
 simp only[e,a,b,oB,J0 (show I0 r from⟨by omega,by omega⟩),J0 (show I0 n from⟨by omega,by omega⟩)]
 rw[w64 (by omega) (by omega),w64 (by omega) (by omega)]
theorem E0t{bs:List Int}(b:bs.length<=1048576):∃ n:Int,J8 bs=some n/\(-1<=n/\n<14):=by
 obtain⟨q,e,c⟩:=p0n b
 obtain⟨n,g,a,d,f⟩:=b00 c (n:=15) (by decide) (by decide)
 refine⟨n-1,?_,by omega⟩
 unfold J8
 simp only[e,a,oB,J0 (show I0 n from⟨by omega,by omega⟩)]
 rw[w64 (by omega) (by omega)]
theorem F0r(bs:List Int):t03 bs=some true:=by
 rcases Nat.lt_or_ge 1048576 bs.length with d|d
 ·unfold t03 z04
  rw[oB,if_pos (by simp only[decide_eq_true_eq];omega)]
 have t:z04 bs=some false:=by unfold z04;rw[decide_eq_false (by omega)]
 obtain⟨r,n,A,Z,Y⟩:=e0t d
 obtain⟨s1,s2,_⟩:=C0t r n
 have e:F0m r n=true:=L0q r (by simp only[List.mem_cons,List.not_mem_nil];omega) n (by simp only[List.mem_cons,List.not_mem_nil];omega)
 unfold F0m at e
 rw[s1]at e
 generalize K00 r n=S at s1 s2 e
 obtain⟨L,b⟩:=S
 simp only[Bool.and_eq_true,decide_eq_true_eq]at e
 obtain⟨H,W,a⟩:=e
 cases hC:F4 L with
 |none=>rw[hC]at a;cases a
 |some C =>
  rw[hC]at a
  simp only[Bool.and_eq_true,decide_eq_true_eq]at a
  obtain⟨a,I,J⟩:=a
  obtain⟨l,B,f,X⟩:=z0r d
  have D:o6 bs=some l:=by unfold o6;rw[B];rfl
  have E:j9 bs=some l:=by unfold j9;rw[B];rfl
  have p:=P0g l f
  have q:=O0g l f
  have s:C00 (B05 l) (B05 l)=some true:=by
   have U:=X0n l l.length 0 []
   have V:=T0n l l.length 0 []
   simp only[R07,List.length_nil]at U V
   refine E0r _ (by unfold B05;omega) λw T=>?_
   have:=B0l _ w T
   unfold B05 at this;omega
  have K:=h0d l f
  have M:=g0d l f
  have N:k00 (f04 l) (f04 l)=some true:=V0n _ (by have:=M0q l l.length 0;unfold f04;omega)
  obtain⟨x,y,F,aa,ab⟩:=D0t d
  have c:a0t x y=true:=b0t x (by simp only[List.mem_cons,List.not_mem_nil];omega) y (by simp only[List.mem_cons,List.not_mem_nil];omega)
  unfold a0t at c
  cases q1:z9 x y with
  |none=>rw[q1]at c;cases c
  |some v =>
   cases q2:S01 x y with
   |none=>rw[q1,q2]at c;cases c
   |some ae =>
    rw[q1,q2]at c
    simp only[Bool.and_eq_true,decide_eq_true_eq]at c
    obtain⟨rfl,R⟩:=c
    obtain⟨z,G,ac⟩:=E0t d
    have hf:c0t z=true:=d0t z (by simp only[List.mem_cons,List.not_mem_nil];omega)
    unfold c0t at hf
    cases q3:w9 z with
    |none=>rw[q3]at hf;cases hf
    |some u =>
     cases q4:S7 z with
     |none=>rw[q3,q4]at hf;cases hf
     |some ad =>
      rw[q3,q4]at hf
      simp only[Bool.and_eq_true,decide_eq_true_eq]at hf
      obtain⟨rfl,Q⟩:=hf
      have g:(grd (I0 r))=some ():=J0 ⟨by omega,by omega⟩
      have h:(grd (I0 n))=some ():=J0 ⟨by omega,by omega⟩
      have i:(grd (I0 x))=some ():=J0 ⟨by omega,by omega⟩
      have j:(grd (I0 y))=some ():=J0 ⟨by omega,by omega⟩
      have k:(grd (I0 z))=some ():=J0 ⟨by omega,by omega⟩
      have m:(grd (I0 v))=some ():=J0 R
      have o:(grd (I0 u))=some ():=J0 Q
      have O:(grd (I0 (0:Int)))=some ():=rfl
      have P:(grd (I0 ((L.length:Nat):Int)))=some ():=J0 ⟨by omega,by omega⟩
      unfold t03
      cases b
      ·simp only[t,A,g,h,s1,s2,a,O,hC,I,J,M0,D,E,p,q,s,K,M,N,F,i,j,q1,q2,m,G,k,q3,q4,o,oB,Bool.false_eq_true,if_false,beq_self_eq_true,Bool.not_true,Bool.not_false,Bool.false_and,Bool.true_and,K1,C3,cond_true,cond_false,decide_true]
      ·simp only[cond_true,decide_eq_true_eq]at H
       simp only[t,A,g,h,s1,s2,a,H,P,hC,I,J,M0,D,E,p,q,s,K,M,N,F,i,j,q1,q2,m,G,k,q3,q4,o,oB,Bool.false_eq_true,if_false,beq_self_eq_true,Bool.not_true,Bool.not_false,Bool.false_and,Bool.true_and,K1,C3,cond_true,cond_false,decide_true]
end Go.Proofs.YtmgikbbmpnbbjaaGreat
