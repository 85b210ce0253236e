/- Texts of the claim, joined: Plain laws: words and presentations, as the spec and the cod and others. -/
import Derived.Test.YtkjhghloldgioaaGreatPart20
import Derived.Test.YtkjhghloldgioaaGreatH33
import Derived.Test.YtkjhghloldgioaaGreatH36
import Derived.Test.YtkjhghloldgioaaGreatPart19
namespace Go.Proofs.YtkjhghloldgioaaGreat
open Go.H
set_option linter.unusedVariables false
set_option linter.unusedSimpArgs false
theorem Y0{n:Nat}(h:n<=140737488355328):n<Q0:=by unfold Q0;omega
theorem C0{p:Prop}[Decidable p](h:p):grd p=some ():=by unfold grd;rw[if_pos h]
theorem T1{α:Type}(o:Option α)(d:α):chk true o d=o:=rfl
theorem C3{α:Type}(o:Option α)(d:α):chk false o d=some d:=rfl
theorem I2{α:Type}{xs:List α}{k:Nat}{x:α}(h:xs[k]?=some x):gi xs (k:Int)=some x:=by rw[g0b];exact h
theorem c09{α:Type}{xs:List α}{x:α}(h:xs[0]?=some x):gi xs 0=some x:=I2 (k:=0) h
theorem R0d{x:Int}(h:P0 x)(h2:x ≠ -9223372036854775808):IntKind.i64.wrap (0-x) = -x:=by rw[w64 (by have:=h.1;have:=h.2;omega) (by have:=h.1;have:=h.2;omega)];omega
theorem Q0f{n:Nat}(h:0<n)(hm:n<=9223372036854775807):IntKind.i64.wrap ((n:Int)-1)=((n-1:Nat):Int):=by rw[w64 (by omega) (by omega)];omega
theorem Y5{α:Type}{xs:List α}{k:Nat}(h:k<xs.length):xs[k]?=some xs[k]:=List.getElem?_eq_getElem h
def inR(lo hi x:Int):Bool:=decide (lo<=x)&&decide (x<=hi)
theorem D04(a b c:Int):Z5 a b c=some (inR b c a):=by
 unfold Z5 inR
 by_cases h:b<=a<;>simp[h]
theorem E04(a b c:Int):C8 a b c=some (inR b c a):=D04 a b c
theorem p0h(y x:Int):k00 y x=some (!(y == 0) && !(y == -9223372036854775808)&&(x == IntKind.i64.wrap (0-y))):=by
 unfold k00
 by_cases h0:y=0
 ·simp[h0]
 ·by_cases h1:y = -9223372036854775808
  ·simp[h1]
  ·simp only[h0,h1,decide_false,Bool.not_false,cond_true,Option.some.injEq]
   have b2:(y == 0)=false:=by simpa using h0
   have b3:(y == -9223372036854775808)=false:=by simpa using h1
   rw[b2,b3]
   rfl
def tot:List (List Int)->Nat
 | []=>0
 |w::r=>w.length+tot r
theorem O1{α:Type}{xs:List α}{k:Nat}{x:α}(h:xs[k]?=some x):xs.drop k=x::xs.drop (k+1):=by
 obtain⟨hk,rfl⟩:=List.getElem?_eq_some_iff.1 h
 exact List.drop_eq_getElem_cons hk
theorem K1{α:Type}{xs:List α}{k:Nat}(h:k=xs.length):xs.drop k = []:=by rw[h];exact List.drop_length
def r05(r hi:Int)(e:M0):Bool:=inR 0 hi e.1&&inR 0 hi e.2.2&&inR 1 r e.2.1
def S0d(e f:M0):Int:=C1 e f
theorem T0d(e f:M0):S0d e f=if c9 e.1 f.1≠0 then c9 e.1 f.1 else if c9 e.2.1 f.2.1≠0 then c9 e.2.1 f.2.1 else c9 e.2.2 f.2.2:=rfl
theorem r06(a b:Int):(a<b/\c9 a b = -1)∨(a>b/\c9 a b=1)∨(a=b/\c9 a b=0):=by
 unfold c9
 split
 ·omega
 ·split<;>omega
theorem P0c(e f:M0):P0 (S0d e f):=by
 rw[T0d]
 split
 ·exact n0h _ _
 ·split<;>exact n0h _ _
theorem F0o(g:j0)(e:M0):n02 g e=some (r05 g.1 (IntKind.i64.wrap (g.2.1-1)) e):=by
 obtain⟨r,n,es⟩:=g
 obtain⟨a,l,b⟩:=e
 unfold n02 r05
 simp only[D04,oB]
 cases inR 0 (IntKind.i64.wrap (n-1)) a with
 |false=>rfl
 |true =>
  cases inR 0 (IntKind.i64.wrap (n-1)) b with
  |false=>rfl
  |true=>simp[chk]
theorem s0c(g:j0)(e:M0):L8 g e=some (r05 g.1 (IntKind.i64.wrap (g.2.1-1)) e):=by
 obtain⟨r,n,es⟩:=g
 obtain⟨a,l,b⟩:=e
 unfold L8 A4 r05
 simp only[E04,oB]
 cases inR 0 (IntKind.i64.wrap (n-1)) a with
 |false=>rfl
 |true =>
  cases inR 0 (IntKind.i64.wrap (n-1)) b with
  |false=>rfl
  |true=>simp[chk]
theorem x02(e f:M0):R7 e f=some (S0d e f):=by
 obtain⟨a,l,b⟩:=e
 obtain⟨a',l',b'⟩:=f
 unfold R7
 rw[show Q0=(Q0-4)+1+1+1+1 from rfl]
 have w1:IntKind.i64.wrap (0+1)=1:=by decide
 have w2:IntKind.i64.wrap (1+1)=2:=by decide
 have w3:IntKind.i64.wrap (2+1)=3:=by decide
 have g0:∀ x y z:Int,gi [x,y,z] 0=some x:=λ_ _ _=>rfl
 have g1:∀ x y z:Int,gi [x,y,z] 1=some y:=λ_ _ _=>rfl
 have g2:∀ x y z:Int,gi [x,y,z] 2=some z:=λ_ _ _=>rfl
 have d0:decide ((0:Int)<3)=true:=rfl
 have d1:decide ((1:Int)<3)=true:=rfl
 have d2:decide ((2:Int)<3)=true:=rfl
 have d3:decide ((3:Int)<3)=false:=rfl
 simp only[V6.eq_2,w1,w2,w3,g0,g1,g2,d0,d1,d2,d3,if_true,oB,Bool.false_eq_true,if_false]
 rw[T0d]
 simp only
 rcases r06 a a' with⟨h,e⟩|⟨h,e⟩|⟨h,e⟩
 ·simp[e,h,R9]
 ·have : ¬ a<a':=by omega
  simp[e,h,this,R9]
 ·subst h
  rcases r06 l l' with⟨h,e2⟩|⟨h,e2⟩|⟨h,e2⟩
  ·simp[e,e2,h,R9]
  ·have : ¬ l<l':=by omega
   simp[e,e2,h,this,R9]
  ·subst h
   rcases r06 b b' with⟨h,e3⟩|⟨h,e3⟩|⟨h,e3⟩
   ·simp[e,e2,e3,h,R9]
   ·have : ¬ b<b':=by omega
    simp[e,e2,e3,h,this,R9]
   ·subst h
    simp[e,e2,e3,R9]
theorem h0n(a b:Int):d7 a b=some (c9 a b):=by
 unfold d7 c9
 by_cases h:a<b
 ·simp[h]
 ·by_cases h2:a>b<;>simp[h,h2]
theorem F04(e f:M0):r9 e f=some (S0d e f):=by
 obtain⟨a,l,b⟩:=e
 obtain⟨a',l',b'⟩:=f
 rw[T0d]
 unfold r9
 simp only[h0n,oB,C0 (n0h _ _)]
 by_cases h1:c9 a a'=0
 ·by_cases h2:c9 l l'=0
  ·simp[h1,h2]
  ·simp[h1,h2]
 ·simp[h1]
def G0o(r hi:Int)(es:List M0)(k:Nat):Bool:=match es[k]? with
 |none=>true
 |some e => !r05 r hi e || (decide (0<k)&&match es[k-1]? with
  |none=>true
  |some f=>decide (S0d f e ≥ 0))
def okE(r hi:Int)(es:List M0):Nat->Nat->Bool
 |0,_=>true
 |d+1,k => !G0o r hi es k&&okE r hi es d (k+1)
def G1(g:j0):Bool:=okE g.1 (IntKind.i64.wrap (g.2.1-1)) g.2.2 g.2.2.length 0&&inR 1 3 g.1&&inR 1 40 g.2.1&&decide (g.2.2.length<=120)
theorem Y09{r hi:Int}{es:List M0}{k:Nat}{e:M0}(hx:es[k]?=some e):G0o r hi es k=(!r05 r hi e || (decide (0<k)&&match es[k-1]? with
  |none=>true
  |some f=>decide (S0d f e ≥ 0))):=by unfold G0o;rw[hx]
theorem g05(r n:Int)(es:List M0)(hl:es.length<=140737488355328):∀(d k fuel:Nat),k+d=es.length->d<fuel ->
  n7 es r n fuel (k:Int)=some (bif okE r (IntKind.i64.wrap (n-1)) es d k then .inr ()else .inl false)
 |d,k,0,hk,hf=>by omega
 |0,k,fuel+1,hk,hf=>by
  rw[n7.eq_2,if_neg (by simp;omega)]
  simp[okE]
 |d+1,k,fuel+1,hk,hf=>by
  have hkl:k<es.length:=by omega
  have hx:=Y5 hkl
  generalize es[k]=e at hx
  obtain⟨e0,e1,e2⟩:=e
  have next:=g05 r n es hl d (k+1) fuel (by omega) (by omega)
  rw[n7.eq_2,if_pos (by simp;omega),I2 hx,oB]
  simp only[F0o,oB,Z1 hkl (by omega:es.length<=9223372036854775807),next,okE,Y09 hx]
  generalize IntKind.i64.wrap (n-1)=hi
  cases hin:r05 r hi (e0,e1,e2)with
  |false=>simp[chk,grd,P0]
  |true =>
   by_cases hk0:k=0
   ·have ek:decide ((k:Int)>0)=false:=by simp;omega
    have bk:decide (0<k)=false:=by simp;omega
    simp only[ek,bk,C3,Bool.not_true,Bool.not_false,Bool.and_true,Bool.false_and,Bool.or_self,Bool.true_and,cond_true,cond_false,oB,Bool.or_false,Bool.false_eq_true,if_false,C0 (show P0 0 by decide)]
   ·have hy:=Y5 (show k-1<es.length by omega)
    generalize es[k-1]=f at hy
    obtain⟨f0,f1,f2⟩:=f
    have hpr:IntKind.i64.wrap ((k:Int)-1)=((k-1:Nat):Int):=Q0f (by omega) (by omega)
    have ek:decide ((k:Int)>0)=true:=by simp;omega
    have bk:decide (0<k)=true:=by simp;omega
    simp only[ek,bk,hpr,hy,I2 hx,I2 hy,T1,Bool.not_true,Bool.not_false,Bool.and_true,Bool.false_and,Bool.or_self,Bool.true_and,cond_true,cond_false,oB,Bool.or_false,Bool.false_or,x02,C0 (P0c _ _)]
    cases decide (S0d (f0,f1,f2) (e0,e1,e2) ≥ 0)<;>rfl
theorem G9(g:j0)(hl:g.2.2.length<=140737488355328):H5 g=some (G1 g):=by
 obtain⟨r,n,es⟩:=g
 unfold H5 G1
 simp only at hl ⊢
 have h:=g05 r n es hl es.length 0 Q0 (by omega) (Y0 hl)
 rw[show((0:Nat):Int)=0 from rfl]at h
 rw[h,oB]
 cases okE r (IntKind.i64.wrap (n-1)) es es.length 0 with
 |false=>simp[R9]
 |true =>
  rw[cond_true,S0,D04,D04,oB]
  cases inR 1 3 r with
  |false=>simp[chk]
  |true =>
   simp only[T1,oB,cond_true,Bool.true_and]
   cases inR 1 40 n with
   |false=>simp
   |true=>simp;omega
theorem h05(r n:Int)(es:List M0)(hl:es.length<=140737488355328):∀(d k fuel:Nat),k+d=es.length->d<fuel ->
  o7 es r n fuel (k:Int)=some (bif okE r (IntKind.i64.wrap (n-1)) es d k then .inr ()else .inl false)
 |d,k,0,hk,hf=>by omega
 |0,k,fuel+1,hk,hf=>by
  rw[o7.eq_2,if_neg (by simp;omega)]
  simp[okE]
 |d+1,k,fuel+1,hk,hf=>by
  have hkl:k<es.length:=by omega
  have hx:=Y5 hkl
  generalize es[k]=e at hx
  obtain⟨e0,e1,e2⟩:=e
  have next:=h05 r n es hl d (k+1) fuel (by omega) (by omega)
  rw[o7.eq_2,if_pos (by simp;omega),I2 hx,oB]
  simp only[s0c,oB,Z1 hkl (by omega:es.length<=9223372036854775807),next,okE,Y09 hx]
  generalize IntKind.i64.wrap (n-1)=hi
  cases hin:r05 r hi (e0,e1,e2)with
  |false=>simp[chk,grd,P0]
  |true =>
   by_cases hk0:k=0
   ·have ek:decide ((k:Int)>0)=false:=by simp;omega
    have bk:decide (0<k)=false:=by simp;omega
    simp only[ek,bk,C3,Bool.not_true,Bool.not_false,Bool.and_true,Bool.false_and,Bool.or_self,Bool.true_and,cond_true,cond_false,oB,Bool.or_false,Bool.false_eq_true,if_false,C0 (show P0 0 by decide)]
   ·have hy:=Y5 (show k-1<es.length by omega)
    generalize es[k-1]=f at hy
    obtain⟨f0,f1,f2⟩:=f
    have hpr:IntKind.i64.wrap ((k:Int)-1)=((k-1:Nat):Int):=Q0f (by omega) (by omega)
    have ek:decide ((k:Int)>0)=true:=by simp;omega
    have bk:decide (0<k)=true:=by simp;omega
    simp only[ek,bk,hpr,hy,I2 hx,I2 hy,T1,Bool.not_true,Bool.not_false,Bool.and_true,Bool.false_and,Bool.or_self,Bool.true_and,cond_true,cond_false,oB,Bool.or_false,Bool.false_or,F04,C0 (P0c _ _)]
    cases decide (S0d (f0,f1,f2) (e0,e1,e2) ≥ 0)<;>rfl
theorem o02(g:j0)(hl:g.2.2.length<=140737488355328):M8 g=some (G1 g):=by
 obtain⟨r,n,es⟩:=g
 unfold M8 G1
 simp only at hl ⊢
 rw[E04,E04,oB]
 cases hr:inR 1 3 r with
 |false=>simp[chk]
 |true =>
  simp only[Bool.not_true,Bool.not_false,T1,oB,cond_false]
  cases hn:inR 1 40 n with
  |false=>simp
  |true =>
   by_cases h120:es.length<=120
   ·have h:=h05 r n es hl es.length 0 Q0 (by omega) (Y0 hl)
    rw[show((0:Nat):Int)=0 from rfl]at h
    have e1:decide (((es.length:Nat):Int)>120)=false:=by simp;omega
    have e2:decide (es.length<=120)=true:=by simpa using h120
    simp only[e1,e2,Bool.not_true,cond_false,Bool.false_eq_true,if_false,h,oB]
    cases okE r (IntKind.i64.wrap (n-1)) es es.length 0<;>rfl
   ·have e1:decide (((es.length:Nat):Int)>120)=true:=by simp;omega
    have e2:decide (es.length<=120)=false:=by simpa using h120
    simp only[e1,e2,Bool.not_true,cond_false,if_true,Bool.and_false]
theorem z0k{r hi:Int}{es:List M0}:∀ {d k:Nat},okE r hi es d k=true->∀ i,k<=i->i<k+d->G0o r hi es i=false
 |0,k,h,i,h1,h2=>by omega
 |d+1,k,h,i,h1,h2=>by
  simp only[okE,Bool.and_eq_true,Bool.not_eq_true']at h
  by_cases e:i=k
  ·subst e;exact h.1
  ·exact z0k h.2 i (by omega) (by omega)
theorem U0i{n:Nat}(h:n<=9223372036854775807):n<Q0:=by unfold Q0;omega
def goI(x:Int):List Int->Bool×List Int
 | []=>(false,[])
 |y::l=>if x<y then(true,x::y::l)else if y=x then(true,y::l)else((goI x l).1,y::(goI x l).2)
theorem H0l(x:Int):∀ l,X00 c9 x l=bif(goI x l).1 then(goI x l).2 else(goI x l).2 ++ [x]
 | []=>rfl
 |y::l=>by
  have ih:=H0l x l
  unfold X00 goI
  rcases r06 x y with⟨h,e⟩|⟨h,e⟩|⟨h,e⟩
  ·rw[e,if_pos (by omega),if_pos h];rfl
  ·rw[e,if_neg (by omega),if_neg (by omega),if_neg (by omega),if_neg (by omega),ih]
   cases (goI x l).1<;>rfl
  ·rw[e,if_neg (by omega),if_pos rfl,if_neg (by omega),if_pos h.symm];rfl
theorem U0d(l:List Int)(w:Int)(hl:l.length<=1099511627776):∀(d k fuel:Nat) (acc:List Int),k+d=l.length->d<fuel->acc.length<=k+1 ->
  D4 l w fuel true (k:Int) acc=some (true,acc++l.drop k)
 |d,k,0,acc,hd,hf,ha=>by omega
 |0,k,fuel+1,acc,hd,hf,ha=>by
  rw[D4.eq_2,if_neg (by simp;omega),K1 (by omega),List.append_nil]
 |d+1,k,fuel+1,acc,hd,hf,ha=>by
  have hk:k<l.length:=by omega
  have hx:=Y5 hk
  generalize l[k]=x at hx
  have ih:=U0d l w hl d (k+1) fuel (acc ++ [x]) (by omega) (by omega) (by simp;omega)
  rw[D4.eq_2,if_pos (by simp;omega),I2 hx,oB]
  have hb:∀ c:Bool,(bif c then(!true)else false)=false:=λc=>by cases c<;>rfl
  simp only[hb,Bool.false_eq_true,if_false,oB,Z1 hk (show l.length<=9223372036854775807 by omega),ih,C0 (show(acc.length + [x].length)*8<=140737488355328 by simp;omega)]
  rw[O1 hx]
  split<;>simp
theorem R0f(l:List Int)(w:Int)(hl:l.length<=1099511627776):∀(d k fuel:Nat) (acc:List Int),k+d=l.length->d<fuel->acc.length=k ->
  D4 l w fuel false (k:Int) acc=some ((goI w (l.drop k)).1,acc++(goI w (l.drop k)).2)
 |d,k,0,acc,hd,hf,ha=>by omega
 |0,k,fuel+1,acc,hd,hf,ha=>by
  rw[D4.eq_2,if_neg (by simp;omega),K1 (by omega)]
  simp[goI]
 |d+1,k,fuel+1,acc,hd,hf,ha=>by
  have hk:k<l.length:=by omega
  have hx:=Y5 hk
  generalize l[k]=x at hx
  have ih:=R0f l w hl d (k+1) fuel (acc ++ [x]) (by omega) (by omega) (by simp;omega)
  have on1:=U0d l w hl d (k+1) fuel (acc ++ [x]) (by omega) (by omega) (by simp;omega)
  have on2:=U0d l w hl d (k+1) fuel (acc ++ [w] ++ [x]) (by omega) (by omega) (by simp;omega)
  rw[D4.eq_2,if_pos (by simp;omega),I2 hx,oB,O1 hx]
  unfold goI
  have hb:∀ c:Bool,(bif c then(!true)else false)=false:=λc=>by cases c<;>rfl
  have hb2:∀ c:Bool,(bif c then(!false)else false)=c:=λc=>by cases c<;>rfl
  by_cases h0:x=w
  ·rw[if_pos (by simpa using h0),oB,hb,if_neg (by simp),oB,C0 (by simp;omega),oB,Z1 hk (by omega),on1,if_neg (by omega),if_pos h0]
   simp
  ·rw[if_neg (by simpa using h0),oB,hb2]
   by_cases h1:w<x
   ·rw[if_pos (by simpa using h1),C0 (by simp;omega),oB,oB,C0 (by simp;omega),oB,Z1 hk (by omega),on2,if_pos h1]
    simp
   ·rw[if_neg (by simpa using h1),oB,C0 (by simp;omega),oB,Z1 hk (by omega),ih,if_neg h1,if_neg h0]
    simp
theorem Z09(l:List Int)(w:Int)(hl:l.length<=1099511627776):D8 l w=some (X00 c9 w l):=by
 unfold D8
 have h:=R0f l w hl l.length 0 Q0 [] (by omega) (Y0 (by omega)) rfl
 rw[show((0:Nat):Int)=0 from rfl,List.drop_zero,List.nil_append]at h
 rw[h,oB,H0l]
 have hlen:∀ l:List Int,(goI w l).2.length<=l.length+1:=λl=>by
  induction l with
  |nil=>simp[goI]
  |cons y l ih =>
   unfold goI
   split
   ·simp
   ·split
    ·simp
    ·simp only[List.length_cons];omega
 have:=hlen l
 cases (goI w l).1 with
 |true=>rfl
 |false =>
  simp only[Bool.not_false,if_true,cond_false]
  rw[C0 (by simp;omega),oB]
def S0f(v x:Int)(e:M0):List Int :=
 if 0<x/\e.2.1=x/\e.1=v then [e.2.2]else if x<0/\e.2.1 = -x/\e.2.2=v then [e.1]else []
def U9(v x:Int):List M0->List Int
 | []=>[]
 |e::es=>S0f v x e++U9 v x es
theorem i0n(v x:Int)(e:M0):(S0f v x e).length<=1:=by unfold S0f;split<;>(try split)<;>simp
theorem V0d(v x:Int):∀ es,(U9 v x es).length<=es.length
 | []=>by simp[U9]
 |e::es=>by
  have h1:=i0n v x e
  have h2:=V0d v x es
  simp only[U9,List.length_append,List.length_cons]
  omega
def L7(x:Int):Prop:=P0 x/\x ≠ -9223372036854775808
theorem a0a(es:List M0)(v x:Int)(hx:L7 x)(hl:es.length<=1099511627776):∀(d k fuel:Nat) (acc:List Int),k+d=es.length->d<fuel->acc.length<=k ->
  J4 es x v fuel (k:Int) acc=some (acc++U9 v x (es.drop k))
 |d,k,0,acc,hd,hf,ha=>by omega
 |0,k,fuel+1,acc,hd,hf,ha=>by
  rw[J4.eq_2,if_neg (by simp;omega),K1 (by omega)]
  simp[U9]
 |d+1,k,fuel+1,acc,hd,hf,ha=>by
  have hk:k<es.length:=by omega
  have he:=Y5 hk
  generalize es[k]=e at he
  obtain⟨a,l,b⟩:=e
  have ih:=λacc' h=>a0a es v x hx hl d (k+1) fuel acc' (by omega) (by omega) h
  have hn:decide (x = -9223372036854775808)=false:=by simp;exact hx.2
  rw[J4.eq_2,if_pos (by simp;omega),I2 he,oB,O1 he]
  simp only[U9,S0f,R0d hx.1 hx.2,hn,Bool.not_false,Z1 hk (show es.length<=9223372036854775807 by omega)]
  by_cases c1:0<x/\l=x/\a=v
  ·obtain⟨c1,rfl,rfl⟩:=c1
   rw[if_pos (by simp[c1]),if_pos ⟨c1,rfl,rfl⟩,C0 (by simp;omega),oB,ih _ (by simp;omega)]
   simp
  ·rw[if_neg c1,if_neg (by simp only[Bool.cond_eq_ite];simp;intro h1 h2 h3;exact c1 ⟨h1,h2,h3⟩)]
   by_cases c2:x<0/\l = -x/\b=v
   ·rw[if_pos c2,if_pos (by simp[c2.1,c2.2.1,c2.2.2]),C0 (by simp;omega),oB,ih _ (by simp;omega)]
    simp
   ·rw[if_neg c2,if_neg (by simp only[Bool.cond_eq_ite];simp;intro h1 h2 h3;exact c2 ⟨h1,h2,h3⟩),ih _ (by omega)]
    simp
theorem N05(w:Int):∀ l:List Int,(X00 c9 w l).length<=l.length+1
 | []=>by simp[X00]
 |y::l=>by
  have:=N05 w l
  unfold X00
  split
  ·simp
  ·split
   ·simp
   ·simp only[List.length_cons];omega
theorem b0a(es:List M0)(v x:Int)(hx:L7 x)(hl:es.length<=1099511627776):∀(d k fuel:Nat) (u:List Int),k+d=es.length->d<fuel->u.length<=k ->
  i4 es x v fuel u (k:Int)=some (J7 c9 u (U9 v x (es.drop k)))
 |d,k,0,u,hd,hf,ha=>by omega
 |0,k,fuel+1,u,hd,hf,ha=>by
  rw[i4.eq_2,if_neg (by simp;omega),K1 (by omega)]
  rfl
 |d+1,k,fuel+1,u,hd,hf,ha=>by
  have hk:k<es.length:=by omega
  have he:=Y5 hk
  generalize es[k]=e at he
  obtain⟨a,l,b⟩:=e
  have ih:=λu' h=>b0a es v x hx hl d (k+1) fuel u' (by omega) (by omega) h
  rw[i4.eq_2,if_pos (by simp;omega),I2 he,oB,O1 he]
  simp only[U9,S0f,R0d hx.1 hx.2,Z1 hk (show es.length<=9223372036854775807 by omega)]
  by_cases c1:0<x/\l=x/\a=v
  ·obtain⟨c1,rfl,rfl⟩:=c1
   have hno:decide (l<0)=false:=by simp;omega
   have:=N05 b u
   rw[if_pos (by simp[c1]),if_pos ⟨c1,rfl,rfl⟩,Z09 u b (by omega),oB,hno,if_neg (by simp),ih _ (by omega)]
   rfl
  ·rw[if_neg c1,if_neg (by simp only[Bool.cond_eq_ite];simp;intro h1 h2 h3;exact c1 ⟨h1,h2,h3⟩)]
   by_cases c2:x<0/\l = -x/\b=v
   ·have:=N05 a u
    rw[if_pos c2,if_pos (by simp[c2.1,c2.2.1,c2.2.2]),Z09 u a (by omega),oB,ih _ (by omega)]
    rfl
   ·rw[if_neg c2,if_neg (by simp only[Bool.cond_eq_ite];simp;intro h1 h2 h3;exact c2 ⟨h1,h2,h3⟩),ih _ (by omega)]
    rfl
def u02(g:j0)(v x:Int):List Int:=J7 c9 [] (U9 v x g.2.2)
theorem x0q(x y:Int):eqI x y=true↔x=y:=by simp[eqI]
theorem V0i(g:j0)(v x:Int)(hx:L7 x)(hl:g.2.2.length<=1099511627776):C00 g v x=some (u02 g v x):=by
 obtain⟨r,n,es⟩:=g
 unfold C00 u02
 have h:=b0a es v x hx hl es.length 0 Q0 [] (by omega) (U0i (by simp only at hl;omega)) (by simp)
 rw[show((0:Nat):Int)=0 from rfl,List.drop_zero]at h
 simp only[h,oB]
theorem W0i(g:j0)(v x:Int)(hx:L7 x)(hl:g.2.2.length<=1099511627776):D00 g v x=some (u02 g v x):=by
 obtain⟨r,n,es⟩:=g
 unfold D00 u02
 have h:=a0a es v x hx hl es.length 0 Q0 [] (by omega) (U0i (by simp only at hl;omega)) (by simp)
 rw[show((0:Nat):Int)=0 from rfl,List.drop_zero,List.nil_append]at h
 have hlen:=V0d v x es
 simp only at hl
 simp only[h,oB,C0 (show(U9 v x es).length<4611686018427387904 by omega)]
 rw[←T0i m02 x0q (U9 v x es) (U9 v x es) λ_=>Iff.rfl]
 rfl
def N0(g:j0)(v x:Int):Int:=match u02 g v x with
 | [] => -1
 |a::_=>a
theorem M01(g:j0)(v x:Int)(hx:L7 x)(hl:g.2.2.length<=1099511627776):c4 g v x=some (N0 g v x):=by
 have h:=V0i g v x hx hl
 obtain⟨r,n,es⟩:=g
 unfold c4 N0
 simp only[h,oB]
 cases u02 (r,n,es) v x with
 |nil=>rfl
 |cons a l=>rfl
theorem i03(g:j0)(v x:Int)(hx:L7 x)(hl:g.2.2.length<=1099511627776):i5 g v x=some (N0 g v x):=by
 have h:=W0i g v x hx hl
 obtain⟨r,n,es⟩:=g
 unfold i5 N0
 simp only[h,oB]
 cases u02 (r,n,es) v x with
 |nil=>rfl
 |cons a l=>rfl
theorem T0f{g:j0}{v x y:Int}(h:y∈u02 g v x):y∈U9 v x g.2.2:=by
 rcases(Y00 m02 y _ []).1 h with h|h
 ·cases h
 ·exact h
theorem M7{v x y:Int}:∀ {es:List M0},y∈U9 v x es↔∃ e∈es,(0<x/\e.2.1=x/\e.1=v/\y=e.2.2)∨(x<0/\e.2.1 = -x/\e.2.2=v/\y=e.1)
 | []=>by simp[U9]
 |e::es=>by
  simp only[U9,List.mem_append,M7 (es:=es),List.mem_cons,exists_eq_or_imp]
  refine or_congr ?_ Iff.rfl
  unfold S0f
  split
  ·rename_i h
   simp only[List.mem_singleton]
   constructor
   ·rintro rfl;exact .inl ⟨h.1,h.2.1,h.2.2,rfl⟩
   ·rintro(⟨_,_,_,h4⟩|⟨h1,_⟩)
    ·exact h4
    ·omega
  ·rename_i h
   split
   ·rename_i h2
    simp only[List.mem_singleton]
    constructor
    ·rintro rfl;exact .inr ⟨h2.1,h2.2.1,h2.2.2,rfl⟩
    ·rintro(⟨h1,_⟩|⟨_,_,_,h4⟩)
     ·omega
     ·exact h4
   ·rename_i h2
    constructor
    ·intro h;cases h
    ·rintro(⟨h3,h4,h5,_⟩|⟨h3,h4,h5,_⟩)
     ·exact absurd ⟨h3,h4,h5⟩ h
     ·exact absurd ⟨h3,h4,h5⟩ h2
def inG(g:j0):Prop:=∀ e∈g.2.2,(0<=e.1/\e.1<g.2.1)/\(0<=e.2.2/\e.2.2<g.2.1)/\1<=e.2.1/\e.2.1<=g.1
theorem F1{g:j0}(h:G1 g=true):inG g/\(1<=g.1/\g.1<=3)/\(1<=g.2.1/\g.2.1<=40)/\g.2.2.length<=120:=by
 obtain⟨r,n,es⟩:=g
 simp only[G1,inR,Bool.and_eq_true,decide_eq_true_eq]at h
 obtain⟨⟨⟨h1,h2⟩,h3⟩,h4⟩:=h
 refine⟨λe he=>?_,h2,h3,h4⟩
 obtain⟨i,hi⟩:=List.getElem?_of_mem he
 have hb:=z0k h1 i (Nat.zero_le _) (by have:=(List.getElem?_eq_some_iff.1 hi).1;simp only at this;omega)
 rw[Y09 hi]at hb
 simp only[Bool.or_eq_false_iff,Bool.not_eq_false',r05,inR,Bool.and_eq_true,decide_eq_true_eq]at hb
 obtain⟨⟨⟨⟨b1,b2⟩,b3,b4⟩,b5,b6⟩,_⟩:=hb
 rw[w64 (by omega) (by omega)]at b2 b4
 simp only
 exact⟨⟨b1,by omega⟩,⟨b3,by omega⟩,b5,b6⟩
theorem y00{g:j0}(hg:inG g)(v x:Int):N0 g v x = -1∨(0<=N0 g v x/\N0 g v x<g.2.1):=by
 unfold N0
 cases hs:u02 g v x with
 |nil=>exact .inl rfl
 |cons a l =>
  right
  have ha:a∈u02 g v x:=by rw[hs];exact mS
  obtain⟨e,he,h⟩:=M7.1 (T0f ha)
  have:=hg e he
  rcases h with⟨_,_,_,rfl⟩|⟨_,_,_,rfl⟩
  ·exact this.2.1
  ·exact this.1
theorem C01{g:j0}(hg:inG g)(hn:g.2.1<=40)(v x:Int):P0 (N0 g v x):=by
 rcases y00 hg v x with h|h
 ·rw[h];decide
 ·constructor<;>omega
def G04(a b:M0):Bool:=decide (a.2.1=b.2.1)&&(decide (a.1=b.1) || decide (a.2.2=b.2.2))
theorem k0b(a b:M0):G04 a b=G04 b a:=by
 unfold G04
 have h:∀ x y:Int,decide (x=y)=decide (y=x):=λx y=>decide_eq_decide.2 ⟨Eq.symm,Eq.symm⟩
 rw[h a.2.1,h a.1,h a.2.2]
def noC(a:M0):List M0->Bool
 | []=>true
 |b::l => !G04 a b&&noC a l
def G08:List M0->Bool
 | []=>true
 |a::l=>noC a l&&G08 l
theorem q0h(a:M0):∀ l,noC a l=true↔∀ b∈l,G04 a b=false
 | []=>by simp[noC]
 |b::l=>by simp[noC,q0h a l]
theorem l0b:∀ l,G08 l=true↔l.Pairwise λa b=>G04 a b=false
 | []=>by simp[G08]
 |a::l=>by simp[G08,l0b l,q0h,List.pairwise_cons]
def W0d:List M0->List M0->Bool
 |_,[]=>true
 |pre,a::l=>noC a pre&&W0d (pre ++ [a]) l
theorem U0f:∀(l pre:List M0),W0d pre l=true↔l.Pairwise (λa b=>G04 a b=false)/\∀ a∈l,∀ b∈pre,G04 a b=false
 | [],pre=>by simp[W0d]
 |a::l,pre=>by
  simp only[W0d,Bool.and_eq_true,q0h,U0f l,List.pairwise_cons]
  constructor
  ·rintro⟨h2,h3,h4⟩
   refine⟨⟨λb hb=>by rw[k0b];exact h4 b hb a (by simp),h3⟩,λx hx b hb=>?_⟩
   rcases List.mem_cons.1 hx with rfl|hx
   ·exact h2 b hb
   ·exact h4 x hx b (by simp[hb])
  ·rintro⟨⟨h2,h3⟩,h4⟩
   refine⟨λb hb=>h4 a mS b hb,h3,λx hx b hb=>?_⟩
   rcases List.mem_append.1 hb with hb|hb
   ·exact h4 x (mC _ hx) b hb
   ·rw[List.mem_singleton.1 hb,k0b];exact h2 x hx
theorem j0n(l:List M0):W0d [] l=G08 l:=by
 rw[Bool.eq_iff_iff,U0f,l0b]
 simp
def D0(g:j0):Bool:=G1 g&&G08 g.2.2
theorem W0q(a0 a1 a2 b0 b1 b2:Int):(bif decide (a1=b1)then(bif decide (a0=b0)then true else decide (a2=b2))else false)=G04 (a0,a1,a2) (b0,b1,b2):=by
 unfold G04
 cases decide (a1=b1)<;>cases decide (a0=b0)<;>rfl
theorem c0a(l:List M0)(a:M0)(hl:l.length<=140737488355328):∀(d k fuel:Nat),k+d=l.length->d<fuel ->
  P6 l a.2.1 a.1 a.2.2 fuel (k:Int)=some (bif noC a (l.drop k)then .inr ()else .inl false)
 |d,k,0,hd,hf=>by omega
 |0,k,fuel+1,hd,hf=>by
  rw[P6.eq_2,if_neg (by simp;omega),K1 (by omega)]
  rfl
 |d+1,k,fuel+1,hd,hf=>by
  have hk:k<l.length:=by omega
  have hx:=Y5 hk
  generalize l[k]=x at hx
  obtain⟨a0,a1,a2⟩:=a
  obtain⟨b0,b1,b2⟩:=x
  rw[P6.eq_2,if_pos (by simp;omega),I2 hx,oB,O1 hx]
  simp only[W0q,noC]
  cases hc:G04 (a0,a1,a2) (b0,b1,b2)with
  |true=>rfl
  |false =>
   rw[if_neg (by simp),Z1 hk (by omega),c0a l (a0,a1,a2) hl d (k+1) fuel (by omega) (by omega)]
   simp
theorem H04{α:Type}{xs:List α}{k:Nat}(h:k<=xs.length):p06 xs (k:Int) (xs.length:Int)=some (xs.drop k):=by
 unfold p06
 rw[if_pos ⟨by omega,by omega,by omega⟩]
 simp
theorem d0a(l:List M0)(hl:l.length<=140737488355328):∀(d k fuel:Nat),k+d=l.length->d<fuel ->
  Q6 l fuel (k:Int)=some (bif G08 (l.drop k)then .inr ()else .inl false)
 |d,k,0,hd,hf=>by omega
 |0,k,fuel+1,hd,hf=>by
  rw[Q6.eq_2,if_neg (by simp;omega),K1 (by omega)]
  rfl
 |d+1,k,fuel+1,hd,hf=>by
  have hk:k<l.length:=by omega
  have hx:=Y5 hk
  generalize l[k]=x at hx
  have h0:=c0a (l.drop (k+1)) x (by simp;omega) (l.drop (k+1)).length 0 Q0 (by omega) (Y0 (by simp;omega))
  rw[show((0:Nat):Int)=0 from rfl,List.drop_zero]at h0
  obtain⟨a0,a1,a2⟩:=x
  rw[Q6.eq_2,if_pos (by simp;omega),I2 hx,oB,O1 hx]
  simp only[Z1 hk (show l.length<=9223372036854775807 by omega),H04 (show k+1<=l.length by omega),oB]
  simp only at h0
  rw[h0,oB]
  simp only[G08]
  cases noC (a0,a1,a2) (l.drop (k+1))with
  |false=>rfl
  |true =>
   simp only[cond_true,c0n,Bool.true_and]
   exact d0a l hl d (k+1) fuel (by omega) (by omega)
theorem V9(g:j0)(hl:g.2.2.length<=140737488355328):I5 g=some (D0 g):=by
 have hG:=o02 g hl
 obtain⟨r,n,es⟩:=g
 unfold I5 D0
 simp only[hG,oB]
 cases G1 (r,n,es)with
 |false=>rfl
 |true =>
  have h:=d0a es hl es.length 0 Q0 (by omega) (Y0 hl)
  rw[show((0:Nat):Int)=0 from rfl,List.drop_zero]at h
  rw[if_neg (by simp),h,oB]
  cases G08 es<;>rfl
theorem e0a(l:List M0)(hl:l.length<=140737488355328){i:Nat}{a:M0}(ha:l[i]?=some a):∀(d k fuel:Nat),k+d=i->d<fuel ->
  O6 (i:Int) l fuel (k:Int)=some (bif noC a ((l.take i).drop k)then .inr ()else .inl false)
 |d,k,0,hd,hf=>by omega
 |0,k,fuel+1,hd,hf=>by
  have:=(List.getElem?_eq_some_iff.1 ha).1
  rw[O6.eq_2,if_neg (by simp;omega),K1 (by simp;omega)]
  rfl
 |d+1,k,fuel+1,hd,hf=>by
  have hi:=(List.getElem?_eq_some_iff.1 ha).1
  have hk:k<l.length:=by omega
  have hx:=Y5 hk
  have hx2:(l.take i)[k]?=some l[k]:=by rw[List.getElem?_take,if_pos (by omega)];exact hx
  have ih:=e0a l hl ha d (k+1) fuel (by omega) (by omega)
  generalize l[k]=x at hx hx2
  obtain⟨a0,a1,a2⟩:=a
  obtain⟨b0,b1,b2⟩:=x
  rw[O6.eq_2,if_pos (by simp;omega),I2 ha,oB,O1 hx2]
  simp only[I2 hx,oB,W0q,noC]
  cases hc:G04 (a0,a1,a2) (b0,b1,b2)with
  |true=>rfl
  |false =>
   rw[if_neg (by simp),Z1 hk (by omega),ih]
   simp
theorem X0q{α:Type}{xs:List α}{k:Nat}{x:α}(h:xs[k]?=some x):xs.take (k+1)=xs.take k ++ [x]:=by
 obtain⟨hk,rfl⟩:=List.getElem?_eq_some_iff.1 h
 exact List.take_succ_eq_append_getElem hk
theorem f0a(r n:Int)(l:List M0)(hg:G1 (r,n,l)=true)(hl:l.length<=140737488355328):∀(d k fuel:Nat),k+d=l.length->d<fuel ->
  d5 l r n fuel (k:Int)=some (bif W0d (l.take k) (l.drop k)then .inr ()else .inl false)
 |d,k,0,hd,hf=>by omega
 |0,k,fuel+1,hd,hf=>by
  have e:decide ((k:Int)<(l.length:Int))=false:=by simp;omega
  rw[d5.eq_2,e,C3,oB,if_neg (by simp),K1 (by omega)]
  rfl
 |d+1,k,fuel+1,hd,hf=>by
  have hk:k<l.length:=by omega
  have hx:=Y5 hk
  generalize l[k]=x at hx
  have h0:=e0a l hl hx k 0 Q0 (by omega) (Y0 (by omega))
  rw[show((0:Nat):Int)=0 from rfl,List.drop_zero]at h0
  have e:decide ((k:Int)<(l.length:Int))=true:=by simp;omega
  rw[d5.eq_2,e,T1,G9 (r,n,l) hl,oB,hg,if_pos (show(bif true then true else false)=true from rfl),h0,oB,O1 hx]
  simp only[W0d]
  cases noC x (l.take k)with
  |false=>rfl
  |true =>
   simp only[cond_true,c0n,Bool.true_and]
   rw[Z1 hk (by omega),←X0q hx]
   exact f0a r n l hg hl d (k+1) fuel (by omega) (by omega)
theorem P8(g:j0)(hl:g.2.2.length<=140737488355328):T4 g=some (D0 g):=by
 have hG:=G9 g hl
 obtain⟨r,n,es⟩:=g
 unfold T4 D0
 simp only[hG,oB]
 cases hg:G1 (r,n,es)with
 |false =>
  have h1:d5 es r n Q0 0=some (.inr ()):=by
   rw[show Q0=(Q0-1)+1 from rfl,d5.eq_2]
   by_cases e:decide ((0:Int)<(es.length:Int))=true
   ·rw[e,T1,hG,oB,hg,if_neg (by simp)]
   ·rw[Bool.not_eq_true]at e
    rw[e,C3,oB,if_neg (by simp)]
  rw[h1]
  rfl
 |true =>
  have h:=f0a r n es hg hl es.length 0 Q0 (by omega) (Y0 hl)
  rw[show((0:Nat):Int)=0 from rfl,List.drop_zero,List.take_zero,j0n]at h
  rw[h,oB]
  cases G08 es<;>rfl
def f0c(g:j0):Int->List Int->Int×Nat
 |v,[]=>(v,0)
 |v,x::w=>if N0 g v x<0 then(v,0)else((f0c g (N0 g v x) w).1,(f0c g (N0 g v x) w).2+1)
theorem D1{g:j0}(h:D0 g=true):inG g/\(1<=g.1/\g.1<=3)/\(1<=g.2.1/\g.2.1<=40)/\g.2.2.length<=120:=by
 unfold D0 at h
 simp only[Bool.and_eq_true]at h
 exact F1 h.1
def H0o(v:Int)(e:M0):Nat:=(if e.1=v then 1 else 0)+(if e.2.2=v then 1 else 0)
def O02(v:Int):List M0->Nat
 | []=>0
 |e::r=>H0o v e+O02 v r
theorem y0q(v:Int)(e:M0):H0o v e<=2:=by unfold H0o;split<;>split<;>omega
theorem r0h(v:Int):∀ l,O02 v l<=2*l.length
 | []=>by simp[O02]
 |e::r=>by have:=y0q v e;have:=r0h v r;simp only[O02,List.length_cons];omega
theorem X0d(es:List M0)(v:Int)(hl:es.length<=1099511627776):∀(d k fuel acc:Nat),k+d=es.length->d<fuel->acc<=2*k ->
  L3 es v fuel (acc:Int) (k:Int)=some ((acc+O02 v (es.drop k):Nat):Int)
 |d,k,0,acc,hd,hf,ha=>by omega
 |0,k,fuel+1,acc,hd,hf,ha=>by
  rw[L3.eq_2,if_neg (by simp;omega),K1 (by omega)];rfl
 |d+1,k,fuel+1,acc,hd,hf,ha=>by
  have hk:k<es.length:=by omega
  have he:=Y5 hk
  generalize es[k]=e at he
  obtain⟨a,l,b⟩:=e
  have ih:=λacc' h=>X0d es v hl d (k+1) fuel acc' (by omega) (by omega) h
  have w1:IntKind.i64.wrap ((acc:Int)+1)=((acc+1:Nat):Int):=by rw[w64 (by omega) (by omega)];rfl
  have w2:IntKind.i64.wrap (((acc+1:Nat):Int)+1)=((acc+2:Nat):Int):=by rw[w64 (by omega) (by omega)];rfl
  rw[L3.eq_2,if_pos (by simp;omega),I2 he,O1 he]
  simp only[oB,O02,H0o,Z1 hk (show es.length<=9223372036854775807 by omega)]
  by_cases c1:a=v
  ·rw[if_pos (by simpa using c1),if_pos c1]
   by_cases c2:b=v
   ·rw[if_pos (by simpa using c2),if_pos c2,w1,w2,ih _ (by omega)];congr 2;omega
   ·rw[if_neg (by simpa using c2),if_neg c2,w1,ih _ (by omega)];congr 2;omega
  ·rw[if_neg (by simpa using c1),if_neg c1]
   by_cases c2:b=v
   ·rw[if_pos (by simpa using c2),if_pos c2,w1,ih _ (by omega)];congr 2;omega
   ·rw[if_neg (by simpa using c2),if_neg c2,ih _ (by omega)];congr 2;omega
theorem Y0d(es:List M0)(v:Int):∀(fuel:Nat) (x y:Int),j5 es v fuel x y=L3 es v fuel x y
 |0,x,y=>rfl
 |fuel+1,x,y=>by
  rw[j5.eq_2,L3.eq_2]
  simp only[Y0d es v fuel]
  by_cases c:(decide (y<((es.length:Nat):Int)))=true
  ·rw[if_pos c,if_pos c]
   cases hg:gi es y with
   |none=>rfl
   |some e=>simp only[oB]
  ·rw[if_neg c,if_neg c]
theorem V0f(g:j0)(v:Int)(hl:g.2.2.length<=1099511627776):f00 g v=some ((O02 v g.2.2:Nat):Int):=by
 obtain⟨r,n,es⟩:=g
 unfold f00
 have h:=X0d es v hl es.length 0 Q0 0 (by omega) (Y0 (by simp only at hl;omega)) (Nat.zero_le _)
 rw[show((0:Nat):Int)=0 from rfl,List.drop_zero,Nat.zero_add]at h
 simp only[h,oB]
theorem k0n(g:j0)(v:Int)(hl:g.2.2.length<=1099511627776):g01 g v=some ((O02 v g.2.2:Nat):Int):=by
 have h:=V0f g v hl
 obtain⟨r,n,es⟩:=g
 unfold g01
 unfold f00 at h
 simp only[Y0d]at h ⊢
 exact h
def g0c(g h:j0):Bool:=decide (g=h)
theorem Q0c(x y:M0):eqE x y=true↔x=y:=by simp[eqE]
theorem h0c(a b:List M0)(hab:a.length=b.length)(hl:a.length<=9223372036854775807):∀(d k fuel:Nat),k+d=a.length->d<fuel ->
  H1 a b fuel (k:Int)=some (if a.drop k=b.drop k then .inr ()else .inl false)
 |d,k,0,hd,hf=>by omega
 |0,k,fuel+1,hd,hf=>by
  rw[H1.eq_2,if_neg (by simp;omega),K1 (by omega),K1 (by omega)];rfl
 |d+1,k,fuel+1,hd,hf=>by
  have hk:k<a.length:=by omega
  have hk2:k<b.length:=by omega
  have ha:=Y5 hk
  have hb:=Y5 hk2
  generalize a[k]=x at ha
  generalize b[k]=y at hb
  have ih:=h0c a b hab hl d (k+1) fuel (by omega) (by omega)
  rw[H1.eq_2,if_pos (by simp;omega),I2 ha,I2 hb,O1 ha,O1 hb]
  simp only[oB,Z1 hk hl,ih]
  by_cases c:x=y
  ·subst c
   rw[if_neg (by simp[eqE])]
   simp
  ·have hne:eqE x y=false:=Bool.eq_false_iff.2 λh=>c ((Q0c x y).1 h)
   rw[if_pos (show(!eqE x y)=true by rw[hne];rfl),if_neg (by simp[c])]
theorem Z0d(a b:List M0)(hl:a.length<=9223372036854775807):V2 a b=some (decide (a=b)):=by
 unfold V2
 by_cases hab:a.length=b.length
 ·have h:=h0c a b hab hl a.length 0 Q0 (by omega) (by unfold Q0;omega)
  rw[if_neg (by simp;omega),show(0:Int)=((0:Nat):Int) from rfl,h,List.drop_zero,List.drop_zero]
  by_cases c:a=b
  ·rw[if_pos c];simp[R9,c]
  ·rw[if_neg c];simp[R9,c]
 ·rw[if_pos (by simp;omega)]
  congr 1
  symm
  simp
  intro h;exact hab (by rw[h])
theorem W0f(g h:j0)(hl:g.2.2.length<=9223372036854775807):p8 g h=some (g0c g h):=by
 obtain⟨r,n,es⟩:=g
 obtain⟨r',n',es'⟩:=h
 unfold p8 g0c
 simp only[Prod.mk.injEq]
 by_cases c1:r=r'<;>by_cases c2:n=n'<;>simp[c1,c2,T1,C3,Z0d es es' hl]
theorem X0f(a b:List M0):∀(fuel:Nat) (k:Int),a6 a b fuel k=H1 a b fuel k
 |0,k=>rfl
 |fuel+1,k=>by
  rw[a6.eq_2,H1.eq_2]
  simp only[X0f a b fuel]
theorem Y0f(g h:j0)(hl:g.2.2.length<=9223372036854775807):r8 g h=some (g0c g h):=by
 have hS:=Z0d g.2.2 h.2.2 hl
 obtain⟨r,n,es⟩:=g
 obtain⟨r',n',es'⟩:=h
 unfold r8 g0c
 unfold V2 at hS
 simp only[X0f,Prod.mk.injEq]at hS ⊢
 by_cases c1:r=r'
 ·by_cases c2:n=n'
  ·simp only[c1,c2,decide_true,Bool.not_true,cond_false,true_and]
   rw[←hS]
  ·simp[c1,c2]
 ·simp[c1]
def goE(x:M0):List M0->Bool×List M0
 | []=>(false,[])
 |y::l=>if C1 x y<0 then(true,x::y::l)else if C1 x y=0 then(true,y::l)else((goE x l).1,y::(goE x l).2)
theorem I0l(x:M0):∀ l,X00 C1 x l=bif(goE x l).1 then(goE x l).2 else(goE x l).2 ++ [x]
 | []=>rfl
 |y::l=>by
  have ih:=I0l x l
  unfold X00 goE
  by_cases c1:C1 x y<0
  ·rw[if_pos c1,if_pos c1];rfl
  ·rw[if_neg c1,if_neg c1]
   by_cases c2:C1 x y=0
   ·rw[if_pos c2,if_pos c2];rfl
   ·rw[if_neg c2,if_neg c2,ih];cases (goE x l).1<;>rfl
theorem m0b(l:List M0)(w0 w1 w2:Int)(hl:l.length<=1099511627776):∀(d k fuel:Nat) (acc:List M0),k+d=l.length->d<fuel->acc.length<=k+1 ->
  E4 l w0 w1 w2 fuel true (k:Int) acc=some (true,acc++l.drop k)
 |d,k,0,acc,hd,hf,ha=>by omega
 |0,k,fuel+1,acc,hd,hf,ha=>by
  rw[E4.eq_2,if_neg (by simp;omega),K1 (by omega),List.append_nil]
 |d+1,k,fuel+1,acc,hd,hf,ha=>by
  have hk:k<l.length:=by omega
  have he:=Y5 hk
  generalize l[k]=e at he
  obtain⟨a,x,b⟩:=e
  have ih:=m0b l w0 w1 w2 hl d (k+1) fuel (acc ++ [(a,x,b)]) (by omega) (by omega) (by simp;omega)
  rw[E4.eq_2,if_pos (by simp;omega),O1 he]
  simp only[I2 he,oB,x02,C0 (P0c _ _),Z1 hk (show l.length<=9223372036854775807 by omega),Bool.not_true]
  have hb:∀ b:Bool,(bif b then false else false)=false:=λb=>by cases b<;>rfl
  simp only[hb,Bool.false_eq_true,if_false]
  rw[C0 (by simp;omega),oB,ih]
  simp
theorem a0e(l:List M0)(w0 w1 w2:Int)(hl:l.length<=1099511627776):∀(d k fuel:Nat) (acc:List M0),k+d=l.length->d<fuel->acc.length=k ->
  E4 l w0 w1 w2 fuel false (k:Int) acc=some ((goE (w0,w1,w2) (l.drop k)).1,acc++(goE (w0,w1,w2) (l.drop k)).2)
 |d,k,0,acc,hd,hf,ha=>by omega
 |0,k,fuel+1,acc,hd,hf,ha=>by
  rw[E4.eq_2,if_neg (by simp;omega),K1 (by omega)];simp[goE]
 |d+1,k,fuel+1,acc,hd,hf,ha=>by
  have hk:k<l.length:=by omega
  have he:=Y5 hk
  generalize l[k]=e at he
  obtain⟨a,x,b⟩:=e
  have ih:=a0e l w0 w1 w2 hl d (k+1) fuel (acc ++ [(a,x,b)]) (by omega) (by omega) (by simp;omega)
  have on1:=m0b l w0 w1 w2 hl d (k+1) fuel (acc ++ [(a,x,b)]) (by omega) (by omega) (by simp;omega)
  have on2:=m0b l w0 w1 w2 hl d (k+1) fuel ((acc ++ [(w0,w1,w2)]) ++ [(a,x,b)]) (by omega) (by omega) (by simp;omega)
  rw[E4.eq_2,if_pos (by simp;omega),O1 he]
  simp only[I2 he,oB,x02,C0 (P0c _ _),Z1 hk (show l.length<=9223372036854775807 by omega),Bool.not_true,Bool.not_false,goE]
  show _=_
  unfold S0d
  by_cases c1:C1 (w0,w1,w2) (a,x,b)=0
  ·rw[if_pos (by simpa using c1),if_neg (by simp[c1]),if_neg (by omega),if_pos c1]
   rw[C0 (by simp;omega),oB,on1];simp
  ·rw[if_neg (by simpa using c1)]
   by_cases c2:C1 (w0,w1,w2) (a,x,b)<0
   ·rw[if_pos (by simp[c2]),if_pos c2,C0 (by simp;omega),oB,C0 (by simp;omega),oB,on2];simp
   ·rw[if_neg (by simp[c2]),if_neg c2,if_neg c1,C0 (by simp;omega),oB,ih];simp
theorem R0c(l:List M0)(e:M0)(hl:l.length<=1099511627776):l00 l e=some (X00 C1 e l):=by
 obtain⟨w0,w1,w2⟩:=e
 unfold l00
 have h:=a0e l w0 w1 w2 hl l.length 0 Q0 [] (by omega) (Y0 (by omega)) rfl
 rw[show((0:Nat):Int)=0 from rfl,List.drop_zero,List.nil_append]at h
 simp only[h,oB,I0l]
 have hlen:∀ l:List M0,(goE (w0,w1,w2) l).2.length<=l.length+1:=λl=>by
  induction l with
  |nil=>simp[goE]
  |cons y l ih =>
   unfold goE
   split
   ·simp
   ·split
    ·simp
    ·simp only[List.length_cons];omega
 have:=hlen l
 cases (goE (w0,w1,w2) l).1 with
 |true=>rfl
 |false =>
  simp only[Bool.not_false,if_true,cond_false]
  rw[C0 (by simp;omega),oB]
theorem X07(e:M0):∀ l:List M0,(X00 C1 e l).length<=l.length+1
 | []=>by simp[X00]
 |y::l=>by
  have:=X07 e l
  unfold X00
  split
  ·simp
  ·split
   ·simp
   ·simp only[List.length_cons];omega
theorem b0e(es:List M0)(hl:es.length<=1099511627776):u00 es=some (J7 C1 [] es):=by
 unfold u00
 rw[C0 (by simp;omega),oB,C0 (by simp;omega),oB,List.nil_append]
 exact congrArg some (T0i S9 Q0c es es λ_=>Iff.rfl)
theorem d09(g:j0)(hl:g.2.2.length<=1099511627776):B6 g=some g:=by
 obtain⟨r,n,es⟩:=g
 unfold B6
 simp only
 rw[C0 (by simp only[List.length_nil,Nat.zero_add];simp only at hl;omega)];rfl
theorem I04(g:j0)(hl:g.2.2.length<=1099511627776):J5 g=some g:=by
 obtain⟨r,n,es⟩:=g
 unfold J5
 simp only
 rw[C0 (by simp only[List.length_nil,Nat.zero_add];simp only at hl;omega)];rfl
inductive Rch (es:List M0) (v:Int):Int->Prop
 |base:Rch es v v
 |fwd {e:M0}:e∈es->Rch es v e.1->Rch es v e.2.2
 |bwd {e:M0}:e∈es->Rch es v e.2.2->Rch es v e.1
theorem Rch.closed{es:List M0}{v:Int}:∀ e∈es,Rch es v e.1↔Rch es v e.2.2:=λe he=>⟨.fwd he,.bwd he⟩
theorem Rch.sub{es:List M0}{v:Int}{P:Int->Prop}(hv:P v)(hc:∀ e∈es,P e.1↔P e.2.2):∀ {x},Rch es v x->P x
 |_,.base=>hv
 |_,.fwd he h=>(hc _ he).1 (Rch.sub hv hc h)
 |_,.bwd he h=>(hc _ he).2 (Rch.sub hv hc h)
def L9(S:List Bool)(i:Int):Bool:=S.getD i.toNat false
def stJ(S:List Bool)(e:M0):List Bool:=(S.set e.1.toNat true).set e.2.2.toNat true
def pJ:List M0->Bool->List Bool->Bool×List Bool
 | [],c,S=>(c,S)
 |e::r,c,S=>bif L9 S e.1 == L9 S e.2.2 then pJ r c S else pJ r true (stJ S e)
def cF:List Bool->Nat
 | []=>0
 |b::r=>(bif b then 0 else 1)+cF r
theorem A0k:∀(S:List Bool) (i:Nat),cF (S.set i true)<=cF S
 | [],i=>by simp[cF]
 |b::r,0=>by simp[cF]
 |b::r,i+1=>by have:=A0k r i;simp only[List.set_cons_succ,cF];omega
theorem I0o:∀(S:List Bool) (i:Nat),S[i]?=some false->cF (S.set i true)<cF S
 | [],i,h=>by simp at h
 |b::r,0,h=>by simp at h;subst h;simp[cF]
 |b::r,i+1,h=>by have:=I0o r i (by simpa using h);simp only[List.set_cons_succ,cF];omega
theorem Y0q:∀ S:List Bool,cF S<=S.length
 | []=>by simp[cF]
 |b::r=>by have:=Y0q r;cases b<;>simp only[cF,List.length_cons,cond_true,cond_false]<;>omega
def inN(n:Nat)(es:List M0):Prop:=∀ e∈es,(0<=e.1/\e.1<(n:Int))/\(0<=e.2.2/\e.2.2<(n:Int))
theorem q07{S:List Bool}{i:Nat}(h:i<S.length)(x:Int):L9 (S.set i true) x=(decide (x.toNat=i) || L9 S x):=by
 unfold L9
 rw[List.getD_eq_getElem?_getD,List.getD_eq_getElem?_getD,List.getElem?_set]
 by_cases c:i=x.toNat
 ·rw[if_pos c,if_pos (by omega)];simp[c]
 ·rw[if_neg c]
  have:decide (x.toNat=i)=false:=by simp;exact λe=>c e.symm
  rw[this];rfl
theorem B0k:∀(es:List M0) (c:Bool) (S:List Bool),(pJ es c S).2.length=S.length
 | [],c,S=>rfl
 |e::r,c,S=>by
  unfold pJ
  cases L9 S e.1 == L9 S e.2.2
  ·simp only[cond_false];rw[B0k r];simp[stJ]
  ·simp only[cond_true];exact B0k r c S
theorem s0h{n:Nat}:∀(es:List M0) (c:Bool) (S:List Bool),S.length=n->inN n es->∀ x,L9 S x=true->L9 (pJ es c S).2 x=true
 | [],c,S,hl,hn,x,h=>h
 |e::r,c,S,hl,hn,x,h=>by
  have he:=hn e mS
  have hr:inN n r:=λe he=>hn e (mC _ he)
  unfold pJ
  cases L9 S e.1 == L9 S e.2.2
  ·simp only[cond_false]
   refine s0h r _ _ (by simp[stJ,hl]) hr x ?_
   rw[stJ,q07 (by rw[List.length_set];omega),q07 (by omega),h];simp
  ·simp only[cond_true];exact s0h r c S hl hr x h
theorem c0e{n:Nat}{P:Int->Prop}:∀(es:List M0) (c:Bool) (S:List Bool),S.length=n->inN n es->(∀ e∈es,P e.1↔P e.2.2)->(∀ x,0<=x->L9 S x=true->P x)->∀ x,0<=x->L9 (pJ es c S).2 x=true->P x
 | [],c,S,hl,hn,hc,hs,x,h0,h=>hs x h0 h
 |e::r,c,S,hl,hn,hc,hs,x,h0,h=>by
  have he:=hn e mS
  have hr:inN n r:=λe he=>hn e (mC _ he)
  have hc':=λe he=>hc e (mC _ he)
  have hce:=hc e mS
  unfold pJ at h
  cases hb:L9 S e.1 == L9 S e.2.2
  ·rw[hb]at h
   refine c0e r true (stJ S e) (by simp[stJ,hl]) hr hc' (λy hy h=>?_) x h0 h
   rw[stJ,q07 (by rw[List.length_set];omega),q07 (by omega)]at h
   simp only[Bool.or_eq_true,decide_eq_true_eq]at h
   have hor:P e.1∨P e.2.2:=by
    cases h1:L9 S e.1
    ·cases h2:L9 S e.2.2
     ·rw[h1,h2]at hb;cases hb
     ·exact .inr (hs _ he.2.1 h2)
    ·exact .inl (hs _ he.1.1 h1)
   rcases h with h|h|h
   ·have:y=e.2.2:=by omega
    subst this;exact hor.elim hce.1 id
   ·have:y=e.1:=by omega
    subst this;exact hor.elim id hce.2
   ·exact hs y hy h
  ·rw[hb]at h
   exact c0e r c S hl hr hc' hs x h0 h
theorem C0k{n:Nat}:∀(es:List M0) (c:Bool) (S:List Bool),S.length=n->inN n es->cF (pJ es c S).2<=cF S/\((pJ es c S).1=true->c=true∨cF (pJ es c S).2<cF S)/\((pJ es c S).1=false->c=false/\(pJ es c S).2=S/\∀ e∈es,L9 S e.1=L9 S e.2.2)
 | [],c,S,hl,hn=>⟨Nat.le_refl _,λh => .inl h,λh=>⟨h,rfl,λe he=>nomatch he⟩⟩
 |e::r,c,S,hl,hn=>by
  have he:=hn e mS
  have hr:inN n r:=λe he=>hn e (mC _ he)
  unfold pJ
  cases hb:L9 S e.1 == L9 S e.2.2
  ·simp only[cond_false]
   obtain⟨h1,h2,h3⟩:=C0k r true (stJ S e) (by simp[stJ,hl]) hr
   have hlt:cF (stJ S e)<cF S:=by
    have g:∀(x:Int),0<=x->x<n->L9 S x=false->S[x.toNat]?=some false:=λx hx hx2 hg=>by
     have hk:x.toNat<S.length:=by omega
     unfold L9 at hg
     rw[List.getD_eq_getElem?_getD,List.getElem?_eq_getElem hk]at hg
     rw[List.getElem?_eq_getElem hk];simpa using hg
    cases g1:L9 S e.1
    ·have:=I0o S _ (g _ he.1.1 he.1.2 g1)
     have:=A0k (S.set e.1.toNat true) e.2.2.toNat
     unfold stJ;omega
    ·have g2:L9 S e.2.2=false:=by
      cases g2:L9 S e.2.2
      ·rfl
      ·rw[g1,g2]at hb;cases hb
     have g3:(S.set e.1.toNat true)[e.2.2.toNat]?=some false:=by
      rw[List.getElem?_set]
      by_cases q:e.1.toNat=e.2.2.toNat
      ·exfalso
       have:e.1=e.2.2:=by omega
       rw[this,g2]at g1;cases g1
      ·rw[if_neg q];exact g _ he.2.1 he.2.2 g2
     have:=I0o _ _ g3
     have:=A0k S e.1.toNat
     unfold stJ;omega
   refine⟨by omega,λ_ => .inr (by omega),λh=>?_⟩
   have:=(h3 h).1;cases this
  ·simp only[cond_true]
   obtain⟨h1,h2,h3⟩:=C0k r c S hl hr
   refine⟨h1,h2,λh=>⟨(h3 h).1,(h3 h).2.1,λe' he'=>?_⟩⟩
   rcases List.mem_cons.1 he' with rfl|he'
   ·simpa using hb
   ·exact(h3 h).2.2 e' he'
theorem giB{S:List Bool}{n:Nat}(hl:S.length=n){x:Int}(h0:0<=x)(h1:x<n):gi S x=some (L9 S x):=by
 have hk:x.toNat<S.length:=by omega
 have e:x=((x.toNat:Nat):Int):=by omega
 have h2:gi S ((x.toNat:Nat):Int)=some (L9 S x):=by
  rw[g0b,List.getElem?_eq_getElem hk]
  unfold L9
  rw[List.getD_eq_getElem?_getD,List.getElem?_eq_getElem hk];rfl
 rw[←e]at h2;exact h2
theorem Z0f(es:List M0){n:Nat}(hn:inN n es)(hl:es.length<=9223372036854775807):∀(d k fuel:Nat) (c:Bool) (S:List Bool),S.length=n->k+d=es.length->d<fuel ->
  l4 es fuel c (k:Int) S=some (pJ (es.drop k) c S)
 |d,k,0,c,S,hS,hd,hf=>by omega
 |0,k,fuel+1,c,S,hS,hd,hf=>by
  rw[l4.eq_2,if_neg (by simp;omega),K1 (by omega)];rfl
 |d+1,k,fuel+1,c,S,hS,hd,hf=>by
  have hk:k<es.length:=by omega
  have he:=Y5 hk
  have hin:=hn _ (List.mem_of_getElem? he)
  generalize es[k]=e at he hin
  obtain⟨a,l,b⟩:=e
  have ih:=λc' S' h=>Z0f es hn hl d (k+1) fuel c' S' h (by omega) (by omega)
  rw[l4.eq_2,if_pos (by simp;omega),O1 he]
  simp only[I2 he,oB,giB hS hin.1.1 hin.1.2,giB hS hin.2.1 hin.2.2,Z1 hk hl,giB (show(S.set a.toNat true).length=n by simp[hS]) hin.2.1 hin.2.2,pJ]
  cases hb:L9 S a == L9 S b
  ·simp only[Bool.not_false,if_true,cond_false]
   exact ih _ _ (by simp[hS])
  ·simp only[Bool.not_true,Bool.false_eq_true,if_false,cond_true]
   exact ih _ _ hS
theorem a0g(es:List M0){n:Nat}(hn:inN n es)(hl:es.length<=9223372036854775806):∀(m fuel:Nat) (S:List Bool),S.length=n->cF S<=m->m+1<fuel ->
  ∃ S',O4 es fuel true S=some S'/\S'.length=n/\(∀ x,L9 S x=true->L9 S' x=true)/\(∀ e∈es,L9 S' e.1=L9 S' e.2.2) /\
   ∀ P:Int->Prop,(∀ e∈es,P e.1↔P e.2.2)->(∀ x,0<=x->L9 S x=true->P x)->∀ x,0<=x->L9 S' x=true->P x
 |m,0,S,hS,hm,hf=>by omega
 |m,fuel+1,S,hS,hm,hf=>by
  have h0:=Z0f es hn (by omega) es.length 0 Q0 false S hS (by omega) (by unfold Q0;omega)
  rw[show((0:Nat):Int)=0 from rfl,List.drop_zero]at h0
  obtain⟨c1,c2,c3⟩:=C0k es false S hS hn
  have hlen:=B0k es false S
  rw[O4.eq_2,if_pos rfl,h0,oB]
  have hmono:=s0h es false S hS hn
  have hsnd:=λP=>c0e (P:=P) es false S hS hn
  generalize pJ es false S=q at *
  obtain⟨c,S'⟩:=q
  simp only at c1 c2 c3 hlen hmono hsnd ⊢
  cases c with
  |true =>
   rcases c2 rfl with h|h
   ·cases h
   ·obtain⟨S2,e1,e2,e3,e4,e5⟩:=a0g es hn hl (m-1) fuel S' (by omega) (by omega) (by omega)
    exact⟨S2,e1,e2,λx hx=>e3 x (hmono x hx),e4,λP hc hs=>e5 P hc (hsnd P hc hs)⟩
  |false =>
   obtain⟨_,e,hall⟩:=c3 rfl
   subst e
   obtain _|fuel:=fuel
   ·omega
   ·rw[O4.eq_2,if_neg (by simp)]
    exact⟨_,rfl,hS,λx h=>h,hall,λP _ hs=>hs⟩
theorem X0i(r:Int)(n:Nat)(es:List M0)(hn:inN n es)(hl:es.length<=9223372036854775806)(hn2:1<=n)(hn3:n<=140737488355328):
  ∃ S,t9 (r,(n:Int),es) 0=some S/\S.length=n/\∀ x,0<=x->x<(n:Int)->(L9 S x=true↔Rch es 0 x):=by
 unfold t9
 simp only[Int.toNat_natCast]
 have hg:gi (List.replicate n (false:Bool)) 0=some false:=by
  rw[c09 (x:=false)];rw[List.getElem?_replicate,if_pos (by omega)]
 rw[C0 (by omega),oB,hg,oB]
 have hS:((List.replicate n (false:Bool)).set (0:Int).toNat true).length=n:=by simp
 obtain⟨S',e1,e2,e3,e4,e5⟩:=a0g es hn hl n Q0 _ hS (by have:=Y0q ((List.replicate n (false:Bool)).set (0:Int).toNat true);omega) (by unfold Q0;omega)
 rw[e1]
 have hb:∀ x,L9 ((List.replicate n (false:Bool)).set (0:Int).toNat true) x=decide (x.toNat=0):=λx=>by
  rw[q07 (by simp;omega)]
  have:L9 (List.replicate n false) x=false:=by
   unfold L9
   rw[List.getD_eq_getElem?_getD,List.getElem?_replicate]
   split<;>rfl
  rw[this];simp
 refine⟨S',rfl,e2,λx h0 h1=>⟨λh=>?_,λh=>?_⟩⟩
 ·refine e5 (Rch es 0) Rch.closed (λy hy h=>?_) x h0 h
  rw[hb]at h
  have:y=0:=by simp at h;omega
  subst this;exact .base
 ·exact Rch.sub (P:=λx=>L9 S' x=true) (e3 0 (by rw[hb];rfl)) (λe he=>by rw[e4 e he]) h
theorem Z0q(l:List Int)(w:Int)(hl:l.length<=9223372036854775807):∀(d k fuel:Nat),k+d=l.length->d<fuel ->
  N8 l w fuel (k:Int)=some (if w∈l.drop k then .inl true else .inr ())
 |d,k,0,hd,hf=>by omega
 |0,k,fuel+1,hd,hf=>by
  rw[N8.eq_2,if_neg (by simp;omega),K1 (by omega)];simp
 |d+1,k,fuel+1,hd,hf=>by
  have hk:k<l.length:=by omega
  have hx:=Y5 hk
  generalize l[k]=x at hx
  have ih:=Z0q l w hl d (k+1) fuel (by omega) (by omega)
  rw[N8.eq_2,if_pos (by simp;omega),O1 hx]
  simp only[I2 hx,oB,Z1 hk hl,ih,List.mem_cons]
  by_cases c:x=w
  ·rw[if_pos (by simpa using c),if_pos (.inl c.symm)]
  ·rw[if_neg (by simpa using c)]
   by_cases c2:w∈l.drop (k+1)
   ·rw[if_pos c2,if_pos (.inr c2)]
   ·rw[if_neg c2,if_neg (λh=>h.elim (λe=>c e.symm) c2)]
theorem Y07(l:List Int)(w:Int)(hl:l.length<=9223372036854775807):E8 l w=some (decide (w∈l)):=by
 unfold E8
 have h:=Z0q l w hl l.length 0 Q0 (by omega) (by unfold Q0;omega)
 rw[show((0:Nat):Int)=0 from rfl,List.drop_zero]at h
 rw[h,oB]
 by_cases c:w∈l
 ·rw[if_pos c];simp[R9,c]
 ·rw[if_neg c];simp[R9,c]
def s1(u:List Int)(e:M0):List Int:=if e.1∈u then X00 c9 e.2.2 u else u
def s2(u:List Int)(e:M0):List Int:=if e.2.2∈u then X00 c9 e.1 u else u
def pS:List M0->List Int->List Int
 | [],u=>u
 |e::r,u=>pS r (s2 (s1 u e) e)
theorem n0b{u:List Int}{e:M0}{x:Int}:x∈s1 u e↔x∈u∨(e.1∈u/\x=e.2.2):=by
 unfold s1
 split
 ·rename_i h;rw[p07 m02];constructor
  ·rintro(h1|h1)
   ·exact .inr ⟨h,h1⟩
   ·exact .inl h1
  ·rintro(h1|⟨_,h1⟩)
   ·exact .inr h1
   ·exact .inl h1
 ·rename_i h;constructor
  ·exact .inl
  ·rintro(h1|⟨h1,_⟩)
   ·exact h1
   ·exact absurd h1 h
theorem o0b{u:List Int}{e:M0}{x:Int}:x∈s2 u e↔x∈u∨(e.2.2∈u/\x=e.1):=by
 unfold s2
 split
 ·rename_i h;rw[p07 m02];constructor
  ·rintro(h1|h1)
   ·exact .inr ⟨h,h1⟩
   ·exact .inl h1
  ·rintro(h1|⟨_,h1⟩)
   ·exact .inr h1
   ·exact .inl h1
 ·rename_i h;constructor
  ·exact .inl
  ·rintro(h1|⟨h1,_⟩)
   ·exact h1
   ·exact absurd h1 h
theorem J0o(u:List Int)(e:M0):(s1 u e).length<=u.length+1:=by
 unfold s1;split
 ·exact N05 _ _
 ·omega
theorem K0o(u:List Int)(e:M0):(s2 u e).length<=u.length+1:=by
 unfold s2;split
 ·exact N05 _ _
 ·omega
theorem D0k:∀(es:List M0) (u:List Int),(pS es u).length<=u.length+2*es.length
 | [],u=>by simp[pS]
 |e::r,u=>by
  have:=D0k r (s2 (s1 u e) e)
  have:=K0o (s1 u e) e
  have:=J0o u e
  simp only[pS,List.length_cons];omega
theorem s06:∀(es:List M0) (u:List Int) (x:Int),x∈u->x∈pS es u
 | [],u,x,h=>h
 |e::r,u,x,h=>s06 r _ x (o0b.2 (.inl (n0b.2 (.inl h))))
theorem d0e{P:Int->Prop}:∀(es:List M0) (u:List Int),(∀ e∈es,P e.1↔P e.2.2)->(∀ x∈u,P x)->∀ x∈pS es u,P x
 | [],u,hc,hs=>hs
 |e::r,u,hc,hs=>d0e r _ (λe he=>hc e (mC _ he)) λx hx=>by
  have hce:=hc e mS
  have h1:∀ y∈s1 u e,P y:=λy hy=>by
   rcases n0b.1 hy with h|⟨h,rfl⟩
   ·exact hs y h
   ·exact hce.1 (hs _ h)
  rcases o0b.1 hx with h|⟨h,rfl⟩
  ·exact h1 x h
  ·exact hce.2 (h1 _ h)
theorem Y0i:∀(es:List M0) (u:List Int) (e:M0),e∈es->e.1∈u∨e.2.2∈u->e.1∈pS es u/\e.2.2∈pS es u
 |e'::r,u,e,he,h=>by
  simp only[pS]
  rcases List.mem_cons.1 he with rfl|he
  ·have h2:e.2.2∈s1 u e:=by
    rcases h with h|h
    ·exact n0b.2 (.inr ⟨h,rfl⟩)
    ·exact n0b.2 (.inl h)
   exact⟨s06 r _ _ (o0b.2 (.inr ⟨h2,rfl⟩)),s06 r _ _ (o0b.2 (.inl h2))⟩
  ·exact Y0i r _ e he (h.imp (λh=>o0b.2 (.inl (n0b.2 (.inl h)))) λh=>o0b.2 (.inl (n0b.2 (.inl h))))
def act(es:List M0)(u:List Int):Nat:=es.countP λe=>decide (e.1∈u)&&decide (e.2.2∈u)
def clo(es:List M0)(u:List Int):Prop:=∀ e∈es,e.1∈u↔e.2.2∈u
theorem J0r(es:List M0)(u:List Int):act es u<=es.length:=List.countP_le_length
theorem b0g{α:Type}{p q:α->Bool}:∀ {l:List α},(∀ x∈l,p x=true->q x=true)->(∃ x∈l,p x=false/\q x=true)->l.countP p<l.countP q
 | [],_,⟨x,hx,_⟩=>nomatch hx
 |y::l,h,⟨x,hx,h1,h2⟩=>by
  have hle:l.countP p<=l.countP q:=List.countP_mono_left λz hz=>h z (mC _ hz)
  rcases List.mem_cons.1 hx with rfl|hx
  ·rw[List.countP_cons_of_neg (by simp[h1]),List.countP_cons_of_pos h2];omega
  ·have ih:=b0g (l:=l) (λz hz=>h z (mC _ hz)) ⟨x,hx,h1,h2⟩
   cases hp:p y
   ·rw[List.countP_cons_of_neg (by simp[hp])]
    have:l.countP q<=(y::l).countP q:=by rw[List.countP_cons];omega
    omega
   ·rw[List.countP_cons_of_pos hp,List.countP_cons_of_pos (h y mS hp)];omega
theorem g0a{es:List M0}{u:List Int}(h:clo es u)(x:Int):x∈pS es u↔x∈u :=
 ⟨d0e (P:=λx=>x∈u) es u h (λ_ h=>h) x,s06 es u x⟩
theorem L0o{es:List M0}{u:List Int}:clo es (pS es u)∨act es u<act es (pS es u):=by
 by_cases h:clo es u
 ·left
  intro e he
  rw[g0a h,g0a h];exact h e he
 ·right
  have:∃ e∈es,¬ (e.1∈u↔e.2.2∈u):=by
   refine Classical.byContradiction λhn=>h λe he=>?_
   exact Classical.byContradiction λh2=>hn ⟨e,he,h2⟩
  obtain⟨e,he,hne⟩:=this
  refine b0g (λx hx h=>?_) ⟨e,he,?_,?_⟩
  ·simp only[Bool.and_eq_true,decide_eq_true_eq]at h ⊢
   exact⟨s06 _ _ _ h.1,s06 _ _ _ h.2⟩
  ·rw[Bool.eq_false_iff]
   intro h
   simp only[Bool.and_eq_true,decide_eq_true_eq]at h
   exact hne ⟨λ_=>h.2,λ_=>h.1⟩
  ·have ht:e.1∈u∨e.2.2∈u:=by
    refine Classical.byContradiction λhn=>hne ⟨λh=>absurd (.inl h) hn,λh=>absurd (.inr h) hn⟩
   have:=Y0i es u e he ht
   simp only[Bool.and_eq_true,decide_eq_true_eq];exact this
def itS(es:List M0):Nat->List Int->List Int
 |0,u=>u
 |j+1,u=>itS es j (pS es u)
theorem J0l(es:List M0):∀(j:Nat) (u:List Int),(itS es j u).length<=u.length+j*(2*es.length)
 |0,u=>by simp[itS]
 |j+1,u=>by have:=J0l es j (pS es u);have:=D0k es u;simp only[itS,Nat.add_mul,Nat.one_mul];omega
theorem K0l(es:List M0):∀(j:Nat) (u:List Int),clo es u->clo es (itS es j u)
 |0,u,h=>h
 |j+1,u,h=>K0l es j _ λe he=>by rw[g0a h,g0a h];exact h e he
theorem L0l(es:List M0):∀(j:Nat) (u:List Int),clo es (itS es j u)∨act es u+j<=act es (itS es j u)
 |0,u => .inr (Nat.le_refl _)
 |j+1,u=>by
  rcases L0o (es:=es) (u:=u)with h|h
  ·exact .inl (K0l es j _ h)
  ·rcases L0l es j (pS es u)with h2|h2
   ·exact .inl h2
   ·right;simp only[itS];omega
theorem Z0i(es:List M0):∀(j:Nat) (u:List Int) (x:Int),x∈u->x∈itS es j u
 |0,u,x,h=>h
 |j+1,u,x,h=>Z0i es j _ x (s06 es u x h)
theorem c0g{P:Int->Prop}(es:List M0)(hc:∀ e∈es,P e.1↔P e.2.2):∀(j:Nat) (u:List Int),(∀ x∈u,P x)->∀ x∈itS es j u,P x
 |0,u,hs=>hs
 |j+1,u,hs=>c0g es hc j _ (d0e es u hc hs)
theorem Z07(es:List M0)(v x:Int):x∈itS es (es.length+1) [v]↔Rch es v x:=by
 constructor
 ·exact c0g (P:=Rch es v) es Rch.closed _ _ (λy hy=>by simp at hy;subst hy;exact .base) x
 ·have hc:clo es (itS es (es.length+1) [v]):=by
   rcases L0l es (es.length+1) [v]with h|h
   ·exact h
   ·have:=J0r es (itS es (es.length+1) [v]);omega
  exact Rch.sub (P:=λx=>x∈itS es (es.length+1) [v]) (Z0i _ _ _ _ (by simp)) hc
theorem e0e(es:List M0)(hl:es.length<=9223372036854775807):∀(d k fuel:Nat) (u:List Int),k+d=es.length->d<fuel->u.length+2*d<=1099511627776 ->
  G3 es fuel u (k:Int)=some (pS (es.drop k) u)
 |d,k,0,u,hd,hf,hu=>by omega
 |0,k,fuel+1,u,hd,hf,hu=>by
  rw[G3.eq_2,if_neg (by simp;omega),K1 (by omega)];rfl
 |d+1,k,fuel+1,u,hd,hf,hu=>by
  have hk:k<es.length:=by omega
  have he:=Y5 hk
  generalize es[k]=e at he
  obtain⟨a,l,b⟩:=e
  have ih:=λu' h=>e0e es hl d (k+1) fuel u' (by omega) (by omega) h
  have g1:=J0o u (a,l,b)
  have g2:=K0o (s1 u (a,l,b)) (a,l,b)
  rw[G3.eq_2,if_pos (by simp;omega),O1 he]
  simp only[I2 he,oB,Y07 u _ (by omega),Z1 hk hl,pS]
  by_cases c:a∈u
  ·rw[if_pos (by simpa using c),Z09 _ _ (by omega),oB]
   have e1:s1 u (a,l,b)=X00 c9 b u:=if_pos c
   rw[e1]at g1 g2 ⊢
   rw[Y07 _ _ (by omega),oB]
   by_cases c2:b∈X00 c9 b u
   ·rw[if_pos (by simpa using c2),Z09 _ _ (by omega),oB]
    have e2:s2 (X00 c9 b u) (a,l,b)=X00 c9 a (X00 c9 b u):=if_pos c2
    rw[e2]at g2 ⊢
    exact ih _ (by omega)
   ·rw[if_neg (by simpa using c2)]
    have e2:s2 (X00 c9 b u) (a,l,b)=X00 c9 b u:=if_neg c2
    rw[e2]
    exact ih _ (by omega)
  ·rw[if_neg (by simpa using c)]
   have e1:s1 u (a,l,b)=u:=if_neg c
   rw[e1]at g2 ⊢
   by_cases c2:b∈u
   ·rw[if_pos (by simpa using c2),Z09 _ _ (by omega),oB]
    have e2:s2 u (a,l,b)=X00 c9 a u:=if_pos c2
    rw[e2]at g2 ⊢
    exact ih _ (by omega)
   ·rw[if_neg (by simpa using c2)]
    have e2:s2 u (a,l,b)=u:=if_neg c2
    rw[e2]
    exact ih _ (by omega)
theorem f0e(es:List M0)(hl:es.length<=120):∀(d k fuel:Nat) (u:List Int),k+d=es.length+1->d<fuel->u.length<=1+k*240 ->
  o5 es fuel u (k:Int)=some (itS es d u)
 |d,k,0,u,hd,hf,hu=>by omega
 |0,k,fuel+1,u,hd,hf,hu=>by
  rw[o5.eq_2,if_neg (by rw[w64 (by omega) (by omega)];simp;omega)];rfl
 |d+1,k,fuel+1,u,hd,hf,hu=>by
  have h0:=e0e es (by omega) es.length 0 Q0 u (by omega) (Y0 (by omega)) (by omega)
  rw[show((0:Nat):Int)=0 from rfl,List.drop_zero]at h0
  have ih:=f0e es hl d (k+1) fuel (pS es u) (by omega) (by omega) (by have:=D0k es u;omega)
  rw[o5.eq_2,if_pos (by rw[w64 (by omega) (by omega)];simp;omega),h0,oB,Z1 (show k<1000 by omega) (by omega),ih]
  rfl
def getI(P:List Int)(v:Int):Int:=P.getD v.toNat (-1)
def Z00:List Int->Nat->List Int->List Int
 |A,k,[]=>A
 |A,k,v::r=>Z00 (A.set v.toNat (k:Int)) (k+1) r
def plc(n:Nat)(o:List Int):List Int:=Z00 (List.replicate n (-1)) 0 o
theorem g0e:∀(o:List Int) (k:Nat) (A:List Int),(Z00 A k o).length=A.length
 | [],k,A=>rfl
 |v::r,k,A=>by rw[Z00,g0e r];simp
def inV(n:Nat)(o:List Int):Prop:=∀ v∈o,0<=v/\v<(n:Int)
theorem giI{P:List Int}{n:Nat}(hl:P.length=n){x:Int}(h0:0<=x)(h1:x<n):gi P x=some (getI P x):=by
 have hk:x.toNat<P.length:=by omega
 have e:x=((x.toNat:Nat):Int):=by omega
 have h2:gi P ((x.toNat:Nat):Int)=some (getI P x):=by
  rw[g0b,List.getElem?_eq_getElem hk]
  unfold getI
  rw[List.getD_eq_getElem?_getD,List.getElem?_eq_getElem hk];rfl
 rw[←e]at h2;exact h2
theorem z03{A:List Int}{v x:Int}{y:Int}(h0:0<=v)(h1:v.toNat<A.length)(hx:0<=x):getI (A.set v.toNat y) x=if x=v then y else getI A x:=by
 unfold getI
 rw[List.getD_eq_getElem?_getD,List.getD_eq_getElem?_getD,List.getElem?_set]
 by_cases c:x=v
 ·rw[if_pos c,if_pos (by rw[c]),if_pos h1];rfl
 ·rw[if_neg c,if_neg (by omega)]
theorem h0a{n:Nat}:∀(o:List Int) (k:Nat) (A:List Int),A.length=n->inV n o->(∀ x,0<=x -> -1<=getI A x/\getI A x<(k:Int))->∀ x,0<=x -> -1<=getI (Z00 A k o) x/\getI (Z00 A k o) x<((k+o.length:Nat):Int)
 | [],k,A,hA,ho,h,x,hx=>h x hx
 |v::r,k,A,hA,ho,h,x,hx=>by
  have hv:=ho v mS
  have:=h0a r (k+1) (A.set v.toNat (k:Int)) (by simp[hA]) (λw hw=>ho w (mC _ hw)) (λy hy=>by
   rw[z03 hv.1 (by omega) hy]
   have:=h y hy
   split<;>omega) x hx
  rw[Z00,List.length_cons,show k+(r.length+1)=k+1+r.length by omega];exact this
theorem r07(n:Nat)(x:Int):getI (List.replicate n (-1)) x = -1:=by
 unfold getI
 rw[List.getD_eq_getElem?_getD,List.getElem?_replicate]
 split<;>rfl
theorem O05{n:Nat}{o:List Int}(ho:inV n o){x:Int}(hx:0<=x): -1<=getI (plc n o) x/\getI (plc n o) x<(o.length:Int):=by
 have:=h0a o 0 (List.replicate n (-1)) (by simp) ho (λx hx=>by rw[r07];omega) x hx
 rw[Nat.zero_add]at this;exact this
theorem M0l(n:Nat)(o:List Int):(plc n o).length=n:=by unfold plc;rw[g0e];simp
def pE(P:List Int):List M0->List M0
 | []=>[]
 |e::r=>bif decide (0<=getI P e.1)&&decide (0<=getI P e.2.2)then(getI P e.1,e.2.1,getI P e.2.2)::pE P r else pE P r
theorem t0h(P:List Int):∀ es,(pE P es).length<=es.length
 | []=>by simp[pE]
 |e::r=>by
  have:=t0h P r
  unfold pE
  cases decide (0<=getI P e.1)&&decide (0<=getI P e.2.2)<;>simp only[cond_true,cond_false,List.length_cons]<;>omega
theorem a0r{n:Nat}{o:List Int}(ho:inV n o):∀(es:List M0),inN n es->inN o.length (pE (plc n o) es)
 | [],hn=>λe he=>nomatch he
 |e::r,hn=>by
  have hr:=a0r ho r λe he=>hn e (mC _ he)
  have he:=hn e mS
  unfold pE
  cases hb:decide (0<=getI (plc n o) e.1)&&decide (0<=getI (plc n o) e.2.2)
  ·simpa only[cond_false] using hr
  ·simp only[cond_true]
   simp only[Bool.and_eq_true,decide_eq_true_eq]at hb
   intro e' he'
   rcases List.mem_cons.1 he' with rfl|he'
   ·exact⟨⟨hb.1,(O05 ho he.1.1).2⟩,hb.2,(O05 ho he.2.1).2⟩
   ·exact hr e' he'
def i8(g:j0)(o:List Int):j0:=(g.1,(o.length:Int),J7 C1 [] (pE (plc g.2.1.toNat o) g.2.2))
theorem A03:∀(r l:List M0),(J7 C1 l r).length<=l.length+r.length
 | [],l=>by simp[J7]
 |e::r,l=>by have:=A03 r (X00 C1 e l);have:=X07 e l;simp only[J7,List.length_cons];omega
theorem e09(g:j0)(o:List Int):(i8 g o).2.2.length<=g.2.2.length:=by
 have:=A03 (pE (plc g.2.1.toNat o) g.2.2) []
 have:=t0h (plc g.2.1.toNat o) g.2.2
 simp only[i8,List.length_nil]at *;omega
theorem d0g{n:Nat}{r:Int}{es:List M0}{o:List Int}(ho:inV n o)(hn:inN n es):inN o.length (i8 (r,(n:Int),es) o).2.2:=by
 intro e he
 simp only[i8,Int.toNat_natCast]at he
 rcases(Y00 S9 e _ _).1 he with h|h
 ·cases h
 ·exact a0r ho es hn e h
theorem N0l(n:Nat)(hn:n<=140737488355328):∀(d k fuel:Nat),k+d=n->d<fuel ->
  F9 n fuel (k:Int) (List.replicate k (-1)++List.replicate d 0)=some (List.replicate n (-1))
 |d,k,0,hd,hf=>by omega
 |0,k,fuel+1,hd,hf=>by
  rw[F9.eq_2,if_neg (by simp;omega),show k=n by omega];simp
 |d+1,k,fuel+1,hd,hf=>by
  have hg:gi (List.replicate k (-1)++List.replicate (d+1) (0:Int)) (k:Int)=some 0:=by
   rw[g0b,List.getElem?_append_right (by simp)];simp
  have ih:=N0l n hn d (k+1) fuel (by omega) (by omega)
  rw[F9.eq_2,if_pos (by simp;omega),hg,oB,Z1 (show k<n by omega) (by omega),Int.toNat_natCast]
  have e:(List.replicate k (-1)++List.replicate (d+1) (0:Int)).set k (-1)=List.replicate (k+1) (-1)++List.replicate d 0:=by
   rw[List.set_append_right _ _ (by simp),List.length_replicate,Nat.sub_self,List.replicate_succ,List.set_cons_zero,List.replicate_succ']
   simp
  rw[e,ih]
theorem O0l(o:List Int){n:Nat}(ho:inV n o)(hl:o.length<=9223372036854775807):∀(d k fuel:Nat) (A:List Int),A.length=n->k+d=o.length->d<fuel ->
  E9 o fuel (k:Int) A=some (Z00 A k (o.drop k))
 |d,k,0,A,hA,hd,hf=>by omega
 |0,k,fuel+1,A,hA,hd,hf=>by
  rw[E9.eq_2,if_neg (by simp;omega),K1 (by omega)];rfl
 |d+1,k,fuel+1,A,hA,hd,hf=>by
  have hk:k<o.length:=by omega
  have hx:=Y5 hk
  have hin:=ho _ (List.mem_of_getElem? hx)
  generalize o[k]=v at hx hin
  have ih:=O0l o ho hl d (k+1) fuel (A.set v.toNat (k:Int)) (by simp[hA]) (by omega) (by omega)
  rw[E9.eq_2,if_pos (by simp;omega),O1 hx,I2 hx,oB,giI hA hin.1 hin.2,oB,Z1 hk hl,ih]
  rfl
theorem P0l(es:List M0){n:Nat}(hn:inN n es)(hl:es.length<=1099511627776)(P:List Int)(hP:P.length=n)(r m:Int):∀(d k fuel:Nat) (acc:List M0),k+d=es.length->d<fuel->acc.length<=k ->
  F8 es P fuel (k:Int) r m acc=some (r,m,acc++pE P (es.drop k))
 |d,k,0,acc,hd,hf,ha=>by omega
 |0,k,fuel+1,acc,hd,hf,ha=>by
  rw[F8.eq_2,if_neg (by simp;omega),K1 (by omega)];simp[pE]
 |d+1,k,fuel+1,acc,hd,hf,ha=>by
  have hk:k<es.length:=by omega
  have he:=Y5 hk
  have hin:=hn _ (List.mem_of_getElem? he)
  generalize es[k]=e at he hin
  obtain⟨a,l,b⟩:=e
  have ih:=λacc' h=>P0l es hn hl P hP r m d (k+1) fuel acc' (by omega) (by omega) h
  rw[F8.eq_2,if_pos (by simp;omega),O1 he]
  simp only[I2 he,oB,giI hP hin.1.1 hin.1.2,giI hP hin.2.1 hin.2.2,Z1 hk (show es.length<=9223372036854775807 by omega),pE]
  by_cases c1:0<=getI P a
  ·simp only[show decide (getI P a ≥ 0)=true by simpa using c1,T1,oB,cond_true,show decide (0<=getI P a)=true by simpa using c1,Bool.true_and]
   by_cases c2:0<=getI P b
   ·rw[if_pos (by simpa using c2),C0 (by simp;omega),oB,ih _ (by simp;omega)]
    simp[c2]
   ·rw[if_neg (by simpa using c2),ih _ (by omega)]
    simp[c2]
  ·simp only[show decide (getI P a ≥ 0)=false by simpa using c1,C3,oB,cond_false,show decide (0<=getI P a)=false by simpa using c1,Bool.false_and]
   rw[if_neg (by simp),ih _ (by omega)]
theorem u0h(r:Int)(n:Nat)(es:List M0)(o:List Int)(hn:inN n es)(ho:inV n o)(hn2:n<=1000000)(hl:es.length<=1099511627776)(hl2:o.length<=1099511627776):
  K01 (r,(n:Int),es) o=some (i8 (r,(n:Int),es) o):=by
 unfold K01
 have h2:=N0l n (by omega) n 0 Q0 (by omega) (Y0 (by omega))
 have h1:=O0l o ho (by omega) o.length 0 Q0 (List.replicate n (-1)) (by simp) (by omega) (Y0 (by omega))
 have h0:=P0l es hn hl (plc n o) (M0l n o) r ((o.length:Nat):Int) es.length 0 Q0 [] (by omega) (Y0 (by omega)) (Nat.le_refl _)
 rw[show((0:Nat):Int)=0 from rfl]at h0 h1 h2
 rw[List.replicate_zero,List.nil_append]at h2
 rw[List.drop_zero]at h1
 rw[List.drop_zero,List.nil_append]at h0
 simp only[Int.toNat_natCast]
 rw[C0 (by omega),oB,oB,List.length_replicate,C0 (by omega),oB,h2,oB,h1,oB]
 rw[show Z00 (List.replicate n (-1)) 0 o=plc n o from rfl,h0]
 simp only[oB]
 rw[b0e _ (by have:=t0h (plc n o) es;omega),oB]
 rfl
theorem M0o(A:List Int)(i k:Nat):(A.map (·+1)).set i (((k+1:Nat):Int))=(A.set i (k:Int)).map (·+1):=by
 rw[List.map_set];rfl
theorem h0e{A:List Int}{n:Nat}(hA:A.length=n){x:Int}(h0:0<=x)(h1:x<n):gi (A.map (·+1)) x=some (getI A x+1):=by
 have hk:x.toNat<A.length:=by omega
 have e:x=((x.toNat:Nat):Int):=by omega
 have h2:gi (A.map (·+1)) ((x.toNat:Nat):Int)=some (getI A x+1):=by
  rw[g0b,List.getElem?_map,List.getElem?_eq_getElem hk]
  unfold getI
  rw[List.getD_eq_getElem?_getD,List.getElem?_eq_getElem hk];rfl
 rw[←e]at h2;exact h2
theorem i0e{n:Nat}:∀(o:List Int) (k:Nat) (A:List Int) (x:Int),A.length=n->inV n o->0<=x->x ∉ o->getI (Z00 A k o) x=getI A x
 | [],k,A,x,hA,ho,hx,h=>rfl
 |v::r,k,A,x,hA,ho,hx,h=>by
  have hv:=ho v mS
  rw[Z00,i0e r _ _ x (by simp[hA]) (λw hw=>ho w (mC _ hw)) hx (λhm=>h (mC _ hm)),z03 hv.1 (by omega) hx,if_neg (λe=>h (by rw[e];exact mS))]
theorem N0o(r:Int)(n:Nat)(es:List M0)(o:List Int)(ho:inV n o)(hd':o.Nodup)(hn2:1<=n/\n<=1000000)(hl:o.length<=1099511627776):∀(d k fuel:Nat) (A:List Int),A.length=n->(∀ x,0<=x -> -1<=getI A x/\getI A x<=1099511627776)->(∀ x∈o.drop k,getI A x = -1)->k+d=o.length->d<fuel ->
  F4 o (n:Int) r es fuel (k:Int) (A.map (·+1))=some (.inr ((Z00 A k (o.drop k)).map (·+1)))
 |d,k,0,A,hA,hr,hm,hd,hf=>by omega
 |0,k,fuel+1,A,hA,hr,hm,hd,hf=>by
  rw[F4.eq_2,if_neg (by simp;omega),K1 (by omega)];rfl
 |d+1,k,fuel+1,A,hA,hr,hm,hd,hf=>by
  have hk:k<o.length:=by omega
  have hx:=Y5 hk
  have hin:=ho _ (List.mem_of_getElem? hx)
  have hdr:=O1 hx
  generalize o[k]=v at hx hin hdr
  have hnd:(o.drop k).Nodup:=hd'.sublist (List.drop_sublist _ _)
  rw[hdr]at hnd hm
  have hA0:=hm v mS
  have ih:=N0o r n es o ho hd' hn2 hl d (k+1) fuel (A.set v.toNat (k:Int)) (by simp[hA]) (λx hx=>by
   rw[z03 hin.1 (by omega) hx];have:=hr x hx;split<;>omega) (λx hx=>by
   have hx0:=ho x (List.mem_of_mem_drop hx)
   rw[z03 hin.1 (by omega) hx0.1,if_neg (λe=>(List.nodup_cons.1 hnd).1 (by rw[←e];exact hx))]
   exact hm x (mC _ hx)) (by omega) (by omega)
  rw[F4.eq_2,if_pos (by simp;omega),hdr,I2 hx]
  simp only[oB,D04,w64 (show -9223372036854775808<=(n:Int)-1 by omega) (show(n:Int)-1<=9223372036854775807 by omega),inR,show decide (0<=v)=true by simpa using hin.1,show decide (v<=(n:Int)-1)=true by simp;omega,Bool.and_self,Bool.not_true,Bool.not_false,T1,h0e hA hin.1 hin.2,hA0,cond_false]
  rw[if_neg (by decide),Z1 hk (by omega),M0o,ih]
  rfl
theorem O0o(es:List M0){n:Nat}(hn:inN n es)(hl:es.length<=1099511627776)(P:List Int)(hP:P.length=n)(hr:∀ x,0<=x -> -1<=getI P x/\getI P x<=1099511627776)(r m:Int):∀(d k fuel:Nat) (acc:List M0),k+d=es.length->d<fuel->acc.length<=k ->
  U3 es (P.map (·+1)) fuel (k:Int) r m acc=some (r,m,J7 C1 acc (pE P (es.drop k)))
 |d,k,0,acc,hd,hf,ha=>by omega
 |0,k,fuel+1,acc,hd,hf,ha=>by
  rw[U3.eq_2,if_neg (by simp;omega),K1 (by omega)];rfl
 |d+1,k,fuel+1,acc,hd,hf,ha=>by
  have hk:k<es.length:=by omega
  have he:=Y5 hk
  have hin:=hn _ (List.mem_of_getElem? he)
  generalize es[k]=e at he hin
  obtain⟨a,l,b⟩:=e
  have ih:=λacc' h=>O0o es hn hl P hP hr r m d (k+1) fuel acc' (by omega) (by omega) h
  have ra:=hr a hin.1.1
  have rb:=hr b hin.2.1
  rw[U3.eq_2,if_pos (by simp;omega),O1 he]
  simp only[I2 he,oB,h0e hP hin.1.1 hin.1.2,h0e hP hin.2.1 hin.2.2,Z1 hk (show es.length<=9223372036854775807 by omega),pE]
  by_cases c1:0<=getI P a
  ·simp only[show decide (getI P a+1>0)=true by simp;omega,T1,oB,cond_true,show decide (0<=getI P a)=true by simpa using c1,Bool.true_and]
   by_cases c2:0<=getI P b
   ·rw[if_pos (by simp;omega),w64 (by omega) (by omega),w64 (by omega) (by omega),show getI P a+1-1=getI P a by omega,show getI P b+1-1=getI P b by omega]
    rw[R0c _ _ (by omega),oB,ih _ (by have:=X07 (getI P a,l,getI P b) acc;omega)]
    simp[c2,J7]
   ·rw[if_neg (by simp;omega),ih _ (by omega)]
    simp[c2]
  ·simp only[show decide (getI P a+1>0)=false by simp;omega,C3,oB,cond_false,show decide (0<=getI P a)=false by simpa using c1,Bool.false_and]
   rw[if_neg (by simp),ih _ (by omega)]
theorem f09(r:Int)(n:Nat)(es:List M0)(o:List Int)(hg:G1 (r,(n:Int),es)=true)(ho:inV n o)(hd:o.Nodup)(h1:1<=o.length)(h2:o.length<=n):
  c6 (r,(n:Int),es) o=some (i8 (r,(n:Int),es) o,true):=by
 obtain⟨q1,q2,q3,q4⟩:=F1 hg
 simp only at q2 q3 q4
 have hn:inN n es:=λe he=>⟨(q1 e he).1,(q1 e he).2.1⟩
 have hG:=G9 (r,(n:Int),es) (by simp only;omega)
 unfold c6
 have e1:=N0o r n es o ho hd (by omega) (by omega) o.length 0 Q0 (List.replicate n (-1)) (by simp) (λx hx=>by rw[r07];omega) (λx hx=>r07 n x) (by omega) (Y0 (by omega))
 have e0:=O0o es hn (by omega) (plc n o) (M0l n o) (λx hx=>by have:=O05 ho hx;omega) r ((o.length:Nat):Int) es.length 0 Q0 [] (by omega) (Y0 (by omega)) (Nat.le_refl _)
 rw[show((0:Nat):Int)=0 from rfl,List.drop_zero]at e0 e1
 rw[show(List.replicate n (-1:Int)).map (·+1)=List.replicate n 0 by simp]at e1
 rw[show Z00 (List.replicate n (-1)) 0 o=plc n o from rfl]at e1
 have c1:decide (((o.length:Nat):Int)=0)=false:=decide_eq_false (by omega)
 have c2:decide (((o.length:Nat):Int)>(n:Int))=false:=decide_eq_false (by omega)
 simp only[hG,hg,oB,Bool.not_true,cond_false,Int.toNat_natCast,c1,c2]
 rw[if_neg (by simp),C0 (by omega),oB,e1]
 simp only[oB,R9,e0]
 rfl
theorem Q8:∀(n:Nat) (o:List Int),o.Nodup->inV n o->o.length<=n
 |0,[],_,_=>Nat.le_refl _
 |0,x::r,_,h=>by have:=h x mS;omega
 |n+1,o,hd,h=>by
  have h1:inV n (o.erase (n:Int)):=λx hx=>by
   obtain⟨hne,hm⟩:=(List.Nodup.mem_erase_iff hd).1 hx
   have:=h x hm;omega
  have h2:=Q8 n _ (hd.erase _) h1
  by_cases hm:(n:Int)∈o
  ·rw[List.length_erase_of_mem hm]at h2;omega
  ·rw[List.erase_of_not_mem hm]at h2;omega
def T2:Nat->Nat->List Int
 |0,_=>[]
 |d+1,i=>(i:Int) :: -(i:Int)::T2 d (i+1)
theorem R8:∀ d i,(T2 d i).length=2*d
 |0,i=>rfl
 |d+1,i=>by simp only[T2,List.length_cons,R8 d];omega
theorem S0c:∀(d i:Nat),i+d<=1000->∀ x∈T2 d i,L7 x
 |0,i,h,x,hx=>nomatch hx
 |d+1,i,h,x,hx=>by
  simp only[T2,List.mem_cons]at hx
  rcases hx with rfl|rfl|hx
  ·exact⟨⟨by omega,by omega⟩,by omega⟩
  ·exact⟨⟨by omega,by omega⟩,by omega⟩
  ·exact S0c d (i+1) (by omega) x hx
theorem P0o(R:Nat)(hR:R<=900):∀(d i fuel:Nat) (acc:List Int),i+d=R+1->d<fuel->acc.length+2*d<=10000 ->
  V4 (R:Int) fuel (i:Int) acc=some (acc++T2 d i)
 |d,i,0,acc,hd,hf,ha=>by omega
 |0,i,fuel+1,acc,hd,hf,ha=>by
  rw[V4.eq_2,if_neg (by simp;omega)];simp[T2]
 |d+1,i,fuel+1,acc,hd,hf,ha=>by
  have ih:=P0o R hR d (i+1) fuel (acc ++ [(i:Int),-(i:Int)]) (by omega) (by omega) (by simp;omega)
  have w1:IntKind.i64.wrap (0-(i:Int)) = -(i:Int):=by rw[w64 (by omega) (by omega)];omega
  rw[V4.eq_2,if_pos (by simp;omega),w1,C0 (by simp;omega),oB,Z1 (show i<1000 by omega) (by omega),ih]
  simp[T2]
theorem Q0o(R:Nat)(hR:R<=900):∀(d i fuel:Nat) (acc:List Int),i+d=R+1->d<fuel->acc.length+2*d<=10000 ->
  d6 (R:Int) fuel (i:Int) acc=some (acc++T2 d i)
 |d,i,0,acc,hd,hf,ha=>by omega
 |0,i,fuel+1,acc,hd,hf,ha=>by
  rw[d6.eq_2,if_neg (by simp;omega)];simp[T2]
 |d+1,i,fuel+1,acc,hd,hf,ha=>by
  have ih:=Q0o R hR d (i+1) fuel ((acc ++ [(i:Int)]) ++ [-(i:Int)]) (by omega) (by omega) (by simp;omega)
  have w1:IntKind.i64.wrap (0-(i:Int)) = -(i:Int):=by rw[w64 (by omega) (by omega)];omega
  rw[d6.eq_2,if_pos (by simp;omega),w1,C0 (by simp;omega),oB,C0 (by simp;omega),oB,Z1 (show i<1000 by omega) (by omega),ih]
  simp[T2]
theorem v0h(R:Nat)(hR:R<=900):W4 (R:Int)=some (T2 R 1):=by
 unfold W4
 rw[show(1:Int)=((1:Nat):Int) from rfl,P0o R hR R 1 Q0 [] (by omega) (Y0 (by omega)) (by simp;omega)];rfl
theorem j0e(R:Nat)(hR:R<=900):Y4 (R:Int)=some (T2 R 1):=by
 unfold Y4
 rw[show(1:Int)=((1:Nat):Int) from rfl,Q0o R hR R 1 Q0 [] (by omega) (Y0 (by omega)) (by simp;omega)];rfl
def O06(u:List Int)(x:Int):List Int:=if 0<=x/\x ∉ u then u ++ [x]else u
def p02(g:j0)(v:Int):List Int->List Int->List Int
 | [],u=>u
 |x::r,u=>p02 g v r (O06 u (N0 g v x))
def S8(g:j0)(ls:List Int):Nat->Nat->List Int->List Int
 |0,i,u=>u
 |f+1,i,u=>match u[i]? with
  |some v=>S8 g ls f (i+1) (p02 g v ls u)
  |none=>u
def gud(n:Nat)(u:List Int):Prop:=u.Nodup/\inV n u
theorem Q0l{n:Nat}{u:List Int}{x:Int}(h:gud n u)(hx:x = -1∨(0<=x/\x<(n:Int))):gud n (O06 u x):=by
 unfold O06
 split
 ·rename_i hc
  refine⟨List.nodup_append.2 ⟨h.1,by simp,λa ha b hb=>?_⟩,λy hy=>?_⟩
  ·simp at hb;subst hb;exact λe=>hc.2 (e▸ha)
  ·rcases List.mem_append.1 hy with hy|hy
   ·exact h.2 y hy
   ·simp at hy;subst hy;omega
 ·exact h
theorem k0e(u:List Int)(x:Int):∃ t,O06 u x=u++t:=by
 unfold O06;split
 ·exact⟨_,rfl⟩
 ·exact⟨[],by simp⟩
theorem E02(g:j0)(v:Int):∀(ls u:List Int),∃ t,p02 g v ls u=u++t
 | [],u=>⟨[],by simp[p02]⟩
 |x::r,u=>by
  obtain⟨t1,e1⟩:=k0e u (N0 g v x)
  obtain⟨t2,e2⟩:=E02 g v r (O06 u (N0 g v x))
  exact⟨t1++t2,by rw[p02,e2,e1,List.append_assoc]⟩
theorem a04{r:Int}{n:Nat}{es:List M0}(hg:inG (r,(n:Int),es))(v:Int):∀(ls u:List Int),gud n u->gud n (p02 (r,(n:Int),es) v ls u)
 | [],u,h=>h
 |x::l,u,h=>a04 hg v l _ (Q0l h (y00 hg v x))
theorem l0e{r:Int}{n:Nat}{es:List M0}(hg:inG (r,(n:Int),es))(ls:List Int):∀(f i:Nat) (u:List Int),gud n u->gud n (S8 (r,(n:Int),es) ls f i u)
 |0,i,u,h=>h
 |f+1,i,u,h=>by
  unfold S8
  split
  ·exact l0e hg ls f _ _ (a04 hg _ _ _ h)
  ·exact h
theorem m0e(g:j0)(ls:List Int):∀(f i:Nat) (u:List Int),u.length<=(S8 g ls f i u).length
 |0,i,u=>Nat.le_refl _
 |f+1,i,u=>by
  unfold S8
  split
  ·rename_i v _
   obtain⟨t,e⟩:=E02 g v ls u
   have:=m0e g ls f (i+1) (p02 g v ls u)
   rw[e]at this ⊢;simp only[List.length_append]at this;omega
  ·exact Nat.le_refl _
theorem R0l(r:Int)(n:Nat)(es:List M0)(hg:inG (r,(n:Int),es))(hn:n<=40)(hes:es.length<=1099511627776)(ls:List Int)(hls:∀ x∈ls,L7 x)(hl:ls.length<=1000000)(i:Nat)(v:Int):∀(d k fuel:Nat) (u:List Int),gud n u->u[i]?=some v->k+d=ls.length->d<fuel ->
  M3 ls (i:Int) r (n:Int) es fuel (k:Int) u=some (p02 (r,(n:Int),es) v (ls.drop k) u)
 |d,k,0,u,hu,hi,hd,hf=>by omega
 |0,k,fuel+1,u,hu,hi,hd,hf=>by
  rw[M3.eq_2,if_neg (by simp;omega),K1 (by omega)];rfl
 |d+1,k,fuel+1,u,hu,hi,hd,hf=>by
  have hk:k<ls.length:=by omega
  have hx:=Y5 hk
  have hxm:=hls _ (List.mem_of_getElem? hx)
  have hdr:=O1 hx
  generalize ls[k]=x at hx hxm hdr
  have hlen:=Q8 n u hu.1 hu.2
  have hnx:N0 (r,(n:Int),es) v x = -1∨(0<=N0 (r,(n:Int),es) v x/\N0 (r,(n:Int),es) v x<(n:Int)):=y00 hg v x
  have hg2:=Q0l hu hnx
  have hi2:(O06 u (N0 (r,(n:Int),es) v x))[i]?=some v:=by
   obtain⟨t,e⟩:=k0e u (N0 (r,(n:Int),es) v x)
   rw[e,List.getElem?_append_left (List.getElem?_eq_some_iff.1 hi).1];exact hi
  have ih:=R0l r n es hg hn hes ls hls hl i v d (k+1) fuel _ hg2 hi2 (by omega) (by omega)
  rw[M3.eq_2,if_pos (by simp;omega),hdr]
  simp only[I2 hi,I2 hx,oB,M01 (r,(n:Int),es) v x hxm hes,C0 (C01 hg (show(n:Int)<=40 by omega) v x),Z1 hk (show ls.length<=9223372036854775807 by omega),p02]
  rw[←ih]
  generalize N0 (r,(n:Int),es) v x=y at *
  unfold O06
  by_cases c1:0<=y
  ·simp only[show decide (y ≥ 0)=true by simpa using c1,T1,Y07 u y (by omega),oB,cond_true]
   by_cases c2:y∈u
   ·rw[if_neg (by simp[c2]),if_neg (by simp[c2])]
   ·rw[if_pos (by simp[c2]),if_pos ⟨c1,c2⟩,C0 (by simp;omega),oB]
  ·simp only[show decide (y ≥ 0)=false by simpa using c1,C3,oB,cond_false]
   rw[if_neg (by simp),if_neg (λh=>c1 h.1)]
theorem S0l(r:Int)(n:Nat)(es:List M0)(hg:inG (r,(n:Int),es))(hn:n<=40)(hes:es.length<=1099511627776)(ls:List Int)(hls:∀ x∈ls,L7 x)(hl:ls.length<=1000000):∀(f i fuel:Nat) (u:List Int),gud n u->i<=u.length->n+1<=i+f->f<fuel ->
  Z4 ls r (n:Int) es fuel (i:Int) u=some (S8 (r,(n:Int),es) ls f i u)
 |f,i,0,u,hu,hi,hd,hf=>by omega
 |0,i,fuel+1,u,hu,hi,hd,hf=>by have:=Q8 n u hu.1 hu.2;omega
 |f+1,i,fuel+1,u,hu,hi,hd,hf=>by
  have hlen:=Q8 n u hu.1 hu.2
  rw[Z4.eq_2,oB,C0 (by omega),oB]
  by_cases hk:i<u.length
  ·have hx:=Y5 hk
   generalize u[i]=v at hx
   have h0:=R0l r n es hg hn hes ls hls hl i v ls.length 0 Q0 u hu hx (by omega) (Y0 (by omega))
   rw[show((0:Nat):Int)=0 from rfl,List.drop_zero]at h0
   obtain⟨t,e⟩:=E02 (r,(n:Int),es) v ls u
   have ih:=S0l r n es hg hn hes ls hls hl f (i+1) fuel _ (a04 hg v ls u hu) (by rw[e,List.length_append];omega) (by omega) (by omega)
   rw[if_pos (by simpa using hk),h0,oB,Z1 hk (by omega),ih]
   simp only[S8,hx]
  ·have hx:u[i]?=none:=List.getElem?_eq_none (by omega)
   rw[if_neg (by simpa using hk)]
   simp only[S8,hx]
def V5(g:j0):List Int:=S8 g (T2 g.1.toNat 1) (g.2.1.toNat+1) 0 [0]
theorem a08{g:j0}(hf:D0 g=true):gud g.2.1.toNat (V5 g)/\1<=(V5 g).length:=by
 obtain⟨h1,h2,h3,h4⟩:=D1 hf
 obtain⟨r,n,es⟩:=g
 simp only at h2 h3 h4
 obtain⟨N,rfl⟩:∃ N:Nat,n=(N:Int):=⟨n.toNat,by omega⟩
 refine⟨?_,?_⟩
 ·exact l0e h1 _ _ _ _ ⟨by simp,λx hx=>by simp at hx;subst hx;show(0:Int)<=0/\(0:Int)<(((N:Int).toNat:Nat):Int);omega⟩
 ·exact m0e _ _ _ _ [0]
theorem a0j(g:j0)(hf:D0 g=true):l8 g=some (V5 g):=by
 obtain⟨h1,h2,h3,h4⟩:=D1 hf
 have hF:=P8 g (by omega)
 obtain⟨r,n,es⟩:=g
 simp only at h2 h3 h4
 obtain⟨N,rfl⟩:∃ N:Nat,n=(N:Int):=⟨n.toNat,by omega⟩
 obtain⟨R,rfl⟩:∃ R:Nat,r=(R:Int):=⟨r.toNat,by omega⟩
 unfold l8
 have h0:=S0l (R:Int) N es h1 (by omega) (by omega) (T2 R 1) (S0c R 1 (by omega)) (by rw[R8];omega) (N+1) 0 Q0 [0] ⟨by simp,λx hx=>by simp at hx;subst hx;omega⟩ (by simp) (by omega) (Y0 (by omega))
 simp only[hF,hf,oB,Bool.not_true,j0e R (by omega)]
 rw[show((0:Nat):Int)=0 from rfl]at h0
 rw[if_neg (by simp),h0]
 rfl
theorem T0l{a:List Int}(la:a.length<=1099511627776):g00 a=some a:=by
 unfold g00
 rw[C0 (by simp;omega)];rfl
def L6(W:List (Option (List Int)))(x:Int):Option (List Int):=W.getD x.toNat none
theorem giO{W:List (Option (List Int))}{n:Nat}(hl:W.length=n){x:Int}(h0:0<=x)(h1:x<n):gi W x=some (L6 W x):=by
 have hk:x.toNat<W.length:=by omega
 have e:x=((x.toNat:Nat):Int):=by omega
 have h2:gi W ((x.toNat:Nat):Int)=some (L6 W x):=by
  rw[g0b,List.getElem?_eq_getElem hk]
  unfold L6
  rw[List.getD_eq_getElem?_getD,List.getElem?_eq_getElem hk];rfl
 rw[←e]at h2;exact h2
theorem E00{A:List (Option (List Int))}{v x:Int}{y:Option (List Int)}(h0:0<=v)(h1:v.toNat<A.length)(hx:0<=x):L6 (A.set v.toNat y) x=if x=v then y else L6 A x:=by
 unfold L6
 rw[List.getD_eq_getElem?_getD,List.getD_eq_getElem?_getD,List.getElem?_set]
 by_cases c:x=v
 ·rw[if_pos c,if_pos (by rw[c]),if_pos h1];rfl
 ·rw[if_neg c,if_neg (by omega)]
structure WOk (n:Nat) (W:List (Option (List Int))) (u:List Int):Prop where
 len:W.length=n
 iff:∀ x,0<=x->x<(n:Int)->((L6 W x).isNone=true↔x ∉ u)
 short:∀ x,((L6 W x).getD []).length<=u.length
theorem U0l(r:Int)(n:Nat)(es:List M0)(hg:inG (r,(n:Int),es))(hn:n<=40)(hes:es.length<=1099511627776)(ls:List Int)(hls:∀ x∈ls,L7 x)(hl:ls.length<=1000000)(v:Int)(hv:0<=v/\v<(n:Int)):∀(d k fuel:Nat) (W:List (Option (List Int))) (u:List Int),gud n u->WOk n W u->k+d=ls.length->d<fuel ->
  ∃ W',Q2 ls r (n:Int) es v fuel (k:Int) W u=some (W',p02 (r,(n:Int),es) v (ls.drop k) u)/\WOk n W' (p02 (r,(n:Int),es) v (ls.drop k) u)
 |d,k,0,W,u,hu,hw,hd,hf=>by omega
 |0,k,fuel+1,W,u,hu,hw,hd,hf=>by
  rw[Q2.eq_2,if_neg (by simp;omega),K1 (by omega)];exact⟨W,rfl,hw⟩
 |d+1,k,fuel+1,W,u,hu,hw,hd,hf=>by
  have hk:k<ls.length:=by omega
  have hx:=Y5 hk
  have hxm:=hls _ (List.mem_of_getElem? hx)
  have hdr:=O1 hx
  generalize ls[k]=x at hx hxm hdr
  have hlen:=Q8 n u hu.1 hu.2
  have hnx:N0 (r,(n:Int),es) v x = -1∨(0<=N0 (r,(n:Int),es) v x/\N0 (r,(n:Int),es) v x<(n:Int)):=y00 hg v x
  have hg2:=Q0l hu hnx
  have ih:=λW' h=>U0l r n es hg hn hes ls hls hl v hv d (k+1) fuel W' _ hg2 h (by omega) (by omega)
  rw[Q2.eq_2,if_pos (by simp;omega),hdr]
  simp only[I2 hx,oB,i03 (r,(n:Int),es) v x hxm hes,C0 (C01 hg (show(n:Int)<=40 by omega) v x),Z1 hk (show ls.length<=9223372036854775807 by omega),p02]
  generalize N0 (r,(n:Int),es) v x=y at *
  by_cases c1:0<=y
  ·have hy:y<(n:Int):=by omega
   simp only[show decide (y ≥ 0)=true by simpa using c1,T1,giO hw.len c1 hy,oB,cond_true]
   by_cases c2:y∈u
   ·have : ¬ ((L6 W y).isNone=true):=λh=>(hw.iff y c1 hy).1 h c2
    have e:O06 u y=u:=if_neg λh=>h.2 c2
    rw[if_neg this]
    rw[e]at ih ⊢
    exact ih W hw
   ·have:(L6 W y).isNone=true:=(hw.iff y c1 hy).2 c2
    have e:O06 u y=u ++ [y]:=if_pos ⟨c1,c2⟩
    have hs:=hw.short v
    rw[if_pos this,giO hw.len hv.1 hv.2,oB,T0l (by omega),oB,C0 (by simp;omega),oB,C0 (by simp;omega),oB]
    rw[e]at ih ⊢
    refine ih _ ⟨by simp[hw.len],λz h0 h1=>?_,λz=>?_⟩
    ·rw[E00 c1 (by have:=hw.len;omega) h0]
     by_cases c:z=y
     ·rw[if_pos c];simp[c]
     ·rw[if_neg c,hw.iff z h0 h1];simp[c]
    ·by_cases hz:0<=z
     ·rw[E00 c1 (by have:=hw.len;omega) hz]
      by_cases c:z=y
      ·rw[if_pos c];simp;exact hs
      ·rw[if_neg c];have:=hw.short z;simp only[List.length_append];omega
     ·have hz0:L6 (W.set y.toNat (some ((L6 W v).getD [] ++ [x]))) z=L6 (W.set y.toNat (some ((L6 W v).getD [] ++ [x]))) 0:=by
       unfold L6;rw[show z.toNat=(0:Int).toNat by omega]
      rw[hz0,E00 c1 (by have:=hw.len;omega) (iR 0)]
      by_cases c:(0:Int)=y
      ·rw[if_pos c];simp;exact hs
      ·rw[if_neg c];have:=hw.short 0;simp only[List.length_append];omega
  ·have e:O06 u y=u:=if_neg λh=>c1 h.1
   simp only[show decide (y ≥ 0)=false by simpa using c1,C3,oB,cond_false]
   rw[if_neg (by simp)]
   rw[e]at ih ⊢
   exact ih W hw
theorem V0l(R n:Nat)(hR:R<=900)(es:List M0)(hg:inG ((R:Int),(n:Int),es))(hn:n<=40)(hes:es.length<=1099511627776):∀(f i fuel:Nat) (W:List (Option (List Int))) (u:List Int),gud n u->WOk n W u->i<=u.length->n+1<=i+f->f<fuel ->
  ∃ W',S3 (R:Int) (n:Int) es fuel (i:Int) W u=some (W',S8 ((R:Int),(n:Int),es) (T2 R 1) f i u)
 |f,i,0,W,u,hu,hw,hi,hd,hf=>by omega
 |0,i,fuel+1,W,u,hu,hw,hi,hd,hf=>by have:=Q8 n u hu.1 hu.2;omega
 |f+1,i,fuel+1,W,u,hu,hw,hi,hd,hf=>by
  have hlen:=Q8 n u hu.1 hu.2
  rw[S3.eq_2,oB,C0 (by omega),oB]
  by_cases hk:i<u.length
  ·have hx:=Y5 hk
   have hv:=hu.2 _ (List.mem_of_getElem? hx)
   generalize u[i]=v at hx hv
   obtain⟨W1,h0,hw1⟩:=U0l (R:Int) n es hg hn hes (T2 R 1) (S0c R 1 (by omega)) (by rw[R8];omega) v hv (T2 R 1).length 0 Q0 W u hu hw (by omega) (Y0 (by rw[R8];omega))
   rw[show((0:Nat):Int)=0 from rfl,List.drop_zero]at h0
   rw[List.drop_zero]at hw1
   obtain⟨t,e⟩:=E02 ((R:Int),(n:Int),es) v (T2 R 1) u
   obtain⟨W2,ih⟩:=V0l R n hR es hg hn hes f (i+1) fuel W1 _ (a04 hg v _ u hu) hw1 (by rw[e,List.length_append];omega) (by omega) (by omega)
   rw[if_pos (by simpa using hk),I2 hx,oB,v0h R hR,oB,h0,oB]
   simp only[Z1 hk (show u.length<=9223372036854775807 by omega),ih,S8,hx]
   exact⟨_,rfl⟩
  ·have hx:u[i]?=none:=List.getElem?_eq_none (by omega)
   rw[if_neg (by simpa using hk)]
   simp only[S8,hx]
   exact⟨_,rfl⟩
theorem b0j(g:j0)(hf:D0 g=true):n8 g=some (V5 g):=by
 obtain⟨h1,h2,h3,h4⟩:=D1 hf
 have hF:=V9 g (by omega)
 obtain⟨r,n,es⟩:=g
 simp only at h2 h3 h4
 obtain⟨N,rfl⟩:∃ N:Nat,n=(N:Int):=⟨n.toNat,by omega⟩
 obtain⟨R,rfl⟩:∃ R:Nat,r=(R:Int):=⟨r.toNat,by omega⟩
 unfold n8
 have hrep:∀ x,L6 (List.replicate N (none:Option (List Int))) x=none:=λx=>by
  unfold L6
  rw[List.getD_eq_getElem?_getD,List.getElem?_replicate];split<;>rfl
 have hW:WOk N ((List.replicate N (none:Option (List Int))).set (0:Int).toNat (some [])) [0]:=by
  refine⟨by simp,λx h0 h1=>?_,λx=>?_⟩
  ·rw[E00 (iR 0) (by simp;omega) h0]
   by_cases c:x=0
   ·rw[if_pos c];simp[c]
   ·rw[if_neg c,hrep];simp[c]
  ·by_cases hz:0<=x
   ·rw[E00 (iR 0) (by simp;omega) hz]
    split
    ·simp
    ·rw[hrep];simp
   ·have:L6 ((List.replicate N (none:Option (List Int))).set (0:Int).toNat (some [])) x=L6 ((List.replicate N (none:Option (List Int))).set (0:Int).toNat (some [])) 0:=by
     unfold L6;rw[show x.toNat=(0:Int).toNat by omega]
    rw[this,E00 (iR 0) (by simp;omega) (iR 0),if_pos rfl];simp
 obtain⟨W',h0⟩:=V0l R N (by omega) es h1 (by omega) (by omega) (N+1) 0 Q0 _ [0] ⟨by simp,λx hx=>by simp at hx;subst hx;omega⟩ hW (by simp) (by omega) (Y0 (by omega))
 have hg0:gi (List.replicate N (none:Option (List Int))) 0=some none:=by
  rw[c09 (x:=none)];rw[List.getElem?_replicate,if_pos (by omega)]
 simp only[hF,hf,oB,Bool.not_true,S6,Int.toNat_natCast]
 rw[if_neg (by simp),C0 (by omega),oB,hg0,oB]
 rw[show((0:Nat):Int)=0 from rfl]at h0
 rw[h0]
 rfl
def K3(g:j0):j0:=i8 g (V5 g)
theorem i0c(g:j0)(hf:D0 g=true):Y6 g=some (K3 g):=by
 obtain⟨h1,h2,h3,h4⟩:=D1 hf
 have hF:=V9 g (by omega)
 have hO:=b0j g hf
 obtain⟨ho,ho1⟩:=a08 hf
 have hle:=Q8 _ _ ho.1 ho.2
 obtain⟨r,n,es⟩:=g
 simp only at h2 h3 h4
 obtain⟨N,rfl⟩:∃ N:Nat,n=(N:Int):=⟨n.toNat,by omega⟩
 simp only[Int.toNat_natCast]at ho hle
 have hp:=u0h r N es (V5 (r,(N:Int),es)) (λe he=>⟨(h1 e he).1,(h1 e he).2.1⟩) ho.2 (by omega) (by omega) (by omega)
 unfold Y6
 simp only[hF,hf,oB,Bool.not_true,hO,hp]
 rfl
theorem j0c(g:j0)(hf:D0 g=true):W6 g=some (K3 g):=by
 obtain⟨h1,h2,h3,h4⟩:=D1 hf
 have hG:G1 g=true:=by
  unfold D0 at hf;exact(Bool.and_eq_true _ _▸hf).1
 have hO:=a0j g hf
 obtain⟨ho,ho1⟩:=a08 hf
 have hle:=Q8 _ _ ho.1 ho.2
 obtain⟨r,n,es⟩:=g
 simp only at h2 h3 h4
 obtain⟨N,rfl⟩:∃ N:Nat,n=(N:Int):=⟨n.toNat,by omega⟩
 simp only[Int.toNat_natCast]at ho hle
 have hp:=f09 r N es (V5 (r,(N:Int),es)) hG ho.2 ho.1 ho1 hle
 unfold W6
 simp only[oB,hO,hp]
 rw[if_neg (by simp;intro h;rw[h]at ho1;simp at ho1)]
 rfl
def lf(bad:Nat->Bool):Nat->Nat->Option Nat
 |0,v=>none
 |d+1,v=>bif bad v then some v else lf bad d (v+1)
theorem s07{bad:Nat->Bool}:∀(d v k:Nat),lf bad d v=some k->v<=k/\k<v+d
 |0,v,k,h=>by cases h
 |d+1,v,k,h=>by
  unfold lf at h
  cases hb:bad v
  ·rw[hb]at h;have:=s07 d (v+1) k h;omega
  ·rw[hb]at h;cases h;omega
theorem n0e{b1 b2:Nat->Bool}:∀(d v:Nat),(∀ k,v<=k->k<v+d->b1 k=b2 k)->lf b1 d v=lf b2 d v
 |0,v,h=>rfl
 |d+1,v,h=>by unfold lf;rw[h v (Nat.le_refl _) (by omega),n0e d (v+1) λk h1 h2=>h k (by omega) (by omega)]
def l0n(es:List M0):List Int:=itS es (es.length+1) [0]
def i0a(es:List M0)(v:Nat):Bool:=decide (O02 (v:Int) es<2) || !decide ((v:Int)∈l0n es)
def C9(g:j0):Option Nat:=lf (i0a g.2.2) (g.2.1.toNat-1) 1
theorem E0k(g:j0)(hg:G1 g=true):T9 g 0=some (l0n g.2.2)/\(l0n g.2.2).length<=100000:=by
 obtain⟨h1,h2,h3,h4⟩:=F1 hg
 have hq:=G9 g (by omega)
 obtain⟨r,n,es⟩:=g
 simp only at h2 h3 h4
 unfold T9 l0n
 have hl:=f0e es h4 (es.length+1) 0 Q0 [0] (by omega) (Y0 (by omega)) (by simp)
 have hlen:=J0l es (es.length+1) [0]
 refine⟨?_,?_⟩
 ·rw[show((0:Nat):Int)=0 from rfl]at hl
  simp only[hq,hg,oB,Bool.not_true,Bool.not_false,T1,D04,inR,w64 (show -9223372036854775808<=n-1 by omega) (show n-1<=9223372036854775807 by omega)]
  rw[if_neg (by simp;omega),hl];rfl
 ·have:(es.length+1)*(2*es.length)<=121*240:=Nat.mul_le_mul (by omega) (by omega)
  simp only[List.length_singleton]at hlen
  simp only
  omega
theorem R0o(r:Int)(n:Nat)(es:List M0)(hes:es.length<=1000)(u:List Int)(hu:u.length<=100000)(hn:n<=40):∀(d v fuel:Nat),v+d=n∨(d=0/\n<=v)->v<=1000->d<fuel ->
  Z7 (n:Int) r es u fuel (v:Int)=some (match lf (λv=>decide (O02 (v:Int) es<2) || !decide ((v:Int)∈u)) d v with|some k => .inl (k:Int)|none => .inr ())
 |d,v,0,hd,hv,hf=>by omega
 |0,v,fuel+1,hd,hv,hf=>by
  rw[Z7.eq_2,if_neg (by simp;omega)];rfl
 |d+1,v,fuel+1,hd,hv,hf=>by
  have ih:=R0o r n es hes u hu hn d (v+1) fuel (by omega) (by omega) (by omega)
  have hdeg:=r0h (v:Int) es
  rw[Z7.eq_2,if_pos (by simp;omega),V0f (r,(n:Int),es) _ (by simp only;omega),oB,C0 (c64 (by simp only;omega) (by simp only;omega)),oB,Z1 (show v<10000 by omega) (by omega)]
  unfold lf
  by_cases c1:O02 (v:Int) es<2
  ·have e1:decide (((O02 (v:Int) es:Nat):Int)<2)=true:=decide_eq_true (by omega)
   simp only[e1,Bool.not_true,C3,oB,cond_true,if_true,decide_eq_true c1,Bool.true_or]
  ·have e1:decide (((O02 (v:Int) es:Nat):Int)<2)=false:=decide_eq_false (by omega)
   simp only[e1,Bool.not_false,T1,Y07 u _ (show u.length<=9223372036854775807 by omega),oB,cond_false,decide_eq_false c1,Bool.false_or]
   by_cases c2:(v:Int)∈u
   ·simp only[decide_eq_true c2,Bool.not_true,Bool.false_eq_true,if_false,cond_false];exact ih
   ·simp only[decide_eq_false c2,Bool.not_false,if_true,cond_true]
theorem S0o(g:j0)(hg:G1 g=true):v01 g=some (match C9 g with|some k=>(k:Int)|none => -1):=by
 obtain⟨e1,e2⟩:=E0k g hg
 obtain⟨h1,h2,h3,h4⟩:=F1 hg
 obtain⟨r,n,es⟩:=g
 simp only at h2 h3 h4 e1 e2
 obtain⟨N,rfl⟩:∃ N:Nat,n=(N:Int):=⟨n.toNat,by omega⟩
 unfold v01 C9
 have hl:=R0o r N es (by omega) (l0n es) e2 (by omega) (N-1) 1 Q0 (by omega) (by omega) (Y0 (by omega))
 simp only[e1,oB,Int.toNat_natCast]
 rw[show(1:Int)=((1:Nat):Int) from rfl,hl]
 rw[show(λv:Nat=>decide (O02 (v:Int) es<2) || !decide ((v:Int)∈l0n es))=i0a es from rfl]
 cases lf (i0a es) (N-1) 1<;>rfl
theorem w0h(r:Int)(n:Nat)(es:List M0)(hes:es.length<=1000)(S:List Bool)(hS:S.length=n)(hn:n<=40):∀(d v fuel:Nat),1<=v->v+d=n∨(d=0/\n<=v)->v<=1000->d+1<fuel ->
  j4 (n:Int) r es S fuel 0 (v:Int)=some (match lf (λv=>decide (O02 (v:Int) es<2) || !L9 S (v:Int)) d v with|some k=>(k:Int)|none=>0)
 |d,v,0,h1,hd,hv,hf=>by omega
 |0,v,fuel+1,h1,hd,hv,hf=>by
  have e:decide ((v:Int)<(n:Int))=false:=decide_eq_false (by omega)
  rw[j4.eq_2,if_neg (by rw[e];simp)];rfl
 |d+1,v,fuel+1,h1,hd,hv,hf=>by
  have ih:=w0h r n es hes S hS hn d (v+1) fuel (by omega) (by omega) (by omega) (by omega)
  have hdeg:=r0h (v:Int) es
  have e:decide ((v:Int)<(n:Int))=true:=decide_eq_true (by omega)
  have hfin:∀ w:Int,j4 (n:Int) r es S fuel (v:Int) w=some (v:Int):=λw=>by
   obtain _|fuel:=fuel
   ·omega
   ·have e2:decide ((v:Int)=0)=false:=decide_eq_false (by omega)
    have e3:∀ b:Bool,(bif b then false else false)=false:=λb=>by cases b<;>rfl
    rw[j4.eq_2,if_neg (by rw[e2,e3];simp)]
  rw[j4.eq_2,if_pos (by rw[e];rfl),k0n (r,(n:Int),es) _ (by simp only;omega),oB,C0 (c64 (by simp only;omega) (by simp only;omega)),oB,Z1 (show v<10000 by omega) (by omega)]
  unfold lf
  by_cases c1:O02 (v:Int) es<2
  ·have e1:decide (((O02 (v:Int) es:Nat):Int)<2)=true:=decide_eq_true (by omega)
   simp only[e1,Bool.not_true,C3,oB,cond_true,if_true,decide_eq_true c1,Bool.true_or,hfin]
  ·have e1:decide (((O02 (v:Int) es:Nat):Int)<2)=false:=decide_eq_false (by omega)
   simp only[e1,Bool.not_false,T1,giB hS (show(0:Int)<=(v:Int) by omega) (show(v:Int)<(n:Int) by omega),oB,cond_false,decide_eq_false c1,Bool.false_or]
   cases hb:L9 S (v:Int)
   ·simp only[Bool.not_false,if_true,cond_true,hfin]
   ·simp only[Bool.not_true,Bool.false_eq_true,if_false,cond_false];exact ih
def wo(g:Nat):Nat->Nat->List Int
 |0,k=>[]
 |d+1,k=>if k=g then wo g d (k+1)else(k:Int)::wo g d (k+1)
theorem o0e(g:Nat):∀(d k:Nat),(wo g d k).length=d-(if k<=g/\g<k+d then 1 else 0)
 |0,k=>by simp[wo]
 |d+1,k=>by
  have ih:=o0e g d (k+1)
  unfold wo
  by_cases c:k=g
  ·rw[if_pos c,ih,if_neg (by omega),if_pos (by omega)];omega
  ·rw[if_neg c,List.length_cons,ih]
   by_cases c2:k+1<=g/\g<k+1+d
   ·rw[if_pos c2,if_pos (by omega)];omega
   ·rw[if_neg c2,if_neg (by omega)];omega
theorem c0j(g n:Nat):∀(d k:Nat),k+d<=n->inV n (wo g d k)
 |0,k,h=>λx hx=>nomatch hx
 |d+1,k,h=>by
  have ih:=c0j g n d (k+1) (by omega)
  unfold wo
  split
  ·exact ih
  ·intro x hx
   rcases List.mem_cons.1 hx with rfl|hx
   ·omega
   ·exact ih x hx
theorem x0h(n g:Nat)(hn:n<=1000):∀(d k fuel:Nat) (acc:List Int),k+d=n->d<fuel->acc.length<=k ->
  B5 (n:Int) (g:Int) fuel (k:Int) acc=some (acc++wo g d k)
 |d,k,0,acc,hd,hf,ha=>by omega
 |0,k,fuel+1,acc,hd,hf,ha=>by
  rw[B5.eq_2,if_neg (by simp;omega)];simp[wo]
 |d+1,k,fuel+1,acc,hd,hf,ha=>by
  have ih:=λacc' h=>x0h n g hn d (k+1) fuel acc' (by omega) (by omega) h
  rw[B5.eq_2,if_pos (by simp;omega),Z1 (show k<10000 by omega) (by omega)]
  unfold wo
  by_cases c:k=g
  ·have e:decide ((k:Int)=(g:Int))=true:=decide_eq_true (by omega)
   rw[e,if_neg (by simp),if_pos c,ih _ (by omega)]
  ·have e:decide ((k:Int)=(g:Int))=false:=decide_eq_false (by omega)
   rw[e,if_pos (show(!false)=true from rfl),if_neg c,C0 (by simp;omega),oB,ih _ (by simp;omega)]
   simp
theorem y0h(n:Nat)(hn:n<=1000):∀(d k fuel:Nat) (acc:List Int),k+d=n->d<fuel->acc.length=k ->
  ∃ u,i6 (n:Int) fuel (k:Int) acc=some u/\u.length=n
 |d,k,0,acc,hd,hf,ha=>by omega
 |0,k,fuel+1,acc,hd,hf,ha=>by
  rw[i6.eq_2,if_neg (by simp;omega)];exact⟨_,rfl,by omega⟩
 |d+1,k,fuel+1,acc,hd,hf,ha=>by
  obtain⟨u,e1,e2⟩:=y0h n hn d (k+1) fuel (acc ++ [(k:Int)]) (by omega) (by omega) (by simp;omega)
  rw[i6.eq_2,if_pos (by simp;omega),Z1 (show k<10000 by omega) (by omega),C0 (by simp;omega),oB,e1]
  exact⟨u,rfl,e2⟩
theorem d0j{α:Type}{xs:List α}{k:Nat}(h:k<=xs.length):p06 xs 0 (k:Int)=some (xs.take k):=by
 unfold p06
 rw[if_pos (by omega)];rfl
theorem W0l:∀(n fuel:Nat) (left:List Int) (r:Int) (es:List M0),1<=n->n<=40->inN n es->es.length<=120->left.length=n->n<fuel ->
  ∃(g':j0) (l':List Int),C5 fuel left r (n:Int) es=some (.inl (g',l'))/\g'.2.1<=(n:Int)/\(g'.2.1=(n:Int)↔lf (i0a es) (n-1) 1=none)
 |n,0,left,r,es,h1,h2,hn,hes,hl,hf=>by omega
 |n,fuel+1,left,r,es,h1,h2,hn,hes,hl,hf=>by
  obtain⟨S,eS,lS,hS⟩:=X0i r n es hn (by omega) h1 (by omega)
  have ht1:=w0h r n es (by omega) S lS h2 (n-1) 1 Q0 (Nat.le_refl _) (by omega) (by omega) (Y0 (by omega))
  have hcg:lf (λv=>decide (O02 (v:Int) es<2) || !L9 S (v:Int)) (n-1) 1=lf (i0a es) (n-1) 1:=n0e _ _ λk k1 k2=>by
   unfold i0a
   have:=hS (k:Int) (by omega) (by omega)
   have h3:=Z07 es 0 (k:Int)
   congr 2
   cases hb:L9 S (k:Int)
   ·symm;exact decide_eq_false λh=>by rw[this.2 (h3.1 h)]at hb;cases hb
   ·symm;exact decide_eq_true (h3.2 (this.1 hb))
  rw[hcg]at ht1
  rw[C5.eq_2,eS,oB,show(1:Int)=((1:Nat):Int) from rfl,ht1,oB]
  cases hlf:lf (i0a es) (n-1) 1 with
  |none =>
   exact⟨(r,(n:Int),es),left,by rw[if_pos (by rfl)],iR _,by simp⟩
  |some k =>
   have hk:=s07 _ _ _ hlf
   have e0:decide ((k:Int)=0)=false:=decide_eq_false (by omega)
   have ho:=c0j k n n 0 (by omega)
   have hlen:=o0e k n 0
   rw[if_pos (by omega)]at hlen
   have ht0:=x0h n k (by omega) n 0 Q0 [] (by omega) (Y0 (by omega)) (Nat.le_refl _)
   rw[show((0:Nat):Int)=0 from rfl,List.nil_append]at ht0
   have hp:=u0h r n es (wo k n 0) hn ho (by omega) (by omega) (by omega)
   have hpl:=e09 (r,(n:Int),es) (wo k n 0)
   have hpi:=d0g (r:=r) ho hn
   have hw:IntKind.i64.wrap ((k:Int)+((1:Nat):Int))=((k+1:Nat):Int):=by rw[w64 (by omega) (by omega)];rfl
   obtain⟨g',l',q1,q2,q3⟩:=W0l (n-1) fuel (left.take k++left.drop (k+1)) r (i8 (r,(n:Int),es) (wo k n 0)).2.2 (by omega) (by omega) (by rw[hlen]at hpi;exact hpi) (by simp only at hpl;omega) (by simp only[List.length_append,List.length_take,List.length_drop];omega) (by omega)
   refine⟨g',l',?_,by omega,?_⟩
   ·simp only[e0,Bool.false_eq_true,if_false,ht0,oB,hp]
    rw[show i8 (r,(n:Int),es) (wo k n 0)=(r,((n-1:Nat):Int),(i8 (r,(n:Int),es) (wo k n 0)).2.2) by rw[←hlen];rfl]
    simp only[hw]
    rw[d0j (by omega),oB,H04 (by omega),oB,C0 (by simp only[List.length_take,List.length_drop];omega),oB,q1]
   ·constructor
    ·intro h;omega
    ·intro h;cases h
theorem F0k(g:j0)(hg:G1 g=true):∃(g':j0) (l':List Int),t7 g=some (g',l')/\(g'.2.1=g.2.1↔C9 g=none):=by
 obtain⟨h1,h2,h3,h4⟩:=F1 hg
 have hq:=o02 g (by omega)
 have hc:=I04 g (by omega)
 obtain⟨r,n,es⟩:=g
 simp only at h2 h3 h4
 obtain⟨N,rfl⟩:∃ N:Nat,n=(N:Int):=⟨n.toNat,by omega⟩
 have hn:inN N es:=λe he=>⟨(h1 e he).1,(h1 e he).2.1⟩
 obtain⟨u,e1,e2⟩:=y0h N (by omega) N 0 Q0 [] (by omega) (Y0 (by omega)) rfl
 obtain⟨g',l',q1,q2,q3⟩:=W0l N Q0 u r es (by omega) (by omega) hn h4 e2 (Y0 (by omega))
 refine⟨g',l',?_,?_⟩
 ·unfold t7
  rw[show((0:Nat):Int)=0 from rfl]at e1
  simp only[hc,oB,hq,hg,Bool.not_true,Bool.false_eq_true,if_false,e1,q1,R9]
 ·simp only[C9,Int.toNat_natCast];exact q3
def V1(g:j0):Bool:=D0 g&&((C9 g).isNone&&g0c (K3 g) g)
theorem V0{g:j0}(h:D0 g=true):G1 g=true:=by
 unfold D0 at h;exact(Bool.and_eq_true _ _▸h).1
theorem e0g{g:j0}(hf:D0 g=true):(K3 g).2.2.length<=120:=by
 have:=e09 g (V5 g)
 have:=(D1 hf).2.2.2
 unfold K3;omega
theorem a01(g:j0)(hl:g.2.2.length<=140737488355328):C6 g=some (V1 g):=by
 have hF:=V9 g hl
 unfold V1
 by_cases hf:D0 g=true
 ·obtain⟨g',l',e1,e2⟩:=F0k g (V0 hf)
  have hC:=i0c g hf
  have hE:=W0f (K3 g) g (by have:=e0g hf;omega)
  obtain⟨r,n,es⟩:=g
  obtain⟨r',n',es'⟩:=g'
  unfold C6
  simp only at e2
  generalize K3 (r,n,es)=C at *
  obtain⟨c1,c2,c3⟩:=C
  simp only[hF,hf,oB,Bool.not_true,Bool.false_eq_true,if_false,e1,hC]
  by_cases c:n'=n
  ·have:=e2.1 c
   simp only[decide_eq_true c,T1,oB,hE,cond_true,this,Option.isNone_none,Bool.true_and]
  ·have hne:(C9 (r,n,es)).isNone=false:=by
    cases hq:C9 (r,n,es)with
    |none=>exact absurd (e2.2 hq) c
    |some k=>rfl
   simp only[decide_eq_false c,C3,oB,cond_false,hne,Bool.false_and,Bool.and_false]
 ·have hf':D0 g=false:=Bool.eq_false_iff.2 hf
  obtain⟨r,n,es⟩:=g
  unfold C6
  simp only[hF,hf',oB,Bool.not_false,if_true,Bool.false_and]
theorem t06(g:j0)(hl:g.2.2.length<=140737488355328):v00 g=some (V1 g):=by
 have hF:=P8 g hl
 unfold V1
 by_cases hf:D0 g=true
 ·have hL:=S0o g (V0 hf)
  have hC:=j0c g hf
  have hE:=Y0f (K3 g) g (by have:=e0g hf;omega)
  obtain⟨h1,h2,h3,h4⟩:=D1 hf
  obtain⟨r,n,es⟩:=g
  unfold v00
  generalize K3 (r,n,es)=C at *
  obtain⟨c1,c2,c3⟩:=C
  simp only[hF,hf,oB,T1,hL,cond_true]
  cases hq:C9 (r,n,es)with
  |none =>
   simp only[C0 (show P0 (-1) by decide),oB,show decide ((-1:Int)<0)=true from rfl,T1,hC,hE,cond_true,Option.isNone_none,Bool.true_and]
  |some k =>
   have hk:=s07 _ _ _ hq
   simp only at h3
   simp only at hk
   have e0:decide ((k:Int)<0)=false:=decide_eq_false (by omega)
   simp only[C0 (show P0 (k:Int) from c64 (by omega) (by omega)),oB,e0,C3,cond_false,Option.isNone_some,Bool.false_and,Bool.and_false]
 ·have hf':D0 g=false:=Bool.eq_false_iff.2 hf
  obtain⟨r,n,es⟩:=g
  unfold v00
  simp only[hF,hf',oB,C3,C0 (show P0 0 by decide),cond_false,Bool.false_and]
def K0r(l:N0c):Prop:=l.length<=140737488355328/\∀ e∈l,e.1.size<=140737488355328/\e.2.2.2.length<=140737488355328
def T0o(l:N0c):Prop:=l.length<=1048576/\∀ e∈l,e.1.size<=1048576/\e.2.2.2.length<=1048576
theorem T0o.ok{l:N0c}(h:T0o l):K0r l:=⟨by have:=h.1;omega,λe he=>by have:=h.2 e he;omega⟩
theorem e0j{α:Type}{cf:α->α->Int}(h:e00 cf):∀ {l:List α},(∀ i x y,l[i]?=some x->l[i+1]?=some y->cf x y<0)->Asc cf l
 | [],_=>List.Pairwise.nil
 | [x],_=>List.pairwise_singleton _ _
 |x::y::l,hn=>by
  have ih:Asc cf (y::l):=e0j h λi a b ha hb=>hn (i+1) a b (by simpa using ha) (by simpa using hb)
  have hxy:=hn 0 x y rfl rfl
  refine List.pairwise_cons.2 ⟨λz hz=>?_,ih⟩
  rcases List.mem_cons.1 hz with rfl|hz
  ·exact hxy
  ·exact h.trans _ _ _ hxy ((List.pairwise_cons.1 ih).1 z hz)
theorem U0o{α:Type}{cf:α->α->Int}:∀ {l:List α},Asc cf l->∀ {i:Nat} {x y:α},l[i]?=some x->l[i+1]?=some y->cf x y<0
 | [],_,i,x,y,hx,_=>by simp at hx
 |a::l,h,0,x,y,hx,hy=>by
  simp at hx hy;subst hx
  exact(List.pairwise_cons.1 h).1 y (List.mem_of_getElem? hy)
 |a::l,h,i+1,x,y,hx,hy=>U0o (List.pairwise_cons.1 h).2 (i:=i) (by simpa using hx) (by simpa using hy)
theorem V0o{r hi:Int}{es:List M0}:∀ {d k:Nat},(∀ i,k<=i->i<k+d->G0o r hi es i=false)->okE r hi es d k=true
 |0,k,h=>rfl
 |d+1,k,h=>by
  simp only[okE,Bool.and_eq_true,Bool.not_eq_true']
  exact⟨h k (Nat.le_refl _) (by omega),V0o λi h1 h2=>h i (by omega) (by omega)⟩
theorem P05(g:j0):G1 g=true↔inG g/\(1<=g.1/\g.1<=3)/\(1<=g.2.1/\g.2.1<=40)/\g.2.2.length<=120/\Asc C1 g.2.2:=by
 constructor
 ·intro h
  obtain⟨q1,q2,q3,q4⟩:=F1 h
  refine⟨q1,q2,q3,q4,e0j S9 λi x y hx hy=>?_⟩
  simp only[G1,Bool.and_eq_true]at h
  have hb:=z0k h.1.1.1 (i+1) (Nat.zero_le _) (by have:=(List.getElem?_eq_some_iff.1 hy).1;omega)
  rw[Y09 hy]at hb
  simp only[Nat.add_sub_cancel,hx,Bool.or_eq_false_iff]at hb
  have:=hb.2
  simp only[show decide (0<i+1)=true by simp,Bool.true_and,decide_eq_false_iff_not]at this
  have e:S0d x y=C1 x y:=rfl
  omega
 ·rintro⟨q1,q2,q3,q4,q5⟩
  obtain⟨r,n,es⟩:=g
  simp only at q2 q3 q4 q5
  simp only[G1,inR,Bool.and_eq_true,decide_eq_true_eq]
  refine⟨⟨⟨V0o λi _ hi=>?_,q2⟩,q3⟩,q4⟩
  have hx:=Y5 (show i<es.length by omega)
  generalize es[i]=e at hx
  rw[Y09 hx]
  have he:=q1 e (List.mem_of_getElem? hx)
  simp only at he
  simp only[Bool.or_eq_false_iff,Bool.not_eq_false',r05,inR,Bool.and_eq_true,decide_eq_true_eq]
  rw[w64 (by omega) (by omega)]
  refine⟨⟨⟨⟨by omega,by omega⟩,by omega,by omega⟩,by omega,by omega⟩,?_⟩
  cases i with
  |zero=>rfl
  |succ j =>
   have hy:=Y5 (show j<es.length by omega)
   generalize es[j]=f at hy
   have:=U0o q5 hy hx
   simp only[Nat.add_sub_cancel,hy]
   have e':S0d f e=C1 f e:=rfl
   simp[e'];omega
theorem j0a{r:Int}{n:Int}{es:List M0}(hr:1<=r/\r<=3)(hn:1<=n/\n<=40)(hes:es.length<=120)(hin:inG (r,n,es)):G1 (r,n,J7 C1 [] es)=true:=by
 refine(P05 _).2 ⟨λe he=>hin e ?_,hr,hn,?_,q06 S9 _ _ List.Pairwise.nil⟩
 ·rcases(Y00 S9 e es []).1 he with h|h
  ·simp at h
  ·exact h
 ·have:=A03 es []
  simp only[List.length_nil]at this
  simp only;omega
def k0a(a b:M0):List (Int×Int) :=
 bif decide (a.2.1=b.2.1)then(bif decide (a.1=b.1)then [(if b.2.2<a.2.2 then b.2.2 else a.2.2,if b.2.2>a.2.2 then b.2.2 else a.2.2)]else [])++(bif decide (a.2.2=b.2.2)then [(if b.1<a.1 then b.1 else a.1,if b.1>a.1 then b.1 else a.1)]else [])else []
def F02(a:M0):List M0->List (Int×Int)
 | []=>[]
 |b::r=>k0a a b++F02 a r
def T8:List M0->List (Int×Int)
 | []=>[]
 |a::r=>F02 a r++T8 r
theorem m0n(a b:M0):(k0a a b).length<=2:=by
 unfold k0a
 cases decide (a.2.1=b.2.1)<;>cases decide (a.1=b.1)<;>cases decide (a.2.2=b.2.2)<;>simp
theorem p0b(a:M0):∀ l,(F02 a l).length<=2*l.length
 | []=>by simp[F02]
 |b::r=>by have:=m0n a b;have:=p0b a r;simp only[F02,List.length_append,List.length_cons];omega
def mvV(f:Int×Int)(v:Int):Int:=if v=f.2 then f.1 else if v>f.2 then v-1 else v
def mvE(f:Int×Int)(e:M0):M0:=(mvV f e.1,e.2.1,mvV f e.2.2)
def D01(g:j0)(f:Int×Int):j0:=(g.1,g.2.1-1,J7 C1 [] (g.2.2.map (mvE f)))
def okF(g:j0)(f:Int×Int):Prop:=0<=f.1/\f.1<f.2/\f.2<g.2.1
theorem t07{g:j0}{f:Int×Int}(hg:G1 g=true)(hf:okF g f):G1 (D01 g f)=true:=by
 obtain⟨q1,q2,q3,q4,_⟩:=(P05 g).1 hg
 obtain⟨f1,f2,f3⟩:=hf
 refine j0a q2 ⟨by omega,by omega⟩ (by simpa using q4) λe he=>?_
 obtain⟨e',he',rfl⟩:=List.mem_map.1 he
 obtain⟨a1,a2,a3⟩:=q1 e' he'
 have hm:∀ v:Int,0<=v/\v<g.2.1->0<=mvV f v/\mvV f v<g.2.1-1:=λv hv=>by
  unfold mvV;split
  ·omega
  ·split<;>omega
 exact⟨hm _ a1,hm _ a2,a3⟩
theorem f0j{g:j0}(hg:inG g){a:M0}(ha:a∈g.2.2):∀ {l:List M0},(∀ b∈l,b∈g.2.2/\a≠b)->∀ f∈F02 a l,okF g f
 | [],_,f,hf=>by simp[F02]at hf
 |b::r,h,f,hf=>by
  rcases List.mem_append.1 (show f∈k0a a b++F02 a r from hf)with hf|hf
  ·have hb:=hg b (h b mS).1
   have ha':=hg a ha
   have hne:=(h b mS).2
   obtain⟨a0,a1,a2⟩:=a
   obtain⟨b0,b1,b2⟩:=b
   simp only at ha' hb
   unfold k0a at hf
   simp only at hf
   by_cases c1:a1=b1
   ·have d1 : ¬ (a0=b0/\a2=b2):=λ⟨x,y⟩=>hne (by rw[x,c1,y])
    simp only[c1,decide_true,cond_true,List.mem_append]at hf
    rcases hf with hf|hf
    ·by_cases c2:a0=b0
     ·simp only[c2,decide_true,cond_true,List.mem_singleton]at hf
      subst hf
      have:a2≠b2:=λy=>d1 ⟨c2,y⟩
      unfold okF
      simp only
      split<;>split<;>omega
     ·simp[c2]at hf
    ·by_cases c2:a2=b2
     ·simp only[c2,decide_true,cond_true,List.mem_singleton]at hf
      subst hf
      have:a0≠b0:=λy=>d1 ⟨y,c2⟩
      unfold okF
      simp only
      split<;>split<;>omega
     ·simp[c2]at hf
   ·simp[c1]at hf
  ·exact f0j hg ha (λb' hb'=>h b' (mC _ hb')) f hf
theorem g0j{g:j0}(hg:inG g):∀ {l:List M0},(∀ b∈l,b∈g.2.2)->Asc C1 l->∀ f∈T8 l,okF g f
 | [],_,_,f,hf=>by simp[T8]at hf
 |a::r,h,hA,f,hf=>by
  rcases List.mem_append.1 (show f∈F02 a r++T8 r from hf)with hf|hf
  ·refine f0j hg (h a mS) (λb hb=>⟨h b (mC _ hb),λe=>?_⟩) f hf
   have:=(List.pairwise_cons.1 hA).1 b hb
   rw[e,S9.refl]at this;omega
  ·exact g0j hg (λb hb=>h b (mC _ hb)) (List.pairwise_cons.1 hA).2 f hf
theorem Q05{g:j0}(hg:G1 g=true):∀ f∈T8 g.2.2,okF g f:=by
 obtain⟨q1,_,_,_,q5⟩:=(P05 g).1 hg
 exact g0j q1 (λ_ h=>h) q5
def j02:Nat->j0->j0×List (Int×Int)
 |0,g=>(g,[])
 |n+1,g=>match T8 g.2.2 with
  | []=>(g,[])
  |f::_=>((j02 n (D01 g f)).1,f::(j02 n (D01 g f)).2)
def b04(g:j0):j0×List (Int×Int):=bif G1 g then j02 40 g else(g,[])
theorem p0e:∀(n:Nat) {g:j0},G1 g=true->g.2.1<=(n:Int)+1->T8 (j02 n g).1.2.2 = []
 |0,g,h,hn=>by
  cases e:T8 g.2.2 with
  |nil=>exact e
  |cons f l =>
   have:=Q05 h f (by rw[e];exact mS)
   unfold okF at this
   omega
 |n+1,g,h,hn=>by
  unfold j02
  cases e:T8 g.2.2 with
  |nil=>exact e
  |cons f l=>exact p0e n (t07 h (Q05 h f (by rw[e];exact mS))) (by show g.2.1-1<=_;omega)
theorem n0n(a b:M0):k0a a b = []↔G04 a b=false:=by
 unfold k0a G04
 cases decide (a.2.1=b.2.1)<;>cases decide (a.1=b.1)<;>cases decide (a.2.2=b.2.2)<;>simp
theorem f0g(a:M0):∀ l,F02 a l = []↔∀ b∈l,G04 a b=false
 | []=>by simp[F02]
 |b::r=>by
  rw[F02,List.append_eq_nil_iff,n0n,f0g a r]
  simp
theorem q0b:∀ l,T8 l = []↔l.Pairwise λa b=>G04 a b=false
 | []=>by simp[T8]
 |a::r=>by rw[T8,List.append_eq_nil_iff,f0g,q0b r,List.pairwise_cons]
theorem u06(g:j0):D0 g=true↔G1 g=true/\T8 g.2.2 = []:=by
 unfold D0
 rw[Bool.and_eq_true,l0b,q0b]
theorem g0g(l:List M0)(a0 a1 a2:Int)(hl:l.length<=1000):∀(d k fuel:Nat) (acc:List N4),k+d=l.length->d<fuel->acc.length+2*d<=4000000 ->
  a5 l a1 a0 a2 fuel (k:Int) acc=some (acc++F02 (a0,a1,a2) (l.drop k))
 |d,k,0,acc,hd,hf,ha=>by omega
 |0,k,fuel+1,acc,hd,hf,ha=>by
  rw[a5.eq_2,if_neg (by simp;omega),K1 (by omega)]
  simp[F02]
 |d+1,k,fuel+1,acc,hd,hf,ha=>by
  have hk:k<l.length:=by omega
  have hx:=Y5 hk
  generalize l[k]=b at hx
  obtain⟨b0,b1,b2⟩:=b
  have ih:∀ acc':List N4,acc'.length+2*d<=4000000->a5 l a1 a0 a2 fuel ((k+1:Nat):Int) acc'=some (acc'++F02 (a0,a1,a2) (l.drop (k+1))):=λacc' h=>g0g l a0 a1 a2 hl d (k+1) fuel acc' (by omega) (by omega) h
  rw[a5.eq_2,if_pos (by simp;omega),I2 hx,oB,Z1 hk (by omega),O1 hx]
  simp only[F02,k0a]
  cases decide (a1=b1)
  ·simp only[Bool.not_false,if_true,cond_false,List.nil_append]
   exact ih acc (by omega)
  ·cases decide (a0=b0)<;>cases decide (a2=b2)
   all_goals simp only[Bool.not_true,Bool.false_eq_true,if_false,if_true,cond_true,cond_false,List.nil_append,List.append_nil]
   ·exact ih acc (by omega)
   ·rw[C0 (by simp;omega),oB,ih _ (by simp;omega)];simp
   ·rw[C0 (by simp;omega),oB,ih _ (by simp;omega)];simp
   ·rw[C0 (by simp;omega),oB,C0 (by simp;omega),oB,ih _ (by simp;omega)];simp
theorem i0g(l:List M0)(hl:l.length<=1000):∀(d k fuel:Nat) (acc:List N4),k+d=l.length->d<fuel->acc.length+2000*d<=3000000 ->
  O8 l fuel (k:Int) acc=some (acc++T8 (l.drop k))
 |d,k,0,acc,hd,hf,ha=>by omega
 |0,k,fuel+1,acc,hd,hf,ha=>by
  rw[O8.eq_2,if_neg (by simp;omega),K1 (by omega)]
  simp[T8]
 |d+1,k,fuel+1,acc,hd,hf,ha=>by
  have hk:k<l.length:=by omega
  have hx:=Y5 hk
  generalize l[k]=b at hx
  obtain⟨b0,b1,b2⟩:=b
  have h0:=g0g (l.drop (k+1)) b0 b1 b2 (by simp;omega) (l.length-(k+1)) 0 Q0 acc (by simp) (Y0 (by omega)) (by omega)
  have hr:=p0b (b0,b1,b2) (l.drop (k+1))
  simp only[List.length_drop]at hr
  rw[O8.eq_2,if_pos (by simp;omega),I2 hx,oB]
  simp only[Z1 hk (show l.length<=9223372036854775807 by omega)]
  rw[H04 (by omega),oB,show(0:Int)=((0:Nat):Int) from rfl,h0,oB,i0g l hl d (k+1) fuel _ (by omega) (by omega) (by simp only[List.length_append,List.drop_zero,List.length_drop]at hr ⊢;omega),O1 hx,T8]
  simp
theorem j0g(l:List M0)(hl:l.length<=1000)(i:Nat)(a0 a1 a2:Int)(hi:l[i]?=some (a0,a1,a2)):∀(d k fuel:Nat) (acc:List N4),k+d=l.length->d<fuel->acc.length+2*d<=4000000 ->
  B4 l (i:Int) fuel (k:Int) acc=some (acc++F02 (a0,a1,a2) (l.drop k))
 |d,k,0,acc,hd,hf,ha=>by omega
 |0,k,fuel+1,acc,hd,hf,ha=>by
  rw[B4.eq_2,if_neg (by simp;omega),K1 (by omega)]
  simp[F02]
 |d+1,k,fuel+1,acc,hd,hf,ha=>by
  have hk:k<l.length:=by omega
  have hx:=Y5 hk
  generalize l[k]=b at hx
  obtain⟨b0,b1,b2⟩:=b
  have ih:∀ acc':List N4,acc'.length+2*d<=4000000->B4 l (i:Int) fuel ((k+1:Nat):Int) acc'=some (acc'++F02 (a0,a1,a2) (l.drop (k+1))):=λacc' h=>j0g l hl i a0 a1 a2 hi d (k+1) fuel acc' (by omega) (by omega) h
  rw[B4.eq_2,if_pos (by simp;omega),I2 hi,oB]
  simp only[]
  rw[I2 hx,oB,Z1 hk (by omega),O1 hx]
  simp only[F02,k0a]
  cases decide (a1=b1)
  ·simp only[Bool.false_eq_true,if_false,cond_false,List.nil_append]
   exact ih acc (by omega)
  ·cases decide (a0=b0)<;>cases decide (a2=b2)
   all_goals simp only[Bool.not_true,Bool.false_eq_true,if_false,if_true,cond_true,cond_false,List.nil_append,List.append_nil]
   ·exact ih acc (by omega)
   ·rw[C0 (by simp;omega),oB,ih _ (by simp;omega)];simp
   ·rw[C0 (by simp;omega),oB,ih _ (by simp;omega)];simp
   ·rw[C0 (by simp;omega),oB,C0 (by simp;omega),oB,ih _ (by simp;omega)];simp
theorem k0g(l:List M0)(hl:l.length<=1000):∀(d k fuel:Nat) (acc:List N4),k+d=l.length->d<fuel->acc.length+2000*d<=3000000 ->
  w7 l fuel (k:Int) acc=some (acc++T8 (l.drop k))
 |d,k,0,acc,hd,hf,ha=>by omega
 |0,k,fuel+1,acc,hd,hf,ha=>by
  rw[w7.eq_2,if_neg (by simp;omega),K1 (by omega)]
  simp[T8]
 |d+1,k,fuel+1,acc,hd,hf,ha=>by
  have hk:k<l.length:=by omega
  have hx:=Y5 hk
  generalize l[k]=b at hx
  obtain⟨b0,b1,b2⟩:=b
  have h0:=j0g l hl k b0 b1 b2 hx (l.length-(k+1)) (k+1) Q0 acc (by omega) (Y0 (by omega)) (by omega)
  have hr:=p0b (b0,b1,b2) (l.drop (k+1))
  simp only[List.length_drop]at hr
  rw[w7.eq_2,if_pos (by simp;omega),Z1 hk (by omega),h0,oB,k0g l hl d (k+1) fuel _ (by omega) (by omega) (by simp only[List.length_append,List.length_drop]at hr ⊢;omega),O1 hx,T8]
  simp
theorem h0j(g:j0)(hl:g.2.2.length<=1000):N02 g=some (T8 g.2.2):=by
 obtain⟨r,n,es⟩:=g
 unfold N02
 simp only
 rw[show(0:Int)=((0:Nat):Int) from rfl,i0g es hl es.length 0 Q0 [] (by omega) (Y0 (by simp only at hl;omega)) (by simp only at hl;simp;omega)]
 rfl
theorem i0j(g:j0)(hl:g.2.2.length<=1000):N01 g=some (T8 g.2.2):=by
 obtain⟨r,n,es⟩:=g
 unfold N01
 simp only
 rw[show(0:Int)=((0:Nat):Int) from rfl,k0g es hl es.length 0 Q0 [] (by omega) (Y0 (by simp only at hl;omega)) (by simp only at hl;simp;omega)]
 rfl
def G02(g:j0):N4×Bool:=bif G1 g then(match T8 g.2.2 with
 | []=>((0,0),false)
 |f::_=>(f,true))else((0,0),false)
theorem t0c(g:j0)(hl:g.2.2.length<=140737488355328):K9 g=some (G02 g):=by
 have h1:=o02 g hl
 have h2:=h0j g
 unfold G02
 cases hg:G1 g with
 |false =>
  obtain⟨r,n,es⟩:=g
  unfold K9
  simp only[h1,hg,oB];rfl
 |true =>
  have h2:=h2 (by have:=(F1 hg).2.2.2;omega)
  obtain⟨r,n,es⟩:=g
  unfold K9
  simp only[h1,hg,h2,oB,cond_true]
  simp only at h2
  cases T8 es with
  |nil=>rfl
  |cons f l =>
   rw[if_neg (by simp),if_neg (by simp;omega),c09 rfl]
   rfl
theorem u0c(g:j0)(hl:g.2.2.length<=140737488355328):M9 g=some (G02 g):=by
 have h1:=G9 g hl
 have h2:=i0j g
 unfold G02
 cases hg:G1 g with
 |false =>
  obtain⟨r,n,es⟩:=g
  unfold M9
  simp only[h1,hg,oB];rfl
 |true =>
  have h2:=h2 (by have:=(F1 hg).2.2.2;omega)
  obtain⟨r,n,es⟩:=g
  unfold M9
  simp only[h1,hg,h2,oB,cond_true]
  simp only at h2
  cases T8 es with
  |nil=>rfl
  |cons f l =>
   rw[if_neg (by simp),if_neg (by simp;omega),c09 rfl]
   rfl
theorem X0l(v:Int)(f:N4)(hv:0<=v/\v<1000)(hf:0<=f.1/\f.1<f.2):b02 v f=some (mvV f v):=by
 obtain⟨a,b⟩:=f
 simp only at hf
 unfold b02 mvV
 simp only
 by_cases c:v=b
 ·rw[if_pos (by simp[c]),if_neg (by simp;omega),if_pos c]
 ·rw[if_neg (by simp[c]),if_neg c]
  by_cases c2:v>b
  ·rw[if_pos (by simp[c2]),if_pos c2,w64 (by omega) (by omega)]
  ·rw[if_neg (by simp;omega),if_neg c2]
theorem j0j(v:Int)(f:N4)(hv:0<=v/\v<1000):D6 v f=some (mvV f v):=by
 obtain⟨a,b⟩:=f
 unfold D6 mvV
 simp only
 by_cases c:v=b
 ·rw[if_pos (by simp[c]),if_pos c]
 ·rw[if_neg (by simp[c]),if_neg c]
  by_cases c2:v>b
  ·rw[if_pos (by simp[c2]),if_pos c2,w64 (by omega) (by omega)]
  ·rw[if_neg (by simp;omega),if_neg c2]
theorem z0h{f:N4}{v:Int}(hv:0<=v/\v<1000)(hf:0<=f.1/\f.1<1000):P0 (mvV f v):=by
 unfold mvV
 split
 ·exact⟨by omega,by omega⟩
 ·split
  ·exact⟨by omega,by omega⟩
  ·exact⟨by omega,by omega⟩
theorem k0j(es:List M0)(f:N4)(r n:Int)(hl:es.length<=1000)(hv:∀ e∈es,(0<=e.1/\e.1<1000)/\(0<=e.2.2/\e.2.2<1000))(hf:0<=f.1/\f.1<f.2)(hf2:f.2<1000):∀(d k fuel:Nat) (acc:List M0),k+d=es.length->d<fuel->acc.length<=k ->
  H4 es f.1 f.2 fuel (k:Int) r n acc=some (r,n,J7 C1 acc ((es.drop k).map (mvE f)))
 |d,k,0,acc,hd,hfu,ha=>by omega
 |0,k,fuel+1,acc,hd,hfu,ha=>by
  rw[H4.eq_2,if_neg (by simp;omega),K1 (by omega)]
  rfl
 |d+1,k,fuel+1,acc,hd,hfu,ha=>by
  have hk:k<es.length:=by omega
  have hx:=Y5 hk
  have hvk:=hv _ (List.getElem_mem hk)
  generalize es[k]=b at hx hvk
  obtain⟨b0,b1,b2⟩:=b
  simp only at hvk
  have hln:=X07 (mvE f (b0,b1,b2)) acc
  rw[H4.eq_2,if_pos (by simp;omega),I2 hx,oB]
  simp only[]
  rw[X0l b0 (f.1,f.2) hvk.1 hf,oB,C0 (z0h hvk.1 ⟨hf.1,by show f.1<1000;omega⟩),oB,X0l b2 (f.1,f.2) hvk.2 hf,oB,C0 (z0h hvk.2 ⟨hf.1,by show f.1<1000;omega⟩),oB,
   R0c acc _ (by omega),oB,Z1 hk (by omega),O1 hx,List.map_cons]
  exact k0j es f r n hl hv hf hf2 d (k+1) fuel _ (by omega) (by omega) (Nat.le_trans hln (by omega))
theorem l0j{g:j0}{f:N4}(hg:G1 g=true)(hf:okF g f):A7 g f=some (D01 g f,true):=by
 obtain⟨q1,q2,q3,q4⟩:=F1 hg
 have h1:=G9 g (by omega)
 obtain⟨f1,f2,f3⟩:=hf
 obtain⟨r,n,es⟩:=g
 obtain⟨a,b⟩:=f
 simp only at f1 f2 f3 q3 q4
 have h:=k0j es (a,b) r (IntKind.i64.wrap (n-1)) (by omega) (λe he=>by
  have:=q1 e he
  simp only at this
  exact⟨⟨by omega,by omega⟩,by omega,by omega⟩) ⟨f1,f2⟩ (by simp only;omega) es.length 0 Q0 [] (by omega) (Y0 (by omega)) (Nat.le_refl _)
 unfold A7
 simp only[h1,hg,oB]
 rw[if_neg (by simp;omega),show(0:Int)=((0:Nat):Int) from rfl,h,w64 (by omega) (by omega)]
 rfl
theorem m0j(es:List M0)(f:N4)(hl:es.length<=1000)(hv:∀ e∈es,(0<=e.1/\e.1<1000)/\(0<=e.2.2/\e.2.2<1000))(hf:0<=f.1/\f.1<1000):∀(d k fuel:Nat),k+d=es.length->d<fuel ->
  G4 es f.1 f.2 fuel (k:Int) ((es.take k).map (mvE f)++es.drop k)=some (es.map (mvE f))
 |d,k,0,hd,hfu=>by omega
 |0,k,fuel+1,hd,hfu=>by
  rw[G4.eq_2,if_neg (by simp;omega),K1 (by omega),List.append_nil,List.take_of_length_le (by omega)]
 |d+1,k,fuel+1,hd,hfu=>by
  have hk:k<es.length:=by omega
  have hx:=Y5 hk
  have hvk:=hv _ (List.getElem_mem hk)
  generalize es[k]=b at hx hvk
  have htl:((es.take k).map (mvE f)).length=k:=by simp;omega
  have hg:((es.take k).map (mvE f)++es.drop k)[k]?=some b:=by
   rw[List.getElem?_append_right (by omega),htl,O1 hx];simp
  have hs:∀ y,((es.take k).map (mvE f)++es.drop k).set k y=(es.take k).map (mvE f)++y::es.drop (k+1):=λy=>by
   rw[List.set_append_right _ _ (by omega),htl,O1 hx];simp
  obtain⟨b0,b1,b2⟩:=b
  simp only at hvk
  have e:(es.take (k+1)).map (mvE f)++es.drop (k+1)=(es.take k).map (mvE f)++mvE f (b0,b1,b2)::es.drop (k+1):=by
   rw[X0q hx];simp
  have ih:=m0j es f hl hv hf d (k+1) fuel (by omega) (by omega)
  rw[e]at ih
  rw[G4.eq_2,if_pos (by simp;omega),I2 hg,oB]
  simp only[]
  rw[j0j b0 (f.1,f.2) hvk.1,oB,C0 (z0h hvk.1 hf),oB,j0j b2 (f.1,f.2) hvk.2,oB,C0 (z0h hvk.2 hf),oB]
  simp only[oB]
  rw[show((k:Nat):Int).toNat=k from Int.toNat_natCast k,hs,Z1 hk (by omega)]
  exact ih
theorem n0j{g:j0}{f:N4}(hg:G1 g=true)(hf:okF g f):p7 g f=some (D01 g f,true):=by
 obtain⟨q1,q2,q3,q4⟩:=F1 hg
 have h1:=o02 g (by omega)
 have h2:=I04 g (by omega)
 obtain⟨f1,f2,f3⟩:=hf
 obtain⟨r,n,es⟩:=g
 obtain⟨a,b⟩:=f
 simp only at f1 f2 f3 q3 q4
 have h:=m0j es (a,b) (by omega) (λe he=>by
  have:=q1 e he
  simp only at this
  exact⟨⟨by omega,by omega⟩,by omega,by omega⟩) ⟨f1,by simp only;omega⟩ es.length 0 Q0 (by omega) (Y0 (by omega))
 simp only[List.take_zero,List.map_nil,List.nil_append,List.drop_zero]at h
 unfold p7
 simp only[h1,h2,hg,oB]
 rw[if_neg (by simp;omega),show(0:Int)=((0:Nat):Int) from rfl,h,oB,b0e _ (by simp;omega),oB,w64 (by omega) (by omega)]
 rfl
def P01(g:j0):j0×N4×Bool:=bif G1 g then(match T8 g.2.2 with
 | []=>(g,(0,0),false)
 |f::_=>(D01 g f,f,true))else(g,(0,0),false)
theorem u07(g:j0)(hl:g.2.2.length<=1099511627776):k01 g=some (P01 g):=by
 have h1:=u0c g (by omega)
 have h2:=d09 g hl
 have h3:∀ f,G1 g=true->okF g f->A7 g f=some (D01 g f,true):=λf a b=>l0j a b
 have h4:G1 g=true->∀ f∈T8 g.2.2,okF g f:=Q05
 unfold G02 at h1
 unfold P01
 obtain⟨r,n,es⟩:=g
 unfold k01
 simp only[h1,oB]
 cases hg:G1 (r,n,es)with
 |false=>simp only[cond_false,Bool.not_false,if_true,h2,oB]
 |true =>
  simp only[cond_true]
  simp only at h4
  cases e:T8 es with
  |nil=>simp only[Bool.not_false,if_true,h2,oB]
  |cons f l =>
   simp only[Bool.not_true,Bool.false_eq_true,if_false,h3 f hg (h4 hg f (by rw[e];exact mS)),oB]
theorem v07(g:j0)(hl:g.2.2.length<=1099511627776):j01 g=some (P01 g):=by
 have h1:=t0c g (by omega)
 have h2:=I04 g hl
 have h3:∀ f,G1 g=true->okF g f->p7 g f=some (D01 g f,true):=λf a b=>n0j a b
 have h4:G1 g=true->∀ f∈T8 g.2.2,okF g f:=Q05
 unfold G02 at h1
 unfold P01
 obtain⟨r,n,es⟩:=g
 unfold j01
 simp only[h1,oB]
 cases hg:G1 (r,n,es)with
 |false=>simp only[cond_false,Bool.not_false,if_true,h2,oB]
 |true =>
  simp only[cond_true]
  simp only at h4
  cases e:T8 es with
  |nil=>simp only[Bool.not_false,if_true,h2,oB]
  |cons f l =>
   simp only[Bool.not_true,Bool.false_eq_true,if_false,h3 f hg (h4 hg f (by rw[e];exact mS)),oB]
def L0r:(j0×K8) ⊕ (Int×Int×K0×(List N4))->Option (j0×K8):=λX=>R9 X (λS=>match S with
 |(a,b,c,e)=>some ((a,b,c),e))
theorem q0e:∀(d k fuel:Nat) (g:j0) (acc:List N4),k+d=40->d<fuel->G1 g=true->acc.length=k ->
  (E6 fuel (k:Int) g.1 g.2.1 g.2.2 acc).bind L0r=some ((j02 d g).1,acc++(j02 d g).2)
 |d,k,0,g,acc,hd,hf,hg,ha=>by omega
 |0,k,fuel+1,g,acc,hd,hf,hg,ha=>by
  rw[E6.eq_2,if_neg (by simp;omega)]
  simp[L0r,R9,j02]
 |d+1,k,fuel+1,g,acc,hd,hf,hg,ha=>by
  have h1:=u07 g (by have:=(F1 hg).2.2.2;omega)
  have h4:=Q05 hg
  unfold P01 at h1
  rw[hg]at h1
  simp only[cond_true]at h1
  rw[E6.eq_2,if_pos (by simp;omega),show(g.1,g.2.1,g.2.2)=g from rfl,h1]
  unfold j02
  cases e:T8 g.2.2 with
  |nil=>simp[L0r,R9]
  |cons f l =>
   have ih:=q0e d (k+1) fuel (D01 g f) (acc ++ [f]) (by omega) (by omega) (t07 hg (h4 f (by rw[e];exact mS))) (by simp[ha])
   simp only[oB,Bool.not_true,Bool.false_eq_true,if_false]
   rw[C0 (by simp;omega),oB,Z1 (show k<1000 by omega) (by omega)]
   refine ih.trans ?_
   simp
theorem f0f(g:j0)(hl:g.2.2.length<=1099511627776):O01 g=some (b04 g):=by
 have h1:=u07 g hl
 have h2:=d09 g hl
 have h3:=q0e 40 0 Q0 g [] rfl (Y0 (by omega))
 unfold b04
 obtain⟨r,n,es⟩:=g
 unfold O01
 simp only[h2,oB]
 cases hg:G1 (r,n,es)with
 |false =>
  unfold P01 at h1
  rw[hg]at h1
  simp only[cond_false]at h1
  rw[show Q0=(Q0-1)+1 from rfl,E6.eq_2,if_pos (by simp),h1]
  rfl
 |true=>exact h3 hg rfl
theorem r0e:∀(d fuel:Nat) (g:j0) (acc:List N4),d<fuel->G1 g=true->T8 (j02 d g).1.2.2 = []->acc.length+d<=1000 ->
  r7 fuel g.1 g.2.1 g.2.2 acc=some (.inl ((j02 d g).1,acc++(j02 d g).2))
 |d,0,g,acc,hf,hg,hn,ha=>by omega
 |d,fuel+1,g,acc,hf,hg,hn,ha=>by
  have h1:=v07 g (by have:=(F1 hg).2.2.2;omega)
  have h4:=Q05 hg
  unfold P01 at h1
  rw[hg]at h1
  simp only[cond_true]at h1
  rw[r7.eq_2,show(g.1,g.2.1,g.2.2)=g from rfl,h1]
  cases e:T8 g.2.2 with
  |nil =>
   have e2:j02 d g=(g,[]):=by
    cases d with
    |zero=>rfl
    |succ d=>unfold j02;rw[e]
   rw[e2]
   simp
  |cons f l =>
   cases d with
   |zero=>exact absurd e (by rw[show T8 g.2.2 = [] from hn];simp)
   |succ d =>
    have e2:j02 (d+1) g=((j02 d (D01 g f)).1,f::(j02 d (D01 g f)).2):=by
     show(match T8 g.2.2 with | []=>(g,[])|f::_=>((j02 d (D01 g f)).1,f::(j02 d (D01 g f)).2))=_
     rw[e]
    rw[e2]at hn ⊢
    have ih:=r0e d fuel (D01 g f) (acc ++ [f]) (by omega) (t07 hg (h4 f (by rw[e];exact mS))) hn (by simp;omega)
    simp only[oB,Bool.not_true,Bool.false_eq_true,if_false]
    rw[C0 (by simp;omega),oB]
    refine ih.trans ?_
    simp
theorem g0f(g:j0)(hl:g.2.2.length<=1099511627776):L01 g=some (b04 g):=by
 have h1:=v07 g hl
 have h2:=I04 g hl
 have h3:=r0e 40 Q0 g [] (Y0 (by omega))
 have h5:G1 g=true->T8 (j02 40 g).1.2.2 = []:=λhg=>p0e 40 hg (by have:=(F1 hg).2.2.1;omega)
 unfold b04
 obtain⟨r,n,es⟩:=g
 unfold L01
 simp only[h2,oB]
 cases hg:G1 (r,n,es)with
 |false =>
  unfold P01 at h1
  rw[hg]at h1
  simp only[cond_false]at h1
  rw[show Q0=(Q0-1)+1 from rfl,r7.eq_2,h1]
  rfl
 |true =>
  have h:=h3 hg (h5 hg) (by simp)
  simp only at h
  rw[h]
  rfl
theorem l0g{g:j0}(h:G1 g=true):Asc C1 g.2.2:=((P05 g).1 h).2.2.2.2
def stp(u x v:Int):M0:=if x<0 then(v,-x,u)else(u,x,v)
theorem M0r(u x v:Int)(hx:L7 x):y03 u x v=some (stp u x v):=by
 unfold y03 stp
 by_cases c:x<0
 ·rw[if_pos (by simp[c]),if_pos c,R0d hx.1 hx.2]
 ·rw[if_neg (by simp;omega),if_neg c]
theorem j0s{g:j0}(hg:G1 g=true){u:Int}(hu:0<=u/\u<g.2.1):A4 g u=some true:=by
 obtain⟨q1,q2,q3,q4⟩:=F1 hg
 obtain⟨r,n,es⟩:=g
 simp only at q3 hu
 unfold A4
 simp only[E04]
 rw[w64 (by omega) (by omega)]
 simp[inR];omega
theorem Y0l(es:List M0)(e:M0)(hl:es.length<=140737488355328):∀(d k fuel:Nat),k+d=es.length->d<fuel ->
  ∃ X,Q1 es e.1 e.2.1 e.2.2 fuel (k:Int)=some X/\((∃ i:Nat,X = .inl (i:Int)/\i<es.length/\e∈es.drop k)∨(X = .inr ()/\e ∉ es.drop k))
 |d,k,0,hd,hf=>by omega
 |0,k,fuel+1,hd,hf=>by
  rw[Q1.eq_2,if_neg (by simp;omega),K1 (by omega)]
  exact⟨_,rfl,.inr ⟨rfl,by simp⟩⟩
 |d+1,k,fuel+1,hd,hf=>by
  have hk:k<es.length:=by omega
  have hx:=Y5 hk
  generalize es[k]=b at hx
  rw[Q1.eq_2,if_pos (by simp;omega),I2 hx,oB,O1 hx]
  simp only[]
  by_cases c:eqE e b=true
  ·rw[if_pos c]
   refine⟨_,rfl,.inl ⟨k,rfl,hk,?_⟩⟩
   rw[(Q0c _ _).1 c]
   exact mS
  ·rw[if_neg c,Z1 hk (by omega)]
   obtain⟨X,h1,h2⟩:=Y0l es e hl d (k+1) fuel (by omega) (by omega)
   refine⟨X,h1,?_⟩
   have hne:e≠b:=λh=>c ((Q0c _ _).2 h)
   rcases h2 with⟨i,q1,q2,q3⟩|⟨q1,q2⟩
   ·exact .inl ⟨i,q1,q2,mC _ q3⟩
   ·refine .inr ⟨q1,λh=>?_⟩
    rcases List.mem_cons.1 h with h|h
    ·exact hne h
    ·exact q2 h
theorem G0k(es:List M0)(e:M0)(hl:es.length<=140737488355328):B3 es e=some (decide (e∈es)):=by
 obtain⟨X,h1,h2⟩:=Y0l es e hl es.length 0 Q0 (by omega) (Y0 hl)
 obtain⟨e0,e1,e2⟩:=e
 unfold B3 M4
 simp only
 simp only[List.drop_zero]at h2
 rw[show(0:Int)=((0:Nat):Int) from rfl,h1]
 rcases h2 with⟨i,rfl,q2,q3⟩|⟨rfl,q2⟩
 ·simp only[oB,n5]
  rw[C0 (show P0 ((i:Nat):Int) from⟨by omega,by omega⟩)]
  simp[q3]
 ·simp only[oB,S0]
  rw[C0 (show P0 (-1) from⟨by omega,by omega⟩)]
  simp[q2]
def H06(g:j0)(v:Int):List Int->List M0
 | []=>[]
 |x::r=>(bif decide (N0 g v x<0)then [(v,x,-1)]else [])++H06 g v r
def H08(g:j0):Nat->Nat->List M0
 |0,_=>[]
 |d+1,v=>H06 g (v:Int) (T2 g.1.toNat 1)++H08 g d (v+1)
theorem b08(g:j0)(v:Int):∀ l,(H06 g v l).length<=l.length
 | []=>Nat.le_refl _
 |x::r=>by
  have:=b08 g v r
  simp only[H06,List.length_append,List.length_cons]
  cases decide (N0 g v x<0)<;>simp<;>omega
theorem o0j(g:j0)(hg:G1 g=true)(v:Int)(ls:List Int)(hls:∀ x∈ls,L7 x)(hl:ls.length<=1000):∀(d k fuel:Nat) (acc:List M0),k+d=ls.length->d<fuel->acc.length+d<=100000 ->
  P3 ls g.1 g.2.1 g.2.2 v fuel (k:Int) acc=some (acc++H06 g v (ls.drop k))
 |d,k,0,acc,hd,hf,ha=>by omega
 |0,k,fuel+1,acc,hd,hf,ha=>by
  rw[P3.eq_2,if_neg (by simp;omega),K1 (by omega)]
  simp[H06]
 |d+1,k,fuel+1,acc,hd,hf,ha=>by
  obtain⟨q1,q2,q3,q4⟩:=F1 hg
  have hk:k<ls.length:=by omega
  have hx:=Y5 hk
  have hm:=hls _ (List.getElem_mem hk)
  generalize ls[k]=x at hx hm
  have ih:∀ acc':List M0,acc'.length+d<=100000->P3 ls g.1 g.2.1 g.2.2 v fuel ((k+1:Nat):Int) acc'=some (acc'++H06 g v (ls.drop (k+1))):=λacc' h=>o0j g hg v ls hls hl d (k+1) fuel acc' (by omega) (by omega) h
  rw[P3.eq_2,if_pos (by simp;omega),I2 hx,oB,show(g.1,g.2.1,g.2.2)=g from rfl,M01 g v x hm (by omega),oB,C0 (C01 q1 q3.2 v x),oB,Z1 hk (by omega),O1 hx,H06]
  cases decide (N0 g v x<0)with
  |true =>
   rw[if_pos rfl,oB,C0 (by simp;omega),oB,ih _ (by simp;omega)]
   simp
  |false =>
   rw[if_neg (by simp),ih _ (by omega)]
   simp
theorem p0j(g:j0)(hg:G1 g=true)(v:Int)(ls:List Int)(hls:∀ x∈ls,L7 x)(hl:ls.length<=1000):∀(d k fuel:Nat) (acc:List M0),k+d=ls.length->d<fuel->acc.length+d<=100000 ->
  O3 ls g.1 g.2.1 g.2.2 v fuel (k:Int) acc=some (acc++H06 g v (ls.drop k))
 |d,k,0,acc,hd,hf,ha=>by omega
 |0,k,fuel+1,acc,hd,hf,ha=>by
  rw[O3.eq_2,if_neg (by simp;omega),K1 (by omega)]
  simp[H06]
 |d+1,k,fuel+1,acc,hd,hf,ha=>by
  obtain⟨q1,q2,q3,q4⟩:=F1 hg
  have hk:k<ls.length:=by omega
  have hx:=Y5 hk
  have hm:=hls _ (List.getElem_mem hk)
  generalize ls[k]=x at hx hm
  have ih:∀ acc':List M0,acc'.length+d<=100000->O3 ls g.1 g.2.1 g.2.2 v fuel ((k+1:Nat):Int) acc'=some (acc'++H06 g v (ls.drop (k+1))):=λacc' h=>p0j g hg v ls hls hl d (k+1) fuel acc' (by omega) (by omega) h
  rw[O3.eq_2,if_pos (by simp;omega),I2 hx,oB,show(g.1,g.2.1,g.2.2)=g from rfl,i03 g v x hm (by omega),oB,C0 (C01 q1 q3.2 v x),oB,Z1 hk (by omega),O1 hx,H06]
  cases decide (N0 g v x<0)with
  |true =>
   rw[if_pos rfl,C0 (by simp;omega),oB,ih _ (by simp;omega)]
   simp
  |false =>
   rw[if_neg (by simp),ih _ (by omega)]
   simp
theorem w07:∀(d i:Nat) (x:Int),x∈T2 d i->∃ j:Nat,i<=j/\j<i+d/\(x=(j:Int)∨x = -(j:Int))
 |0,i,x,h=>by simp[T2]at h
 |d+1,i,x,h=>by
  simp only[T2,List.mem_cons]at h
  rcases h with rfl|rfl|h
  ·exact⟨i,Nat.le_refl _,by omega,.inl rfl⟩
  ·exact⟨i,Nat.le_refl _,by omega,.inr rfl⟩
  ·obtain⟨j,h1,h2,h3⟩:=w07 d (i+1) x h
   exact⟨j,by omega,by omega,h3⟩
theorem q0j(g:j0)(hf0:D0 g=true):∀(d k fuel:Nat) (acc:List M0),k+d=g.2.1.toNat->d<fuel->acc.length+100*d<=10000 ->
  Q4 g.2.1 g.1 g.2.2 fuel (k:Int) acc=some (acc++H08 g d k)
 |d,k,0,acc,hd,hf,ha=>by omega
 |0,k,fuel+1,acc,hd,hf,ha=>by
  obtain⟨q1,q2,q3,q4⟩:=D1 hf0
  rw[Q4.eq_2,show decide (((k:Nat):Int)<g.2.1)=false by simp;omega]
  simp[chk,H08]
 |d+1,k,fuel+1,acc,hd,hf,ha=>by
  obtain⟨q1,q2,q3,q4⟩:=D1 hf0
  have hg:=((u06 g).1 hf0).1
  obtain⟨R,hR⟩:∃ R:Nat,g.1=(R:Int):=⟨g.1.toNat,by omega⟩
  have hls:∀ x∈T2 g.1.toNat 1,L7 x:=λx hx=>by
   obtain⟨j,h1,h2,h3⟩:=w07 _ _ _ hx
   refine⟨⟨by omega,by omega⟩,by omega⟩
  have hlen:=R8 g.1.toNat 1
  have hm:=b08 g (k:Int) (T2 g.1.toNat 1)
  have h0:=o0j g hg (k:Int) (T2 g.1.toNat 1) hls (by omega) (T2 g.1.toNat 1).length 0 Q0 acc (by omega) (Y0 (by omega)) (by omega)
  rw[Q4.eq_2,show decide (((k:Nat):Int)<g.2.1)=true by simp;omega,T1,show(g.1,g.2.1,g.2.2)=g from rfl,P8 g (by omega),oB,hf0]
  rw[if_pos (show(bif true then true else false)=true from rfl),show Y4 g.1=some (T2 g.1.toNat 1) by rw[hR,j0e R (by omega)];rfl,oB,show(0:Int)=((0:Nat):Int) from rfl,h0,oB,Z1 (show k<1000 by omega) (by omega),q0j g hf0 d (k+1) fuel _ (by omega) (by omega) (by simp;omega),H08]
  simp
theorem r0j(g:j0)(hf0:D0 g=true):∀(d k fuel:Nat) (acc:List M0),k+d=g.2.1.toNat->d<fuel->acc.length+100*d<=10000 ->
  P4 g.2.1 g.1 g.2.2 fuel (k:Int) acc=some (acc++H08 g d k)
 |d,k,0,acc,hd,hf,ha=>by omega
 |0,k,fuel+1,acc,hd,hf,ha=>by
  obtain⟨q1,q2,q3,q4⟩:=D1 hf0
  rw[P4.eq_2,if_neg (by simp;omega)]
  simp[H08]
 |d+1,k,fuel+1,acc,hd,hf,ha=>by
  obtain⟨q1,q2,q3,q4⟩:=D1 hf0
  have hg:=((u06 g).1 hf0).1
  obtain⟨R,hR⟩:∃ R:Nat,g.1=(R:Int):=⟨g.1.toNat,by omega⟩
  have hls:∀ x∈T2 g.1.toNat 1,L7 x:=λx hx=>by
   obtain⟨j,h1,h2,h3⟩:=w07 _ _ _ hx
   refine⟨⟨by omega,by omega⟩,by omega⟩
  have hlen:=R8 g.1.toNat 1
  have hm:=b08 g (k:Int) (T2 g.1.toNat 1)
  have h0:=p0j g hg (k:Int) (T2 g.1.toNat 1) hls (by omega) (T2 g.1.toNat 1).length 0 Q0 acc (by omega) (Y0 (by omega)) (by omega)
  rw[P4.eq_2,if_pos (by simp;omega),show W4 g.1=some (T2 g.1.toNat 1) by rw[hR,v0h R (by omega)];rfl,oB,show(0:Int)=((0:Nat):Int) from rfl,h0,oB,Z1 (show k<1000 by omega) (by omega),r0j g hf0 d (k+1) fuel _ (by omega) (by omega) (by simp;omega),H08]
  simp
def F00(g:j0):List M0:=H08 g g.2.1.toNat 0
theorem h0f{g:j0}(hf:D0 g=true):T7 g=some (F00 g):=by
 obtain⟨q1,q2,q3,q4⟩:=D1 hf
 have h:=q0j g hf g.2.1.toNat 0 Q0 [] (by omega) (Y0 (by omega)) (by simp;omega)
 obtain⟨r,n,es⟩:=g
 unfold T7 F00
 simp only at h ⊢
 rw[show(0:Int)=((0:Nat):Int) from rfl,h];simp
theorem i0f{g:j0}(hf:D0 g=true):S7 g=some (F00 g):=by
 obtain⟨q1,q2,q3,q4⟩:=D1 hf
 have h:=r0j g hf g.2.1.toNat 0 Q0 [] (by omega) (Y0 (by omega)) (by simp;omega)
 have h2:=V9 g (by omega)
 obtain⟨r,n,es⟩:=g
 unfold S7 F00
 simp only[h2,hf,oB]at h ⊢
 rw[if_neg (by simp),show(0:Int)=((0:Nat):Int) from rfl,h];simp
theorem H0k(g:Nat):∀(d k:Nat) (x:Int),x∈wo g d k->∃ j:Nat,x=(j:Int)/\k<=j/\j<k+d
 |0,k,x,h=>nomatch h
 |d+1,k,x,h=>by
  unfold wo at h
  split at h
  ·obtain⟨j,h1,h2,h3⟩:=H0k g d (k+1) x h
   exact⟨j,h1,by omega,by omega⟩
  ·rcases List.mem_cons.1 h with rfl|h
   ·exact⟨k,rfl,Nat.le_refl _,by omega⟩
   ·obtain⟨j,h1,h2,h3⟩:=H0k g d (k+1) x h
    exact⟨j,h1,by omega,by omega⟩
theorem x07(g:Nat):∀(d k:Nat),(wo g d k).Nodup
 |0,k=>List.nodup_nil
 |d+1,k=>by
  unfold wo
  split
  ·exact x07 g d (k+1)
  ·refine List.nodup_cons.2 ⟨λh=>?_,x07 g d (k+1)⟩
   obtain⟨j,h1,h2,h3⟩:=H0k g d (k+1) _ h
   omega
theorem A0h(P:List Int):∀(es:List M0),∀ e∈pE P es,∃ a∈es,e=(getI P a.1,a.2.1,getI P a.2.2)/\0<=getI P a.1/\0<=getI P a.2.2
 | [],e,h=>nomatch h
 |b::r,e,h=>by
  unfold pE at h
  cases hb:decide (0<=getI P b.1)&&decide (0<=getI P b.2.2)
  ·rw[hb]at h
   obtain⟨a,h1,h2⟩:=A0h P r e h
   exact⟨a,mC _ h1,h2⟩
  ·rw[hb]at h
   simp only[Bool.and_eq_true,decide_eq_true_eq]at hb
   rcases List.mem_cons.1 h with rfl|h
   ·exact⟨b,mS,rfl,hb.1,hb.2⟩
   ·obtain⟨a,h1,h2⟩:=A0h P r e h
    exact⟨a,mC _ h1,h2⟩
theorem g09{g:j0}{o:List Int}(hg:G1 g=true)(ho:inV g.2.1.toNat o)(h1:1<=o.length)(h2:o.length<=40):G1 (i8 g o)=true:=by
 obtain⟨q1,q2,q3,q4⟩:=F1 hg
 have hl:=t0h (plc g.2.1.toNat o) g.2.2
 refine j0a q2 ⟨by omega,by omega⟩ (by omega) λe he=>?_
 obtain⟨a,ha,rfl,k1,k2⟩:=A0h _ _ e he
 have hq:=q1 a ha
 have r1:=(O05 ho (x:=a.1) (by omega)).2
 have r2:=(O05 ho (x:=a.2.2) (by omega)).2
 exact⟨⟨k1,r1⟩,⟨k2,r2⟩,hq.2.2⟩
theorem s0e{n:Nat}:∀(o:List Int) (k:Nat) (A:List Int),A.length=n->inV n o->o.Nodup->(∀ x,0<=x->getI A x<(k:Int))->(∀ x y,0<=x->0<=y->0<=getI A x->getI A x=getI A y->x=y) ->
  ∀ x y,0<=x->0<=y->0<=getI (Z00 A k o) x->getI (Z00 A k o) x=getI (Z00 A k o) y->x=y
 | [],k,A,hA,ho,hd,hr,hi=>hi
 |v::r,k,A,hA,ho,hd,hr,hi=>by
  have hv:=ho v mS
  refine s0e r (k+1) (A.set v.toNat (k:Int)) (by simp[hA]) (λw hw=>ho w (mC _ hw)) (List.nodup_cons.1 hd).2 (λx hx=>?_) (λx y hx hy h0 he=>?_)
  ·rw[z03 hv.1 (by omega) hx]
   have:=hr x hx
   split<;>omega
  ·rw[z03 hv.1 (by omega) hx]at h0 he
   rw[z03 hv.1 (by omega) hy]at he
   have h1:=hr x hx
   have h2:=hr y hy
   by_cases c1:x=v
   ·by_cases c2:y=v
    ·rw[c1,c2]
    ·rw[if_pos c1,if_neg c2]at he;omega
   ·by_cases c2:y=v
    ·rw[if_neg c1,if_pos c2]at he;omega
    ·rw[if_neg c1]at h0;rw[if_neg c1,if_neg c2]at he
     exact hi x y hx hy h0 he
theorem B0h{n:Nat}{o:List Int}(ho:inV n o)(hd:o.Nodup){x y:Int}(hx:0<=x)(hy:0<=y)(h0:0<=getI (plc n o) x)(he:getI (plc n o) x=getI (plc n o) y):x=y:=by
 refine s0e o 0 (List.replicate n (-1)) (by simp) ho hd (λx hx=>by rw[r07];omega) (λx y _ _ h _=>by rw[r07]at h;omega) x y hx hy h0 he
theorem W0o{es:List M0}(h:es.Pairwise λa b=>G04 a b=false){a b:M0}(ha:a∈es)(hb:b∈es)(hne:a≠b):G04 a b=false:=by
 induction es with
 |nil=>cases ha
 |cons c r ih =>
  obtain⟨h1,h2⟩:=List.pairwise_cons.1 h
  rcases List.mem_cons.1 ha with rfl|ha'
  ·rcases List.mem_cons.1 hb with rfl|hb'
   ·exact absurd rfl hne
   ·exact h1 b hb'
  ·rcases List.mem_cons.1 hb with rfl|hb'
   ·rw[k0b];exact h1 a ha'
   ·exact ih h2 ha' hb'
theorem z0q{es:List M0}(hA:Asc C1 es)(h:∀ a∈es,∀ b∈es,a≠b->G04 a b=false):es.Pairwise λa b=>G04 a b=false:=by
 induction es with
 |nil=>exact .nil
 |cons c r ih =>
  obtain⟨h1,h2⟩:=List.pairwise_cons.1 hA
  refine List.pairwise_cons.2 ⟨λb hb=>h c mS b (mC _ hb) λe=>?_,ih h2 λa ha b hb=>h a (mC _ ha) b (mC _ hb)⟩
  have:=h1 b hb
  rw[e,S9.refl]at this;omega
theorem r0b{g:j0}(hg:G1 g=true):D0 g=true↔∀ a∈g.2.2,∀ b∈g.2.2,a≠b->G04 a b=false:=by
 rw[u06,q0b]
 exact⟨λh a ha b hb hne=>W0o h.2 ha hb hne,λh=>⟨hg,z0q (graph_asc' hg) h⟩⟩
where graph_asc' {g:j0} (h:G1 g=true):Asc C1 g.2.2:=((P05 g).1 h).2.2.2.2
theorem y07{g:j0}{o:List Int}(hf:D0 g=true)(ho:inV g.2.1.toNat o)(hd:o.Nodup)(h1:1<=o.length)(h2:o.length<=40):D0 (i8 g o)=true:=by
 have hg:=V0 hf
 obtain⟨q1,q2,q3,q4⟩:=F1 hg
 refine(r0b (g09 hg ho h1 h2)).2 λa ha b hb hne=>?_
 have mem:∀ e∈(i8 g o).2.2,∃ a∈g.2.2,e=(getI (plc g.2.1.toNat o) a.1,a.2.1,getI (plc g.2.1.toNat o) a.2.2)/\0<=getI (plc g.2.1.toNat o) a.1/\0<=getI (plc g.2.1.toNat o) a.2.2:=λe he=>by
  rcases(Y00 S9 e _ _).1 he with h|h
  ·cases h
  ·exact A0h _ _ e h
 obtain⟨a',ha',rfl,k1,k2⟩:=mem a ha
 obtain⟨b',hb',rfl,k3,k4⟩:=mem b hb
 have hne':a'≠b':=λe=>hne (by rw[e])
 have hc:=(r0b hg).1 hf a' ha' b' hb' hne'
 have ra:=q1 a' ha'
 have rb:=q1 b' hb'
 unfold G04 at hc ⊢
 simp only[Bool.and_eq_false_iff,Bool.or_eq_false_iff,decide_eq_false_iff_not]at hc ⊢
 rcases hc with hc|⟨hc1,hc2⟩
 ·exact .inl hc
 ·exact .inr ⟨λe=>hc1 (B0h ho hd ra.1.1 rb.1.1 k1 e),λe=>hc2 (B0h ho hd ra.2.1.1 rb.2.1.1 k2 e)⟩
def J04:Nat->j0->j0
 |0,g=>g
 |d+1,g=>match C9 g with
  |none=>g
  |some k=>J04 d (i8 g (wo k g.2.1.toNat 0))
theorem C0h{g:j0}{k:Nat}(h:C9 g=some k):1<=k/\k<g.2.1.toNat:=by
 have:=s07 _ _ _ h
 omega
theorem s0b{g:j0}(hg:G1 g=true){k:Nat}(h:C9 g=some k):inV g.2.1.toNat (wo k g.2.1.toNat 0)/\(wo k g.2.1.toNat 0).length=g.2.1.toNat-1/\1<=(wo k g.2.1.toNat 0).length/\(wo k g.2.1.toNat 0).length<=40:=by
 obtain⟨q1,q2,q3,q4⟩:=F1 hg
 have hk:=C0h h
 have hlen:=o0e k g.2.1.toNat 0
 rw[if_pos (by omega)]at hlen
 exact⟨c0j k _ _ 0 (by omega),hlen,by omega,by omega⟩
theorem V03:∀(d:Nat) {g:j0},D0 g=true->D0 (J04 d g)=true
 |0,g,h=>h
 |d+1,g,h=>by
  unfold J04
  cases e:C9 g with
  |none=>exact h
  |some k =>
   obtain⟨h1,h2,h3,h4⟩:=s0b (V0 h) e
   exact V03 d (y07 h h1 (x07 _ _ _) h3 h4)
theorem t0e(n g:Nat)(hn:n<=1000)(u:List Int)(hu:u.length=n):∀(d k fuel:Nat) (acc bcc:List Int),k+d=n->d<fuel->acc.length<=k->bcc.length<=k ->
  ∃ v,D5 (n:Int) (g:Int) u fuel (k:Int) acc bcc=some (acc++wo g d k,v)/\v.length+acc.length=bcc.length+(acc++wo g d k).length
 |d,k,0,acc,bcc,hd,hf,ha,hb=>by omega
 |0,k,fuel+1,acc,bcc,hd,hf,ha,hb=>by
  rw[D5.eq_2,if_neg (by simp;omega)];exact⟨bcc,by simp[wo],by simp[wo]⟩
 |d+1,k,fuel+1,acc,bcc,hd,hf,ha,hb=>by
  have hx:=Y5 (show k<u.length by omega)
  generalize u[k]=x at hx
  rw[D5.eq_2,if_pos (by simp;omega),Z1 (show k<10000 by omega) (by omega)]
  unfold wo
  by_cases c:k=g
  ·have e:decide ((k:Int)=(g:Int))=true:=decide_eq_true (by omega)
   rw[e,if_neg (by simp),if_pos c]
   exact t0e n g hn u hu d (k+1) fuel acc bcc (by omega) (by omega) (by omega) (by omega)
  ·have e:decide ((k:Int)=(g:Int))=false:=decide_eq_false (by omega)
   rw[e,if_pos (show(!false)=true from rfl),if_neg c,C0 (by simp;omega),oB,I2 hx,oB,C0 (by simp;omega),oB]
   obtain⟨v,h1,h2⟩:=t0e n g hn u hu d (k+1) fuel (acc ++ [(k:Int)]) (bcc ++ [x]) (by omega) (by omega) (by simp;omega) (by simp;omega)
   refine⟨v,by rw[h1];simp,?_⟩
   simp only[List.length_append,List.length_cons,List.length_nil]at h2 ⊢
   omega
theorem s0j(g:j0)(hg:G1 g=true):∀(d k fuel:Nat) (acc:List Int),k+d=g.2.1.toNat->d<fuel->acc.length=k ->
  ∃ u,l6 g.2.1 g.1 g.2.2 fuel (k:Int) acc=some u/\u.length=g.2.1.toNat
 |d,k,0,acc,hd,hf,ha=>by omega
 |0,k,fuel+1,acc,hd,hf,ha=>by
  obtain⟨q1,q2,q3,q4⟩:=F1 hg
  rw[l6.eq_2,show decide (((k:Nat):Int)<g.2.1)=false by simp;omega]
  exact⟨acc,by simp[chk],by omega⟩
 |d+1,k,fuel+1,acc,hd,hf,ha=>by
  obtain⟨q1,q2,q3,q4⟩:=F1 hg
  obtain⟨u,h1,h2⟩:=s0j g hg d (k+1) fuel (acc ++ [(k:Int)]) (by omega) (by omega) (by simp;omega)
  rw[l6.eq_2,show decide (((k:Nat):Int)<g.2.1)=true by simp;omega,T1,show(g.1,g.2.1,g.2.2)=g from rfl,G9 g (by omega),oB,hg]
  rw[if_pos (show(bif true then true else false)=true from rfl),C0 (by simp;omega),oB,Z1 (show k<1000 by omega) (by omega),h1]
  exact⟨u,rfl,h2⟩
theorem t0j(g0:j0)(hg0:G1 g0=true):∀(d k fuel:Nat) (g:j0) (u:List Int),k+d=40->d<fuel->G1 g=true->u.length=g.2.1.toNat->g.2.1.toNat<=d+1 ->
  ∃ v,(j6 g0.1 g0.2.1 g0.2.2 fuel u (k:Int) g.1 g.2.1 g.2.2).bind (λX=>R9 X (λS=>match S with|(a,b,c,e)=>some ((b,c,e),a)))=some (J04 d g,v)
 |d,k,0,g,u,hd,hf,hg,hu,hn=>by omega
 |0,k,fuel+1,g,u,hd,hf,hg,hu,hn=>by
  rw[j6.eq_2,show decide (((k:Nat):Int)<40)=false by simp;omega]
  exact⟨u,by simp[chk,R9,J04]⟩
 |d+1,k,fuel+1,g,u,hd,hf,hg,hu,hn=>by
  obtain⟨p1,p2,p3,p4⟩:=F1 hg0
  obtain⟨q1,q2,q3,q4⟩:=F1 hg
  have hl:=S0o g hg
  rw[j6.eq_2,show decide (((k:Nat):Int)<40)=true by simp;omega,T1,show(g0.1,g0.2.1,g0.2.2)=g0 from rfl,G9 g0 (by omega),oB,hg0]
  rw[if_pos (show(bif true then true else false)=true from rfl),show(g.1,g.2.1,g.2.2)=g from rfl,hl]
  unfold J04
  cases e:C9 g with
  |none =>
   simp only[oB]
   rw[C0 (show P0 (-1) from⟨by omega,by omega⟩),oB,if_pos (by simp)]
   exact⟨u,rfl⟩
  |some j =>
   obtain⟨h1,h2,h3,h4⟩:=s0b hg e
   have hj:=C0h e
   obtain⟨N,hN⟩:∃ N:Nat,g.2.1=(N:Int):=⟨g.2.1.toNat,by omega⟩
   have hNt:g.2.1.toNat=N:=by omega
   obtain⟨v,w1,w2⟩:=t0e N j (by omega) u (by omega) N 0 Q0 [] [] (by omega) (Y0 (by omega)) (Nat.le_refl _) (Nat.le_refl _)
   have hr:=f09 g.1 N g.2.2 (wo j N 0) (by rw[←hN];exact hg) (by rw[←hNt];exact h1) (x07 _ _ _) (by rw[←hNt];exact h3) (by rw[←hNt];omega)
   rw[←hN,show(g.1,g.2.1,g.2.2)=g from rfl]at hr
   have hG:=g09 hg h1 h3 h4
   rw[hNt]at hG h2 h3
   obtain⟨v2,z⟩:=t0j g0 hg0 d (k+1) fuel (i8 g (wo j N 0)) v (by omega) (by omega) hG (by simp only[List.nil_append,List.length_nil]at w2;show v.length=((wo j N 0).length:Int).toNat;omega) (by show((wo j N 0).length:Int).toNat<=d+1;omega)
   simp only[oB]
   rw[C0 (show P0 ((j:Nat):Int) from⟨by omega,by omega⟩),oB,if_neg (by simp),hN,show(0:Int)=((0:Nat):Int) from rfl,w1]
   simp only[oB,List.nil_append]
   rw[←hN,hr]
   simp only[oB]
   rw[Z1 (show k<1000 by omega) (by omega),hNt]
   exact⟨v2,z⟩
def u0e(g:j0):j0:=J04 40 g
theorem I0k{g:j0}(hg:G1 g=true):∃ v,G00 g=some (u0e g,v):=by
 obtain⟨q1,q2,q3,q4⟩:=F1 hg
 have hc:=d09 g (by omega)
 obtain⟨u,h1,h2⟩:=s0j g hg g.2.1.toNat 0 Q0 [] (by omega) (Y0 (by omega)) rfl
 obtain⟨v,h3⟩:=t0j g hg 40 0 Q0 g u rfl (Y0 (by omega)) hg h2 (by omega)
 refine⟨v,?_⟩
 obtain⟨r,n,es⟩:=g
 unfold G00
 simp only[hc,oB]
 simp only at h1 h3
 rw[show(0:Int)=((0:Nat):Int) from rfl,h1,oB]
 exact h3
theorem u0j:∀(n fuel d:Nat) (left:List Int) (r:Int) (es:List M0),1<=n->n<=40->inN n es->es.length<=120->left.length=n->n<fuel->n<=d+1 ->
  ∃ l',C5 fuel left r (n:Int) es=some (.inl (J04 d (r,(n:Int),es),l'))
 |n,0,d,left,r,es,h1,h2,hn,hes,hl,hf,hd=>by omega
 |n,fuel+1,d,left,r,es,h1,h2,hn,hes,hl,hf,hd=>by
  obtain⟨S,eS,lS,hS⟩:=X0i r n es hn (by omega) h1 (by omega)
  have ht1:=w0h r n es (by omega) S lS h2 (n-1) 1 Q0 (Nat.le_refl _) (by omega) (by omega) (Y0 (by omega))
  have hcg:lf (λv=>decide (O02 (v:Int) es<2) || !L9 S (v:Int)) (n-1) 1=lf (i0a es) (n-1) 1:=n0e _ _ λk k1 k2=>by
   unfold i0a
   have:=hS (k:Int) (by omega) (by omega)
   have h3:=Z07 es 0 (k:Int)
   congr 2
   cases hb:L9 S (k:Int)
   ·symm;exact decide_eq_false λh=>by rw[this.2 (h3.1 h)]at hb;cases hb
   ·symm;exact decide_eq_true (h3.2 (this.1 hb))
  rw[hcg]at ht1
  have hleaf:C9 (r,(n:Int),es)=lf (i0a es) (n-1) 1:=by simp only[C9,Int.toNat_natCast]
  rw[C5.eq_2,eS,oB,show(1:Int)=((1:Nat):Int) from rfl,ht1,oB]
  cases hlf:lf (i0a es) (n-1) 1 with
  |none =>
   have e2:J04 d (r,(n:Int),es)=(r,(n:Int),es):=by
    cases d with
    |zero=>rfl
    |succ d=>unfold J04;rw[hleaf,hlf]
   rw[e2]
   exact⟨left,by rw[if_pos (by rfl)]⟩
  |some k =>
   have hk:=s07 _ _ _ hlf
   have e0:decide ((k:Int)=0)=false:=decide_eq_false (by omega)
   have ho:=c0j k n n 0 (by omega)
   have hlen:=o0e k n 0
   rw[if_pos (by omega)]at hlen
   have ht0:=x0h n k (by omega) n 0 Q0 [] (by omega) (Y0 (by omega)) (Nat.le_refl _)
   rw[show((0:Nat):Int)=0 from rfl,List.nil_append]at ht0
   have hp:=u0h r n es (wo k n 0) hn ho (by omega) (by omega) (by omega)
   have hpl:=e09 (r,(n:Int),es) (wo k n 0)
   have hpi:=d0g (r:=r) ho hn
   have hw:IntKind.i64.wrap ((k:Int)+((1:Nat):Int))=((k+1:Nat):Int):=by rw[w64 (by omega) (by omega)];rfl
   obtain⟨d',rfl⟩:∃ d',d=d'+1:=⟨d-1,by omega⟩
   have hF:i8 (r,(n:Int),es) (wo k n 0)=(r,((n-1:Nat):Int),(i8 (r,(n:Int),es) (wo k n 0)).2.2):=by rw[←hlen];rfl
   obtain⟨l',q1⟩:=u0j (n-1) fuel d' (left.take k++left.drop (k+1)) r (i8 (r,(n:Int),es) (wo k n 0)).2.2 (by omega) (by omega) (by rw[hlen]at hpi;exact hpi) (by simp only at hpl;omega) (by simp only[List.length_append,List.length_take,List.length_drop];omega) (by omega) (by omega)
   refine⟨l',?_⟩
   rw[←hF]at q1
   have e2:J04 (d'+1) (r,(n:Int),es)=J04 d' (i8 (r,(n:Int),es) (wo k n 0)):=by
    show(match C9 (r,(n:Int),es)with|none=>(r,(n:Int),es)|some k=>J04 d' (i8 (r,(n:Int),es) (wo k ((n:Int)).toNat 0)))=_
    rw[hleaf,hlf,Int.toNat_natCast]
   rw[e2]
   simp only[e0,Bool.false_eq_true,if_false,ht0,oB,hp]
   generalize i8 (r,(n:Int),es) (wo k n 0)=gp at *
   rw[hF]
   simp only[hw]
   rw[d0j (by omega),oB,H04 (by omega),oB,C0 (by simp only[List.length_take,List.length_drop];omega),oB,q1,←hF]
theorem v0j{g:j0}(hg:G1 g=true):∃ v,t7 g=some (u0e g,v):=by
 obtain⟨h1,h2,h3,h4⟩:=F1 hg
 have hq:=o02 g (by omega)
 have hc:=I04 g (by omega)
 obtain⟨r,n,es⟩:=g
 simp only at h2 h3 h4
 obtain⟨N,rfl⟩:∃ N:Nat,n=(N:Int):=⟨n.toNat,by omega⟩
 have hn:inN N es:=λe he=>⟨(h1 e he).1,(h1 e he).2.1⟩
 obtain⟨u,e1,e2⟩:=y0h N (by omega) N 0 Q0 [] (by omega) (Y0 (by omega)) rfl
 obtain⟨l',q1⟩:=u0j N Q0 40 u r es (by omega) (by omega) hn h4 e2 (Y0 (by omega)) (by omega)
 refine⟨l',?_⟩
 unfold t7
 rw[show((0:Nat):Int)=0 from rfl]at e1
 simp only[hc,oB,hq,hg,Bool.not_true,Bool.false_eq_true,if_false,e1,q1,R9]
 rfl
def t0b(g:j0):j0:=K3 (u0e g)
theorem l0a{g:j0}(hf:D0 g=true):b04 g=(g,[]):=by
 obtain⟨h1,h2⟩:=(u06 g).1 hf
 unfold b04
 rw[h1]
 show j02 40 g=_
 unfold j02
 rw[h2]
theorem J0k{g:j0}(hf:D0 g=true):H00 g=some (t0b g):=by
 have hg:=V0 hf
 obtain⟨h1,h2,h3,h4⟩:=F1 hg
 have e1:=f0f g (by omega)
 rw[l0a hf]at e1
 obtain⟨v,e2⟩:=I0k hg
 have e3:=j0c (u0e g) (V03 40 hf)
 obtain⟨r,n,es⟩:=g
 unfold H00 t0b
 simp only[e1,oB,e2]
 simp only[e3,oB]
theorem K0k{g:j0}(hf:D0 g=true):I00 g=some (t0b g):=by
 have hg:=V0 hf
 obtain⟨h1,h2,h3,h4⟩:=F1 hg
 have e1:=g0f g (by omega)
 rw[l0a hf]at e1
 obtain⟨v,e2⟩:=v0j hg
 have e3:=i0c (u0e g) (V03 40 hf)
 obtain⟨r,n,es⟩:=g
 unfold I00 t0b
 simp only[e1,oB,e2]
 simp only[e3,oB]
end Go.Proofs.YtkjhghloldgioaaGreat
