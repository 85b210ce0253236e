/- Texts of the claim, joined: Plain laws: words and presentations, as the spec and the cod and others. -/
import Derived.Test.YtkjhghloldgioaaGreatPart19
import Derived.Test.YtkjhghloldgioaaGreatH33
import Derived.Test.YtkjhghloldgioaaGreatH36
import Derived.Test.YtkjhghloldgioaaGreatPart18
namespace Go.Proofs.YtkjhghloldgioaaGreat
open Go.H
set_option linter.unusedVariables false
set_option linter.unusedSimpArgs false
theorem P1{n:Nat}(h:n<=140737488355328):n<U0:=by unfold U0;omega
theorem D0{p:Prop}[Decidable p](h:p):grd p=some ():=by unfold grd;rw[if_pos h]
theorem E2{α:Type}(o:Option α)(d:α):chk true o d=o:=rfl
theorem Q2{α:Type}(o:Option α)(d:α):chk false o d=some d:=rfl
theorem Z3{α:Type}{xs:List α}{k:Nat}{x:α}(h:xs[k]?=some x):gi xs (k:Int)=some x:=by rw[b09];exact h
theorem o0b{α:Type}{xs:List α}{x:α}(h:xs[0]?=some x):gi xs 0=some x:=Z3 (k:=0) h
theorem B0i{x:Int}(h:O0 x)(h2:x ≠ -9223372036854775808):IntKind.i64.wrap (0-x) = -x:=by rw[w64 (by have:=h.1;have:=h.2;omega) (by have:=h.1;have:=h.2;omega)];omega
theorem C0i{n:Nat}(h:0<n)(hm:n<=9223372036854775807):IntKind.i64.wrap ((n:Int)-1)=((n-1:Nat):Int):=by rw[w64 (by omega) (by omega)];omega
theorem l7{α:Type}{xs:List α}{k:Nat}(h:k<xs.length):xs[k]?=some xs[k]:=List.getElem?_eq_getElem h
def inR(lo hi x:Int):Bool:=decide (lo<=x)&&decide (x<=hi)
theorem P03(a b c:Int):L5 a b c=some (inR b c a):=by
 unfold L5 inR
 by_cases h:b<=a<;>simp[h]
theorem r04(a b c:Int):P7 a b c=some (inR b c a):=P03 a b c
def tot:List (List Int)->Nat
 | []=>0
 |w::r=>w.length+tot r
theorem V2{α:Type}{xs:List α}{k:Nat}{x:α}(h:xs[k]?=some x):xs.drop k=x::xs.drop (k+1):=by
 obtain⟨hk,rfl⟩:=List.getElem?_eq_some_iff.1 h
 exact List.drop_eq_getElem_cons hk
theorem O2{α:Type}{xs:List α}{k:Nat}(h:k=xs.length):xs.drop k = []:=by rw[h];exact List.drop_length
def Q03(r hi:Int)(e:H0):Bool:=inR 0 hi e.1&&inR 0 hi e.2.2&&inR 1 r e.2.1
def p0b(e f:H0):Int:=P0 e f
theorem q0b(e f:H0):p0b e f=if d8 e.1 f.1≠0 then d8 e.1 f.1 else if d8 e.2.1 f.2.1≠0 then d8 e.2.1 f.2.1 else d8 e.2.2 f.2.2:=rfl
theorem X04(a b:Int):(a<b/\d8 a b = -1)∨(a>b/\d8 a b=1)∨(a=b/\d8 a b=0):=by
 unfold d8
 split
 ·omega
 ·split<;>omega
theorem p0a(e f:H0):O0 (p0b e f):=by
 rw[q0b]
 split
 ·exact i0e _ _
 ·split<;>exact i0e _ _
theorem A0l(g:j0)(e:H0):a01 g e=some (Q03 g.1 (IntKind.i64.wrap (g.2.1-1)) e):=by
 obtain⟨r,n,es⟩:=g
 obtain⟨a,l,b⟩:=e
 unfold a01 Q03
 simp only[P03,oB]
 cases inR 0 (IntKind.i64.wrap (n-1)) a with
 |false=>rfl
 |true =>
  cases inR 0 (IntKind.i64.wrap (n-1)) b with
  |false=>rfl
  |true=>simp[chk]
theorem X09(g:j0)(e:H0):Y7 g e=some (Q03 g.1 (IntKind.i64.wrap (g.2.1-1)) e):=by
 obtain⟨r,n,es⟩:=g
 obtain⟨a,l,b⟩:=e
 unfold Y7 S4 Q03
 simp only[r04,oB]
 cases inR 0 (IntKind.i64.wrap (n-1)) a with
 |false=>rfl
 |true =>
  cases inR 0 (IntKind.i64.wrap (n-1)) b with
  |false=>rfl
  |true=>simp[chk]
theorem l01(e f:H0):r7 e f=some (p0b e f):=by
 obtain⟨a,l,b⟩:=e
 obtain⟨a',l',b'⟩:=f
 unfold r7
 rw[show U0=(U0-4)+1+1+1+1 from rfl]
 have w1:IntKind.i64.wrap (0+1)=1:=by decide
 have w2:IntKind.i64.wrap (1+1)=2:=by decide
 have w3:IntKind.i64.wrap (2+1)=3:=by decide
 have g0:∀ x y z:Int,gi [x,y,z] 0=some x:=λ_ _ _=>rfl
 have g1:∀ x y z:Int,gi [x,y,z] 1=some y:=λ_ _ _=>rfl
 have g2:∀ x y z:Int,gi [x,y,z] 2=some z:=λ_ _ _=>rfl
 have d0:decide ((0:Int)<3)=true:=rfl
 have d1:decide ((1:Int)<3)=true:=rfl
 have d2:decide ((2:Int)<3)=true:=rfl
 have d3:decide ((3:Int)<3)=false:=rfl
 simp only[r6.eq_2,w1,w2,w3,g0,g1,g2,d0,d1,d2,d3,if_true,oB,Bool.false_eq_true,if_false]
 rw[q0b]
 simp only
 rcases X04 a a' with⟨h,e⟩|⟨h,e⟩|⟨h,e⟩
 ·simp[e,h,W8]
 ·have : ¬ a<a':=by omega
  simp[e,h,this,W8]
 ·subst h
  rcases X04 l l' with⟨h,e2⟩|⟨h,e2⟩|⟨h,e2⟩
  ·simp[e,e2,h,W8]
  ·have : ¬ l<l':=by omega
   simp[e,e2,h,this,W8]
  ·subst h
   rcases X04 b b' with⟨h,e3⟩|⟨h,e3⟩|⟨h,e3⟩
   ·simp[e,e2,e3,h,W8]
   ·have : ¬ b<b':=by omega
    simp[e,e2,e3,h,this,W8]
   ·subst h
    simp[e,e2,e3,W8]
theorem Y0j(a b:Int):K6 a b=some (d8 a b):=by
 unfold K6 d8
 by_cases h:a<b
 ·simp[h]
 ·by_cases h2:a>b<;>simp[h,h2]
theorem j03(e f:H0):o8 e f=some (p0b e f):=by
 obtain⟨a,l,b⟩:=e
 obtain⟨a',l',b'⟩:=f
 rw[q0b]
 unfold o8
 simp only[Y0j,oB,D0 (i0e _ _)]
 by_cases h1:d8 a a'=0
 ·by_cases h2:d8 l l'=0
  ·simp[h1,h2]
  ·simp[h1,h2]
 ·simp[h1]
def B0l(r hi:Int)(es:List H0)(k:Nat):Bool:=match es[k]? with
 |none=>true
 |some e => !Q03 r hi e || (decide (0<k)&&match es[k-1]? with
  |none=>true
  |some f=>decide (p0b f e ≥ 0))
def okE(r hi:Int)(es:List H0):Nat->Nat->Bool
 |0,_=>true
 |d+1,k => !B0l r hi es k&&okE r hi es d (k+1)
def N0(g:j0):Bool:=okE g.1 (IntKind.i64.wrap (g.2.1-1)) g.2.2 g.2.2.length 0&&inR 1 3 g.1&&inR 1 40 g.2.1&&decide (g.2.2.length<=120)
theorem Y07{r hi:Int}{es:List H0}{k:Nat}{e:H0}(hx:es[k]?=some e):B0l r hi es k=(!Q03 r hi e || (decide (0<k)&&match es[k-1]? with
  |none=>true
  |some f=>decide (p0b f e ≥ 0))):=by unfold B0l;rw[hx]
theorem D03(r n:Int)(es:List H0)(hl:es.length<=140737488355328):∀(d k fuel:Nat),k+d=es.length->d<fuel ->
  O6 es r n fuel (k:Int)=some (bif okE r (IntKind.i64.wrap (n-1)) es d k then .inr ()else .inl false)
 |d,k,0,hk,hf=>by omega
 |0,k,fuel+1,hk,hf=>by
  rw[O6.eq_2,if_neg (by simp;omega)]
  simp[okE]
 |d+1,k,fuel+1,hk,hf=>by
  have hkl:k<es.length:=by omega
  have hx:=l7 hkl
  generalize es[k]=e at hx
  obtain⟨e0,e1,e2⟩:=e
  have next:=D03 r n es hl d (k+1) fuel (by omega) (by omega)
  rw[O6.eq_2,if_pos (by simp;omega),Z3 hx,oB]
  simp only[A0l,oB,U2 hkl (by omega:es.length<=9223372036854775807),next,okE,Y07 hx]
  generalize IntKind.i64.wrap (n-1)=hi
  cases hin:Q03 r hi (e0,e1,e2)with
  |false=>simp[chk,grd,O0]
  |true =>
   by_cases hk0:k=0
   ·have ek:decide ((k:Int)>0)=false:=by simp;omega
    have bk:decide (0<k)=false:=by simp;omega
    simp only[ek,bk,Q2,Bool.not_true,Bool.not_false,Bool.and_true,Bool.false_and,Bool.or_self,Bool.true_and,cond_true,cond_false,oB,Bool.or_false,Bool.false_eq_true,if_false,D0 (show O0 0 by decide)]
   ·have hy:=l7 (show k-1<es.length by omega)
    generalize es[k-1]=f at hy
    obtain⟨f0,f1,f2⟩:=f
    have hpr:IntKind.i64.wrap ((k:Int)-1)=((k-1:Nat):Int):=C0i (by omega) (by omega)
    have ek:decide ((k:Int)>0)=true:=by simp;omega
    have bk:decide (0<k)=true:=by simp;omega
    simp only[ek,bk,hpr,hy,Z3 hx,Z3 hy,E2,Bool.not_true,Bool.not_false,Bool.and_true,Bool.false_and,Bool.or_self,Bool.true_and,cond_true,cond_false,oB,Bool.or_false,Bool.false_or,l01,D0 (p0a _ _)]
    cases decide (p0b (f0,f1,f2) (e0,e1,e2) ≥ 0)<;>rfl
theorem Z6(g:j0)(hl:g.2.2.length<=140737488355328):j4 g=some (N0 g):=by
 obtain⟨r,n,es⟩:=g
 unfold j4 N0
 simp only at hl ⊢
 have h:=D03 r n es hl es.length 0 U0 (by omega) (P1 hl)
 rw[show((0:Nat):Int)=0 from rfl]at h
 rw[h,oB]
 cases okE r (IntKind.i64.wrap (n-1)) es es.length 0 with
 |false=>simp[W8]
 |true =>
  rw[cond_true,C1,P03,P03,oB]
  cases inR 1 3 r with
  |false=>simp[chk]
  |true =>
   simp only[E2,oB,cond_true,Bool.true_and]
   cases inR 1 40 n with
   |false=>simp
   |true=>simp;omega
theorem E03(r n:Int)(es:List H0)(hl:es.length<=140737488355328):∀(d k fuel:Nat),k+d=es.length->d<fuel ->
  P6 es r n fuel (k:Int)=some (bif okE r (IntKind.i64.wrap (n-1)) es d k then .inr ()else .inl false)
 |d,k,0,hk,hf=>by omega
 |0,k,fuel+1,hk,hf=>by
  rw[P6.eq_2,if_neg (by simp;omega)]
  simp[okE]
 |d+1,k,fuel+1,hk,hf=>by
  have hkl:k<es.length:=by omega
  have hx:=l7 hkl
  generalize es[k]=e at hx
  obtain⟨e0,e1,e2⟩:=e
  have next:=E03 r n es hl d (k+1) fuel (by omega) (by omega)
  rw[P6.eq_2,if_pos (by simp;omega),Z3 hx,oB]
  simp only[X09,oB,U2 hkl (by omega:es.length<=9223372036854775807),next,okE,Y07 hx]
  generalize IntKind.i64.wrap (n-1)=hi
  cases hin:Q03 r hi (e0,e1,e2)with
  |false=>simp[chk,grd,O0]
  |true =>
   by_cases hk0:k=0
   ·have ek:decide ((k:Int)>0)=false:=by simp;omega
    have bk:decide (0<k)=false:=by simp;omega
    simp only[ek,bk,Q2,Bool.not_true,Bool.not_false,Bool.and_true,Bool.false_and,Bool.or_self,Bool.true_and,cond_true,cond_false,oB,Bool.or_false,Bool.false_eq_true,if_false,D0 (show O0 0 by decide)]
   ·have hy:=l7 (show k-1<es.length by omega)
    generalize es[k-1]=f at hy
    obtain⟨f0,f1,f2⟩:=f
    have hpr:IntKind.i64.wrap ((k:Int)-1)=((k-1:Nat):Int):=C0i (by omega) (by omega)
    have ek:decide ((k:Int)>0)=true:=by simp;omega
    have bk:decide (0<k)=true:=by simp;omega
    simp only[ek,bk,hpr,hy,Z3 hx,Z3 hy,E2,Bool.not_true,Bool.not_false,Bool.and_true,Bool.false_and,Bool.or_self,Bool.true_and,cond_true,cond_false,oB,Bool.or_false,Bool.false_or,j03,D0 (p0a _ _)]
    cases decide (p0b (f0,f1,f2) (e0,e1,e2) ≥ 0)<;>rfl
theorem r9(g:j0)(hl:g.2.2.length<=140737488355328):C6 g=some (N0 g):=by
 obtain⟨r,n,es⟩:=g
 unfold C6 N0
 simp only at hl ⊢
 rw[r04,r04,oB]
 cases hr:inR 1 3 r with
 |false=>simp[chk]
 |true =>
  simp only[Bool.not_true,Bool.not_false,E2,oB,cond_false]
  cases hn:inR 1 40 n with
  |false=>simp
  |true =>
   by_cases h120:es.length<=120
   ·have h:=E03 r n es hl es.length 0 U0 (by omega) (P1 hl)
    rw[show((0:Nat):Int)=0 from rfl]at h
    have e1:decide (((es.length:Nat):Int)>120)=false:=by simp;omega
    have e2:decide (es.length<=120)=true:=by simpa using h120
    simp only[e1,e2,Bool.not_true,cond_false,Bool.false_eq_true,if_false,h,oB]
    cases okE r (IntKind.i64.wrap (n-1)) es es.length 0<;>rfl
   ·have e1:decide (((es.length:Nat):Int)>120)=true:=by simp;omega
    have e2:decide (es.length<=120)=false:=by simpa using h120
    simp only[e1,e2,Bool.not_true,cond_false,if_true,Bool.and_false]
theorem q0h{r hi:Int}{es:List H0}:∀ {d k:Nat},okE r hi es d k=true->∀ i,k<=i->i<k+d->B0l r hi es i=false
 |0,k,h,i,h1,h2=>by omega
 |d+1,k,h,i,h1,h2=>by
  simp only[okE,Bool.and_eq_true,Bool.not_eq_true']at h
  by_cases e:i=k
  ·subst e;exact h.1
  ·exact q0h h.2 i (by omega) (by omega)
theorem S0f{n:Nat}(h:n<=9223372036854775807):n<U0:=by unfold U0;omega
def goI(x:Int):List Int->Bool×List Int
 | []=>(false,[])
 |y::l=>if x<y then(true,x::y::l)else if y=x then(true,y::l)else((goI x l).1,y::(goI x l).2)
theorem D0i(x:Int):∀ l,N00 d8 x l=bif(goI x l).1 then(goI x l).2 else(goI x l).2 ++ [x]
 | []=>rfl
 |y::l=>by
  have ih:=D0i x l
  unfold N00 goI
  rcases X04 x y with⟨h,e⟩|⟨h,e⟩|⟨h,e⟩
  ·rw[e,if_pos (by omega),if_pos h];rfl
  ·rw[e,if_neg (by omega),if_neg (by omega),if_neg (by omega),if_neg (by omega),ih]
   cases (goI x l).1<;>rfl
  ·rw[e,if_neg (by omega),if_pos rfl,if_neg (by omega),if_pos h.symm];rfl
theorem r0b(l:List Int)(w:Int)(hl:l.length<=1099511627776):∀(d k fuel:Nat) (acc:List Int),k+d=l.length->d<fuel->acc.length<=k+1 ->
  l4 l w fuel true (k:Int) acc=some (true,acc++l.drop k)
 |d,k,0,acc,hd,hf,ha=>by omega
 |0,k,fuel+1,acc,hd,hf,ha=>by
  rw[l4.eq_2,if_neg (by simp;omega),O2 (by omega),List.append_nil]
 |d+1,k,fuel+1,acc,hd,hf,ha=>by
  have hk:k<l.length:=by omega
  have hx:=l7 hk
  generalize l[k]=x at hx
  have ih:=r0b l w hl d (k+1) fuel (acc ++ [x]) (by omega) (by omega) (by simp;omega)
  rw[l4.eq_2,if_pos (by simp;omega),Z3 hx,oB]
  have hb:∀ c:Bool,(bif c then(!true)else false)=false:=λc=>by cases c<;>rfl
  simp only[hb,Bool.false_eq_true,if_false,oB,U2 hk (show l.length<=9223372036854775807 by omega),ih,D0 (show(acc.length + [x].length)*8<=140737488355328 by simp;omega)]
  rw[V2 hx]
  split<;>simp
theorem Y0c(l:List Int)(w:Int)(hl:l.length<=1099511627776):∀(d k fuel:Nat) (acc:List Int),k+d=l.length->d<fuel->acc.length=k ->
  l4 l w fuel false (k:Int) acc=some ((goI w (l.drop k)).1,acc++(goI w (l.drop k)).2)
 |d,k,0,acc,hd,hf,ha=>by omega
 |0,k,fuel+1,acc,hd,hf,ha=>by
  rw[l4.eq_2,if_neg (by simp;omega),O2 (by omega)]
  simp[goI]
 |d+1,k,fuel+1,acc,hd,hf,ha=>by
  have hk:k<l.length:=by omega
  have hx:=l7 hk
  generalize l[k]=x at hx
  have ih:=Y0c l w hl d (k+1) fuel (acc ++ [x]) (by omega) (by omega) (by simp;omega)
  have on1:=r0b l w hl d (k+1) fuel (acc ++ [x]) (by omega) (by omega) (by simp;omega)
  have on2:=r0b l w hl d (k+1) fuel (acc ++ [w] ++ [x]) (by omega) (by omega) (by simp;omega)
  rw[l4.eq_2,if_pos (by simp;omega),Z3 hx,oB,V2 hx]
  unfold goI
  have hb:∀ c:Bool,(bif c then(!true)else false)=false:=λc=>by cases c<;>rfl
  have hb2:∀ c:Bool,(bif c then(!false)else false)=c:=λc=>by cases c<;>rfl
  by_cases h0:x=w
  ·rw[if_pos (by simpa using h0),oB,hb,if_neg (by simp),oB,D0 (by simp;omega),oB,U2 hk (by omega),on1,if_neg (by omega),if_pos h0]
   simp
  ·rw[if_neg (by simpa using h0),oB,hb2]
   by_cases h1:w<x
   ·rw[if_pos (by simpa using h1),D0 (by simp;omega),oB,oB,D0 (by simp;omega),oB,U2 hk (by omega),on2,if_pos h1]
    simp
   ·rw[if_neg (by simpa using h1),oB,D0 (by simp;omega),oB,U2 hk (by omega),ih,if_neg h1,if_neg h0]
    simp
theorem Z07(l:List Int)(w:Int)(hl:l.length<=1099511627776):Q7 l w=some (N00 d8 w l):=by
 unfold Q7
 have h:=Y0c l w hl l.length 0 U0 [] (by omega) (P1 (by omega)) rfl
 rw[show((0:Nat):Int)=0 from rfl,List.drop_zero,List.nil_append]at h
 rw[h,oB,D0i]
 have hlen:∀ l:List Int,(goI w l).2.length<=l.length+1:=λl=>by
  induction l with
  |nil=>simp[goI]
  |cons y l ih =>
   unfold goI
   split
   ·simp
   ·split
    ·simp
    ·simp only[List.length_cons];omega
 have:=hlen l
 cases (goI w l).1 with
 |true=>rfl
 |false =>
  simp only[Bool.not_false,if_true,cond_false]
  rw[D0 (by simp;omega),oB]
def Z0c(v x:Int)(e:H0):List Int :=
 if 0<x/\e.2.1=x/\e.1=v then [e.2.2]else if x<0/\e.2.1 = -x/\e.2.2=v then [e.1]else []
def Z8(v x:Int):List H0->List Int
 | []=>[]
 |e::es=>Z0c v x e++Z8 v x es
theorem Z0j(v x:Int)(e:H0):(Z0c v x e).length<=1:=by unfold Z0c;split<;>(try split)<;>simp
theorem s0b(v x:Int):∀ es,(Z8 v x es).length<=es.length
 | []=>by simp[Z8]
 |e::es=>by
  have h1:=Z0j v x e
  have h2:=s0b v x es
  simp only[Z8,List.length_append,List.length_cons]
  omega
def C9(x:Int):Prop:=O0 x/\x ≠ -9223372036854775808
theorem a08(es:List H0)(v x:Int)(hx:C9 x)(hl:es.length<=1099511627776):∀(d k fuel:Nat) (acc:List Int),k+d=es.length->d<fuel->acc.length<=k ->
  I4 es x v fuel (k:Int) acc=some (acc++Z8 v x (es.drop k))
 |d,k,0,acc,hd,hf,ha=>by omega
 |0,k,fuel+1,acc,hd,hf,ha=>by
  rw[I4.eq_2,if_neg (by simp;omega),O2 (by omega)]
  simp[Z8]
 |d+1,k,fuel+1,acc,hd,hf,ha=>by
  have hk:k<es.length:=by omega
  have he:=l7 hk
  generalize es[k]=e at he
  obtain⟨a,l,b⟩:=e
  have ih:=λacc' h=>a08 es v x hx hl d (k+1) fuel acc' (by omega) (by omega) h
  have hn:decide (x = -9223372036854775808)=false:=by simp;exact hx.2
  rw[I4.eq_2,if_pos (by simp;omega),Z3 he,oB,V2 he]
  simp only[Z8,Z0c,B0i hx.1 hx.2,hn,Bool.not_false,U2 hk (show es.length<=9223372036854775807 by omega)]
  by_cases c1:0<x/\l=x/\a=v
  ·obtain⟨c1,rfl,rfl⟩:=c1
   rw[if_pos (by simp[c1]),if_pos ⟨c1,rfl,rfl⟩,D0 (by simp;omega),oB,ih _ (by simp;omega)]
   simp
  ·rw[if_neg c1,if_neg (by simp only[Bool.cond_eq_ite];simp;intro h1 h2 h3;exact c1 ⟨h1,h2,h3⟩)]
   by_cases c2:x<0/\l = -x/\b=v
   ·rw[if_pos c2,if_pos (by simp[c2.1,c2.2.1,c2.2.2]),D0 (by simp;omega),oB,ih _ (by simp;omega)]
    simp
   ·rw[if_neg c2,if_neg (by simp only[Bool.cond_eq_ite];simp;intro h1 h2 h3;exact c2 ⟨h1,h2,h3⟩),ih _ (by omega)]
    simp
theorem s04(w:Int):∀ l:List Int,(N00 d8 w l).length<=l.length+1
 | []=>by simp[N00]
 |y::l=>by
  have:=s04 w l
  unfold N00
  split
  ·simp
  ·split
   ·simp
   ·simp only[List.length_cons];omega
theorem b08(es:List H0)(v x:Int)(hx:C9 x)(hl:es.length<=1099511627776):∀(d k fuel:Nat) (u:List Int),k+d=es.length->d<fuel->u.length<=k ->
  T3 es x v fuel u (k:Int)=some (a6 d8 u (Z8 v x (es.drop k)))
 |d,k,0,u,hd,hf,ha=>by omega
 |0,k,fuel+1,u,hd,hf,ha=>by
  rw[T3.eq_2,if_neg (by simp;omega),O2 (by omega)]
  rfl
 |d+1,k,fuel+1,u,hd,hf,ha=>by
  have hk:k<es.length:=by omega
  have he:=l7 hk
  generalize es[k]=e at he
  obtain⟨a,l,b⟩:=e
  have ih:=λu' h=>b08 es v x hx hl d (k+1) fuel u' (by omega) (by omega) h
  rw[T3.eq_2,if_pos (by simp;omega),Z3 he,oB,V2 he]
  simp only[Z8,Z0c,B0i hx.1 hx.2,U2 hk (show es.length<=9223372036854775807 by omega)]
  by_cases c1:0<x/\l=x/\a=v
  ·obtain⟨c1,rfl,rfl⟩:=c1
   have hno:decide (l<0)=false:=by simp;omega
   have:=s04 b u
   rw[if_pos (by simp[c1]),if_pos ⟨c1,rfl,rfl⟩,Z07 u b (by omega),oB,hno,if_neg (by simp),ih _ (by omega)]
   rfl
  ·rw[if_neg c1,if_neg (by simp only[Bool.cond_eq_ite];simp;intro h1 h2 h3;exact c1 ⟨h1,h2,h3⟩)]
   by_cases c2:x<0/\l = -x/\b=v
   ·have:=s04 a u
    rw[if_pos c2,if_pos (by simp[c2.1,c2.2.1,c2.2.2]),Z07 u a (by omega),oB,ih _ (by omega)]
    rfl
   ·rw[if_neg c2,if_neg (by simp only[Bool.cond_eq_ite];simp;intro h1 h2 h3;exact c2 ⟨h1,h2,h3⟩),ih _ (by omega)]
    rfl
def h01(g:j0)(v x:Int):List Int:=a6 d8 [] (Z8 v x g.2.2)
theorem q0n(x y:Int):eqI x y=true↔x=y:=by simp[eqI]
theorem T0f(g:j0)(v x:Int)(hx:C9 x)(hl:g.2.2.length<=1099511627776):A9 g v x=some (h01 g v x):=by
 obtain⟨r,n,es⟩:=g
 unfold A9 h01
 have h:=b08 es v x hx hl es.length 0 U0 [] (by omega) (S0f (by simp only at hl;omega)) (by simp)
 rw[show((0:Nat):Int)=0 from rfl,List.drop_zero]at h
 simp only[h,oB]
theorem U0f(g:j0)(v x:Int)(hx:C9 x)(hl:g.2.2.length<=1099511627776):B9 g v x=some (h01 g v x):=by
 obtain⟨r,n,es⟩:=g
 unfold B9 h01
 have h:=a08 es v x hx hl es.length 0 U0 [] (by omega) (S0f (by simp only at hl;omega)) (by simp)
 rw[show((0:Nat):Int)=0 from rfl,List.drop_zero,List.nil_append]at h
 have hlen:=s0b v x es
 simp only at hl
 simp only[h,oB,D0 (show(Z8 v x es).length<4611686018427387904 by omega)]
 rw[←O0f Z00 q0n (Z8 v x es) (Z8 v x es) λ_=>Iff.rfl]
 rfl
def S0(g:j0)(v x:Int):Int:=match h01 g v x with
 | [] => -1
 |a::_=>a
theorem m01(g:j0)(v x:Int)(hx:C9 x)(hl:g.2.2.length<=1099511627776):A4 g v x=some (S0 g v x):=by
 have h:=T0f g v x hx hl
 obtain⟨r,n,es⟩:=g
 unfold A4 S0
 simp only[h,oB]
 cases h01 (r,n,es) v x with
 |nil=>rfl
 |cons a l=>rfl
theorem l07(g:j0)(v x:Int)(hx:C9 x)(hl:g.2.2.length<=1099511627776):d7 g v x=some (S0 g v x):=by
 have h:=U0f g v x hx hl
 obtain⟨r,n,es⟩:=g
 unfold d7 S0
 simp only[h,oB]
 cases h01 (r,n,es) v x with
 |nil=>rfl
 |cons a l=>rfl
theorem a0d{g:j0}{v x y:Int}(h:y∈h01 g v x):y∈Z8 v x g.2.2:=by
 rcases(Q9 Z00 y _ []).1 h with h|h
 ·cases h
 ·exact h
theorem X01{v x y:Int}:∀ {es:List H0},y∈Z8 v x es↔∃ e∈es,(0<x/\e.2.1=x/\e.1=v/\y=e.2.2)∨(x<0/\e.2.1 = -x/\e.2.2=v/\y=e.1)
 | []=>by simp[Z8]
 |e::es=>by
  simp only[Z8,List.mem_append,X01 (es:=es),List.mem_cons,exists_eq_or_imp]
  refine or_congr ?_ Iff.rfl
  unfold Z0c
  split
  ·rename_i h
   simp only[List.mem_singleton]
   constructor
   ·rintro rfl;exact .inl ⟨h.1,h.2.1,h.2.2,rfl⟩
   ·rintro(⟨_,_,_,h4⟩|⟨h1,_⟩)
    ·exact h4
    ·omega
  ·rename_i h
   split
   ·rename_i h2
    simp only[List.mem_singleton]
    constructor
    ·rintro rfl;exact .inr ⟨h2.1,h2.2.1,h2.2.2,rfl⟩
    ·rintro(⟨h1,_⟩|⟨_,_,_,h4⟩)
     ·omega
     ·exact h4
   ·rename_i h2
    constructor
    ·intro h;cases h
    ·rintro(⟨h3,h4,h5,_⟩|⟨h3,h4,h5,_⟩)
     ·exact absurd ⟨h3,h4,h5⟩ h
     ·exact absurd ⟨h3,h4,h5⟩ h2
def inG(g:j0):Prop:=∀ e∈g.2.2,(0<=e.1/\e.1<g.2.1)/\(0<=e.2.2/\e.2.2<g.2.1)/\1<=e.2.1/\e.2.1<=g.1
theorem V0{g:j0}(h:N0 g=true):inG g/\(1<=g.1/\g.1<=3)/\(1<=g.2.1/\g.2.1<=40)/\g.2.2.length<=120:=by
 obtain⟨r,n,es⟩:=g
 simp only[N0,inR,Bool.and_eq_true,decide_eq_true_eq]at h
 obtain⟨⟨⟨h1,h2⟩,h3⟩,h4⟩:=h
 refine⟨λe he=>?_,h2,h3,h4⟩
 obtain⟨i,hi⟩:=List.getElem?_of_mem he
 have hb:=q0h h1 i (Nat.zero_le _) (by have:=(List.getElem?_eq_some_iff.1 hi).1;simp only at this;omega)
 rw[Y07 hi]at hb
 simp only[Bool.or_eq_false_iff,Bool.not_eq_false',Q03,inR,Bool.and_eq_true,decide_eq_true_eq]at hb
 obtain⟨⟨⟨⟨b1,b2⟩,b3,b4⟩,b5,b6⟩,_⟩:=hb
 rw[w64 (by omega) (by omega)]at b2 b4
 simp only
 exact⟨⟨b1,by omega⟩,⟨b3,by omega⟩,b5,b6⟩
theorem i01{g:j0}(hg:inG g)(v x:Int):S0 g v x = -1∨(0<=S0 g v x/\S0 g v x<g.2.1):=by
 unfold S0
 cases hs:h01 g v x with
 |nil=>exact .inl rfl
 |cons a l =>
  right
  have ha:a∈h01 g v x:=by rw[hs];exact mS
  obtain⟨e,he,h⟩:=X01.1 (a0d ha)
  have:=hg e he
  rcases h with⟨_,_,_,rfl⟩|⟨_,_,_,rfl⟩
  ·exact this.2.1
  ·exact this.1
theorem g02{g:j0}(hg:inG g)(hn:g.2.1<=40)(v x:Int):O0 (S0 g v x):=by
 rcases i01 hg v x with h|h
 ·rw[h];decide
 ·constructor<;>omega
def k03(a b:H0):Bool:=decide (a.2.1=b.2.1)&&(decide (a.1=b.1) || decide (a.2.2=b.2.2))
theorem f09(a b:H0):k03 a b=k03 b a:=by
 unfold k03
 have h:∀ x y:Int,decide (x=y)=decide (y=x):=λx y=>decide_eq_decide.2 ⟨Eq.symm,Eq.symm⟩
 rw[h a.2.1,h a.1,h a.2.2]
def noC(a:H0):List H0->Bool
 | []=>true
 |b::l => !k03 a b&&noC a l
def M06:List H0->Bool
 | []=>true
 |a::l=>noC a l&&M06 l
theorem j0e(a:H0):∀ l,noC a l=true↔∀ b∈l,k03 a b=false
 | []=>by simp[noC]
 |b::l=>by simp[noC,j0e a l]
theorem g09:∀ l,M06 l=true↔l.Pairwise λa b=>k03 a b=false
 | []=>by simp[M06]
 |a::l=>by simp[M06,g09 l,j0e,List.pairwise_cons]
def t0b:List H0->List H0->Bool
 |_,[]=>true
 |pre,a::l=>noC a pre&&t0b (pre ++ [a]) l
theorem b0d:∀(l pre:List H0),t0b pre l=true↔l.Pairwise (λa b=>k03 a b=false)/\∀ a∈l,∀ b∈pre,k03 a b=false
 | [],pre=>by simp[t0b]
 |a::l,pre=>by
  simp only[t0b,Bool.and_eq_true,j0e,b0d l,List.pairwise_cons]
  constructor
  ·rintro⟨h2,h3,h4⟩
   refine⟨⟨λb hb=>by rw[f09];exact h4 b hb a (by simp),h3⟩,λx hx b hb=>?_⟩
   rcases List.mem_cons.1 hx with rfl|hx
   ·exact h2 b hb
   ·exact h4 x hx b (by simp[hb])
  ·rintro⟨⟨h2,h3⟩,h4⟩
   refine⟨λb hb=>h4 a mS b hb,h3,λx hx b hb=>?_⟩
   rcases List.mem_append.1 hb with hb|hb
   ·exact h4 x (mC _ hx) b hb
   ·rw[List.mem_singleton.1 hb,f09];exact h2 x hx
theorem a0k(l:List H0):t0b [] l=M06 l:=by
 rw[Bool.eq_iff_iff,b0d,g09]
 simp
def M0(g:j0):Bool:=N0 g&&M06 g.2.2
theorem S0n(a0 a1 a2 b0 b1 b2:Int):(bif decide (a1=b1)then(bif decide (a0=b0)then true else decide (a2=b2))else false)=k03 (a0,a1,a2) (b0,b1,b2):=by
 unfold k03
 cases decide (a1=b1)<;>cases decide (a0=b0)<;>rfl
theorem c08(l:List H0)(a:H0)(hl:l.length<=140737488355328):∀(d k fuel:Nat),k+d=l.length->d<fuel ->
  j6 l a.2.1 a.1 a.2.2 fuel (k:Int)=some (bif noC a (l.drop k)then .inr ()else .inl false)
 |d,k,0,hd,hf=>by omega
 |0,k,fuel+1,hd,hf=>by
  rw[j6.eq_2,if_neg (by simp;omega),O2 (by omega)]
  rfl
 |d+1,k,fuel+1,hd,hf=>by
  have hk:k<l.length:=by omega
  have hx:=l7 hk
  generalize l[k]=x at hx
  obtain⟨a0,a1,a2⟩:=a
  obtain⟨b0,b1,b2⟩:=x
  rw[j6.eq_2,if_pos (by simp;omega),Z3 hx,oB,V2 hx]
  simp only[S0n,noC]
  cases hc:k03 (a0,a1,a2) (b0,b1,b2)with
  |true=>rfl
  |false =>
   rw[if_neg (by simp),U2 hk (by omega),c08 l (a0,a1,a2) hl d (k+1) fuel (by omega) (by omega)]
   simp
theorem Y04{α:Type}{xs:List α}{k:Nat}(h:k<=xs.length):j07 xs (k:Int) (xs.length:Int)=some (xs.drop k):=by
 unfold j07
 rw[if_pos ⟨by omega,by omega,by omega⟩]
 simp
theorem d08(l:List H0)(hl:l.length<=140737488355328):∀(d k fuel:Nat),k+d=l.length->d<fuel ->
  l6 l fuel (k:Int)=some (bif M06 (l.drop k)then .inr ()else .inl false)
 |d,k,0,hd,hf=>by omega
 |0,k,fuel+1,hd,hf=>by
  rw[l6.eq_2,if_neg (by simp;omega),O2 (by omega)]
  rfl
 |d+1,k,fuel+1,hd,hf=>by
  have hk:k<l.length:=by omega
  have hx:=l7 hk
  generalize l[k]=x at hx
  have h0:=c08 (l.drop (k+1)) x (by simp;omega) (l.drop (k+1)).length 0 U0 (by omega) (P1 (by simp;omega))
  rw[show((0:Nat):Int)=0 from rfl,List.drop_zero]at h0
  obtain⟨a0,a1,a2⟩:=x
  rw[l6.eq_2,if_pos (by simp;omega),Z3 hx,oB,V2 hx]
  simp only[U2 hk (show l.length<=9223372036854775807 by omega),Y04 (show k+1<=l.length by omega),oB]
  simp only at h0
  rw[h0,oB]
  simp only[M06]
  cases noC (a0,a1,a2) (l.drop (k+1))with
  |false=>rfl
  |true =>
   simp only[cond_true,R0j,Bool.true_and]
   exact d08 l hl d (k+1) fuel (by omega) (by omega)
theorem A00(g:j0)(hl:g.2.2.length<=140737488355328):H6 g=some (M0 g):=by
 have hG:=r9 g hl
 obtain⟨r,n,es⟩:=g
 unfold H6 M0
 simp only[hG,oB]
 cases N0 (r,n,es)with
 |false=>rfl
 |true =>
  have h:=d08 es hl es.length 0 U0 (by omega) (P1 hl)
  rw[show((0:Nat):Int)=0 from rfl,List.drop_zero]at h
  rw[if_neg (by simp),h,oB]
  cases M06 es<;>rfl
theorem e08(l:List H0)(hl:l.length<=140737488355328){i:Nat}{a:H0}(ha:l[i]?=some a):∀(d k fuel:Nat),k+d=i->d<fuel ->
  i6 (i:Int) l fuel (k:Int)=some (bif noC a ((l.take i).drop k)then .inr ()else .inl false)
 |d,k,0,hd,hf=>by omega
 |0,k,fuel+1,hd,hf=>by
  have:=(List.getElem?_eq_some_iff.1 ha).1
  rw[i6.eq_2,if_neg (by simp;omega),O2 (by simp;omega)]
  rfl
 |d+1,k,fuel+1,hd,hf=>by
  have hi:=(List.getElem?_eq_some_iff.1 ha).1
  have hk:k<l.length:=by omega
  have hx:=l7 hk
  have hx2:(l.take i)[k]?=some l[k]:=by rw[List.getElem?_take,if_pos (by omega)];exact hx
  have ih:=e08 l hl ha d (k+1) fuel (by omega) (by omega)
  generalize l[k]=x at hx hx2
  obtain⟨a0,a1,a2⟩:=a
  obtain⟨b0,b1,b2⟩:=x
  rw[i6.eq_2,if_pos (by simp;omega),Z3 ha,oB,V2 hx2]
  simp only[Z3 hx,oB,S0n,noC]
  cases hc:k03 (a0,a1,a2) (b0,b1,b2)with
  |true=>rfl
  |false =>
   rw[if_neg (by simp),U2 hk (by omega),ih]
   simp
theorem V0f{α:Type}{xs:List α}{k:Nat}{x:α}(h:xs[k]?=some x):xs.take (k+1)=xs.take k ++ [x]:=by
 obtain⟨hk,rfl⟩:=List.getElem?_eq_some_iff.1 h
 exact List.take_succ_eq_append_getElem hk
theorem f08(r n:Int)(l:List H0)(hg:N0 (r,n,l)=true)(hl:l.length<=140737488355328):∀(d k fuel:Nat),k+d=l.length->d<fuel ->
  Y4 l r n fuel (k:Int)=some (bif t0b (l.take k) (l.drop k)then .inr ()else .inl false)
 |d,k,0,hd,hf=>by omega
 |0,k,fuel+1,hd,hf=>by
  have e:decide ((k:Int)<(l.length:Int))=false:=by simp;omega
  rw[Y4.eq_2,e,Q2,oB,if_neg (by simp),O2 (by omega)]
  rfl
 |d+1,k,fuel+1,hd,hf=>by
  have hk:k<l.length:=by omega
  have hx:=l7 hk
  generalize l[k]=x at hx
  have h0:=e08 l hl hx k 0 U0 (by omega) (P1 (by omega))
  rw[show((0:Nat):Int)=0 from rfl,List.drop_zero]at h0
  have e:decide ((k:Int)<(l.length:Int))=true:=by simp;omega
  rw[Y4.eq_2,e,E2,Z6 (r,n,l) hl,oB,hg,if_pos (show(bif true then true else false)=true from rfl),h0,oB,V2 hx]
  simp only[t0b]
  cases noC x (l.take k)with
  |false=>rfl
  |true =>
   simp only[cond_true,R0j,Bool.true_and]
   rw[U2 hk (by omega),←V0f hx]
   exact f08 r n l hg hl d (k+1) fuel (by omega) (by omega)
theorem I01(g:j0)(hl:g.2.2.length<=140737488355328):A7 g=some (M0 g):=by
 have hG:=Z6 g hl
 obtain⟨r,n,es⟩:=g
 unfold A7 M0
 simp only[hG,oB]
 cases hg:N0 (r,n,es)with
 |false =>
  have h1:Y4 es r n U0 0=some (.inr ()):=by
   rw[show U0=(U0-1)+1 from rfl,Y4.eq_2]
   by_cases e:decide ((0:Int)<(es.length:Int))=true
   ·rw[e,E2,hG,oB,hg,if_neg (by simp)]
   ·rw[Bool.not_eq_true]at e
    rw[e,Q2,oB,if_neg (by simp)]
  rw[h1]
  rfl
 |true =>
  have h:=f08 r n es hg hl es.length 0 U0 (by omega) (P1 hl)
  rw[show((0:Nat):Int)=0 from rfl,List.drop_zero,List.take_zero,a0k]at h
  rw[h,oB]
  cases M06 es<;>rfl
def N09(g:j0):Int->List Int->Int×Nat
 |v,[]=>(v,0)
 |v,x::w=>if S0 g v x<0 then(v,0)else((N09 g (S0 g v x) w).1,(N09 g (S0 g v x) w).2+1)
theorem j00{g:j0}(h:M0 g=true):inG g/\(1<=g.1/\g.1<=3)/\(1<=g.2.1/\g.2.1<=40)/\g.2.2.length<=120:=by
 unfold M0 at h
 simp only[Bool.and_eq_true]at h
 exact V0 h.1
def r0n(v:Int)(e:H0):Nat:=(if e.1=v then 1 else 0)+(if e.2.2=v then 1 else 0)
def t04(v:Int):List H0->Nat
 | []=>0
 |e::r=>r0n v e+t04 v r
theorem s0n(v:Int)(e:H0):r0n v e<=2:=by unfold r0n;split<;>split<;>omega
theorem k0e(v:Int):∀ l,t04 v l<=2*l.length
 | []=>by simp[t04]
 |e::r=>by have:=s0n v e;have:=k0e v r;simp only[t04,List.length_cons];omega
theorem u0b(es:List H0)(v:Int)(hl:es.length<=1099511627776):∀(d k fuel acc:Nat),k+d=es.length->d<fuel->acc<=2*k ->
  M3 es v fuel (acc:Int) (k:Int)=some ((acc+t04 v (es.drop k):Nat):Int)
 |d,k,0,acc,hd,hf,ha=>by omega
 |0,k,fuel+1,acc,hd,hf,ha=>by
  rw[M3.eq_2,if_neg (by simp;omega),O2 (by omega)];rfl
 |d+1,k,fuel+1,acc,hd,hf,ha=>by
  have hk:k<es.length:=by omega
  have he:=l7 hk
  generalize es[k]=e at he
  obtain⟨a,l,b⟩:=e
  have ih:=λacc' h=>u0b es v hl d (k+1) fuel acc' (by omega) (by omega) h
  have w1:IntKind.i64.wrap ((acc:Int)+1)=((acc+1:Nat):Int):=by rw[w64 (by omega) (by omega)];rfl
  have w2:IntKind.i64.wrap (((acc+1:Nat):Int)+1)=((acc+2:Nat):Int):=by rw[w64 (by omega) (by omega)];rfl
  rw[M3.eq_2,if_pos (by simp;omega),Z3 he,V2 he]
  simp only[oB,t04,r0n,U2 hk (show es.length<=9223372036854775807 by omega)]
  by_cases c1:a=v
  ·rw[if_pos (by simpa using c1),if_pos c1]
   by_cases c2:b=v
   ·rw[if_pos (by simpa using c2),if_pos c2,w1,w2,ih _ (by omega)];congr 2;omega
   ·rw[if_neg (by simpa using c2),if_neg c2,w1,ih _ (by omega)];congr 2;omega
  ·rw[if_neg (by simpa using c1),if_neg c1]
   by_cases c2:b=v
   ·rw[if_pos (by simpa using c2),if_pos c2,w1,ih _ (by omega)];congr 2;omega
   ·rw[if_neg (by simpa using c2),if_neg c2,ih _ (by omega)];congr 2;omega
theorem v0b(es:List H0)(v:Int):∀(fuel:Nat) (x y:Int),Z4 es v fuel x y=M3 es v fuel x y
 |0,x,y=>rfl
 |fuel+1,x,y=>by
  rw[Z4.eq_2,M3.eq_2]
  simp only[v0b es v fuel]
  by_cases c:(decide (y<((es.length:Nat):Int)))=true
  ·rw[if_pos c,if_pos c]
   cases hg:gi es y with
   |none=>rfl
   |some e=>simp only[oB]
  ·rw[if_neg c,if_neg c]
theorem c0d(g:j0)(v:Int)(hl:g.2.2.length<=1099511627776):b9 g v=some ((t04 v g.2.2:Nat):Int):=by
 obtain⟨r,n,es⟩:=g
 unfold b9
 have h:=u0b es v hl es.length 0 U0 0 (by omega) (P1 (by simp only at hl;omega)) (Nat.zero_le _)
 rw[show((0:Nat):Int)=0 from rfl,List.drop_zero,Nat.zero_add]at h
 simp only[h,oB]
theorem b0k(g:j0)(v:Int)(hl:g.2.2.length<=1099511627776):W9 g v=some ((t04 v g.2.2:Nat):Int):=by
 have h:=c0d g v hl
 obtain⟨r,n,es⟩:=g
 unfold W9
 unfold b9 at h
 simp only[v0b]at h ⊢
 exact h
def W0f(g h:j0):Bool:=decide (g=h)
theorem E0i(x y:H0):eqE x y=true↔x=y:=by simp[eqE]
theorem O09(a b:List H0)(hab:a.length=b.length)(hl:a.length<=9223372036854775807):∀(d k fuel:Nat),k+d=a.length->d<fuel ->
  J1 a b fuel (k:Int)=some (if a.drop k=b.drop k then .inr ()else .inl false)
 |d,k,0,hd,hf=>by omega
 |0,k,fuel+1,hd,hf=>by
  rw[J1.eq_2,if_neg (by simp;omega),O2 (by omega),O2 (by omega)];rfl
 |d+1,k,fuel+1,hd,hf=>by
  have hk:k<a.length:=by omega
  have hk2:k<b.length:=by omega
  have ha:=l7 hk
  have hb:=l7 hk2
  generalize a[k]=x at ha
  generalize b[k]=y at hb
  have ih:=O09 a b hab hl d (k+1) fuel (by omega) (by omega)
  rw[J1.eq_2,if_pos (by simp;omega),Z3 ha,Z3 hb,V2 ha,V2 hb]
  simp only[oB,U2 hk hl,ih]
  by_cases c:x=y
  ·subst c
   rw[if_neg (by simp[eqE])]
   simp
  ·have hne:eqE x y=false:=Bool.eq_false_iff.2 λh=>c ((E0i x y).1 h)
   rw[if_pos (show(!eqE x y)=true by rw[hne];rfl),if_neg (by simp[c])]
theorem w0b(a b:List H0)(hl:a.length<=9223372036854775807):Z2 a b=some (decide (a=b)):=by
 unfold Z2
 by_cases hab:a.length=b.length
 ·have h:=O09 a b hab hl a.length 0 U0 (by omega) (by unfold U0;omega)
  rw[if_neg (by simp;omega),show(0:Int)=((0:Nat):Int) from rfl,h,List.drop_zero,List.drop_zero]
  by_cases c:a=b
  ·rw[if_pos c];simp[W8,c]
  ·rw[if_neg c];simp[W8,c]
 ·rw[if_pos (by simp;omega)]
  congr 1
  symm
  simp
  intro h;exact hab (by rw[h])
theorem c0k(g h:j0)(hl:g.2.2.length<=9223372036854775807):N8 g h=some (W0f g h):=by
 obtain⟨r,n,es⟩:=g
 obtain⟨r',n',es'⟩:=h
 unfold N8 W0f
 simp only[Prod.mk.injEq]
 by_cases c1:r=r'<;>by_cases c2:n=n'<;>simp[c1,c2,E2,Q2,w0b es es' hl]
theorem d0d(a b:List H0):∀(fuel:Nat) (k:Int),M5 a b fuel k=J1 a b fuel k
 |0,k=>rfl
 |fuel+1,k=>by
  rw[M5.eq_2,J1.eq_2]
  simp only[d0d a b fuel]
theorem d0k(g h:j0)(hl:g.2.2.length<=9223372036854775807):L8 g h=some (W0f g h):=by
 have hS:=w0b g.2.2 h.2.2 hl
 obtain⟨r,n,es⟩:=g
 obtain⟨r',n',es'⟩:=h
 unfold L8 W0f
 unfold Z2 at hS
 simp only[d0d,Prod.mk.injEq]at hS ⊢
 by_cases c1:r=r'
 ·by_cases c2:n=n'
  ·simp only[c1,c2,decide_true,Bool.not_true,cond_false,true_and]
   rw[←hS]
  ·simp[c1,c2]
 ·simp[c1]
def goE(x:H0):List H0->Bool×List H0
 | []=>(false,[])
 |y::l=>if P0 x y<0 then(true,x::y::l)else if P0 x y=0 then(true,y::l)else((goE x l).1,y::(goE x l).2)
theorem F0i(x:H0):∀ l,N00 P0 x l=bif(goE x l).1 then(goE x l).2 else(goE x l).2 ++ [x]
 | []=>rfl
 |y::l=>by
  have ih:=F0i x l
  unfold N00 goE
  by_cases c1:P0 x y<0
  ·rw[if_pos c1,if_pos c1];rfl
  ·rw[if_neg c1,if_neg c1]
   by_cases c2:P0 x y=0
   ·rw[if_pos c2,if_pos c2];rfl
   ·rw[if_neg c2,if_neg c2,ih];cases (goE x l).1<;>rfl
theorem h09(l:List H0)(w0 w1 w2:Int)(hl:l.length<=1099511627776):∀(d k fuel:Nat) (acc:List H0),k+d=l.length->d<fuel->acc.length<=k+1 ->
  B4 l w0 w1 w2 fuel true (k:Int) acc=some (true,acc++l.drop k)
 |d,k,0,acc,hd,hf,ha=>by omega
 |0,k,fuel+1,acc,hd,hf,ha=>by
  rw[B4.eq_2,if_neg (by simp;omega),O2 (by omega),List.append_nil]
 |d+1,k,fuel+1,acc,hd,hf,ha=>by
  have hk:k<l.length:=by omega
  have he:=l7 hk
  generalize l[k]=e at he
  obtain⟨a,x,b⟩:=e
  have ih:=h09 l w0 w1 w2 hl d (k+1) fuel (acc ++ [(a,x,b)]) (by omega) (by omega) (by simp;omega)
  rw[B4.eq_2,if_pos (by simp;omega),V2 he]
  simp only[Z3 he,oB,l01,D0 (p0a _ _),U2 hk (show l.length<=9223372036854775807 by omega),Bool.not_true]
  have hb:∀ b:Bool,(bif b then false else false)=false:=λb=>by cases b<;>rfl
  simp only[hb,Bool.false_eq_true,if_false]
  rw[D0 (by simp;omega),oB,ih]
  simp
theorem x0b(l:List H0)(w0 w1 w2:Int)(hl:l.length<=1099511627776):∀(d k fuel:Nat) (acc:List H0),k+d=l.length->d<fuel->acc.length=k ->
  B4 l w0 w1 w2 fuel false (k:Int) acc=some ((goE (w0,w1,w2) (l.drop k)).1,acc++(goE (w0,w1,w2) (l.drop k)).2)
 |d,k,0,acc,hd,hf,ha=>by omega
 |0,k,fuel+1,acc,hd,hf,ha=>by
  rw[B4.eq_2,if_neg (by simp;omega),O2 (by omega)];simp[goE]
 |d+1,k,fuel+1,acc,hd,hf,ha=>by
  have hk:k<l.length:=by omega
  have he:=l7 hk
  generalize l[k]=e at he
  obtain⟨a,x,b⟩:=e
  have ih:=x0b l w0 w1 w2 hl d (k+1) fuel (acc ++ [(a,x,b)]) (by omega) (by omega) (by simp;omega)
  have on1:=h09 l w0 w1 w2 hl d (k+1) fuel (acc ++ [(a,x,b)]) (by omega) (by omega) (by simp;omega)
  have on2:=h09 l w0 w1 w2 hl d (k+1) fuel ((acc ++ [(w0,w1,w2)]) ++ [(a,x,b)]) (by omega) (by omega) (by simp;omega)
  rw[B4.eq_2,if_pos (by simp;omega),V2 he]
  simp only[Z3 he,oB,l01,D0 (p0a _ _),U2 hk (show l.length<=9223372036854775807 by omega),Bool.not_true,Bool.not_false,goE]
  show _=_
  unfold p0b
  by_cases c1:P0 (w0,w1,w2) (a,x,b)=0
  ·rw[if_pos (by simpa using c1),if_neg (by simp[c1]),if_neg (by omega),if_pos c1]
   rw[D0 (by simp;omega),oB,on1];simp
  ·rw[if_neg (by simpa using c1)]
   by_cases c2:P0 (w0,w1,w2) (a,x,b)<0
   ·rw[if_pos (by simp[c2]),if_pos c2,D0 (by simp;omega),oB,D0 (by simp;omega),oB,on2];simp
   ·rw[if_neg (by simp[c2]),if_neg c2,if_neg c1,D0 (by simp;omega),oB,ih];simp
theorem q0a(l:List H0)(e:H0)(hl:l.length<=1099511627776):i7 l e=some (N00 P0 e l):=by
 obtain⟨w0,w1,w2⟩:=e
 unfold i7
 have h:=x0b l w0 w1 w2 hl l.length 0 U0 [] (by omega) (P1 (by omega)) rfl
 rw[show((0:Nat):Int)=0 from rfl,List.drop_zero,List.nil_append]at h
 simp only[h,oB,F0i]
 have hlen:∀ l:List H0,(goE (w0,w1,w2) l).2.length<=l.length+1:=λl=>by
  induction l with
  |nil=>simp[goE]
  |cons y l ih =>
   unfold goE
   split
   ·simp
   ·split
    ·simp
    ·simp only[List.length_cons];omega
 have:=hlen l
 cases (goE (w0,w1,w2) l).1 with
 |true=>rfl
 |false =>
  simp only[Bool.not_false,if_true,cond_false]
  rw[D0 (by simp;omega),oB]
theorem Y01(e:H0):∀ l:List H0,(N00 P0 e l).length<=l.length+1
 | []=>by simp[N00]
 |y::l=>by
  have:=Y01 e l
  unfold N00
  split
  ·simp
  ·split
   ·simp
   ·simp only[List.length_cons];omega
theorem g08(es:List H0)(hl:es.length<=1099511627776):R7 es=some (a6 P0 [] es):=by
 unfold R7
 rw[D0 (by simp;omega),oB,D0 (by simp;omega),oB,List.nil_append]
 exact congrArg some (O0f g9 E0i es es λ_=>Iff.rfl)
theorem R9(g:j0)(hl:g.2.2.length<=1099511627776):Q3 g=some g:=by
 obtain⟨r,n,es⟩:=g
 unfold Q3
 simp only
 rw[D0 (by simp only[List.length_nil,Nat.zero_add];simp only at hl;omega)];rfl
theorem S9(g:j0)(hl:g.2.2.length<=1099511627776):R3 g=some g:=by
 obtain⟨r,n,es⟩:=g
 unfold R3
 simp only
 rw[D0 (by simp only[List.length_nil,Nat.zero_add];simp only at hl;omega)];rfl
inductive Rch (es:List H0) (v:Int):Int->Prop
 |base:Rch es v v
 |fwd {e:H0}:e∈es->Rch es v e.1->Rch es v e.2.2
 |bwd {e:H0}:e∈es->Rch es v e.2.2->Rch es v e.1
theorem Rch.closed{es:List H0}{v:Int}:∀ e∈es,Rch es v e.1↔Rch es v e.2.2:=λe he=>⟨.fwd he,.bwd he⟩
theorem Rch.sub{es:List H0}{v:Int}{P:Int->Prop}(hv:P v)(hc:∀ e∈es,P e.1↔P e.2.2):∀ {x},Rch es v x->P x
 |_,.base=>hv
 |_,.fwd he h=>(hc _ he).1 (Rch.sub hv hc h)
 |_,.bwd he h=>(hc _ he).2 (Rch.sub hv hc h)
def E8(S:List Bool)(i:Int):Bool:=S.getD i.toNat false
def stJ(S:List Bool)(e:H0):List Bool:=(S.set e.1.toNat true).set e.2.2.toNat true
def pJ:List H0->Bool->List Bool->Bool×List Bool
 | [],c,S=>(c,S)
 |e::r,c,S=>bif E8 S e.1 == E8 S e.2.2 then pJ r c S else pJ r true (stJ S e)
def cF:List Bool->Nat
 | []=>0
 |b::r=>(bif b then 0 else 1)+cF r
theorem r0h:∀(S:List Bool) (i:Nat),cF (S.set i true)<=cF S
 | [],i=>by simp[cF]
 |b::r,0=>by simp[cF]
 |b::r,i+1=>by have:=r0h r i;simp only[List.set_cons_succ,cF];omega
theorem C0l:∀(S:List Bool) (i:Nat),S[i]?=some false->cF (S.set i true)<cF S
 | [],i,h=>by simp at h
 |b::r,0,h=>by simp at h;subst h;simp[cF]
 |b::r,i+1,h=>by have:=C0l r i (by simpa using h);simp only[List.set_cons_succ,cF];omega
theorem T0n:∀ S:List Bool,cF S<=S.length
 | []=>by simp[cF]
 |b::r=>by have:=T0n r;cases b<;>simp only[cF,List.length_cons,cond_true,cond_false]<;>omega
def inN(n:Nat)(es:List H0):Prop:=∀ e∈es,(0<=e.1/\e.1<(n:Int))/\(0<=e.2.2/\e.2.2<(n:Int))
theorem R05{S:List Bool}{i:Nat}(h:i<S.length)(x:Int):E8 (S.set i true) x=(decide (x.toNat=i) || E8 S x):=by
 unfold E8
 rw[List.getD_eq_getElem?_getD,List.getD_eq_getElem?_getD,List.getElem?_set]
 by_cases c:i=x.toNat
 ·rw[if_pos c,if_pos (by omega)];simp[c]
 ·rw[if_neg c]
  have:decide (x.toNat=i)=false:=by simp;exact λe=>c e.symm
  rw[this];rfl
theorem s0h:∀(es:List H0) (c:Bool) (S:List Bool),(pJ es c S).2.length=S.length
 | [],c,S=>rfl
 |e::r,c,S=>by
  unfold pJ
  cases E8 S e.1 == E8 S e.2.2
  ·simp only[cond_false];rw[s0h r];simp[stJ]
  ·simp only[cond_true];exact s0h r c S
theorem l0e{n:Nat}:∀(es:List H0) (c:Bool) (S:List Bool),S.length=n->inN n es->∀ x,E8 S x=true->E8 (pJ es c S).2 x=true
 | [],c,S,hl,hn,x,h=>h
 |e::r,c,S,hl,hn,x,h=>by
  have he:=hn e mS
  have hr:inN n r:=λe he=>hn e (mC _ he)
  unfold pJ
  cases E8 S e.1 == E8 S e.2.2
  ·simp only[cond_false]
   refine l0e r _ _ (by simp[stJ,hl]) hr x ?_
   rw[stJ,R05 (by rw[List.length_set];omega),R05 (by omega),h];simp
  ·simp only[cond_true];exact l0e r c S hl hr x h
theorem y0b{n:Nat}{P:Int->Prop}:∀(es:List H0) (c:Bool) (S:List Bool),S.length=n->inN n es->(∀ e∈es,P e.1↔P e.2.2)->(∀ x,0<=x->E8 S x=true->P x)->∀ x,0<=x->E8 (pJ es c S).2 x=true->P x
 | [],c,S,hl,hn,hc,hs,x,h0,h=>hs x h0 h
 |e::r,c,S,hl,hn,hc,hs,x,h0,h=>by
  have he:=hn e mS
  have hr:inN n r:=λe he=>hn e (mC _ he)
  have hc':=λe he=>hc e (mC _ he)
  have hce:=hc e mS
  unfold pJ at h
  cases hb:E8 S e.1 == E8 S e.2.2
  ·rw[hb]at h
   refine y0b r true (stJ S e) (by simp[stJ,hl]) hr hc' (λy hy h=>?_) x h0 h
   rw[stJ,R05 (by rw[List.length_set];omega),R05 (by omega)]at h
   simp only[Bool.or_eq_true,decide_eq_true_eq]at h
   have hor:P e.1∨P e.2.2:=by
    cases h1:E8 S e.1
    ·cases h2:E8 S e.2.2
     ·rw[h1,h2]at hb;cases hb
     ·exact .inr (hs _ he.2.1 h2)
    ·exact .inl (hs _ he.1.1 h1)
   rcases h with h|h|h
   ·have:y=e.2.2:=by omega
    subst this;exact hor.elim hce.1 id
   ·have:y=e.1:=by omega
    subst this;exact hor.elim id hce.2
   ·exact hs y hy h
  ·rw[hb]at h
   exact y0b r c S hl hr hc' hs x h0 h
theorem t0h{n:Nat}:∀(es:List H0) (c:Bool) (S:List Bool),S.length=n->inN n es->cF (pJ es c S).2<=cF S/\((pJ es c S).1=true->c=true∨cF (pJ es c S).2<cF S)/\((pJ es c S).1=false->c=false/\(pJ es c S).2=S/\∀ e∈es,E8 S e.1=E8 S e.2.2)
 | [],c,S,hl,hn=>⟨Nat.le_refl _,λh => .inl h,λh=>⟨h,rfl,λe he=>nomatch he⟩⟩
 |e::r,c,S,hl,hn=>by
  have he:=hn e mS
  have hr:inN n r:=λe he=>hn e (mC _ he)
  unfold pJ
  cases hb:E8 S e.1 == E8 S e.2.2
  ·simp only[cond_false]
   obtain⟨h1,h2,h3⟩:=t0h r true (stJ S e) (by simp[stJ,hl]) hr
   have hlt:cF (stJ S e)<cF S:=by
    have g:∀(x:Int),0<=x->x<n->E8 S x=false->S[x.toNat]?=some false:=λx hx hx2 hg=>by
     have hk:x.toNat<S.length:=by omega
     unfold E8 at hg
     rw[List.getD_eq_getElem?_getD,List.getElem?_eq_getElem hk]at hg
     rw[List.getElem?_eq_getElem hk];simpa using hg
    cases g1:E8 S e.1
    ·have:=C0l S _ (g _ he.1.1 he.1.2 g1)
     have:=r0h (S.set e.1.toNat true) e.2.2.toNat
     unfold stJ;omega
    ·have g2:E8 S e.2.2=false:=by
      cases g2:E8 S e.2.2
      ·rfl
      ·rw[g1,g2]at hb;cases hb
     have g3:(S.set e.1.toNat true)[e.2.2.toNat]?=some false:=by
      rw[List.getElem?_set]
      by_cases q:e.1.toNat=e.2.2.toNat
      ·exfalso
       have:e.1=e.2.2:=by omega
       rw[this,g2]at g1;cases g1
      ·rw[if_neg q];exact g _ he.2.1 he.2.2 g2
     have:=C0l _ _ g3
     have:=r0h S e.1.toNat
     unfold stJ;omega
   refine⟨by omega,λ_ => .inr (by omega),λh=>?_⟩
   have:=(h3 h).1;cases this
  ·simp only[cond_true]
   obtain⟨h1,h2,h3⟩:=t0h r c S hl hr
   refine⟨h1,h2,λh=>⟨(h3 h).1,(h3 h).2.1,λe' he'=>?_⟩⟩
   rcases List.mem_cons.1 he' with rfl|he'
   ·simpa using hb
   ·exact(h3 h).2.2 e' he'
theorem giB{S:List Bool}{n:Nat}(hl:S.length=n){x:Int}(h0:0<=x)(h1:x<n):gi S x=some (E8 S x):=by
 have hk:x.toNat<S.length:=by omega
 have e:x=((x.toNat:Nat):Int):=by omega
 have h2:gi S ((x.toNat:Nat):Int)=some (E8 S x):=by
  rw[b09,List.getElem?_eq_getElem hk]
  unfold E8
  rw[List.getD_eq_getElem?_getD,List.getElem?_eq_getElem hk];rfl
 rw[←e]at h2;exact h2
theorem e0d(es:List H0){n:Nat}(hn:inN n es)(hl:es.length<=9223372036854775807):∀(d k fuel:Nat) (c:Bool) (S:List Bool),S.length=n->k+d=es.length->d<fuel ->
  V3 es fuel c (k:Int) S=some (pJ (es.drop k) c S)
 |d,k,0,c,S,hS,hd,hf=>by omega
 |0,k,fuel+1,c,S,hS,hd,hf=>by
  rw[V3.eq_2,if_neg (by simp;omega),O2 (by omega)];rfl
 |d+1,k,fuel+1,c,S,hS,hd,hf=>by
  have hk:k<es.length:=by omega
  have he:=l7 hk
  have hin:=hn _ (List.mem_of_getElem? he)
  generalize es[k]=e at he hin
  obtain⟨a,l,b⟩:=e
  have ih:=λc' S' h=>e0d es hn hl d (k+1) fuel c' S' h (by omega) (by omega)
  rw[V3.eq_2,if_pos (by simp;omega),V2 he]
  simp only[Z3 he,oB,giB hS hin.1.1 hin.1.2,giB hS hin.2.1 hin.2.2,U2 hk hl,giB (show(S.set a.toNat true).length=n by simp[hS]) hin.2.1 hin.2.2,pJ]
  cases hb:E8 S a == E8 S b
  ·simp only[Bool.not_false,if_true,cond_false]
   exact ih _ _ (by simp[hS])
  ·simp only[Bool.not_true,Bool.false_eq_true,if_false,cond_true]
   exact ih _ _ hS
theorem f0d(es:List H0){n:Nat}(hn:inN n es)(hl:es.length<=9223372036854775806):∀(m fuel:Nat) (S:List Bool),S.length=n->cF S<=m->m+1<fuel ->
  ∃ S',N4 es fuel true S=some S'/\S'.length=n/\(∀ x,E8 S x=true->E8 S' x=true)/\(∀ e∈es,E8 S' e.1=E8 S' e.2.2) /\
   ∀ P:Int->Prop,(∀ e∈es,P e.1↔P e.2.2)->(∀ x,0<=x->E8 S x=true->P x)->∀ x,0<=x->E8 S' x=true->P x
 |m,0,S,hS,hm,hf=>by omega
 |m,fuel+1,S,hS,hm,hf=>by
  have h0:=e0d es hn (by omega) es.length 0 U0 false S hS (by omega) (by unfold U0;omega)
  rw[show((0:Nat):Int)=0 from rfl,List.drop_zero]at h0
  obtain⟨c1,c2,c3⟩:=t0h es false S hS hn
  have hlen:=s0h es false S
  rw[N4.eq_2,if_pos rfl,h0,oB]
  have hmono:=l0e es false S hS hn
  have hsnd:=λP=>y0b (P:=P) es false S hS hn
  generalize pJ es false S=q at *
  obtain⟨c,S'⟩:=q
  simp only at c1 c2 c3 hlen hmono hsnd ⊢
  cases c with
  |true =>
   rcases c2 rfl with h|h
   ·cases h
   ·obtain⟨S2,e1,e2,e3,e4,e5⟩:=f0d es hn hl (m-1) fuel S' (by omega) (by omega) (by omega)
    exact⟨S2,e1,e2,λx hx=>e3 x (hmono x hx),e4,λP hc hs=>e5 P hc (hsnd P hc hs)⟩
  |false =>
   obtain⟨_,e,hall⟩:=c3 rfl
   subst e
   obtain _|fuel:=fuel
   ·omega
   ·rw[N4.eq_2,if_neg (by simp)]
    exact⟨_,rfl,hS,λx h=>h,hall,λP _ hs=>hs⟩
theorem X0f(r:Int)(n:Nat)(es:List H0)(hn:inN n es)(hl:es.length<=9223372036854775806)(hn2:1<=n)(hn3:n<=140737488355328):
  ∃ S,p8 (r,(n:Int),es) 0=some S/\S.length=n/\∀ x,0<=x->x<(n:Int)->(E8 S x=true↔Rch es 0 x):=by
 unfold p8
 simp only[Int.toNat_natCast]
 have hg:gi (List.replicate n (false:Bool)) 0=some false:=by
  rw[o0b (x:=false)];rw[List.getElem?_replicate,if_pos (by omega)]
 rw[D0 (by omega),oB,hg,oB]
 have hS:((List.replicate n (false:Bool)).set (0:Int).toNat true).length=n:=by simp
 obtain⟨S',e1,e2,e3,e4,e5⟩:=f0d es hn hl n U0 _ hS (by have:=T0n ((List.replicate n (false:Bool)).set (0:Int).toNat true);omega) (by unfold U0;omega)
 rw[e1]
 have hb:∀ x,E8 ((List.replicate n (false:Bool)).set (0:Int).toNat true) x=decide (x.toNat=0):=λx=>by
  rw[R05 (by simp;omega)]
  have:E8 (List.replicate n false) x=false:=by
   unfold E8
   rw[List.getD_eq_getElem?_getD,List.getElem?_replicate]
   split<;>rfl
  rw[this];simp
 refine⟨S',rfl,e2,λx h0 h1=>⟨λh=>?_,λh=>?_⟩⟩
 ·refine e5 (Rch es 0) Rch.closed (λy hy h=>?_) x h0 h
  rw[hb]at h
  have:y=0:=by simp at h;omega
  subst this;exact .base
 ·exact Rch.sub (P:=λx=>E8 S' x=true) (e3 0 (by rw[hb];rfl)) (λe he=>by rw[e4 e he]) h
theorem U0n(l:List Int)(w:Int)(hl:l.length<=9223372036854775807):∀(d k fuel:Nat),k+d=l.length->d<fuel ->
  Z7 l w fuel (k:Int)=some (if w∈l.drop k then .inl true else .inr ())
 |d,k,0,hd,hf=>by omega
 |0,k,fuel+1,hd,hf=>by
  rw[Z7.eq_2,if_neg (by simp;omega),O2 (by omega)];simp
 |d+1,k,fuel+1,hd,hf=>by
  have hk:k<l.length:=by omega
  have hx:=l7 hk
  generalize l[k]=x at hx
  have ih:=U0n l w hl d (k+1) fuel (by omega) (by omega)
  rw[Z7.eq_2,if_pos (by simp;omega),V2 hx]
  simp only[Z3 hx,oB,U2 hk hl,ih,List.mem_cons]
  by_cases c:x=w
  ·rw[if_pos (by simpa using c),if_pos (.inl c.symm)]
  ·rw[if_neg (by simpa using c)]
   by_cases c2:w∈l.drop (k+1)
   ·rw[if_pos c2,if_pos (.inr c2)]
   ·rw[if_neg c2,if_neg (λh=>h.elim (λe=>c e.symm) c2)]
theorem r0a(l:List Int)(w:Int)(hl:l.length<=9223372036854775807):s8 l w=some (decide (w∈l)):=by
 unfold s8
 have h:=U0n l w hl l.length 0 U0 (by omega) (by unfold U0;omega)
 rw[show((0:Nat):Int)=0 from rfl,List.drop_zero]at h
 rw[h,oB]
 by_cases c:w∈l
 ·rw[if_pos c];simp[W8,c]
 ·rw[if_neg c];simp[W8,c]
def s1(u:List Int)(e:H0):List Int:=if e.1∈u then N00 d8 e.2.2 u else u
def s2(u:List Int)(e:H0):List Int:=if e.2.2∈u then N00 d8 e.1 u else u
def pS:List H0->List Int->List Int
 | [],u=>u
 |e::r,u=>pS r (s2 (s1 u e) e)
theorem i09{u:List Int}{e:H0}{x:Int}:x∈s1 u e↔x∈u∨(e.1∈u/\x=e.2.2):=by
 unfold s1
 split
 ·rename_i h;rw[Q05 Z00];constructor
  ·rintro(h1|h1)
   ·exact .inr ⟨h,h1⟩
   ·exact .inl h1
  ·rintro(h1|⟨_,h1⟩)
   ·exact .inr h1
   ·exact .inl h1
 ·rename_i h;constructor
  ·exact .inl
  ·rintro(h1|⟨h1,_⟩)
   ·exact h1
   ·exact absurd h1 h
theorem j09{u:List Int}{e:H0}{x:Int}:x∈s2 u e↔x∈u∨(e.2.2∈u/\x=e.1):=by
 unfold s2
 split
 ·rename_i h;rw[Q05 Z00];constructor
  ·rintro(h1|h1)
   ·exact .inr ⟨h,h1⟩
   ·exact .inl h1
  ·rintro(h1|⟨_,h1⟩)
   ·exact .inr h1
   ·exact .inl h1
 ·rename_i h;constructor
  ·exact .inl
  ·rintro(h1|⟨h1,_⟩)
   ·exact h1
   ·exact absurd h1 h
theorem D0l(u:List Int)(e:H0):(s1 u e).length<=u.length+1:=by
 unfold s1;split
 ·exact s04 _ _
 ·omega
theorem E0l(u:List Int)(e:H0):(s2 u e).length<=u.length+1:=by
 unfold s2;split
 ·exact s04 _ _
 ·omega
theorem u0h:∀(es:List H0) (u:List Int),(pS es u).length<=u.length+2*es.length
 | [],u=>by simp[pS]
 |e::r,u=>by
  have:=u0h r (s2 (s1 u e) e)
  have:=E0l (s1 u e) e
  have:=D0l u e
  simp only[pS,List.length_cons];omega
theorem Z04:∀(es:List H0) (u:List Int) (x:Int),x∈u->x∈pS es u
 | [],u,x,h=>h
 |e::r,u,x,h=>Z04 r _ x (j09.2 (.inl (i09.2 (.inl h))))
theorem z0b{P:Int->Prop}:∀(es:List H0) (u:List Int),(∀ e∈es,P e.1↔P e.2.2)->(∀ x∈u,P x)->∀ x∈pS es u,P x
 | [],u,hc,hs=>hs
 |e::r,u,hc,hs=>z0b r _ (λe he=>hc e (mC _ he)) λx hx=>by
  have hce:=hc e mS
  have h1:∀ y∈s1 u e,P y:=λy hy=>by
   rcases i09.1 hy with h|⟨h,rfl⟩
   ·exact hs y h
   ·exact hce.1 (hs _ h)
  rcases j09.1 hx with h|⟨h,rfl⟩
  ·exact h1 x h
  ·exact hce.2 (h1 _ h)
theorem Y0f:∀(es:List H0) (u:List Int) (e:H0),e∈es->e.1∈u∨e.2.2∈u->e.1∈pS es u/\e.2.2∈pS es u
 |e'::r,u,e,he,h=>by
  simp only[pS]
  rcases List.mem_cons.1 he with rfl|he
  ·have h2:e.2.2∈s1 u e:=by
    rcases h with h|h
    ·exact i09.2 (.inr ⟨h,rfl⟩)
    ·exact i09.2 (.inl h)
   exact⟨Z04 r _ _ (j09.2 (.inr ⟨h2,rfl⟩)),Z04 r _ _ (j09.2 (.inl h2))⟩
  ·exact Y0f r _ e he (h.imp (λh=>j09.2 (.inl (i09.2 (.inl h)))) λh=>j09.2 (.inl (i09.2 (.inl h))))
def act(es:List H0)(u:List Int):Nat:=es.countP λe=>decide (e.1∈u)&&decide (e.2.2∈u)
def clo(es:List H0)(u:List Int):Prop:=∀ e∈es,e.1∈u↔e.2.2∈u
theorem v0o(es:List H0)(u:List Int):act es u<=es.length:=List.countP_le_length
theorem g0d{α:Type}{p q:α->Bool}:∀ {l:List α},(∀ x∈l,p x=true->q x=true)->(∃ x∈l,p x=false/\q x=true)->l.countP p<l.countP q
 | [],_,⟨x,hx,_⟩=>nomatch hx
 |y::l,h,⟨x,hx,h1,h2⟩=>by
  have hle:l.countP p<=l.countP q:=List.countP_mono_left λz hz=>h z (mC _ hz)
  rcases List.mem_cons.1 hx with rfl|hx
  ·rw[List.countP_cons_of_neg (by simp[h1]),List.countP_cons_of_pos h2];omega
  ·have ih:=g0d (l:=l) (λz hz=>h z (mC _ hz)) ⟨x,hx,h1,h2⟩
   cases hp:p y
   ·rw[List.countP_cons_of_neg (by simp[hp])]
    have:l.countP q<=(y::l).countP q:=by rw[List.countP_cons];omega
    omega
   ·rw[List.countP_cons_of_pos hp,List.countP_cons_of_pos (h y mS hp)];omega
theorem h08{es:List H0}{u:List Int}(h:clo es u)(x:Int):x∈pS es u↔x∈u :=
 ⟨z0b (P:=λx=>x∈u) es u h (λ_ h=>h) x,Z04 es u x⟩
theorem F0l{es:List H0}{u:List Int}:clo es (pS es u)∨act es u<act es (pS es u):=by
 by_cases h:clo es u
 ·left
  intro e he
  rw[h08 h,h08 h];exact h e he
 ·right
  have:∃ e∈es,¬ (e.1∈u↔e.2.2∈u):=by
   refine Classical.byContradiction λhn=>h λe he=>?_
   exact Classical.byContradiction λh2=>hn ⟨e,he,h2⟩
  obtain⟨e,he,hne⟩:=this
  refine g0d (λx hx h=>?_) ⟨e,he,?_,?_⟩
  ·simp only[Bool.and_eq_true,decide_eq_true_eq]at h ⊢
   exact⟨Z04 _ _ _ h.1,Z04 _ _ _ h.2⟩
  ·rw[Bool.eq_false_iff]
   intro h
   simp only[Bool.and_eq_true,decide_eq_true_eq]at h
   exact hne ⟨λ_=>h.2,λ_=>h.1⟩
  ·have ht:e.1∈u∨e.2.2∈u:=by
    refine Classical.byContradiction λhn=>hne ⟨λh=>absurd (.inl h) hn,λh=>absurd (.inr h) hn⟩
   have:=Y0f es u e he ht
   simp only[Bool.and_eq_true,decide_eq_true_eq];exact this
def itS(es:List H0):Nat->List Int->List Int
 |0,u=>u
 |j+1,u=>itS es j (pS es u)
theorem G0i(es:List H0):∀(j:Nat) (u:List Int),(itS es j u).length<=u.length+j*(2*es.length)
 |0,u=>by simp[itS]
 |j+1,u=>by have:=G0i es j (pS es u);have:=u0h es u;simp only[itS,Nat.add_mul,Nat.one_mul];omega
theorem H0i(es:List H0):∀(j:Nat) (u:List Int),clo es u->clo es (itS es j u)
 |0,u,h=>h
 |j+1,u,h=>H0i es j _ λe he=>by rw[h08 h,h08 h];exact h e he
theorem I0i(es:List H0):∀(j:Nat) (u:List Int),clo es (itS es j u)∨act es u+j<=act es (itS es j u)
 |0,u => .inr (Nat.le_refl _)
 |j+1,u=>by
  rcases F0l (es:=es) (u:=u)with h|h
  ·exact .inl (H0i es j _ h)
  ·rcases I0i es j (pS es u)with h2|h2
   ·exact .inl h2
   ·right;simp only[itS];omega
theorem Z0f(es:List H0):∀(j:Nat) (u:List Int) (x:Int),x∈u->x∈itS es j u
 |0,u,x,h=>h
 |j+1,u,x,h=>Z0f es j _ x (Z04 es u x h)
theorem h0d{P:Int->Prop}(es:List H0)(hc:∀ e∈es,P e.1↔P e.2.2):∀(j:Nat) (u:List Int),(∀ x∈u,P x)->∀ x∈itS es j u,P x
 |0,u,hs=>hs
 |j+1,u,hs=>h0d es hc j _ (z0b es u hc hs)
theorem J0i(es:List H0)(v x:Int):x∈itS es (es.length+1) [v]↔Rch es v x:=by
 constructor
 ·exact h0d (P:=Rch es v) es Rch.closed _ _ (λy hy=>by simp at hy;subst hy;exact .base) x
 ·have hc:clo es (itS es (es.length+1) [v]):=by
   rcases I0i es (es.length+1) [v]with h|h
   ·exact h
   ·have:=v0o es (itS es (es.length+1) [v]);omega
  exact Rch.sub (P:=λx=>x∈itS es (es.length+1) [v]) (Z0f _ _ _ _ (by simp)) hc
theorem A0b(es:List H0)(hl:es.length<=9223372036854775807):∀(d k fuel:Nat) (u:List Int),k+d=es.length->d<fuel->u.length+2*d<=1099511627776 ->
  K3 es fuel u (k:Int)=some (pS (es.drop k) u)
 |d,k,0,u,hd,hf,hu=>by omega
 |0,k,fuel+1,u,hd,hf,hu=>by
  rw[K3.eq_2,if_neg (by simp;omega),O2 (by omega)];rfl
 |d+1,k,fuel+1,u,hd,hf,hu=>by
  have hk:k<es.length:=by omega
  have he:=l7 hk
  generalize es[k]=e at he
  obtain⟨a,l,b⟩:=e
  have ih:=λu' h=>A0b es hl d (k+1) fuel u' (by omega) (by omega) h
  have g1:=D0l u (a,l,b)
  have g2:=E0l (s1 u (a,l,b)) (a,l,b)
  rw[K3.eq_2,if_pos (by simp;omega),V2 he]
  simp only[Z3 he,oB,r0a u _ (by omega),U2 hk hl,pS]
  by_cases c:a∈u
  ·rw[if_pos (by simpa using c),Z07 _ _ (by omega),oB]
   have e1:s1 u (a,l,b)=N00 d8 b u:=if_pos c
   rw[e1]at g1 g2 ⊢
   rw[r0a _ _ (by omega),oB]
   by_cases c2:b∈N00 d8 b u
   ·rw[if_pos (by simpa using c2),Z07 _ _ (by omega),oB]
    have e2:s2 (N00 d8 b u) (a,l,b)=N00 d8 a (N00 d8 b u):=if_pos c2
    rw[e2]at g2 ⊢
    exact ih _ (by omega)
   ·rw[if_neg (by simpa using c2)]
    have e2:s2 (N00 d8 b u) (a,l,b)=N00 d8 b u:=if_neg c2
    rw[e2]
    exact ih _ (by omega)
  ·rw[if_neg (by simpa using c)]
   have e1:s1 u (a,l,b)=u:=if_neg c
   rw[e1]at g2 ⊢
   by_cases c2:b∈u
   ·rw[if_pos (by simpa using c2),Z07 _ _ (by omega),oB]
    have e2:s2 u (a,l,b)=N00 d8 a u:=if_pos c2
    rw[e2]at g2 ⊢
    exact ih _ (by omega)
   ·rw[if_neg (by simpa using c2)]
    have e2:s2 u (a,l,b)=u:=if_neg c2
    rw[e2]
    exact ih _ (by omega)
theorem B0b(es:List H0)(hl:es.length<=120):∀(d k fuel:Nat) (u:List Int),k+d=es.length+1->d<fuel->u.length<=1+k*240 ->
  d5 es fuel u (k:Int)=some (itS es d u)
 |d,k,0,u,hd,hf,hu=>by omega
 |0,k,fuel+1,u,hd,hf,hu=>by
  rw[d5.eq_2,if_neg (by rw[w64 (by omega) (by omega)];simp;omega)];rfl
 |d+1,k,fuel+1,u,hd,hf,hu=>by
  have h0:=A0b es (by omega) es.length 0 U0 u (by omega) (P1 (by omega)) (by omega)
  rw[show((0:Nat):Int)=0 from rfl,List.drop_zero]at h0
  have ih:=B0b es hl d (k+1) fuel (pS es u) (by omega) (by omega) (by have:=u0h es u;omega)
  rw[d5.eq_2,if_pos (by rw[w64 (by omega) (by omega)];simp;omega),h0,oB,U2 (show k<1000 by omega) (by omega),ih]
  rfl
def getI(P:List Int)(v:Int):Int:=P.getD v.toNat (-1)
def J01:List Int->Nat->List Int->List Int
 |A,k,[]=>A
 |A,k,v::r=>J01 (A.set v.toNat (k:Int)) (k+1) r
def plc(n:Nat)(o:List Int):List Int:=J01 (List.replicate n (-1)) 0 o
theorem C0b:∀(o:List Int) (k:Nat) (A:List Int),(J01 A k o).length=A.length
 | [],k,A=>rfl
 |v::r,k,A=>by rw[J01,C0b r];simp
def inV(n:Nat)(o:List Int):Prop:=∀ v∈o,0<=v/\v<(n:Int)
theorem giI{P:List Int}{n:Nat}(hl:P.length=n){x:Int}(h0:0<=x)(h1:x<n):gi P x=some (getI P x):=by
 have hk:x.toNat<P.length:=by omega
 have e:x=((x.toNat:Nat):Int):=by omega
 have h2:gi P ((x.toNat:Nat):Int)=some (getI P x):=by
  rw[b09,List.getElem?_eq_getElem hk]
  unfold getI
  rw[List.getD_eq_getElem?_getD,List.getElem?_eq_getElem hk];rfl
 rw[←e]at h2;exact h2
theorem u04{A:List Int}{v x:Int}{y:Int}(h0:0<=v)(h1:v.toNat<A.length)(hx:0<=x):getI (A.set v.toNat y) x=if x=v then y else getI A x:=by
 unfold getI
 rw[List.getD_eq_getElem?_getD,List.getD_eq_getElem?_getD,List.getElem?_set]
 by_cases c:x=v
 ·rw[if_pos c,if_pos (by rw[c]),if_pos h1];rfl
 ·rw[if_neg c,if_neg (by omega)]
theorem i08{n:Nat}:∀(o:List Int) (k:Nat) (A:List Int),A.length=n->inV n o->(∀ x,0<=x -> -1<=getI A x/\getI A x<(k:Int))->∀ x,0<=x -> -1<=getI (J01 A k o) x/\getI (J01 A k o) x<((k+o.length:Nat):Int)
 | [],k,A,hA,ho,h,x,hx=>h x hx
 |v::r,k,A,hA,ho,h,x,hx=>by
  have hv:=ho v mS
  have:=i08 r (k+1) (A.set v.toNat (k:Int)) (by simp[hA]) (λw hw=>ho w (mC _ hw)) (λy hy=>by
   rw[u04 hv.1 (by omega) hy]
   have:=h y hy
   split<;>omega) x hx
  rw[J01,List.length_cons,show k+(r.length+1)=k+1+r.length by omega];exact this
theorem S05(n:Nat)(x:Int):getI (List.replicate n (-1)) x = -1:=by
 unfold getI
 rw[List.getD_eq_getElem?_getD,List.getElem?_replicate]
 split<;>rfl
theorem v04{n:Nat}{o:List Int}(ho:inV n o){x:Int}(hx:0<=x): -1<=getI (plc n o) x/\getI (plc n o) x<(o.length:Int):=by
 have:=i08 o 0 (List.replicate n (-1)) (by simp) ho (λx hx=>by rw[S05];omega) x hx
 rw[Nat.zero_add]at this;exact this
theorem K0i(n:Nat)(o:List Int):(plc n o).length=n:=by unfold plc;rw[C0b];simp
def pE(P:List Int):List H0->List H0
 | []=>[]
 |e::r=>bif decide (0<=getI P e.1)&&decide (0<=getI P e.2.2)then(getI P e.1,e.2.1,getI P e.2.2)::pE P r else pE P r
theorem m0e(P:List Int):∀ es,(pE P es).length<=es.length
 | []=>by simp[pE]
 |e::r=>by
  have:=m0e P r
  unfold pE
  cases decide (0<=getI P e.1)&&decide (0<=getI P e.2.2)<;>simp only[cond_true,cond_false,List.length_cons]<;>omega
theorem V0n{n:Nat}{o:List Int}(ho:inV n o):∀(es:List H0),inN n es->inN o.length (pE (plc n o) es)
 | [],hn=>λe he=>nomatch he
 |e::r,hn=>by
  have hr:=V0n ho r λe he=>hn e (mC _ he)
  have he:=hn e mS
  unfold pE
  cases hb:decide (0<=getI (plc n o) e.1)&&decide (0<=getI (plc n o) e.2.2)
  ·simpa only[cond_false] using hr
  ·simp only[cond_true]
   simp only[Bool.and_eq_true,decide_eq_true_eq]at hb
   intro e' he'
   rcases List.mem_cons.1 he' with rfl|he'
   ·exact⟨⟨hb.1,(v04 ho he.1.1).2⟩,hb.2,(v04 ho he.2.1).2⟩
   ·exact hr e' he'
def t9(g:j0)(o:List Int):j0:=(g.1,(o.length:Int),a6 P0 [] (pE (plc g.2.1.toNat o) g.2.2))
theorem F03:∀(r l:List H0),(a6 P0 l r).length<=l.length+r.length
 | [],l=>by simp[a6]
 |e::r,l=>by have:=F03 r (N00 P0 e l);have:=Y01 e l;simp only[a6,List.length_cons];omega
theorem m07(g:j0)(o:List Int):(t9 g o).2.2.length<=g.2.2.length:=by
 have:=F03 (pE (plc g.2.1.toNat o) g.2.2) []
 have:=m0e (plc g.2.1.toNat o) g.2.2
 simp only[t9,List.length_nil]at *;omega
theorem i0d{n:Nat}{r:Int}{es:List H0}{o:List Int}(ho:inV n o)(hn:inN n es):inN o.length (t9 (r,(n:Int),es) o).2.2:=by
 intro e he
 simp only[t9,Int.toNat_natCast]at he
 rcases(Q9 g9 e _ _).1 he with h|h
 ·cases h
 ·exact V0n ho es hn e h
theorem L0i(n:Nat)(hn:n<=140737488355328):∀(d k fuel:Nat),k+d=n->d<fuel ->
  w8 n fuel (k:Int) (List.replicate k (-1)++List.replicate d 0)=some (List.replicate n (-1))
 |d,k,0,hd,hf=>by omega
 |0,k,fuel+1,hd,hf=>by
  rw[w8.eq_2,if_neg (by simp;omega),show k=n by omega];simp
 |d+1,k,fuel+1,hd,hf=>by
  have hg:gi (List.replicate k (-1)++List.replicate (d+1) (0:Int)) (k:Int)=some 0:=by
   rw[b09,List.getElem?_append_right (by simp)];simp
  have ih:=L0i n hn d (k+1) fuel (by omega) (by omega)
  rw[w8.eq_2,if_pos (by simp;omega),hg,oB,U2 (show k<n by omega) (by omega),Int.toNat_natCast]
  have e:(List.replicate k (-1)++List.replicate (d+1) (0:Int)).set k (-1)=List.replicate (k+1) (-1)++List.replicate d 0:=by
   rw[List.set_append_right _ _ (by simp),List.length_replicate,Nat.sub_self,List.replicate_succ,List.set_cons_zero,List.replicate_succ']
   simp
  rw[e,ih]
theorem M0i(o:List Int){n:Nat}(ho:inV n o)(hl:o.length<=9223372036854775807):∀(d k fuel:Nat) (A:List Int),A.length=n->k+d=o.length->d<fuel ->
  t8 o fuel (k:Int) A=some (J01 A k (o.drop k))
 |d,k,0,A,hA,hd,hf=>by omega
 |0,k,fuel+1,A,hA,hd,hf=>by
  rw[t8.eq_2,if_neg (by simp;omega),O2 (by omega)];rfl
 |d+1,k,fuel+1,A,hA,hd,hf=>by
  have hk:k<o.length:=by omega
  have hx:=l7 hk
  have hin:=ho _ (List.mem_of_getElem? hx)
  generalize o[k]=v at hx hin
  have ih:=M0i o ho hl d (k+1) fuel (A.set v.toNat (k:Int)) (by simp[hA]) (by omega) (by omega)
  rw[t8.eq_2,if_pos (by simp;omega),V2 hx,Z3 hx,oB,giI hA hin.1 hin.2,oB,U2 hk hl,ih]
  rfl
theorem N0i(es:List H0){n:Nat}(hn:inN n es)(hl:es.length<=1099511627776)(P:List Int)(hP:P.length=n)(r m:Int):∀(d k fuel:Nat) (acc:List H0),k+d=es.length->d<fuel->acc.length<=k ->
  S7 es P fuel (k:Int) r m acc=some (r,m,acc++pE P (es.drop k))
 |d,k,0,acc,hd,hf,ha=>by omega
 |0,k,fuel+1,acc,hd,hf,ha=>by
  rw[S7.eq_2,if_neg (by simp;omega),O2 (by omega)];simp[pE]
 |d+1,k,fuel+1,acc,hd,hf,ha=>by
  have hk:k<es.length:=by omega
  have he:=l7 hk
  have hin:=hn _ (List.mem_of_getElem? he)
  generalize es[k]=e at he hin
  obtain⟨a,l,b⟩:=e
  have ih:=λacc' h=>N0i es hn hl P hP r m d (k+1) fuel acc' (by omega) (by omega) h
  rw[S7.eq_2,if_pos (by simp;omega),V2 he]
  simp only[Z3 he,oB,giI hP hin.1.1 hin.1.2,giI hP hin.2.1 hin.2.2,U2 hk (show es.length<=9223372036854775807 by omega),pE]
  by_cases c1:0<=getI P a
  ·simp only[show decide (getI P a ≥ 0)=true by simpa using c1,E2,oB,cond_true,show decide (0<=getI P a)=true by simpa using c1,Bool.true_and]
   by_cases c2:0<=getI P b
   ·rw[if_pos (by simpa using c2),D0 (by simp;omega),oB,ih _ (by simp;omega)]
    simp[c2]
   ·rw[if_neg (by simpa using c2),ih _ (by omega)]
    simp[c2]
  ·simp only[show decide (getI P a ≥ 0)=false by simpa using c1,Q2,oB,cond_false,show decide (0<=getI P a)=false by simpa using c1,Bool.false_and]
   rw[if_neg (by simp),ih _ (by omega)]
theorem v0h(r:Int)(n:Nat)(es:List H0)(o:List Int)(hn:inN n es)(ho:inV n o)(hn2:n<=1000000)(hl:es.length<=1099511627776)(hl2:o.length<=1099511627776):
  x01 (r,(n:Int),es) o=some (t9 (r,(n:Int),es) o):=by
 unfold x01
 have h2:=L0i n (by omega) n 0 U0 (by omega) (P1 (by omega))
 have h1:=M0i o ho (by omega) o.length 0 U0 (List.replicate n (-1)) (by simp) (by omega) (P1 (by omega))
 have h0:=N0i es hn hl (plc n o) (K0i n o) r ((o.length:Nat):Int) es.length 0 U0 [] (by omega) (P1 (by omega)) (Nat.le_refl _)
 rw[show((0:Nat):Int)=0 from rfl]at h0 h1 h2
 rw[List.replicate_zero,List.nil_append]at h2
 rw[List.drop_zero]at h1
 rw[List.drop_zero,List.nil_append]at h0
 simp only[Int.toNat_natCast]
 rw[D0 (by omega),oB,oB,List.length_replicate,D0 (by omega),oB,h2,oB,h1,oB]
 rw[show J01 (List.replicate n (-1)) 0 o=plc n o from rfl,h0]
 simp only[oB]
 rw[g08 _ (by have:=m0e (plc n o) es;omega),oB]
 rfl
theorem G0l(A:List Int)(i k:Nat):(A.map (·+1)).set i (((k+1:Nat):Int))=(A.set i (k:Int)).map (·+1):=by
 rw[List.map_set];rfl
theorem D0b{A:List Int}{n:Nat}(hA:A.length=n){x:Int}(h0:0<=x)(h1:x<n):gi (A.map (·+1)) x=some (getI A x+1):=by
 have hk:x.toNat<A.length:=by omega
 have e:x=((x.toNat:Nat):Int):=by omega
 have h2:gi (A.map (·+1)) ((x.toNat:Nat):Int)=some (getI A x+1):=by
  rw[b09,List.getElem?_map,List.getElem?_eq_getElem hk]
  unfold getI
  rw[List.getD_eq_getElem?_getD,List.getElem?_eq_getElem hk];rfl
 rw[←e]at h2;exact h2
theorem H0l(r:Int)(n:Nat)(es:List H0)(o:List Int)(ho:inV n o)(hd':o.Nodup)(hn2:1<=n/\n<=1000000)(hl:o.length<=1099511627776):∀(d k fuel:Nat) (A:List Int),A.length=n->(∀ x,0<=x -> -1<=getI A x/\getI A x<=1099511627776)->(∀ x∈o.drop k,getI A x = -1)->k+d=o.length->d<fuel ->
  C4 o (n:Int) r es fuel (k:Int) (A.map (·+1))=some (.inr ((J01 A k (o.drop k)).map (·+1)))
 |d,k,0,A,hA,hr,hm,hd,hf=>by omega
 |0,k,fuel+1,A,hA,hr,hm,hd,hf=>by
  rw[C4.eq_2,if_neg (by simp;omega),O2 (by omega)];rfl
 |d+1,k,fuel+1,A,hA,hr,hm,hd,hf=>by
  have hk:k<o.length:=by omega
  have hx:=l7 hk
  have hin:=ho _ (List.mem_of_getElem? hx)
  have hdr:=V2 hx
  generalize o[k]=v at hx hin hdr
  have hnd:(o.drop k).Nodup:=hd'.sublist (List.drop_sublist _ _)
  rw[hdr]at hnd hm
  have hA0:=hm v mS
  have ih:=H0l r n es o ho hd' hn2 hl d (k+1) fuel (A.set v.toNat (k:Int)) (by simp[hA]) (λx hx=>by
   rw[u04 hin.1 (by omega) hx];have:=hr x hx;split<;>omega) (λx hx=>by
   have hx0:=ho x (List.mem_of_mem_drop hx)
   rw[u04 hin.1 (by omega) hx0.1,if_neg (λe=>(List.nodup_cons.1 hnd).1 (by rw[←e];exact hx))]
   exact hm x (mC _ hx)) (by omega) (by omega)
  rw[C4.eq_2,if_pos (by simp;omega),hdr,Z3 hx]
  simp only[oB,P03,w64 (show -9223372036854775808<=(n:Int)-1 by omega) (show(n:Int)-1<=9223372036854775807 by omega),inR,show decide (0<=v)=true by simpa using hin.1,show decide (v<=(n:Int)-1)=true by simp;omega,Bool.and_self,Bool.not_true,Bool.not_false,E2,D0b hA hin.1 hin.2,hA0,cond_false]
  rw[if_neg (by decide),U2 hk (by omega),G0l,ih]
  rfl
theorem I0l(es:List H0){n:Nat}(hn:inN n es)(hl:es.length<=1099511627776)(P:List Int)(hP:P.length=n)(hr:∀ x,0<=x -> -1<=getI P x/\getI P x<=1099511627776)(r m:Int):∀(d k fuel:Nat) (acc:List H0),k+d=es.length->d<fuel->acc.length<=k ->
  P3 es (P.map (·+1)) fuel (k:Int) r m acc=some (r,m,a6 P0 acc (pE P (es.drop k)))
 |d,k,0,acc,hd,hf,ha=>by omega
 |0,k,fuel+1,acc,hd,hf,ha=>by
  rw[P3.eq_2,if_neg (by simp;omega),O2 (by omega)];rfl
 |d+1,k,fuel+1,acc,hd,hf,ha=>by
  have hk:k<es.length:=by omega
  have he:=l7 hk
  have hin:=hn _ (List.mem_of_getElem? he)
  generalize es[k]=e at he hin
  obtain⟨a,l,b⟩:=e
  have ih:=λacc' h=>I0l es hn hl P hP hr r m d (k+1) fuel acc' (by omega) (by omega) h
  have ra:=hr a hin.1.1
  have rb:=hr b hin.2.1
  rw[P3.eq_2,if_pos (by simp;omega),V2 he]
  simp only[Z3 he,oB,D0b hP hin.1.1 hin.1.2,D0b hP hin.2.1 hin.2.2,U2 hk (show es.length<=9223372036854775807 by omega),pE]
  by_cases c1:0<=getI P a
  ·simp only[show decide (getI P a+1>0)=true by simp;omega,E2,oB,cond_true,show decide (0<=getI P a)=true by simpa using c1,Bool.true_and]
   by_cases c2:0<=getI P b
   ·rw[if_pos (by simp;omega),w64 (by omega) (by omega),w64 (by omega) (by omega),show getI P a+1-1=getI P a by omega,show getI P b+1-1=getI P b by omega]
    rw[q0a _ _ (by omega),oB,ih _ (by have:=Y01 (getI P a,l,getI P b) acc;omega)]
    simp[c2,a6]
   ·rw[if_neg (by simp;omega),ih _ (by omega)]
    simp[c2]
  ·simp only[show decide (getI P a+1>0)=false by simp;omega,Q2,oB,cond_false,show decide (0<=getI P a)=false by simpa using c1,Bool.false_and]
   rw[if_neg (by simp),ih _ (by omega)]
theorem E0b(r:Int)(n:Nat)(es:List H0)(o:List Int)(hg:N0 (r,(n:Int),es)=true)(ho:inV n o)(hd:o.Nodup)(h1:1<=o.length)(h2:o.length<=n):
  Q6 (r,(n:Int),es) o=some (t9 (r,(n:Int),es) o,true):=by
 obtain⟨q1,q2,q3,q4⟩:=V0 hg
 simp only at q2 q3 q4
 have hn:inN n es:=λe he=>⟨(q1 e he).1,(q1 e he).2.1⟩
 have hG:=Z6 (r,(n:Int),es) (by simp only;omega)
 unfold Q6
 have e1:=H0l r n es o ho hd (by omega) (by omega) o.length 0 U0 (List.replicate n (-1)) (by simp) (λx hx=>by rw[S05];omega) (λx hx=>S05 n x) (by omega) (P1 (by omega))
 have e0:=I0l es hn (by omega) (plc n o) (K0i n o) (λx hx=>by have:=v04 ho hx;omega) r ((o.length:Nat):Int) es.length 0 U0 [] (by omega) (P1 (by omega)) (Nat.le_refl _)
 rw[show((0:Nat):Int)=0 from rfl,List.drop_zero]at e0 e1
 rw[show(List.replicate n (-1:Int)).map (·+1)=List.replicate n 0 by simp]at e1
 rw[show J01 (List.replicate n (-1)) 0 o=plc n o from rfl]at e1
 have c1:decide (((o.length:Nat):Int)=0)=false:=decide_eq_false (by omega)
 have c2:decide (((o.length:Nat):Int)>(n:Int))=false:=decide_eq_false (by omega)
 simp only[hG,hg,oB,Bool.not_true,cond_false,Int.toNat_natCast,c1,c2]
 rw[if_neg (by simp),D0 (by omega),oB,e1]
 simp only[oB,W8,e0]
 rfl
theorem R03:∀(n:Nat) (o:List Int),o.Nodup->inV n o->o.length<=n
 |0,[],_,_=>Nat.le_refl _
 |0,x::r,_,h=>by have:=h x mS;omega
 |n+1,o,hd,h=>by
  have h1:inV n (o.erase (n:Int)):=λx hx=>by
   obtain⟨hne,hm⟩:=(List.Nodup.mem_erase_iff hd).1 hx
   have:=h x hm;omega
  have h2:=R03 n _ (hd.erase _) h1
  by_cases hm:(n:Int)∈o
  ·rw[List.length_erase_of_mem hm]at h2;omega
  ·rw[List.erase_of_not_mem hm]at h2;omega
def K4:Nat->Nat->List Int
 |0,_=>[]
 |d+1,i=>(i:Int) :: -(i:Int)::K4 d (i+1)
theorem b01:∀ d i,(K4 d i).length=2*d
 |0,i=>rfl
 |d+1,i=>by simp only[K4,List.length_cons,b01 d];omega
theorem s0a:∀(d i:Nat),i+d<=1000->∀ x∈K4 d i,C9 x
 |0,i,h,x,hx=>nomatch hx
 |d+1,i,h,x,hx=>by
  simp only[K4,List.mem_cons]at hx
  rcases hx with rfl|rfl|hx
  ·exact⟨⟨by omega,by omega⟩,by omega⟩
  ·exact⟨⟨by omega,by omega⟩,by omega⟩
  ·exact s0a d (i+1) (by omega) x hx
theorem J0l(R:Nat)(hR:R<=900):∀(d i fuel:Nat) (acc:List Int),i+d=R+1->d<fuel->acc.length+2*d<=10000 ->
  R6 (R:Int) fuel (i:Int) acc=some (acc++K4 d i)
 |d,i,0,acc,hd,hf,ha=>by omega
 |0,i,fuel+1,acc,hd,hf,ha=>by
  rw[R6.eq_2,if_neg (by simp;omega)];simp[K4]
 |d+1,i,fuel+1,acc,hd,hf,ha=>by
  have ih:=J0l R hR d (i+1) fuel (acc ++ [(i:Int),-(i:Int)]) (by omega) (by omega) (by simp;omega)
  have w1:IntKind.i64.wrap (0-(i:Int)) = -(i:Int):=by rw[w64 (by omega) (by omega)];omega
  rw[R6.eq_2,if_pos (by simp;omega),w1,D0 (by simp;omega),oB,U2 (show i<1000 by omega) (by omega),ih]
  simp[K4]
theorem K0l(R:Nat)(hR:R<=900):∀(d i fuel:Nat) (acc:List Int),i+d=R+1->d<fuel->acc.length+2*d<=10000 ->
  N5 (R:Int) fuel (i:Int) acc=some (acc++K4 d i)
 |d,i,0,acc,hd,hf,ha=>by omega
 |0,i,fuel+1,acc,hd,hf,ha=>by
  rw[N5.eq_2,if_neg (by simp;omega)];simp[K4]
 |d+1,i,fuel+1,acc,hd,hf,ha=>by
  have ih:=K0l R hR d (i+1) fuel ((acc ++ [(i:Int)]) ++ [-(i:Int)]) (by omega) (by omega) (by simp;omega)
  have w1:IntKind.i64.wrap (0-(i:Int)) = -(i:Int):=by rw[w64 (by omega) (by omega)];omega
  rw[N5.eq_2,if_pos (by simp;omega),w1,D0 (by simp;omega),oB,D0 (by simp;omega),oB,U2 (show i<1000 by omega) (by omega),ih]
  simp[K4]
theorem L0l(R:Nat)(hR:R<=900):O8 (R:Int)=some (K4 R 1):=by
 unfold O8
 rw[show(1:Int)=((1:Nat):Int) from rfl,J0l R hR R 1 U0 [] (by omega) (P1 (by omega)) (by simp;omega)];rfl
theorem M0l(R:Nat)(hR:R<=900):M7 (R:Int)=some (K4 R 1):=by
 unfold M7
 rw[show(1:Int)=((1:Nat):Int) from rfl,K0l R hR R 1 U0 [] (by omega) (P1 (by omega)) (by simp;omega)];rfl
def k09(u:List Int)(x:Int):List Int:=if 0<=x/\x ∉ u then u ++ [x]else u
def w04(g:j0)(v:Int):List Int->List Int->List Int
 | [],u=>u
 |x::r,u=>w04 g v r (k09 u (S0 g v x))
def n01(g:j0)(ls:List Int):Nat->Nat->List Int->List Int
 |0,i,u=>u
 |f+1,i,u=>match u[i]? with
  |some v=>n01 g ls f (i+1) (w04 g v ls u)
  |none=>u
def gud(n:Nat)(u:List Int):Prop:=u.Nodup/\inV n u
theorem N0l{n:Nat}{u:List Int}{x:Int}(h:gud n u)(hx:x = -1∨(0<=x/\x<(n:Int))):gud n (k09 u x):=by
 unfold k09
 split
 ·rename_i hc
  refine⟨List.nodup_append.2 ⟨h.1,by simp,λa ha b hb=>?_⟩,λy hy=>?_⟩
  ·simp at hb;subst hb;exact λe=>hc.2 (e▸ha)
  ·rcases List.mem_append.1 hy with hy|hy
   ·exact h.2 y hy
   ·simp at hy;subst hy;omega
 ·exact h
theorem F0b(u:List Int)(x:Int):∃ t,k09 u x=u++t:=by
 unfold k09;split
 ·exact⟨_,rfl⟩
 ·exact⟨[],by simp⟩
theorem n06(g:j0)(v:Int):∀(ls u:List Int),∃ t,w04 g v ls u=u++t
 | [],u=>⟨[],by simp[w04]⟩
 |x::r,u=>by
  obtain⟨t1,e1⟩:=F0b u (S0 g v x)
  obtain⟨t2,e2⟩:=n06 g v r (k09 u (S0 g v x))
  exact⟨t1++t2,by rw[w04,e2,e1,List.append_assoc]⟩
theorem o06{r:Int}{n:Nat}{es:List H0}(hg:inG (r,(n:Int),es))(v:Int):∀(ls u:List Int),gud n u->gud n (w04 (r,(n:Int),es) v ls u)
 | [],u,h=>h
 |x::l,u,h=>o06 hg v l _ (N0l h (i01 hg v x))
theorem G0b{r:Int}{n:Nat}{es:List H0}(hg:inG (r,(n:Int),es))(ls:List Int):∀(f i:Nat) (u:List Int),gud n u->gud n (n01 (r,(n:Int),es) ls f i u)
 |0,i,u,h=>h
 |f+1,i,u,h=>by
  unfold n01
  split
  ·exact G0b hg ls f _ _ (o06 hg _ _ _ h)
  ·exact h
theorem H0b(g:j0)(ls:List Int):∀(f i:Nat) (u:List Int),u.length<=(n01 g ls f i u).length
 |0,i,u=>Nat.le_refl _
 |f+1,i,u=>by
  unfold n01
  split
  ·rename_i v _
   obtain⟨t,e⟩:=n06 g v ls u
   have:=H0b g ls f (i+1) (w04 g v ls u)
   rw[e]at this ⊢;simp only[List.length_append]at this;omega
  ·exact Nat.le_refl _
theorem O0i(r:Int)(n:Nat)(es:List H0)(hg:inG (r,(n:Int),es))(hn:n<=40)(hes:es.length<=1099511627776)(ls:List Int)(hls:∀ x∈ls,C9 x)(hl:ls.length<=1000000)(i:Nat)(v:Int):∀(d k fuel:Nat) (u:List Int),gud n u->u[i]?=some v->k+d=ls.length->d<fuel ->
  N3 ls (i:Int) r (n:Int) es fuel (k:Int) u=some (w04 (r,(n:Int),es) v (ls.drop k) u)
 |d,k,0,u,hu,hi,hd,hf=>by omega
 |0,k,fuel+1,u,hu,hi,hd,hf=>by
  rw[N3.eq_2,if_neg (by simp;omega),O2 (by omega)];rfl
 |d+1,k,fuel+1,u,hu,hi,hd,hf=>by
  have hk:k<ls.length:=by omega
  have hx:=l7 hk
  have hxm:=hls _ (List.mem_of_getElem? hx)
  have hdr:=V2 hx
  generalize ls[k]=x at hx hxm hdr
  have hlen:=R03 n u hu.1 hu.2
  have hnx:S0 (r,(n:Int),es) v x = -1∨(0<=S0 (r,(n:Int),es) v x/\S0 (r,(n:Int),es) v x<(n:Int)):=i01 hg v x
  have hg2:=N0l hu hnx
  have hi2:(k09 u (S0 (r,(n:Int),es) v x))[i]?=some v:=by
   obtain⟨t,e⟩:=F0b u (S0 (r,(n:Int),es) v x)
   rw[e,List.getElem?_append_left (List.getElem?_eq_some_iff.1 hi).1];exact hi
  have ih:=O0i r n es hg hn hes ls hls hl i v d (k+1) fuel _ hg2 hi2 (by omega) (by omega)
  rw[N3.eq_2,if_pos (by simp;omega),hdr]
  simp only[Z3 hi,Z3 hx,oB,m01 (r,(n:Int),es) v x hxm hes,D0 (g02 hg (show(n:Int)<=40 by omega) v x),U2 hk (show ls.length<=9223372036854775807 by omega),w04]
  rw[←ih]
  generalize S0 (r,(n:Int),es) v x=y at *
  unfold k09
  by_cases c1:0<=y
  ·simp only[show decide (y ≥ 0)=true by simpa using c1,E2,r0a u y (by omega),oB,cond_true]
   by_cases c2:y∈u
   ·rw[if_neg (by simp[c2]),if_neg (by simp[c2])]
   ·rw[if_pos (by simp[c2]),if_pos ⟨c1,c2⟩,D0 (by simp;omega),oB]
  ·simp only[show decide (y ≥ 0)=false by simpa using c1,Q2,oB,cond_false]
   rw[if_neg (by simp),if_neg (λh=>c1 h.1)]
theorem P0i(r:Int)(n:Nat)(es:List H0)(hg:inG (r,(n:Int),es))(hn:n<=40)(hes:es.length<=1099511627776)(ls:List Int)(hls:∀ x∈ls,C9 x)(hl:ls.length<=1000000):∀(f i fuel:Nat) (u:List Int),gud n u->i<=u.length->n+1<=i+f->f<fuel ->
  T4 ls r (n:Int) es fuel (i:Int) u=some (n01 (r,(n:Int),es) ls f i u)
 |f,i,0,u,hu,hi,hd,hf=>by omega
 |0,i,fuel+1,u,hu,hi,hd,hf=>by have:=R03 n u hu.1 hu.2;omega
 |f+1,i,fuel+1,u,hu,hi,hd,hf=>by
  have hlen:=R03 n u hu.1 hu.2
  rw[T4.eq_2,oB,D0 (by omega),oB]
  by_cases hk:i<u.length
  ·have hx:=l7 hk
   generalize u[i]=v at hx
   have h0:=O0i r n es hg hn hes ls hls hl i v ls.length 0 U0 u hu hx (by omega) (P1 (by omega))
   rw[show((0:Nat):Int)=0 from rfl,List.drop_zero]at h0
   obtain⟨t,e⟩:=n06 (r,(n:Int),es) v ls u
   have ih:=P0i r n es hg hn hes ls hls hl f (i+1) fuel _ (o06 hg v ls u hu) (by rw[e,List.length_append];omega) (by omega) (by omega)
   rw[if_pos (by simpa using hk),h0,oB,U2 hk (by omega),ih]
   simp only[n01,hx]
  ·have hx:u[i]?=none:=List.getElem?_eq_none (by omega)
   rw[if_neg (by simpa using hk)]
   simp only[n01,hx]
def G03(g:j0):List Int:=n01 g (K4 g.1.toNat 1) (g.2.1.toNat+1) 0 [0]
theorem j0d{g:j0}(hf:M0 g=true):gud g.2.1.toNat (G03 g)/\1<=(G03 g).length:=by
 obtain⟨h1,h2,h3,h4⟩:=j00 hf
 obtain⟨r,n,es⟩:=g
 simp only at h2 h3 h4
 obtain⟨N,rfl⟩:∃ N:Nat,n=(N:Int):=⟨n.toNat,by omega⟩
 refine⟨?_,?_⟩
 ·exact G0b h1 _ _ _ _ ⟨by simp,λx hx=>by simp at hx;subst hx;show(0:Int)<=0/\(0:Int)<(((N:Int).toNat:Nat):Int);omega⟩
 ·exact H0b _ _ _ _ [0]
theorem a0g(g:j0)(hf:M0 g=true):H7 g=some (G03 g):=by
 obtain⟨h1,h2,h3,h4⟩:=j00 hf
 have hF:=I01 g (by omega)
 obtain⟨r,n,es⟩:=g
 simp only at h2 h3 h4
 obtain⟨N,rfl⟩:∃ N:Nat,n=(N:Int):=⟨n.toNat,by omega⟩
 obtain⟨R,rfl⟩:∃ R:Nat,r=(R:Int):=⟨r.toNat,by omega⟩
 unfold H7
 have h0:=P0i (R:Int) N es h1 (by omega) (by omega) (K4 R 1) (s0a R 1 (by omega)) (by rw[b01];omega) (N+1) 0 U0 [0] ⟨by simp,λx hx=>by simp at hx;subst hx;omega⟩ (by simp) (by omega) (P1 (by omega))
 simp only[hF,hf,oB,Bool.not_true,M0l R (by omega)]
 rw[show((0:Nat):Int)=0 from rfl]at h0
 rw[if_neg (by simp),h0]
 rfl
theorem t0n{a:List Int}(la:a.length<=1099511627776):Z9 a=some a:=by
 unfold Z9
 rw[D0 (by simp;omega)];rfl
def a9(W:List (Option (List Int)))(x:Int):Option (List Int):=W.getD x.toNat none
theorem giO{W:List (Option (List Int))}{n:Nat}(hl:W.length=n){x:Int}(h0:0<=x)(h1:x<n):gi W x=some (a9 W x):=by
 have hk:x.toNat<W.length:=by omega
 have e:x=((x.toNat:Nat):Int):=by omega
 have h2:gi W ((x.toNat:Nat):Int)=some (a9 W x):=by
  rw[b09,List.getElem?_eq_getElem hk]
  unfold a9
  rw[List.getD_eq_getElem?_getD,List.getElem?_eq_getElem hk];rfl
 rw[←e]at h2;exact h2
theorem a00{A:List (Option (List Int))}{v x:Int}{y:Option (List Int)}(h0:0<=v)(h1:v.toNat<A.length)(hx:0<=x):a9 (A.set v.toNat y) x=if x=v then y else a9 A x:=by
 unfold a9
 rw[List.getD_eq_getElem?_getD,List.getD_eq_getElem?_getD,List.getElem?_set]
 by_cases c:x=v
 ·rw[if_pos c,if_pos (by rw[c]),if_pos h1];rfl
 ·rw[if_neg c,if_neg (by omega)]
structure WOk (n:Nat) (W:List (Option (List Int))) (u:List Int):Prop where
 len:W.length=n
 iff:∀ x,0<=x->x<(n:Int)->((a9 W x).isNone=true↔x ∉ u)
 short:∀ x,((a9 W x).getD []).length<=u.length
theorem Q0i(r:Int)(n:Nat)(es:List H0)(hg:inG (r,(n:Int),es))(hn:n<=40)(hes:es.length<=1099511627776)(ls:List Int)(hls:∀ x∈ls,C9 x)(hl:ls.length<=1000000)(v:Int)(hv:0<=v/\v<(n:Int)):∀(d k fuel:Nat) (W:List (Option (List Int))) (u:List Int),gud n u->WOk n W u->k+d=ls.length->d<fuel ->
  ∃ W',R4 ls r (n:Int) es v fuel (k:Int) W u=some (W',w04 (r,(n:Int),es) v (ls.drop k) u)/\WOk n W' (w04 (r,(n:Int),es) v (ls.drop k) u)
 |d,k,0,W,u,hu,hw,hd,hf=>by omega
 |0,k,fuel+1,W,u,hu,hw,hd,hf=>by
  rw[R4.eq_2,if_neg (by simp;omega),O2 (by omega)];exact⟨W,rfl,hw⟩
 |d+1,k,fuel+1,W,u,hu,hw,hd,hf=>by
  have hk:k<ls.length:=by omega
  have hx:=l7 hk
  have hxm:=hls _ (List.mem_of_getElem? hx)
  have hdr:=V2 hx
  generalize ls[k]=x at hx hxm hdr
  have hlen:=R03 n u hu.1 hu.2
  have hnx:S0 (r,(n:Int),es) v x = -1∨(0<=S0 (r,(n:Int),es) v x/\S0 (r,(n:Int),es) v x<(n:Int)):=i01 hg v x
  have hg2:=N0l hu hnx
  have ih:=λW' h=>Q0i r n es hg hn hes ls hls hl v hv d (k+1) fuel W' _ hg2 h (by omega) (by omega)
  rw[R4.eq_2,if_pos (by simp;omega),hdr]
  simp only[Z3 hx,oB,l07 (r,(n:Int),es) v x hxm hes,D0 (g02 hg (show(n:Int)<=40 by omega) v x),U2 hk (show ls.length<=9223372036854775807 by omega),w04]
  generalize S0 (r,(n:Int),es) v x=y at *
  by_cases c1:0<=y
  ·have hy:y<(n:Int):=by omega
   simp only[show decide (y ≥ 0)=true by simpa using c1,E2,giO hw.len c1 hy,oB,cond_true]
   by_cases c2:y∈u
   ·have : ¬ ((a9 W y).isNone=true):=λh=>(hw.iff y c1 hy).1 h c2
    have e:k09 u y=u:=if_neg λh=>h.2 c2
    rw[if_neg this]
    rw[e]at ih ⊢
    exact ih W hw
   ·have:(a9 W y).isNone=true:=(hw.iff y c1 hy).2 c2
    have e:k09 u y=u ++ [y]:=if_pos ⟨c1,c2⟩
    have hs:=hw.short v
    rw[if_pos this,giO hw.len hv.1 hv.2,oB,t0n (by omega),oB,D0 (by simp;omega),oB,D0 (by simp;omega),oB]
    rw[e]at ih ⊢
    refine ih _ ⟨by simp[hw.len],λz h0 h1=>?_,λz=>?_⟩
    ·rw[a00 c1 (by have:=hw.len;omega) h0]
     by_cases c:z=y
     ·rw[if_pos c];simp[c]
     ·rw[if_neg c,hw.iff z h0 h1];simp[c]
    ·by_cases hz:0<=z
     ·rw[a00 c1 (by have:=hw.len;omega) hz]
      by_cases c:z=y
      ·rw[if_pos c];simp;exact hs
      ·rw[if_neg c];have:=hw.short z;simp only[List.length_append];omega
     ·have hz0:a9 (W.set y.toNat (some ((a9 W v).getD [] ++ [x]))) z=a9 (W.set y.toNat (some ((a9 W v).getD [] ++ [x]))) 0:=by
       unfold a9;rw[show z.toNat=(0:Int).toNat by omega]
      rw[hz0,a00 c1 (by have:=hw.len;omega) (iR 0)]
      by_cases c:(0:Int)=y
      ·rw[if_pos c];simp;exact hs
      ·rw[if_neg c];have:=hw.short 0;simp only[List.length_append];omega
  ·have e:k09 u y=u:=if_neg λh=>c1 h.1
   simp only[show decide (y ≥ 0)=false by simpa using c1,Q2,oB,cond_false]
   rw[if_neg (by simp)]
   rw[e]at ih ⊢
   exact ih W hw
theorem R0i(R n:Nat)(hR:R<=900)(es:List H0)(hg:inG ((R:Int),(n:Int),es))(hn:n<=40)(hes:es.length<=1099511627776):∀(f i fuel:Nat) (W:List (Option (List Int))) (u:List Int),gud n u->WOk n W u->i<=u.length->n+1<=i+f->f<fuel ->
  ∃ W',d6 (R:Int) (n:Int) es fuel (i:Int) W u=some (W',n01 ((R:Int),(n:Int),es) (K4 R 1) f i u)
 |f,i,0,W,u,hu,hw,hi,hd,hf=>by omega
 |0,i,fuel+1,W,u,hu,hw,hi,hd,hf=>by have:=R03 n u hu.1 hu.2;omega
 |f+1,i,fuel+1,W,u,hu,hw,hi,hd,hf=>by
  have hlen:=R03 n u hu.1 hu.2
  rw[d6.eq_2,oB,D0 (by omega),oB]
  by_cases hk:i<u.length
  ·have hx:=l7 hk
   have hv:=hu.2 _ (List.mem_of_getElem? hx)
   generalize u[i]=v at hx hv
   obtain⟨W1,h0,hw1⟩:=Q0i (R:Int) n es hg hn hes (K4 R 1) (s0a R 1 (by omega)) (by rw[b01];omega) v hv (K4 R 1).length 0 U0 W u hu hw (by omega) (P1 (by rw[b01];omega))
   rw[show((0:Nat):Int)=0 from rfl,List.drop_zero]at h0
   rw[List.drop_zero]at hw1
   obtain⟨t,e⟩:=n06 ((R:Int),(n:Int),es) v (K4 R 1) u
   obtain⟨W2,ih⟩:=R0i R n hR es hg hn hes f (i+1) fuel W1 _ (o06 hg v _ u hu) hw1 (by rw[e,List.length_append];omega) (by omega) (by omega)
   rw[if_pos (by simpa using hk),Z3 hx,oB,L0l R hR,oB,h0,oB]
   simp only[U2 hk (show u.length<=9223372036854775807 by omega),ih,n01,hx]
   exact⟨_,rfl⟩
  ·have hx:u[i]?=none:=List.getElem?_eq_none (by omega)
   rw[if_neg (by simpa using hk)]
   simp only[n01,hx]
   exact⟨_,rfl⟩
theorem b0g(g:j0)(hf:M0 g=true):I7 g=some (G03 g):=by
 obtain⟨h1,h2,h3,h4⟩:=j00 hf
 have hF:=A00 g (by omega)
 obtain⟨r,n,es⟩:=g
 simp only at h2 h3 h4
 obtain⟨N,rfl⟩:∃ N:Nat,n=(N:Int):=⟨n.toNat,by omega⟩
 obtain⟨R,rfl⟩:∃ R:Nat,r=(R:Int):=⟨r.toNat,by omega⟩
 unfold I7
 have hrep:∀ x,a9 (List.replicate N (none:Option (List Int))) x=none:=λx=>by
  unfold a9
  rw[List.getD_eq_getElem?_getD,List.getElem?_replicate];split<;>rfl
 have hW:WOk N ((List.replicate N (none:Option (List Int))).set (0:Int).toNat (some [])) [0]:=by
  refine⟨by simp,λx h0 h1=>?_,λx=>?_⟩
  ·rw[a00 (iR 0) (by simp;omega) h0]
   by_cases c:x=0
   ·rw[if_pos c];simp[c]
   ·rw[if_neg c,hrep];simp[c]
  ·by_cases hz:0<=x
   ·rw[a00 (iR 0) (by simp;omega) hz]
    split
    ·simp
    ·rw[hrep];simp
   ·have:a9 ((List.replicate N (none:Option (List Int))).set (0:Int).toNat (some [])) x=a9 ((List.replicate N (none:Option (List Int))).set (0:Int).toNat (some [])) 0:=by
     unfold a9;rw[show x.toNat=(0:Int).toNat by omega]
    rw[this,a00 (iR 0) (by simp;omega) (iR 0),if_pos rfl];simp
 obtain⟨W',h0⟩:=R0i R N (by omega) es h1 (by omega) (by omega) (N+1) 0 U0 _ [0] ⟨by simp,λx hx=>by simp at hx;subst hx;omega⟩ hW (by simp) (by omega) (P1 (by omega))
 have hg0:gi (List.replicate N (none:Option (List Int))) 0=some none:=by
  rw[o0b (x:=none)];rw[List.getElem?_replicate,if_pos (by omega)]
 simp only[hF,hf,oB,Bool.not_true,o00,Int.toNat_natCast]
 rw[if_neg (by simp),D0 (by omega),oB,hg0,oB]
 rw[show((0:Nat):Int)=0 from rfl]at h0
 rw[h0]
 rfl
def h02(g:j0):j0:=t9 g (G03 g)
theorem P09(g:j0)(hf:M0 g=true):t6 g=some (h02 g):=by
 obtain⟨h1,h2,h3,h4⟩:=j00 hf
 have hF:=A00 g (by omega)
 have hO:=b0g g hf
 obtain⟨ho,ho1⟩:=j0d hf
 have hle:=R03 _ _ ho.1 ho.2
 obtain⟨r,n,es⟩:=g
 simp only at h2 h3 h4
 obtain⟨N,rfl⟩:∃ N:Nat,n=(N:Int):=⟨n.toNat,by omega⟩
 simp only[Int.toNat_natCast]at ho hle
 have hp:=v0h r N es (G03 (r,(N:Int),es)) (λe he=>⟨(h1 e he).1,(h1 e he).2.1⟩) ho.2 (by omega) (by omega) (by omega)
 unfold t6
 simp only[hF,hf,oB,Bool.not_true,hO,hp]
 rfl
theorem Q09(g:j0)(hf:M0 g=true):s6 g=some (h02 g):=by
 obtain⟨h1,h2,h3,h4⟩:=j00 hf
 have hG:N0 g=true:=by
  unfold M0 at hf;exact(Bool.and_eq_true _ _▸hf).1
 have hO:=a0g g hf
 obtain⟨ho,ho1⟩:=j0d hf
 have hle:=R03 _ _ ho.1 ho.2
 obtain⟨r,n,es⟩:=g
 simp only at h2 h3 h4
 obtain⟨N,rfl⟩:∃ N:Nat,n=(N:Int):=⟨n.toNat,by omega⟩
 simp only[Int.toNat_natCast]at ho hle
 have hp:=E0b r N es (G03 (r,(N:Int),es)) hG ho.2 ho.1 ho1 hle
 unfold s6
 simp only[oB,hO,hp]
 rw[if_neg (by simp;intro h;rw[h]at ho1;simp at ho1)]
 rfl
def lf(bad:Nat->Bool):Nat->Nat->Option Nat
 |0,v=>none
 |d+1,v=>bif bad v then some v else lf bad d (v+1)
theorem T05{bad:Nat->Bool}:∀(d v k:Nat),lf bad d v=some k->v<=k/\k<v+d
 |0,v,k,h=>by cases h
 |d+1,v,k,h=>by
  unfold lf at h
  cases hb:bad v
  ·rw[hb]at h;have:=T05 d (v+1) k h;omega
  ·rw[hb]at h;cases h;omega
theorem I0b{b1 b2:Nat->Bool}:∀(d v:Nat),(∀ k,v<=k->k<v+d->b1 k=b2 k)->lf b1 d v=lf b2 d v
 |0,v,h=>rfl
 |d+1,v,h=>by unfold lf;rw[h v (Nat.le_refl _) (by omega),I0b d (v+1) λk h1 h2=>h k (by omega) (by omega)]
def e0k(es:List H0):List Int:=itS es (es.length+1) [0]
def J0b(es:List H0)(v:Nat):Bool:=decide (t04 (v:Int) es<2) || !decide ((v:Int)∈e0k es)
def W00(g:j0):Option Nat:=lf (J0b g.2.2) (g.2.1.toNat-1) 1
theorem w0h(g:j0)(hg:N0 g=true):M8 g 0=some (e0k g.2.2)/\(e0k g.2.2).length<=100000:=by
 obtain⟨h1,h2,h3,h4⟩:=V0 hg
 have hq:=Z6 g (by omega)
 obtain⟨r,n,es⟩:=g
 simp only at h2 h3 h4
 unfold M8 e0k
 have hl:=B0b es h4 (es.length+1) 0 U0 [0] (by omega) (P1 (by omega)) (by simp)
 have hlen:=G0i es (es.length+1) [0]
 refine⟨?_,?_⟩
 ·rw[show((0:Nat):Int)=0 from rfl]at hl
  simp only[hq,hg,oB,Bool.not_true,Bool.not_false,E2,P03,inR,w64 (show -9223372036854775808<=n-1 by omega) (show n-1<=9223372036854775807 by omega)]
  rw[if_neg (by simp;omega),hl];rfl
 ·have:(es.length+1)*(2*es.length)<=121*240:=Nat.mul_le_mul (by omega) (by omega)
  simp only[List.length_singleton]at hlen
  simp only
  omega
theorem O0l(r:Int)(n:Nat)(es:List H0)(hes:es.length<=1000)(u:List Int)(hu:u.length<=100000)(hn:n<=40):∀(d v fuel:Nat),v+d=n∨(d=0/\n<=v)->v<=1000->d<fuel ->
  B7 (n:Int) r es u fuel (v:Int)=some (match lf (λv=>decide (t04 (v:Int) es<2) || !decide ((v:Int)∈u)) d v with|some k => .inl (k:Int)|none => .inr ())
 |d,v,0,hd,hv,hf=>by omega
 |0,v,fuel+1,hd,hv,hf=>by
  rw[B7.eq_2,if_neg (by simp;omega)];rfl
 |d+1,v,fuel+1,hd,hv,hf=>by
  have ih:=O0l r n es hes u hu hn d (v+1) fuel (by omega) (by omega) (by omega)
  have hdeg:=k0e (v:Int) es
  rw[B7.eq_2,if_pos (by simp;omega),c0d (r,(n:Int),es) _ (by simp only;omega),oB,D0 (c64 (by simp only;omega) (by simp only;omega)),oB,U2 (show v<10000 by omega) (by omega)]
  unfold lf
  by_cases c1:t04 (v:Int) es<2
  ·have e1:decide (((t04 (v:Int) es:Nat):Int)<2)=true:=decide_eq_true (by omega)
   simp only[e1,Bool.not_true,Q2,oB,cond_true,if_true,decide_eq_true c1,Bool.true_or]
  ·have e1:decide (((t04 (v:Int) es:Nat):Int)<2)=false:=decide_eq_false (by omega)
   simp only[e1,Bool.not_false,E2,r0a u _ (show u.length<=9223372036854775807 by omega),oB,cond_false,decide_eq_false c1,Bool.false_or]
   by_cases c2:(v:Int)∈u
   ·simp only[decide_eq_true c2,Bool.not_true,Bool.false_eq_true,if_false,cond_false];exact ih
   ·simp only[decide_eq_false c2,Bool.not_false,if_true,cond_true]
theorem P0l(g:j0)(hg:N0 g=true):f00 g=some (match W00 g with|some k=>(k:Int)|none => -1):=by
 obtain⟨e1,e2⟩:=w0h g hg
 obtain⟨h1,h2,h3,h4⟩:=V0 hg
 obtain⟨r,n,es⟩:=g
 simp only at h2 h3 h4 e1 e2
 obtain⟨N,rfl⟩:∃ N:Nat,n=(N:Int):=⟨n.toNat,by omega⟩
 unfold f00 W00
 have hl:=O0l r N es (by omega) (e0k es) e2 (by omega) (N-1) 1 U0 (by omega) (by omega) (P1 (by omega))
 simp only[e1,oB,Int.toNat_natCast]
 rw[show(1:Int)=((1:Nat):Int) from rfl,hl]
 rw[show(λv:Nat=>decide (t04 (v:Int) es<2) || !decide ((v:Int)∈e0k es))=J0b es from rfl]
 cases lf (J0b es) (N-1) 1<;>rfl
theorem n0e(r:Int)(n:Nat)(es:List H0)(hes:es.length<=1000)(S:List Bool)(hS:S.length=n)(hn:n<=40):∀(d v fuel:Nat),1<=v->v+d=n∨(d=0/\n<=v)->v<=1000->d+1<fuel ->
  U3 (n:Int) r es S fuel 0 (v:Int)=some (match lf (λv=>decide (t04 (v:Int) es<2) || !E8 S (v:Int)) d v with|some k=>(k:Int)|none=>0)
 |d,v,0,h1,hd,hv,hf=>by omega
 |0,v,fuel+1,h1,hd,hv,hf=>by
  have e:decide ((v:Int)<(n:Int))=false:=decide_eq_false (by omega)
  rw[U3.eq_2,if_neg (by rw[e];simp)];rfl
 |d+1,v,fuel+1,h1,hd,hv,hf=>by
  have ih:=n0e r n es hes S hS hn d (v+1) fuel (by omega) (by omega) (by omega) (by omega)
  have hdeg:=k0e (v:Int) es
  have e:decide ((v:Int)<(n:Int))=true:=decide_eq_true (by omega)
  have hfin:∀ w:Int,U3 (n:Int) r es S fuel (v:Int) w=some (v:Int):=λw=>by
   obtain _|fuel:=fuel
   ·omega
   ·have e2:decide ((v:Int)=0)=false:=decide_eq_false (by omega)
    have e3:∀ b:Bool,(bif b then false else false)=false:=λb=>by cases b<;>rfl
    rw[U3.eq_2,if_neg (by rw[e2,e3];simp)]
  rw[U3.eq_2,if_pos (by rw[e];rfl),b0k (r,(n:Int),es) _ (by simp only;omega),oB,D0 (c64 (by simp only;omega) (by simp only;omega)),oB,U2 (show v<10000 by omega) (by omega)]
  unfold lf
  by_cases c1:t04 (v:Int) es<2
  ·have e1:decide (((t04 (v:Int) es:Nat):Int)<2)=true:=decide_eq_true (by omega)
   simp only[e1,Bool.not_true,Q2,oB,cond_true,if_true,decide_eq_true c1,Bool.true_or,hfin]
  ·have e1:decide (((t04 (v:Int) es:Nat):Int)<2)=false:=decide_eq_false (by omega)
   simp only[e1,Bool.not_false,E2,giB hS (show(0:Int)<=(v:Int) by omega) (show(v:Int)<(n:Int) by omega),oB,cond_false,decide_eq_false c1,Bool.false_or]
   cases hb:E8 S (v:Int)
   ·simp only[Bool.not_false,if_true,cond_true,hfin]
   ·simp only[Bool.not_true,Bool.false_eq_true,if_false,cond_false];exact ih
def wo(g:Nat):Nat->Nat->List Int
 |0,k=>[]
 |d+1,k=>if k=g then wo g d (k+1)else(k:Int)::wo g d (k+1)
theorem o0e(g:Nat):∀(d k:Nat),(wo g d k).length=d-(if k<=g/\g<k+d then 1 else 0)
 |0,k=>by simp[wo]
 |d+1,k=>by
  have ih:=o0e g d (k+1)
  unfold wo
  by_cases c:k=g
  ·rw[if_pos c,ih,if_neg (by omega),if_pos (by omega)];omega
  ·rw[if_neg c,List.length_cons,ih]
   by_cases c2:k+1<=g/\g<k+1+d
   ·rw[if_pos c2,if_pos (by omega)];omega
   ·rw[if_neg c2,if_neg (by omega)];omega
theorem S0i(g n:Nat):∀(d k:Nat),k+d<=n->inV n (wo g d k)
 |0,k,h=>λx hx=>nomatch hx
 |d+1,k,h=>by
  have ih:=S0i g n d (k+1) (by omega)
  unfold wo
  split
  ·exact ih
  ·intro x hx
   rcases List.mem_cons.1 hx with rfl|hx
   ·omega
   ·exact ih x hx
theorem p0e(n g:Nat)(hn:n<=1000):∀(d k fuel:Nat) (acc:List Int),k+d=n->d<fuel->acc.length<=k ->
  l5 (n:Int) (g:Int) fuel (k:Int) acc=some (acc++wo g d k)
 |d,k,0,acc,hd,hf,ha=>by omega
 |0,k,fuel+1,acc,hd,hf,ha=>by
  rw[l5.eq_2,if_neg (by simp;omega)];simp[wo]
 |d+1,k,fuel+1,acc,hd,hf,ha=>by
  have ih:=λacc' h=>p0e n g hn d (k+1) fuel acc' (by omega) (by omega) h
  rw[l5.eq_2,if_pos (by simp;omega),U2 (show k<10000 by omega) (by omega)]
  unfold wo
  by_cases c:k=g
  ·have e:decide ((k:Int)=(g:Int))=true:=decide_eq_true (by omega)
   rw[e,if_neg (by simp),if_pos c,ih _ (by omega)]
  ·have e:decide ((k:Int)=(g:Int))=false:=decide_eq_false (by omega)
   rw[e,if_pos (show(!false)=true from rfl),if_neg c,D0 (by simp;omega),oB,ih _ (by simp;omega)]
   simp
theorem q0e(n:Nat)(hn:n<=1000):∀(d k fuel:Nat) (acc:List Int),k+d=n->d<fuel->acc.length=k ->
  ∃ u,P5 (n:Int) fuel (k:Int) acc=some u/\u.length=n
 |d,k,0,acc,hd,hf,ha=>by omega
 |0,k,fuel+1,acc,hd,hf,ha=>by
  rw[P5.eq_2,if_neg (by simp;omega)];exact⟨_,rfl,by omega⟩
 |d+1,k,fuel+1,acc,hd,hf,ha=>by
  obtain⟨u,e1,e2⟩:=q0e n hn d (k+1) fuel (acc ++ [(k:Int)]) (by omega) (by omega) (by simp;omega)
  rw[P5.eq_2,if_pos (by simp;omega),U2 (show k<10000 by omega) (by omega),D0 (by simp;omega),oB,e1]
  exact⟨u,rfl,e2⟩
theorem c0g{α:Type}{xs:List α}{k:Nat}(h:k<=xs.length):j07 xs 0 (k:Int)=some (xs.take k):=by
 unfold j07
 rw[if_pos (by omega)];rfl
theorem T0i:∀(n fuel:Nat) (left:List Int) (r:Int) (es:List H0),1<=n->n<=40->inN n es->es.length<=120->left.length=n->n<fuel ->
  ∃(g':j0) (l':List Int),n5 fuel left r (n:Int) es=some (.inl (g',l'))/\g'.2.1<=(n:Int)/\(g'.2.1=(n:Int)↔lf (J0b es) (n-1) 1=none)
 |n,0,left,r,es,h1,h2,hn,hes,hl,hf=>by omega
 |n,fuel+1,left,r,es,h1,h2,hn,hes,hl,hf=>by
  obtain⟨S,eS,lS,hS⟩:=X0f r n es hn (by omega) h1 (by omega)
  have ht1:=n0e r n es (by omega) S lS h2 (n-1) 1 U0 (Nat.le_refl _) (by omega) (by omega) (P1 (by omega))
  have hcg:lf (λv=>decide (t04 (v:Int) es<2) || !E8 S (v:Int)) (n-1) 1=lf (J0b es) (n-1) 1:=I0b _ _ λk k1 k2=>by
   unfold J0b
   have:=hS (k:Int) (by omega) (by omega)
   have h3:=J0i es 0 (k:Int)
   congr 2
   cases hb:E8 S (k:Int)
   ·symm;exact decide_eq_false λh=>by rw[this.2 (h3.1 h)]at hb;cases hb
   ·symm;exact decide_eq_true (h3.2 (this.1 hb))
  rw[hcg]at ht1
  rw[n5.eq_2,eS,oB,show(1:Int)=((1:Nat):Int) from rfl,ht1,oB]
  cases hlf:lf (J0b es) (n-1) 1 with
  |none =>
   exact⟨(r,(n:Int),es),left,by rw[if_pos (by rfl)],iR _,by simp⟩
  |some k =>
   have hk:=T05 _ _ _ hlf
   have e0:decide ((k:Int)=0)=false:=decide_eq_false (by omega)
   have ho:=S0i k n n 0 (by omega)
   have hlen:=o0e k n 0
   rw[if_pos (by omega)]at hlen
   have ht0:=p0e n k (by omega) n 0 U0 [] (by omega) (P1 (by omega)) (Nat.le_refl _)
   rw[show((0:Nat):Int)=0 from rfl,List.nil_append]at ht0
   have hp:=v0h r n es (wo k n 0) hn ho (by omega) (by omega) (by omega)
   have hpl:=m07 (r,(n:Int),es) (wo k n 0)
   have hpi:=i0d (r:=r) ho hn
   have hw:IntKind.i64.wrap ((k:Int)+((1:Nat):Int))=((k+1:Nat):Int):=by rw[w64 (by omega) (by omega)];rfl
   obtain⟨g',l',q1,q2,q3⟩:=T0i (n-1) fuel (left.take k++left.drop (k+1)) r (t9 (r,(n:Int),es) (wo k n 0)).2.2 (by omega) (by omega) (by rw[hlen]at hpi;exact hpi) (by simp only at hpl;omega) (by simp only[List.length_append,List.length_take,List.length_drop];omega) (by omega)
   refine⟨g',l',?_,by omega,?_⟩
   ·simp only[e0,Bool.false_eq_true,if_false,ht0,oB,hp]
    rw[show t9 (r,(n:Int),es) (wo k n 0)=(r,((n-1:Nat):Int),(t9 (r,(n:Int),es) (wo k n 0)).2.2) by rw[←hlen];rfl]
    simp only[hw]
    rw[c0g (by omega),oB,Y04 (by omega),oB,D0 (by simp only[List.length_take,List.length_drop];omega),oB,q1]
   ·constructor
    ·intro h;omega
    ·intro h;cases h
theorem x0h(g:j0)(hg:N0 g=true):∃(g':j0) (l':List Int),U6 g=some (g',l')/\(g'.2.1=g.2.1↔W00 g=none):=by
 obtain⟨h1,h2,h3,h4⟩:=V0 hg
 have hq:=r9 g (by omega)
 have hc:=S9 g (by omega)
 obtain⟨r,n,es⟩:=g
 simp only at h2 h3 h4
 obtain⟨N,rfl⟩:∃ N:Nat,n=(N:Int):=⟨n.toNat,by omega⟩
 have hn:inN N es:=λe he=>⟨(h1 e he).1,(h1 e he).2.1⟩
 obtain⟨u,e1,e2⟩:=q0e N (by omega) N 0 U0 [] (by omega) (P1 (by omega)) rfl
 obtain⟨g',l',q1,q2,q3⟩:=T0i N U0 u r es (by omega) (by omega) hn h4 e2 (P1 (by omega))
 refine⟨g',l',?_,?_⟩
 ·unfold U6
  rw[show((0:Nat):Int)=0 from rfl]at e1
  simp only[hc,oB,hq,hg,Bool.not_true,Bool.false_eq_true,if_false,e1,q1,W8]
 ·simp only[W00,Int.toNat_natCast];exact q3
def E3(g:j0):Bool:=M0 g&&((W00 g).isNone&&W0f (h02 g) g)
theorem I1{g:j0}(h:M0 g=true):N0 g=true:=by
 unfold M0 at h;exact(Bool.and_eq_true _ _▸h).1
theorem l09{g:j0}(hf:M0 g=true):(h02 g).2.2.length<=120:=by
 have:=m07 g (G03 g)
 have:=(j00 hf).2.2.2
 unfold h02;omega
theorem O00(g:j0)(hl:g.2.2.length<=140737488355328):D6 g=some (E3 g):=by
 have hF:=A00 g hl
 unfold E3
 by_cases hf:M0 g=true
 ·obtain⟨g',l',e1,e2⟩:=x0h g (I1 hf)
  have hC:=P09 g hf
  have hE:=c0k (h02 g) g (by have:=l09 hf;omega)
  obtain⟨r,n,es⟩:=g
  obtain⟨r',n',es'⟩:=g'
  unfold D6
  simp only at e2
  generalize h02 (r,n,es)=C at *
  obtain⟨c1,c2,c3⟩:=C
  simp only[hF,hf,oB,Bool.not_true,Bool.false_eq_true,if_false,e1,hC]
  by_cases c:n'=n
  ·have:=e2.1 c
   simp only[decide_eq_true c,E2,oB,hE,cond_true,this,Option.isNone_none,Bool.true_and]
  ·have hne:(W00 (r,n,es)).isNone=false:=by
    cases hq:W00 (r,n,es)with
    |none=>exact absurd (e2.2 hq) c
    |some k=>rfl
   simp only[decide_eq_false c,Q2,oB,cond_false,hne,Bool.false_and,Bool.and_false]
 ·have hf':M0 g=false:=Bool.eq_false_iff.2 hf
  obtain⟨r,n,es⟩:=g
  unfold D6
  simp only[hF,hf',oB,Bool.not_false,if_true,Bool.false_and]
theorem a05(g:j0)(hl:g.2.2.length<=140737488355328):p9 g=some (E3 g):=by
 have hF:=I01 g hl
 unfold E3
 by_cases hf:M0 g=true
 ·have hL:=P0l g (I1 hf)
  have hC:=Q09 g hf
  have hE:=d0k (h02 g) g (by have:=l09 hf;omega)
  obtain⟨h1,h2,h3,h4⟩:=j00 hf
  obtain⟨r,n,es⟩:=g
  unfold p9
  generalize h02 (r,n,es)=C at *
  obtain⟨c1,c2,c3⟩:=C
  simp only[hF,hf,oB,E2,hL,cond_true]
  cases hq:W00 (r,n,es)with
  |none =>
   simp only[D0 (show O0 (-1) by decide),oB,show decide ((-1:Int)<0)=true from rfl,E2,hC,hE,cond_true,Option.isNone_none,Bool.true_and]
  |some k =>
   have hk:=T05 _ _ _ hq
   simp only at h3
   simp only at hk
   have e0:decide ((k:Int)<0)=false:=decide_eq_false (by omega)
   simp only[D0 (show O0 (k:Int) from c64 (by omega) (by omega)),oB,e0,Q2,cond_false,Option.isNone_some,Bool.false_and,Bool.and_false]
 ·have hf':M0 g=false:=Bool.eq_false_iff.2 hf
  obtain⟨r,n,es⟩:=g
  unfold p9
  simp only[hF,hf',oB,Q2,D0 (show O0 0 by decide),cond_false,Bool.false_and]
theorem U0i{s:ByteArray}{k:Nat}(h:k<s.size):∃ c,sgi s (k:Int)=some c:=by
 unfold sgi
 rw[if_pos (by omega),Int.toNat_natCast]
 exact⟨_,getElem?_pos s k h⟩
def chB(s:ByteArray)(k:Nat):Nat:=match sgi s (k:Int)with
 |some c=>c.toNat
 |none=>0
def w0o(c k:Nat):Bool := !(decide (97<=c)&&decide (c<=122))&&(decide (k=0) || !(decide (48<=c)&&decide (c<=57)))
def okN(s:ByteArray):Nat->Nat->Bool
 |0,k=>true
 |d+1,k=>bif w0o (chB s k) k then false else okN s d (k+1)
def D9(s:ByteArray):Bool:=inR 1 8 ((s.size:Nat):Int)&&okN s s.size 0
theorem V0i(s:ByteArray)(hl:s.size<=9223372036854775807):∀(d k fuel:Nat),k+d=s.size->d<fuel ->
  C7 s fuel (k:Int)=some (bif okN s d k then .inr ()else .inl false)
 |d,k,0,hd,hf=>by omega
 |0,k,fuel+1,hd,hf=>by
  rw[C7.eq_2,if_neg (by simp;omega)];rfl
 |d+1,k,fuel+1,hd,hf=>by
  have hk:k<s.size:=by omega
  obtain⟨c,hc⟩:=U0i hk
  have ih:=V0i s hl d (k+1) fuel (by omega) (by omega)
  have hb:chB s k=c.toNat:=by unfold chB;rw[hc]
  rw[C7.eq_2,if_pos (by simp;omega),hc]
  simp only[oB,okN,hb,w0o,U2 hk hl,ih]
  have nd:∀(p q:Prop) [Decidable p] [Decidable q],(p ↔ ¬ q)->decide p = !decide q:=λp q _ _ h=>by
   by_cases c:q
   ·rw[decide_eq_true c,decide_eq_false (λhp=>h.1 hp c)];rfl
   ·rw[decide_eq_false c,decide_eq_true (h.2 c)];rfl
  have t1:decide (((c.toNat:Nat):Int)<97) = !decide (97<=c.toNat):=nd _ _ (by omega)
  have t2:decide (((c.toNat:Nat):Int)>122) = !decide (c.toNat<=122):=nd _ _ (by omega)
  have t3:decide (((c.toNat:Nat):Int)<48) = !decide (48<=c.toNat):=nd _ _ (by omega)
  have t4:decide (((c.toNat:Nat):Int)>57) = !decide (c.toNat<=57):=nd _ _ (by omega)
  have t5:decide ((k:Int)=0)=decide (k=0):=by congr 1;simp
  have fin:∀(b:Bool) (x y:Option (Bool ⊕ Unit)),(if b=true then x else y)=bif b then x else y:=λb x y=>by cases b<;>rfl
  have hz:decide (((0:UInt8).toNat:Int)>122)=false:=rfl
  rw[t1,t5]
  cases h1:decide (97<=c.toNat)<;>cases h2:decide (c.toNat<=122)<;>cases h3:decide (48<=c.toNat)<;>cases h4:decide (c.toNat<=57) <;>
   simp only[E2,Q2,oB,t2,t3,t4,h2,h3,h4,cond_true,cond_false,Bool.not_true,Bool.not_false,Bool.false_and,Bool.true_and,Bool.and_true,Bool.and_false,Bool.and_self,Bool.true_or,Bool.false_or,Bool.or_true,Bool.or_false,fin] <;>
   cases decide (k=0)<;>cases okN s d (k+1)<;>rfl
theorem W0i(s:ByteArray)(hl:s.size<=9223372036854775807):∀(d k fuel:Nat),k+d=s.size->d<fuel ->
  D7 s fuel (k:Int)=some (bif okN s d k then .inr ()else .inl false)
 |d,k,0,hd,hf=>by omega
 |0,k,fuel+1,hd,hf=>by
  rw[D7.eq_2,if_neg (by simp;omega)];rfl
 |d+1,k,fuel+1,hd,hf=>by
  have hk:k<s.size:=by omega
  obtain⟨c,hc⟩:=U0i hk
  have ih:=W0i s hl d (k+1) fuel (by omega) (by omega)
  have hb:chB s k=c.toNat:=by unfold chB;rw[hc]
  rw[D7.eq_2,if_pos (by simp;omega),hc]
  simp only[oB,okN,hb,w0o,U2 hk hl,ih]
  have t1:decide (((c.toNat:Nat):Int) ≥ 97)=decide (97<=c.toNat):=by congr 1;simp;omega
  have t2:decide (((c.toNat:Nat):Int)<=122)=decide (c.toNat<=122):=by congr 1;simp;omega
  have t3:decide (((c.toNat:Nat):Int) ≥ 48)=decide (48<=c.toNat):=by congr 1;simp;omega
  have t4:decide (((c.toNat:Nat):Int)<=57)=decide (c.toNat<=57):=by congr 1;simp;omega
  have t5:decide ((k:Int)=0)=decide (k=0):=by congr 1;simp
  rw[t1,t3,t5]
  have fin:∀(b:Bool) (x y:Option (Bool ⊕ Unit)),(if b=true then x else y)=bif b then x else y:=λb x y=>by cases b<;>rfl
  cases h1:decide (97<=c.toNat)<;>cases h3:decide (48<=c.toNat)<;>cases h5:decide (k=0) <;>
   simp only[E2,Q2,oB,t2,t4,cond_true,cond_false,Bool.not_true,Bool.not_false,Bool.false_and,Bool.true_and,Bool.true_or,Bool.false_or,Bool.and_true,fin] <;>
   cases decide (c.toNat<=122)<;>cases decide (c.toNat<=57)<;>cases okN s d (k+1)<;>rfl
theorem j08(s:ByteArray)(hl:s.size<=9223372036854775807):g00 s=some (D9 s):=by
 unfold g00 D9
 have h:=V0i s hl s.size 0 U0 (by omega) (by unfold U0;omega)
 rw[show((0:Nat):Int)=0 from rfl]at h
 rw[h,oB]
 cases okN s s.size 0
 ·simp[W8]
 ·simp[W8,P03]
theorem k08(s:ByteArray)(hl:s.size<=9223372036854775807):i00 s=some (D9 s):=by
 unfold i00 D9
 have h:=W0i s hl s.size 0 U0 (by omega) (by unfold U0;omega)
 rw[show((0:Nat):Int)=0 from rfl]at h
 rw[r04,oB]
 cases inR 1 8 ((s.size:Nat):Int)
 ·rfl
 ·rw[if_neg (by simp),h,oB]
  cases okN s s.size 0<;>simp[W8]
def u0n(r:Int)(l:K1)(k:Nat):Bool:=match l[k]? with
 |some e=>bif D9 e.1 then(bif E3 e.2 then(bif decide (e.2.1=r)then(bif decide (0<k)then(match l[k-1]? with
  |some e' => !M00 e'.1 e.1
  |none=>false)else false)else true)else true)else true
 |none=>false
def okL(r:Int)(l:K1):Nat->Nat->Bool
 |0,k=>true
 |d+1,k=>bif u0n r l k then false else okL r l d (k+1)
def P4(x:Q0):Bool:=inR 1 3 x.1&&(decide (x.2.length<=16)&&okL x.1 x.2 x.2.length 0)
def K0b(l:K1):Prop:=l.length<=140737488355328/\∀ e∈l,e.1.size<=140737488355328/\e.2.2.2.length<=140737488355328
theorem r0e{r:Int}{l:K1}{k:Nat}{e:I5}(he:l[k]?=some e):u0n r l k=bif D9 e.1 then(bif E3 e.2 then(bif decide (e.2.1=r)then(bif decide (0<k)then(match l[k-1]? with
  |some e' => !M00 e'.1 e.1
  |none=>false)else false)else true)else true)else true:=by unfold u0n;rw[he]
theorem Q0l(r:Int)(l:K1)(hl:K0b l):∀(d k fuel:Nat),k+d=l.length->d<fuel ->
  Q5 l r fuel (k:Int)=some (bif okL r l d k then .inr ()else .inl false)
 |d,k,0,hd,hf=>by omega
 |0,k,fuel+1,hd,hf=>by
  rw[Q5.eq_2,if_neg (by simp;omega)];rfl
 |d+1,k,fuel+1,hd,hf=>by
  have hk:k<l.length:=by omega
  have he:=l7 hk
  have hin:=hl.2 _ (List.mem_of_getElem? he)
  have hlen:=hl.1
  generalize l[k]=e at he hin
  obtain⟨nm,r2,n,es⟩:=e
  simp only at hin
  have ih:=Q0l r l hl d (k+1) fuel (by omega) (by omega)
  rw[Q5.eq_2,if_pos (by simp;omega)]
  simp only[Z3 he,oB,k08 nm (by omega),U2 hk (show l.length<=9223372036854775807 by omega),ih,okL,r0e he]
  have hC:=O00 (r2,n,es) hin.2
  have fin:∀(b:Bool) (x y:Option (Bool ⊕ Unit)),(if b=true then x else y)=bif b then x else y:=λb x y=>by cases b<;>rfl
  have fo:∀ b:Bool,(b || true)=true:=λb=>by cases b<;>rfl
  cases hN:D9 nm
  ·simp only[Bool.not_false,Bool.not_true,Bool.and_false,Q2,oB,cond_true,cond_false,if_true]
  ·by_cases hk0:k=0
   ·subst hk0
    have e0:decide (((0:Nat):Int)>0)=false:=rfl
    have e0':decide (0<0)=false:=rfl
    simp only[e0,e0',Bool.not_true,Bool.not_false,Bool.false_and,Q2,oB,cond_true,cond_false,fin]
    cases hR:decide (r2=r)
    ·simp only[Bool.not_false,Q2,Bool.not_true,oB,cond_true,cond_false]
     cases E3 (r2,n,es)<;>rfl
    ·simp only[Bool.not_true,Bool.not_false,E2,hC,oB,cond_true,cond_false]
     cases E3 (r2,n,es)<;>cases okL r l d (0+1)<;>rfl
   ·have hk1:k-1<l.length:=by omega
    have he1:=l7 hk1
    generalize l[k-1]=e' at he1
    obtain⟨nm',r',n',es'⟩:=e'
    have e0:decide ((k:Int)>0)=true:=decide_eq_true (by omega)
    have e0':decide (0<k)=true:=decide_eq_true (by omega)
    simp only[e0,e0',Bool.not_true,Bool.not_false,Bool.true_and,E2,C0i (show 0<k by omega) (show k<=9223372036854775807 by omega),Z3 he1,he1,oB,cond_true,cond_false,fin]
    cases hS:M00 nm' nm
    ·simp only[Bool.not_false,Q2,Bool.not_true,oB,cond_true,cond_false]
     cases E3 (r2,n,es)<;>cases decide (r2=r)<;>rfl
    ·cases hR:decide (r2=r)
     ·simp only[Bool.not_false,Q2,Bool.not_true,oB,cond_true,cond_false]
      cases E3 (r2,n,es)<;>rfl
     ·simp only[Bool.not_true,Bool.not_false,E2,hC,oB,cond_true,cond_false]
      cases E3 (r2,n,es)<;>cases okL r l d (k+1)<;>rfl
theorem R0l(r:Int)(l:K1)(hl:K0b l):∀(d k fuel:Nat),k+d=l.length->d<fuel ->
  O5 l r fuel (k:Int)=some (bif okL r l d k then .inr ()else .inl false)
 |d,k,0,hd,hf=>by omega
 |0,k,fuel+1,hd,hf=>by
  rw[O5.eq_2,if_neg (by simp;omega)];rfl
 |d+1,k,fuel+1,hd,hf=>by
  have hk:k<l.length:=by omega
  have he:=l7 hk
  have hin:=hl.2 _ (List.mem_of_getElem? he)
  have hlen:=hl.1
  generalize l[k]=e at he hin
  obtain⟨nm,r2,n,es⟩:=e
  simp only at hin
  have ih:=R0l r l hl d (k+1) fuel (by omega) (by omega)
  have hC:C3 (r2,n,es)=some (E3 (r2,n,es)):=by
   unfold C3
   simp only[a05 (r2,n,es) hin.2,oB]
  rw[O5.eq_2,if_pos (by simp;omega)]
  simp only[Z3 he,oB,j08 nm (by omega),U2 hk (show l.length<=9223372036854775807 by omega),ih,okL,r0e he]
  have fin:∀(b:Bool) (x y:Option (Bool ⊕ Unit)),(if b=true then x else y)=bif b then x else y:=λb x y=>by cases b<;>rfl
  cases hN:D9 nm
  ·simp only[Bool.not_false,Bool.not_true,Bool.and_false,Q2,oB,cond_true,cond_false,if_true]
  ·simp only[Bool.not_true,Bool.not_false,E2,hC,oB,cond_false,cond_true]
   cases hQ:E3 (r2,n,es)
   ·simp only[Bool.not_false,Bool.not_true,Bool.and_false,Q2,oB,cond_true,cond_false,if_true]
   ·cases hR:decide (r2=r)
    ·simp only[Bool.not_false,Bool.not_true,Bool.and_false,Q2,oB,cond_true,cond_false,if_true]
    ·by_cases hk0:k=0
     ·subst hk0
      have e0:decide (((0:Nat):Int)>0)=false:=rfl
      have e0':decide (0<0)=false:=rfl
      simp only[e0,e0',Bool.not_true,Bool.not_false,Bool.false_and,Q2,oB,cond_true,cond_false,fin]
      try (cases okL r l d (0+1)<;>rfl)
     ·have hk1:k-1<l.length:=by omega
      have he1:=l7 hk1
      generalize l[k-1]=e' at he1
      obtain⟨nm',r',n',es'⟩:=e'
      have e0:decide ((k:Int)>0)=true:=decide_eq_true (by omega)
      have e0':decide (0<k)=true:=decide_eq_true (by omega)
      simp only[e0,e0',Bool.not_true,Bool.not_false,Bool.and_true,Bool.true_and,E2,C0i (show 0<k by omega) (show k<=9223372036854775807 by omega),Z3 he1,he1,oB,cond_true,cond_false,fin]
      cases M00 nm' nm<;>cases okL r l d (k+1)<;>rfl
theorem i05(x:Q0)(hl:K0b x.2):D8 x=some (P4 x):=by
 obtain⟨r,l⟩:=x
 have h:=Q0l r l hl l.length 0 U0 (by omega) (P1 hl.1)
 rw[show((0:Nat):Int)=0 from rfl]at h
 unfold D8 P4
 simp only[r04,oB]
 have t1:decide (((l.length:Nat):Int)>16) = !decide (l.length<=16):=by
  by_cases c:l.length<=16
  ·rw[decide_eq_true c,decide_eq_false (by omega)];rfl
  ·rw[decide_eq_false c,decide_eq_true (by omega)];rfl
 rw[t1]
 cases inR 1 3 r
 ·rfl
 ·cases decide (l.length<=16)
  ·rfl
  ·simp only[Bool.not_true,cond_false,Bool.false_eq_true,if_false,h,oB,Bool.true_and]
   cases okL r l l.length 0<;>rfl
theorem j05(x:Q0)(hl:K0b x.2):B8 x=some (P4 x):=by
 obtain⟨r,l⟩:=x
 have h:=R0l r l hl l.length 0 U0 (by omega) (P1 hl.1)
 rw[show((0:Nat):Int)=0 from rfl]at h
 unfold B8 P4
 simp only[P03,h,oB]
 have t1:decide (((l.length:Nat):Int)<=16)=decide (l.length<=16):=by
  by_cases c:l.length<=16
  ·rw[decide_eq_true c,decide_eq_true (by omega)]
  ·rw[decide_eq_false c,decide_eq_false (by omega)]
 rw[t1]
 cases okL r l l.length 0
 ·cases inR 1 3 r<;>cases decide (l.length<=16)<;>rfl
 ·cases inR 1 3 r<;>cases decide (l.length<=16)<;>rfl
theorem S0l:∀ x:List UInt8,Go.Op.bytesLess x x=false
 | []=>rfl
 |a::x=>by simp[Go.Op.bytesLess,S0l x]
theorem d0g:∀(x y z:List UInt8),Go.Op.bytesLess x y=true->Go.Op.bytesLess y z=true->Go.Op.bytesLess x z=true
 |_,[],_,h,_=>by simp[Go.Op.bytesLess]at h
 |_,_::_,[],_,h=>by simp[Go.Op.bytesLess]at h
 | [],_::_,_::_,_,_=>rfl
 |a::x,b::y,c::z,h1,h2=>by
  have ih:=d0g x y z
  simp only[Go.Op.bytesLess,Bool.or_eq_true,Bool.and_eq_true,decide_eq_true_eq,beq_iff_eq]at h1 h2 ⊢
  rcases h1 with h1|⟨rfl,h1⟩
  ·rcases h2 with h2|⟨rfl,h2⟩
   ·exact .inl (UInt8.lt_trans h1 h2)
   ·exact .inl h1
  ·rcases h2 with h2|⟨rfl,h2⟩
   ·exact .inl h2
   ·exact .inr ⟨rfl,ih h1 h2⟩
theorem s0e(x:ByteArray):M00 x x=false:=S0l _
theorem k0d{x y z:ByteArray}(h1:M00 x y=true)(h2:M00 y z=true):M00 x z=true:=d0g _ _ _ h1 h2
theorem X0i{r:Int}{l:K1}:∀(d k:Nat),k+d=l.length->okL r l d k=true->∀ i,k<=i->0<i->∀ e e',l[i-1]?=some e->l[i]?=some e'->M00 e.1 e'.1=true
 |0,k,hd,h,i,hi,h0,e,e',h1,h2=>by have:=(List.getElem?_eq_some_iff.1 h2).1;omega
 |d+1,k,hd,h,i,hi,h0,e,e',h1,h2=>by
  unfold okL at h
  cases hb:u0n r l k
  ·rw[hb]at h
   by_cases c:i=k
   ·subst c
    rw[r0e h2]at hb
    have e0:decide (0<i)=true:=decide_eq_true h0
    rw[e0,h1]at hb
    have hb2:D9 e'.1=true/\E3 e'.2=true/\e'.2.1=r/\M00 e.1 e'.1=true:=by simpa [Bool.cond_eq_ite] using hb
    exact hb2.2.2.2
   ·exact X0i d (k+1) (by omega) h i (by omega) h0 e e' h1 h2
  ·rw[hb]at h;cases h
theorem t0e{x:Q0}(h:P4 x=true):∀(j i:Nat) (e e':I5),i<j->x.2[i]?=some e->x.2[j]?=some e'->M00 e.1 e'.1=true
 |0,i,e,e',hij,h1,h2=>by omega
 |j+1,i,e,e',hij,h1,h2=>by
  have hok:okL x.1 x.2 x.2.length 0=true:=by
   unfold P4 at h
   simp only[Bool.and_eq_true]at h;exact h.2.2
  have hj:j<x.2.length:=by have:=(List.getElem?_eq_some_iff.1 h2).1;omega
  have hm:=l7 hj
  have hs:=X0i x.2.length 0 (by omega) hok (j+1) (Nat.zero_le _) (by omega) _ _ hm h2
  by_cases c:i=j
  ·subst c;rw[hm]at h1;cases h1;exact hs
  ·exact k0d (t0e h j i _ _ (by omega) h1 hm) hs
def B00(l:K1):Prop:=l.length<=1048576/\∀ e∈l,e.1.size<=1048576/\e.2.2.2.length<=1048576
theorem B00.ok{l:K1}(h:B00 l):K0b l:=⟨by have:=h.1;omega,λe he=>by have:=h.2 e he;omega⟩
theorem Y0i(l:K1)(hl:B00 l)(r:Int):∀(d k fuel:Nat),k+d=l.length->d<fuel ->
  i5 l fuel (k:Int) r (l.take k)=some (r,l)
 |d,k,0,hd,hf=>by omega
 |0,k,fuel+1,hd,hf=>by
  rw[i5.eq_2,if_neg (by simp;omega),List.take_of_length_le (by omega)]
 |d+1,k,fuel+1,hd,hf=>by
  have hk:k<l.length:=by omega
  have he:=l7 hk
  have hin:=hl.2 _ (List.mem_of_getElem? he)
  have ht:=V0f he
  generalize l[k]=e at he hin ht
  obtain⟨nm,r2,n,es⟩:=e
  simp only at hin
  have hl1:=hl.1
  have ih:=Y0i l hl r d (k+1) fuel (by omega) (by omega)
  rw[i5.eq_2,if_pos (by simp;omega)]
  simp only[Z3 he,oB,S9 (r2,n,es) (by simp only;omega)]
  rw[D0 (by simp only[List.length_take,List.length_singleton];omega),oB,U2 hk (by omega),←ht,ih]
theorem Z0i(x:Q0)(hl:B00 x.2):o5 x=some x:=by
 obtain⟨r,l⟩:=x
 have h:=Y0i l hl r l.length 0 U0 (by omega) (P1 (by have:=hl.1;simp only at this;omega))
 rw[show((0:Nat):Int)=0 from rfl,List.take_zero]at h
 unfold o5
 simp only[h,oB]
theorem a0j(l:K1)(hl:B00 l)(r:Int):∀(d k fuel:Nat),k+d=l.length->d<fuel ->
  V6 l fuel (k:Int) r (l.take k)=some (r,l)
 |d,k,0,hd,hf=>by omega
 |0,k,fuel+1,hd,hf=>by
  rw[V6.eq_2,if_neg (by simp;omega),List.take_of_length_le (by omega)]
 |d+1,k,fuel+1,hd,hf=>by
  have hk:k<l.length:=by omega
  have he:=l7 hk
  have hin:=hl.2 _ (List.mem_of_getElem? he)
  have ht:=V0f he
  generalize l[k]=e at he hin ht
  obtain⟨nm,r2,n,es⟩:=e
  simp only at hin
  have hl1:=hl.1
  have ih:=a0j l hl r d (k+1) fuel (by omega) (by omega)
  rw[V6.eq_2,if_pos (by simp;omega)]
  simp only[Z3 he,oB,R9 (r2,n,es) (by simp only;omega)]
  rw[D0 (by simp only[List.length_take,List.length_singleton];omega),oB,U2 hk (by omega),←ht,ih]
theorem b0j(x:Q0)(hl:B00 x.2):R5 x=some x:=by
 obtain⟨r,l⟩:=x
 have h:=a0j l hl r l.length 0 U0 (by omega) (P1 (by have:=hl.1;simp only at this;omega))
 rw[show((0:Nat):Int)=0 from rfl,List.take_zero]at h
 unfold R5
 simp only[h,oB]
def fnd(s:ByteArray)(l:K1):Nat->Nat->Option Nat
 |0,k=>none
 |d+1,k=>match l[k]? with
  |some e=>bif O9 e.1 s then some k else fnd s l d (k+1)
  |none=>none
def S03(x:Q0)(s:ByteArray):Option Nat:=fnd s x.2 x.2.length 0
theorem L0b{s:ByteArray}{l:K1}:∀(d k i:Nat),fnd s l d k=some i->k<=i/\(∃ e,l[i]?=some e/\e.1=s)/\∀ j,k<=j->j<i->∀ e,l[j]?=some e->e.1≠s
 |0,k,i,h=>by cases h
 |d+1,k,i,h=>by
  unfold fnd at h
  cases he:l[k]? with
  |none=>rw[he]at h;cases h
  |some e =>
   rw[he]at h
   simp only at h
   cases hb:O9 e.1 s
   ·rw[hb]at h
    obtain⟨h1,h2,h3⟩:=L0b d (k+1) i h
    refine⟨by omega,h2,λj hj hji e' he'=>?_⟩
    by_cases c:j=k
    ·subst c;rw[he]at he';cases he'
     intro h;rw[e00.2 h]at hb;cases hb
    ·exact h3 j (by omega) hji e' he'
   ·rw[hb]at h;cases h
    exact⟨Nat.le_refl _,⟨e,he,e00.1 hb⟩,λj h1 h2=>by omega⟩
theorem e0g{s:ByteArray}{l:K1}:∀(d k:Nat),k+d=l.length->fnd s l d k=none->∀ j,k<=j->∀ e,l[j]?=some e->e.1≠s
 |0,k,hd,h,j,hj,e,he=>by have:=(List.getElem?_eq_some_iff.1 he).1;omega
 |d+1,k,hd,h,j,hj,e,he=>by
  unfold fnd at h
  have hx:=l7 (show k<l.length by omega)
  generalize l[k]=x at hx
  rw[hx]at h
  simp only at h
  cases hb:O9 x.1 s
  ·rw[hb]at h
   by_cases c:j=k
   ·subst c;rw[hx]at he;cases he
    intro h;rw[e00.2 h]at hb;cases hb
   ·exact e0g d (k+1) (by omega) h j (by omega) e he
  ·rw[hb]at h;cases h
theorem T0l(l:K1)(s:ByteArray)(hl:l.length<=9223372036854775807):∀(d k fuel:Nat),k+d=l.length->d<fuel ->
  O4 l s fuel (k:Int)=some (match fnd s l d k with|some i => .inl (i:Int)|none => .inr ())
 |d,k,0,hd,hf=>by omega
 |0,k,fuel+1,hd,hf=>by
  rw[O4.eq_2,if_neg (by simp;omega)];rfl
 |d+1,k,fuel+1,hd,hf=>by
  have hk:k<l.length:=by omega
  have he:=l7 hk
  generalize l[k]=e at he
  obtain⟨nm,r2,n,es⟩:=e
  have ih:=T0l l s hl d (k+1) fuel (by omega) (by omega)
  rw[O4.eq_2,if_pos (by simp;omega)]
  simp only[Z3 he,oB,U2 hk hl,ih,fnd,he]
  cases O9 nm s<;>rfl
theorem U0l(x:Q0)(s:ByteArray)(hl:x.2.length<=9223372036854775807):t7 x s=some (match S03 x s with|some i=>(i:Int)|none => -1):=by
 obtain⟨r,l⟩:=x
 have h:=T0l l s hl l.length 0 U0 (by omega) (by unfold U0;simp only at hl;omega)
 rw[show((0:Nat):Int)=0 from rfl]at h
 unfold t7 S03
 simp only[h,oB]
 cases fnd s l l.length 0<;>rfl
theorem u0e{x:Q0}{s:ByteArray}{i:Nat}(h:S03 x s=some i):i<x.2.length:=by
 obtain⟨_,⟨e,he,_⟩,_⟩:=L0b _ _ _ h
 exact(List.getElem?_eq_some_iff.1 he).1
theorem f0g{α:Type}{cf:α->α->Int}(h:Y8 cf):∀ {l:List α},(∀ i x y,l[i]?=some x->l[i+1]?=some y->cf x y<0)->Asc cf l
 | [],_=>List.Pairwise.nil
 | [x],_=>List.pairwise_singleton _ _
 |x::y::l,hn=>by
  have ih:Asc cf (y::l):=f0g h λi a b ha hb=>hn (i+1) a b (by simpa using ha) (by simpa using hb)
  have hxy:=hn 0 x y rfl rfl
  refine List.pairwise_cons.2 ⟨λz hz=>?_,ih⟩
  rcases List.mem_cons.1 hz with rfl|hz
  ·exact hxy
  ·exact h.trans _ _ _ hxy ((List.pairwise_cons.1 ih).1 z hz)
theorem V0l{α:Type}{cf:α->α->Int}:∀ {l:List α},Asc cf l->∀ {i:Nat} {x y:α},l[i]?=some x->l[i+1]?=some y->cf x y<0
 | [],_,i,x,y,hx,_=>by simp at hx
 |a::l,h,0,x,y,hx,hy=>by
  simp at hx hy;subst hx
  exact(List.pairwise_cons.1 h).1 y (List.mem_of_getElem? hy)
 |a::l,h,i+1,x,y,hx,hy=>V0l (List.pairwise_cons.1 h).2 (i:=i) (by simpa using hx) (by simpa using hy)
theorem W0l{r hi:Int}{es:List H0}:∀ {d k:Nat},(∀ i,k<=i->i<k+d->B0l r hi es i=false)->okE r hi es d k=true
 |0,k,h=>rfl
 |d+1,k,h=>by
  simp only[okE,Bool.and_eq_true,Bool.not_eq_true']
  exact⟨h k (Nat.le_refl _) (by omega),W0l λi h1 h2=>h i (by omega) (by omega)⟩
theorem x04(g:j0):N0 g=true↔inG g/\(1<=g.1/\g.1<=3)/\(1<=g.2.1/\g.2.1<=40)/\g.2.2.length<=120/\Asc P0 g.2.2:=by
 constructor
 ·intro h
  obtain⟨q1,q2,q3,q4⟩:=V0 h
  refine⟨q1,q2,q3,q4,f0g g9 λi x y hx hy=>?_⟩
  simp only[N0,Bool.and_eq_true]at h
  have hb:=q0h h.1.1.1 (i+1) (Nat.zero_le _) (by have:=(List.getElem?_eq_some_iff.1 hy).1;omega)
  rw[Y07 hy]at hb
  simp only[Nat.add_sub_cancel,hx,Bool.or_eq_false_iff]at hb
  have:=hb.2
  simp only[show decide (0<i+1)=true by simp,Bool.true_and,decide_eq_false_iff_not]at this
  have e:p0b x y=P0 x y:=rfl
  omega
 ·rintro⟨q1,q2,q3,q4,q5⟩
  obtain⟨r,n,es⟩:=g
  simp only at q2 q3 q4 q5
  simp only[N0,inR,Bool.and_eq_true,decide_eq_true_eq]
  refine⟨⟨⟨W0l λi _ hi=>?_,q2⟩,q3⟩,q4⟩
  have hx:=l7 (show i<es.length by omega)
  generalize es[i]=e at hx
  rw[Y07 hx]
  have he:=q1 e (List.mem_of_getElem? hx)
  simp only at he
  simp only[Bool.or_eq_false_iff,Bool.not_eq_false',Q03,inR,Bool.and_eq_true,decide_eq_true_eq]
  rw[w64 (by omega) (by omega)]
  refine⟨⟨⟨⟨by omega,by omega⟩,by omega,by omega⟩,by omega,by omega⟩,?_⟩
  cases i with
  |zero=>rfl
  |succ j =>
   have hy:=l7 (show j<es.length by omega)
   generalize es[j]=f at hy
   have:=V0l q5 hy hx
   simp only[Nat.add_sub_cancel,hy]
   have e':p0b f e=P0 f e:=rfl
   simp[e'];omega
theorem I02{r:Int}{n:Int}{es:List H0}(hr:1<=r/\r<=3)(hn:1<=n/\n<=40)(hes:es.length<=120)(hin:inG (r,n,es)):N0 (r,n,a6 P0 [] es)=true:=by
 refine(x04 _).2 ⟨λe he=>hin e ?_,hr,hn,?_,i03 g9 _ _ List.Pairwise.nil⟩
 ·rcases(Q9 g9 e es []).1 he with h|h
  ·simp at h
  ·exact h
 ·have:=F03 es []
  simp only[List.length_nil]at this
  simp only;omega
def l08(a b:H0):List (Int×Int) :=
 bif decide (a.2.1=b.2.1)then(bif decide (a.1=b.1)then [(if b.2.2<a.2.2 then b.2.2 else a.2.2,if b.2.2>a.2.2 then b.2.2 else a.2.2)]else [])++(bif decide (a.2.2=b.2.2)then [(if b.1<a.1 then b.1 else a.1,if b.1>a.1 then b.1 else a.1)]else [])else []
def y01(a:H0):List H0->List (Int×Int)
 | []=>[]
 |b::r=>l08 a b++y01 a r
def N7:List H0->List (Int×Int)
 | []=>[]
 |a::r=>y01 a r++N7 r
theorem f0k(a b:H0):(l08 a b).length<=2:=by
 unfold l08
 cases decide (a.2.1=b.2.1)<;>cases decide (a.1=b.1)<;>cases decide (a.2.2=b.2.2)<;>simp
theorem m09(a:H0):∀ l,(y01 a l).length<=2*l.length
 | []=>by simp[y01]
 |b::r=>by have:=f0k a b;have:=m09 a r;simp only[y01,List.length_append,List.length_cons];omega
def mvV(f:Int×Int)(v:Int):Int:=if v=f.2 then f.1 else if v>f.2 then v-1 else v
def mvE(f:Int×Int)(e:H0):H0:=(mvV f e.1,e.2.1,mvV f e.2.2)
def p00(g:j0)(f:Int×Int):j0:=(g.1,g.2.1-1,a6 P0 [] (g.2.2.map (mvE f)))
def okF(g:j0)(f:Int×Int):Prop:=0<=f.1/\f.1<f.2/\f.2<g.2.1
theorem H03{g:j0}{f:Int×Int}(hg:N0 g=true)(hf:okF g f):N0 (p00 g f)=true:=by
 obtain⟨q1,q2,q3,q4,_⟩:=(x04 g).1 hg
 obtain⟨f1,f2,f3⟩:=hf
 refine I02 q2 ⟨by omega,by omega⟩ (by simpa using q4) λe he=>?_
 obtain⟨e',he',rfl⟩:=List.mem_map.1 he
 obtain⟨a1,a2,a3⟩:=q1 e' he'
 have hm:∀ v:Int,0<=v/\v<g.2.1->0<=mvV f v/\mvV f v<g.2.1-1:=λv hv=>by
  unfold mvV;split
  ·omega
  ·split<;>omega
 exact⟨hm _ a1,hm _ a2,a3⟩
theorem g0g{g:j0}(hg:inG g){a:H0}(ha:a∈g.2.2):∀ {l:List H0},(∀ b∈l,b∈g.2.2/\a≠b)->∀ f∈y01 a l,okF g f
 | [],_,f,hf=>by simp[y01]at hf
 |b::r,h,f,hf=>by
  rcases List.mem_append.1 (show f∈l08 a b++y01 a r from hf)with hf|hf
  ·have hb:=hg b (h b mS).1
   have ha':=hg a ha
   have hne:=(h b mS).2
   obtain⟨a0,a1,a2⟩:=a
   obtain⟨b0,b1,b2⟩:=b
   simp only at ha' hb
   unfold l08 at hf
   simp only at hf
   by_cases c1:a1=b1
   ·have d1 : ¬ (a0=b0/\a2=b2):=λ⟨x,y⟩=>hne (by rw[x,c1,y])
    simp only[c1,decide_true,cond_true,List.mem_append]at hf
    rcases hf with hf|hf
    ·by_cases c2:a0=b0
     ·simp only[c2,decide_true,cond_true,List.mem_singleton]at hf
      subst hf
      have:a2≠b2:=λy=>d1 ⟨c2,y⟩
      unfold okF
      simp only
      split<;>split<;>omega
     ·simp[c2]at hf
    ·by_cases c2:a2=b2
     ·simp only[c2,decide_true,cond_true,List.mem_singleton]at hf
      subst hf
      have:a0≠b0:=λy=>d1 ⟨y,c2⟩
      unfold okF
      simp only
      split<;>split<;>omega
     ·simp[c2]at hf
   ·simp[c1]at hf
  ·exact g0g hg ha (λb' hb'=>h b' (mC _ hb')) f hf
theorem i0g{g:j0}(hg:inG g):∀ {l:List H0},(∀ b∈l,b∈g.2.2)->Asc P0 l->∀ f∈N7 l,okF g f
 | [],_,_,f,hf=>by simp[N7]at hf
 |a::r,h,hA,f,hf=>by
  rcases List.mem_append.1 (show f∈y01 a r++N7 r from hf)with hf|hf
  ·refine g0g hg (h a mS) (λb hb=>⟨h b (mC _ hb),λe=>?_⟩) f hf
   have:=(List.pairwise_cons.1 hA).1 b hb
   rw[e,g9.refl]at this;omega
  ·exact i0g hg (λb hb=>h b (mC _ hb)) (List.pairwise_cons.1 hA).2 f hf
theorem l03{g:j0}(hg:N0 g=true):∀ f∈N7 g.2.2,okF g f:=by
 obtain⟨q1,_,_,_,q5⟩:=(x04 g).1 hg
 exact i0g q1 (λ_ h=>h) q5
def U00:Nat->j0->j0×List (Int×Int)
 |0,g=>(g,[])
 |n+1,g=>match N7 g.2.2 with
  | []=>(g,[])
  |f::_=>((U00 n (p00 g f)).1,f::(U00 n (p00 g f)).2)
def E9(g:j0):j0×List (Int×Int):=bif N0 g then U00 40 g else(g,[])
theorem R09:∀(n:Nat) {g:j0},N0 g=true->N0 (U00 n g).1=true
 |0,g,h=>h
 |n+1,g,h=>by
  unfold U00
  cases e:N7 g.2.2 with
  |nil=>exact h
  |cons f l=>exact R09 n (H03 h (l03 h f (by rw[e];exact mS)))
theorem n07:∀(n:Nat) {g:j0},N0 g=true->g.2.1<=(n:Int)+1->N7 (U00 n g).1.2.2 = []
 |0,g,h,hn=>by
  cases e:N7 g.2.2 with
  |nil=>exact e
  |cons f l =>
   have:=l03 h f (by rw[e];exact mS)
   unfold okF at this
   omega
 |n+1,g,h,hn=>by
  unfold U00
  cases e:N7 g.2.2 with
  |nil=>exact e
  |cons f l=>exact n07 n (H03 h (l03 h f (by rw[e];exact mS))) (by show g.2.1-1<=_;omega)
theorem g0k(a b:H0):l08 a b = []↔k03 a b=false:=by
 unfold l08 k03
 cases decide (a.2.1=b.2.1)<;>cases decide (a.1=b.1)<;>cases decide (a.2.2=b.2.2)<;>simp
theorem l0d(a:H0):∀ l,y01 a l = []↔∀ b∈l,k03 a b=false
 | []=>by simp[y01]
 |b::r=>by
  rw[y01,List.append_eq_nil_iff,g0k,l0d a r]
  simp
theorem n09:∀ l,N7 l = []↔l.Pairwise λa b=>k03 a b=false
 | []=>by simp[N7]
 |a::r=>by rw[N7,List.append_eq_nil_iff,l0d,n09 r,List.pairwise_cons]
theorem M0b(g:j0):M0 g=true↔N0 g=true/\N7 g.2.2 = []:=by
 unfold M0
 rw[Bool.and_eq_true,g09,n09]
theorem m03{g:j0}(h:N0 g=true):M0 (E9 g).1=true:=by
 have hg:=(V0 h).2.2.1
 unfold E9
 rw[h]
 exact(M0b _).2 ⟨R09 40 h,n07 40 h (by omega)⟩
theorem m0d(l:List H0)(a0 a1 a2:Int)(hl:l.length<=1000):∀(d k fuel:Nat) (acc:List L4),k+d=l.length->d<fuel->acc.length+2*d<=4000000 ->
  U4 l a1 a0 a2 fuel (k:Int) acc=some (acc++y01 (a0,a1,a2) (l.drop k))
 |d,k,0,acc,hd,hf,ha=>by omega
 |0,k,fuel+1,acc,hd,hf,ha=>by
  rw[U4.eq_2,if_neg (by simp;omega),O2 (by omega)]
  simp[y01]
 |d+1,k,fuel+1,acc,hd,hf,ha=>by
  have hk:k<l.length:=by omega
  have hx:=l7 hk
  generalize l[k]=b at hx
  obtain⟨b0,b1,b2⟩:=b
  have ih:∀ acc':List L4,acc'.length+2*d<=4000000->U4 l a1 a0 a2 fuel ((k+1:Nat):Int) acc'=some (acc'++y01 (a0,a1,a2) (l.drop (k+1))):=λacc' h=>m0d l a0 a1 a2 hl d (k+1) fuel acc' (by omega) (by omega) h
  rw[U4.eq_2,if_pos (by simp;omega),Z3 hx,oB,U2 hk (by omega),V2 hx]
  simp only[y01,l08]
  cases decide (a1=b1)
  ·simp only[Bool.not_false,if_true,cond_false,List.nil_append]
   exact ih acc (by omega)
  ·cases decide (a0=b0)<;>cases decide (a2=b2)
   all_goals simp only[Bool.not_true,Bool.false_eq_true,if_false,if_true,cond_true,cond_false,List.nil_append,List.append_nil]
   ·exact ih acc (by omega)
   ·rw[D0 (by simp;omega),oB,ih _ (by simp;omega)];simp
   ·rw[D0 (by simp;omega),oB,ih _ (by simp;omega)];simp
   ·rw[D0 (by simp;omega),oB,D0 (by simp;omega),oB,ih _ (by simp;omega)];simp
theorem n0d(l:List H0)(hl:l.length<=1000):∀(d k fuel:Nat) (acc:List L4),k+d=l.length->d<fuel->acc.length+2000*d<=3000000 ->
  a8 l fuel (k:Int) acc=some (acc++N7 (l.drop k))
 |d,k,0,acc,hd,hf,ha=>by omega
 |0,k,fuel+1,acc,hd,hf,ha=>by
  rw[a8.eq_2,if_neg (by simp;omega),O2 (by omega)]
  simp[N7]
 |d+1,k,fuel+1,acc,hd,hf,ha=>by
  have hk:k<l.length:=by omega
  have hx:=l7 hk
  generalize l[k]=b at hx
  obtain⟨b0,b1,b2⟩:=b
  have h0:=m0d (l.drop (k+1)) b0 b1 b2 (by simp;omega) (l.length-(k+1)) 0 U0 acc (by simp) (P1 (by omega)) (by omega)
  have hr:=m09 (b0,b1,b2) (l.drop (k+1))
  simp only[List.length_drop]at hr
  rw[a8.eq_2,if_pos (by simp;omega),Z3 hx,oB]
  simp only[U2 hk (show l.length<=9223372036854775807 by omega)]
  rw[Y04 (by omega),oB,show(0:Int)=((0:Nat):Int) from rfl,h0,oB,n0d l hl d (k+1) fuel _ (by omega) (by omega) (by simp only[List.length_append,List.drop_zero,List.length_drop]at hr ⊢;omega),V2 hx,N7]
  simp
theorem o0d(l:List H0)(hl:l.length<=1000)(i:Nat)(a0 a1 a2:Int)(hi:l[i]?=some (a0,a1,a2)):∀(d k fuel:Nat) (acc:List L4),k+d=l.length->d<fuel->acc.length+2*d<=4000000 ->
  c4 l (i:Int) fuel (k:Int) acc=some (acc++y01 (a0,a1,a2) (l.drop k))
 |d,k,0,acc,hd,hf,ha=>by omega
 |0,k,fuel+1,acc,hd,hf,ha=>by
  rw[c4.eq_2,if_neg (by simp;omega),O2 (by omega)]
  simp[y01]
 |d+1,k,fuel+1,acc,hd,hf,ha=>by
  have hk:k<l.length:=by omega
  have hx:=l7 hk
  generalize l[k]=b at hx
  obtain⟨b0,b1,b2⟩:=b
  have ih:∀ acc':List L4,acc'.length+2*d<=4000000->c4 l (i:Int) fuel ((k+1:Nat):Int) acc'=some (acc'++y01 (a0,a1,a2) (l.drop (k+1))):=λacc' h=>o0d l hl i a0 a1 a2 hi d (k+1) fuel acc' (by omega) (by omega) h
  rw[c4.eq_2,if_pos (by simp;omega),Z3 hi,oB]
  simp only[]
  rw[Z3 hx,oB,U2 hk (by omega),V2 hx]
  simp only[y01,l08]
  cases decide (a1=b1)
  ·simp only[Bool.false_eq_true,if_false,cond_false,List.nil_append]
   exact ih acc (by omega)
  ·cases decide (a0=b0)<;>cases decide (a2=b2)
   all_goals simp only[Bool.not_true,Bool.false_eq_true,if_false,if_true,cond_true,cond_false,List.nil_append,List.append_nil]
   ·exact ih acc (by omega)
   ·rw[D0 (by simp;omega),oB,ih _ (by simp;omega)];simp
   ·rw[D0 (by simp;omega),oB,ih _ (by simp;omega)];simp
   ·rw[D0 (by simp;omega),oB,D0 (by simp;omega),oB,ih _ (by simp;omega)];simp
theorem p0d(l:List H0)(hl:l.length<=1000):∀(d k fuel:Nat) (acc:List L4),k+d=l.length->d<fuel->acc.length+2000*d<=3000000 ->
  W6 l fuel (k:Int) acc=some (acc++N7 (l.drop k))
 |d,k,0,acc,hd,hf,ha=>by omega
 |0,k,fuel+1,acc,hd,hf,ha=>by
  rw[W6.eq_2,if_neg (by simp;omega),O2 (by omega)]
  simp[N7]
 |d+1,k,fuel+1,acc,hd,hf,ha=>by
  have hk:k<l.length:=by omega
  have hx:=l7 hk
  generalize l[k]=b at hx
  obtain⟨b0,b1,b2⟩:=b
  have h0:=o0d l hl k b0 b1 b2 hx (l.length-(k+1)) (k+1) U0 acc (by omega) (P1 (by omega)) (by omega)
  have hr:=m09 (b0,b1,b2) (l.drop (k+1))
  simp only[List.length_drop]at hr
  rw[W6.eq_2,if_pos (by simp;omega),U2 hk (by omega),h0,oB,p0d l hl d (k+1) fuel _ (by omega) (by omega) (by simp only[List.length_append,List.length_drop]at hr ⊢;omega),V2 hx,N7]
  simp
theorem j0g(g:j0)(hl:g.2.2.length<=1000):H01 g=some (N7 g.2.2):=by
 obtain⟨r,n,es⟩:=g
 unfold H01
 simp only
 rw[show(0:Int)=((0:Nat):Int) from rfl,n0d es hl es.length 0 U0 [] (by omega) (P1 (by simp only at hl;omega)) (by simp only at hl;simp;omega)]
 rfl
theorem k0g(g:j0)(hl:g.2.2.length<=1000):C00 g=some (N7 g.2.2):=by
 obtain⟨r,n,es⟩:=g
 unfold C00
 simp only
 rw[show(0:Int)=((0:Nat):Int) from rfl,p0d es hl es.length 0 U0 [] (by omega) (P1 (by simp only at hl;omega)) (by simp only at hl;simp;omega)]
 rfl
def z01(g:j0):L4×Bool:=bif N0 g then(match N7 g.2.2 with
 | []=>((0,0),false)
 |f::_=>(f,true))else((0,0),false)
theorem Y09(g:j0)(hl:g.2.2.length<=140737488355328):C8 g=some (z01 g):=by
 have h1:=r9 g hl
 have h2:=j0g g
 unfold z01
 cases hg:N0 g with
 |false =>
  obtain⟨r,n,es⟩:=g
  unfold C8
  simp only[h1,hg,oB];rfl
 |true =>
  have h2:=h2 (by have:=(V0 hg).2.2.2;omega)
  obtain⟨r,n,es⟩:=g
  unfold C8
  simp only[h1,hg,h2,oB,cond_true]
  simp only at h2
  cases N7 es with
  |nil=>rfl
  |cons f l =>
   rw[if_neg (by simp),if_neg (by simp;omega),o0b rfl]
   rfl
theorem Z09(g:j0)(hl:g.2.2.length<=140737488355328):F8 g=some (z01 g):=by
 have h1:=Z6 g hl
 have h2:=k0g g
 unfold z01
 cases hg:N0 g with
 |false =>
  obtain⟨r,n,es⟩:=g
  unfold F8
  simp only[h1,hg,oB];rfl
 |true =>
  have h2:=h2 (by have:=(V0 hg).2.2.2;omega)
  obtain⟨r,n,es⟩:=g
  unfold F8
  simp only[h1,hg,h2,oB,cond_true]
  simp only at h2
  cases N7 es with
  |nil=>rfl
  |cons f l =>
   rw[if_neg (by simp),if_neg (by simp;omega),o0b rfl]
   rfl
theorem c0j(v:Int)(f:L4)(hv:0<=v/\v<1000)(hf:0<=f.1/\f.1<f.2):P00 v f=some (mvV f v):=by
 obtain⟨a,b⟩:=f
 simp only at hf
 unfold P00 mvV
 simp only
 by_cases c:v=b
 ·rw[if_pos (by simp[c]),if_neg (by simp;omega),if_pos c]
 ·rw[if_neg (by simp[c]),if_neg c]
  by_cases c2:v>b
  ·rw[if_pos (by simp[c2]),if_pos c2,w64 (by omega) (by omega)]
  ·rw[if_neg (by simp;omega),if_neg c2]
theorem l0g(v:Int)(f:L4)(hv:0<=v/\v<1000):V5 v f=some (mvV f v):=by
 obtain⟨a,b⟩:=f
 unfold V5 mvV
 simp only
 by_cases c:v=b
 ·rw[if_pos (by simp[c]),if_pos c]
 ·rw[if_neg (by simp[c]),if_neg c]
  by_cases c2:v>b
  ·rw[if_pos (by simp[c2]),if_pos c2,w64 (by omega) (by omega)]
  ·rw[if_neg (by simp;omega),if_neg c2]
theorem v0e{f:L4}{v:Int}(hv:0<=v/\v<1000)(hf:0<=f.1/\f.1<1000):O0 (mvV f v):=by
 unfold mvV
 split
 ·exact⟨by omega,by omega⟩
 ·split
  ·exact⟨by omega,by omega⟩
  ·exact⟨by omega,by omega⟩
theorem m0g(es:List H0)(f:L4)(r n:Int)(hl:es.length<=1000)(hv:∀ e∈es,(0<=e.1/\e.1<1000)/\(0<=e.2.2/\e.2.2<1000))(hf:0<=f.1/\f.1<f.2)(hf2:f.2<1000):∀(d k fuel:Nat) (acc:List H0),k+d=es.length->d<fuel->acc.length<=k ->
  E4 es f.1 f.2 fuel (k:Int) r n acc=some (r,n,a6 P0 acc ((es.drop k).map (mvE f)))
 |d,k,0,acc,hd,hfu,ha=>by omega
 |0,k,fuel+1,acc,hd,hfu,ha=>by
  rw[E4.eq_2,if_neg (by simp;omega),O2 (by omega)]
  rfl
 |d+1,k,fuel+1,acc,hd,hfu,ha=>by
  have hk:k<es.length:=by omega
  have hx:=l7 hk
  have hvk:=hv _ (List.getElem_mem hk)
  generalize es[k]=b at hx hvk
  obtain⟨b0,b1,b2⟩:=b
  simp only at hvk
  have hln:=Y01 (mvE f (b0,b1,b2)) acc
  rw[E4.eq_2,if_pos (by simp;omega),Z3 hx,oB]
  simp only[]
  rw[c0j b0 (f.1,f.2) hvk.1 hf,oB,D0 (v0e hvk.1 ⟨hf.1,by show f.1<1000;omega⟩),oB,c0j b2 (f.1,f.2) hvk.2 hf,oB,D0 (v0e hvk.2 ⟨hf.1,by show f.1<1000;omega⟩),oB,
   q0a acc _ (by omega),oB,U2 hk (by omega),V2 hx,List.map_cons]
  exact m0g es f r n hl hv hf hf2 d (k+1) fuel _ (by omega) (by omega) (Nat.le_trans hln (by omega))
theorem n0g{g:j0}{f:L4}(hg:N0 g=true)(hf:okF g f):Y6 g f=some (p00 g f,true):=by
 obtain⟨q1,q2,q3,q4⟩:=V0 hg
 have h1:=Z6 g (by omega)
 obtain⟨f1,f2,f3⟩:=hf
 obtain⟨r,n,es⟩:=g
 obtain⟨a,b⟩:=f
 simp only at f1 f2 f3 q3 q4
 have h:=m0g es (a,b) r (IntKind.i64.wrap (n-1)) (by omega) (λe he=>by
  have:=q1 e he
  simp only at this
  exact⟨⟨by omega,by omega⟩,by omega,by omega⟩) ⟨f1,f2⟩ (by simp only;omega) es.length 0 U0 [] (by omega) (P1 (by omega)) (Nat.le_refl _)
 unfold Y6
 simp only[h1,hg,oB]
 rw[if_neg (by simp;omega),show(0:Int)=((0:Nat):Int) from rfl,h,w64 (by omega) (by omega)]
 rfl
theorem o0g(es:List H0)(f:L4)(hl:es.length<=1000)(hv:∀ e∈es,(0<=e.1/\e.1<1000)/\(0<=e.2.2/\e.2.2<1000))(hf:0<=f.1/\f.1<1000):∀(d k fuel:Nat),k+d=es.length->d<fuel ->
  D4 es f.1 f.2 fuel (k:Int) ((es.take k).map (mvE f)++es.drop k)=some (es.map (mvE f))
 |d,k,0,hd,hfu=>by omega
 |0,k,fuel+1,hd,hfu=>by
  rw[D4.eq_2,if_neg (by simp;omega),O2 (by omega),List.append_nil,List.take_of_length_le (by omega)]
 |d+1,k,fuel+1,hd,hfu=>by
  have hk:k<es.length:=by omega
  have hx:=l7 hk
  have hvk:=hv _ (List.getElem_mem hk)
  generalize es[k]=b at hx hvk
  have htl:((es.take k).map (mvE f)).length=k:=by simp;omega
  have hg:((es.take k).map (mvE f)++es.drop k)[k]?=some b:=by
   rw[List.getElem?_append_right (by omega),htl,V2 hx];simp
  have hs:∀ y,((es.take k).map (mvE f)++es.drop k).set k y=(es.take k).map (mvE f)++y::es.drop (k+1):=λy=>by
   rw[List.set_append_right _ _ (by omega),htl,V2 hx];simp
  obtain⟨b0,b1,b2⟩:=b
  simp only at hvk
  have e:(es.take (k+1)).map (mvE f)++es.drop (k+1)=(es.take k).map (mvE f)++mvE f (b0,b1,b2)::es.drop (k+1):=by
   rw[V0f hx];simp
  have ih:=o0g es f hl hv hf d (k+1) fuel (by omega) (by omega)
  rw[e]at ih
  rw[D4.eq_2,if_pos (by simp;omega),Z3 hg,oB]
  simp only[]
  rw[l0g b0 (f.1,f.2) hvk.1,oB,D0 (v0e hvk.1 hf),oB,l0g b2 (f.1,f.2) hvk.2,oB,D0 (v0e hvk.2 hf),oB]
  simp only[oB]
  rw[show((k:Nat):Int).toNat=k from Int.toNat_natCast k,hs,U2 hk (by omega)]
  exact ih
theorem p0g{g:j0}{f:L4}(hg:N0 g=true)(hf:okF g f):S6 g f=some (p00 g f,true):=by
 obtain⟨q1,q2,q3,q4⟩:=V0 hg
 have h1:=r9 g (by omega)
 have h2:=S9 g (by omega)
 obtain⟨f1,f2,f3⟩:=hf
 obtain⟨r,n,es⟩:=g
 obtain⟨a,b⟩:=f
 simp only at f1 f2 f3 q3 q4
 have h:=o0g es (a,b) (by omega) (λe he=>by
  have:=q1 e he
  simp only at this
  exact⟨⟨by omega,by omega⟩,by omega,by omega⟩) ⟨f1,by simp only;omega⟩ es.length 0 U0 (by omega) (P1 (by omega))
 simp only[List.take_zero,List.map_nil,List.nil_append,List.drop_zero]at h
 unfold S6
 simp only[h1,h2,hg,oB]
 rw[if_neg (by simp;omega),show(0:Int)=((0:Nat):Int) from rfl,h,oB,g08 _ (by simp;omega),oB,w64 (by omega) (by omega)]
 rfl
def E00(g:j0):j0×L4×Bool:=bif N0 g then(match N7 g.2.2 with
 | []=>(g,(0,0),false)
 |f::_=>(p00 g f,f,true))else(g,(0,0),false)
theorem U05(g:j0)(hl:g.2.2.length<=1099511627776):b00 g=some (E00 g):=by
 have h1:=Z09 g (by omega)
 have h2:=R9 g hl
 have h3:∀ f,N0 g=true->okF g f->Y6 g f=some (p00 g f,true):=λf a b=>n0g a b
 have h4:N0 g=true->∀ f∈N7 g.2.2,okF g f:=l03
 unfold z01 at h1
 unfold E00
 obtain⟨r,n,es⟩:=g
 unfold b00
 simp only[h1,oB]
 cases hg:N0 (r,n,es)with
 |false=>simp only[cond_false,Bool.not_false,if_true,h2,oB]
 |true =>
  simp only[cond_true]
  simp only at h4
  cases e:N7 es with
  |nil=>simp only[Bool.not_false,if_true,h2,oB]
  |cons f l =>
   simp only[Bool.not_true,Bool.false_eq_true,if_false,h3 f hg (h4 hg f (by rw[e];exact mS)),oB]
theorem V05(g:j0)(hl:g.2.2.length<=1099511627776):Y9 g=some (E00 g):=by
 have h1:=Y09 g (by omega)
 have h2:=S9 g hl
 have h3:∀ f,N0 g=true->okF g f->S6 g f=some (p00 g f,true):=λf a b=>p0g a b
 have h4:N0 g=true->∀ f∈N7 g.2.2,okF g f:=l03
 unfold z01 at h1
 unfold E00
 obtain⟨r,n,es⟩:=g
 unfold Y9
 simp only[h1,oB]
 cases hg:N0 (r,n,es)with
 |false=>simp only[cond_false,Bool.not_false,if_true,h2,oB]
 |true =>
  simp only[cond_true]
  simp only at h4
  cases e:N7 es with
  |nil=>simp only[Bool.not_false,if_true,h2,oB]
  |cons f l =>
   simp only[Bool.not_true,Bool.false_eq_true,if_false,h3 f hg (h4 hg f (by rw[e];exact mS)),oB]
def x0o:(j0×W7) ⊕ (Int×Int×K0×(List L4))->Option (j0×W7):=λX=>W8 X (λS=>match S with
 |(a,b,c,e)=>some ((a,b,c),e))
theorem N0b:∀(d k fuel:Nat) (g:j0) (acc:List L4),k+d=40->d<fuel->N0 g=true->acc.length=k ->
  (W5 fuel (k:Int) g.1 g.2.1 g.2.2 acc).bind x0o=some ((U00 d g).1,acc++(U00 d g).2)
 |d,k,0,g,acc,hd,hf,hg,ha=>by omega
 |0,k,fuel+1,g,acc,hd,hf,hg,ha=>by
  rw[W5.eq_2,if_neg (by simp;omega)]
  simp[x0o,W8,U00]
 |d+1,k,fuel+1,g,acc,hd,hf,hg,ha=>by
  have h1:=U05 g (by have:=(V0 hg).2.2.2;omega)
  have h4:=l03 hg
  unfold E00 at h1
  rw[hg]at h1
  simp only[cond_true]at h1
  rw[W5.eq_2,if_pos (by simp;omega),show(g.1,g.2.1,g.2.2)=g from rfl,h1]
  unfold U00
  cases e:N7 g.2.2 with
  |nil=>simp[x0o,W8]
  |cons f l =>
   have ih:=N0b d (k+1) fuel (p00 g f) (acc ++ [f]) (by omega) (by omega) (H03 hg (h4 f (by rw[e];exact mS))) (by simp[ha])
   simp only[oB,Bool.not_true,Bool.false_eq_true,if_false]
   rw[D0 (by simp;omega),oB,U2 (show k<1000 by omega) (by omega)]
   refine ih.trans ?_
   simp
theorem o0c(g:j0)(hl:g.2.2.length<=1099511627776):D00 g=some (E9 g):=by
 have h1:=U05 g hl
 have h2:=R9 g hl
 have h3:=N0b 40 0 U0 g [] rfl (P1 (by omega))
 unfold E9
 obtain⟨r,n,es⟩:=g
 unfold D00
 simp only[h2,oB]
 cases hg:N0 (r,n,es)with
 |false =>
  unfold E00 at h1
  rw[hg]at h1
  simp only[cond_false]at h1
  rw[show U0=(U0-1)+1 from rfl,W5.eq_2,if_pos (by simp),h1]
  rfl
 |true=>exact h3 hg rfl
theorem O0b:∀(d fuel:Nat) (g:j0) (acc:List L4),d<fuel->N0 g=true->N7 (U00 d g).1.2.2 = []->acc.length+d<=1000 ->
  T6 fuel g.1 g.2.1 g.2.2 acc=some (.inl ((U00 d g).1,acc++(U00 d g).2))
 |d,0,g,acc,hf,hg,hn,ha=>by omega
 |d,fuel+1,g,acc,hf,hg,hn,ha=>by
  have h1:=V05 g (by have:=(V0 hg).2.2.2;omega)
  have h4:=l03 hg
  unfold E00 at h1
  rw[hg]at h1
  simp only[cond_true]at h1
  rw[T6.eq_2,show(g.1,g.2.1,g.2.2)=g from rfl,h1]
  cases e:N7 g.2.2 with
  |nil =>
   have e2:U00 d g=(g,[]):=by
    cases d with
    |zero=>rfl
    |succ d=>unfold U00;rw[e]
   rw[e2]
   simp
  |cons f l =>
   cases d with
   |zero=>exact absurd e (by rw[show N7 g.2.2 = [] from hn];simp)
   |succ d =>
    have e2:U00 (d+1) g=((U00 d (p00 g f)).1,f::(U00 d (p00 g f)).2):=by
     show(match N7 g.2.2 with | []=>(g,[])|f::_=>((U00 d (p00 g f)).1,f::(U00 d (p00 g f)).2))=_
     rw[e]
    rw[e2]at hn ⊢
    have ih:=O0b d fuel (p00 g f) (acc ++ [f]) (by omega) (H03 hg (h4 f (by rw[e];exact mS))) hn (by simp;omega)
    simp only[oB,Bool.not_true,Bool.false_eq_true,if_false]
    rw[D0 (by simp;omega),oB]
    refine ih.trans ?_
    simp
theorem p0c(g:j0)(hl:g.2.2.length<=1099511627776):z00 g=some (E9 g):=by
 have h1:=V05 g hl
 have h2:=S9 g hl
 have h3:=O0b 40 U0 g [] (P1 (by omega))
 have h5:N0 g=true->N7 (U00 40 g).1.2.2 = []:=λhg=>n07 40 hg (by have:=(V0 hg).2.2.1;omega)
 unfold E9
 obtain⟨r,n,es⟩:=g
 unfold z00
 simp only[h2,oB]
 cases hg:N0 (r,n,es)with
 |false =>
  unfold E00 at h1
  rw[hg]at h1
  simp only[cond_false]at h1
  rw[show U0=(U0-1)+1 from rfl,T6.eq_2,h1]
  rfl
 |true =>
  have h:=h3 hg (h5 hg) (by simp)
  simp only at h
  rw[h]
  rfl
def stp(u x v:Int):H0:=if x<0 then(v,-x,u)else(u,x,v)
theorem y0o(u x v:Int)(hx:C9 x):K9 u x v=some (stp u x v):=by
 unfold K9 stp
 by_cases c:x<0
 ·rw[if_pos (by simp[c]),if_pos c,B0i hx.1 hx.2]
 ·rw[if_neg (by simp;omega),if_neg c]
theorem y0h{es p:List H0}(hA:Asc P0 es):a6 P0 [] (es++p)=a6 P0 es p :=
 j0b g9 (i03 g9 _ _ .nil) (i03 g9 _ _ hA) λx=>by
  rw[Q9 g9,Q9 g9];simp
theorem q0g:∀(d i:Nat) (x:Int),x∈K4 d i->∃ j:Nat,i<=j/\j<i+d/\(x=(j:Int)∨x = -(j:Int))
 |0,i,x,h=>by simp[K4]at h
 |d+1,i,x,h=>by
  simp only[K4,List.mem_cons]at h
  rcases h with rfl|rfl|h
  ·exact⟨i,Nat.le_refl _,by omega,.inl rfl⟩
  ·exact⟨i,Nat.le_refl _,by omega,.inr rfl⟩
  ·obtain⟨j,h1,h2,h3⟩:=q0g d (i+1) x h
   exact⟨j,by omega,by omega,h3⟩
def ng(x:Int):Int:=IntKind.i64.wrap (0-x)
def x0n(l x:Int):Bool := !(l == 0) && !(l == -9223372036854775808)&&(x == ng l)
def Red:List Int->Bool
 | []=>true
 | [_]=>true
 |x::l::t => !x0n l x&&Red (l::t)
end Go.Proofs.YtkjhghloldgioaaGreat
