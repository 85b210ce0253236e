/- Texts of the claim, joined: Plain laws: words and presentations, as the spec and the cod and others. -/
import Derived.Test.YtkjhghloldgioaaGreatPart18
import Derived.Test.YtkjhghloldgioaaGreatH33
import Derived.Test.YtkjhghloldgioaaGreatH36
import Derived.Test.YtkjhghloldgioaaGreatPart17
namespace Go.Proofs.YtkjhghloldgioaaGreat
open Go.H
set_option linter.unusedVariables false
set_option linter.unusedSimpArgs false
theorem D1{n:Nat}(h:n<=140737488355328):n<T0:=by unfold T0;omega
theorem H0{p:Prop}[Decidable p](h:p):grd p=some ():=by unfold grd;rw[if_pos h]
theorem O1{α:Type}(o:Option α)(d:α):chk true o d=o:=rfl
theorem n4{α:Type}(o:Option α)(d:α):chk false o d=some d:=rfl
theorem d4{α:Type}{xs:List α}{k:Nat}{x:α}(h:xs[k]?=some x):gi xs (k:Int)=some x:=by rw[s08];exact h
theorem v08{α:Type}{xs:List α}{x:α}(h:xs[0]?=some x):gi xs 0=some x:=d4 (k:=0) h
theorem j0k{x:Int}(h:P0 x)(h2:x ≠ -9223372036854775808):IntKind.i64.wrap (0-x) = -x:=by rw[w64 (by have:=h.1;have:=h.2;omega) (by have:=h.1;have:=h.2;omega)];omega
theorem I0h{n:Nat}(h:0<n)(hm:n<=9223372036854775807):IntKind.i64.wrap ((n:Int)-1)=((n-1:Nat):Int):=by rw[w64 (by omega) (by omega)];omega
theorem Q7{α:Type}{xs:List α}{k:Nat}(h:k<xs.length):xs[k]?=some xs[k]:=List.getElem?_eq_getElem h
def inR(lo hi x:Int):Bool:=decide (lo<=x)&&decide (x<=hi)
theorem m03(a b c:Int):D5 a b c=some (inR b c a):=by
 unfold D5 inR
 by_cases h:b<=a<;>simp[h]
theorem k05(a b c:Int):N8 a b c=some (inR b c a):=m03 a b c
theorem L0d(y x:Int):H8 y x=some (!(y == 0) && !(y == -9223372036854775808)&&(x == IntKind.i64.wrap (0-y))):=by
 unfold H8
 by_cases h0:y=0
 ·simp[h0]
 ·by_cases h1:y = -9223372036854775808
  ·simp[h1]
  ·simp only[h0,h1,decide_false,Bool.not_false,cond_true,Option.some.injEq]
   have b2:(y == 0)=false:=by simpa using h0
   have b3:(y == -9223372036854775808)=false:=by simpa using h1
   rw[b2,b3]
   rfl
def tot:List (List Int)->Nat
 | []=>0
 |w::r=>w.length+tot r
theorem Z2{α:Type}{xs:List α}{k:Nat}{x:α}(h:xs[k]?=some x):xs.drop k=x::xs.drop (k+1):=by
 obtain⟨hk,rfl⟩:=List.getElem?_eq_some_iff.1 h
 exact List.drop_eq_getElem_cons hk
theorem D2{α:Type}{xs:List α}{k:Nat}(h:k=xs.length):xs.drop k = []:=by rw[h];exact List.drop_length
def n03(r hi:Int)(e:I0):Bool:=inR 0 hi e.1&&inR 0 hi e.2.2&&inR 1 r e.2.1
def N0a(e f:I0):Int:=S0 e f
theorem O0a(e f:I0):N0a e f=if C7 e.1 f.1≠0 then C7 e.1 f.1 else if C7 e.2.1 f.2.1≠0 then C7 e.2.1 f.2.1 else C7 e.2.2 f.2.2:=rfl
theorem l04(a b:Int):(a<b/\C7 a b = -1)∨(a>b/\C7 a b=1)∨(a=b/\C7 a b=0):=by
 unfold C7
 split
 ·omega
 ·split<;>omega
theorem R09(e f:I0):P0 (N0a e f):=by
 rw[O0a]
 split
 ·exact K0d _ _
 ·split<;>exact K0d _ _
theorem k0k(g:j0)(e:I0):r00 g e=some (n03 g.1 (IntKind.i64.wrap (g.2.1-1)) e):=by
 obtain⟨r,n,es⟩:=g
 obtain⟨a,l,b⟩:=e
 unfold r00 n03
 simp only[m03,oB]
 cases inR 0 (IntKind.i64.wrap (n-1)) a with
 |false=>rfl
 |true =>
  cases inR 0 (IntKind.i64.wrap (n-1)) b with
  |false=>rfl
  |true=>simp[chk]
theorem v09(g:j0)(e:I0):n7 g e=some (n03 g.1 (IntKind.i64.wrap (g.2.1-1)) e):=by
 obtain⟨r,n,es⟩:=g
 obtain⟨a,l,b⟩:=e
 unfold n7 U3 n03
 simp only[k05,oB]
 cases inR 0 (IntKind.i64.wrap (n-1)) a with
 |false=>rfl
 |true =>
  cases inR 0 (IntKind.i64.wrap (n-1)) b with
  |false=>rfl
  |true=>simp[chk]
theorem z00(e f:I0):H6 e f=some (N0a e f):=by
 obtain⟨a,l,b⟩:=e
 obtain⟨a',l',b'⟩:=f
 unfold H6
 rw[show T0=(T0-4)+1+1+1+1 from rfl]
 have w1:IntKind.i64.wrap (0+1)=1:=by decide
 have w2:IntKind.i64.wrap (1+1)=2:=by decide
 have w3:IntKind.i64.wrap (2+1)=3:=by decide
 have g0:∀ x y z:Int,gi [x,y,z] 0=some x:=λ_ _ _=>rfl
 have g1:∀ x y z:Int,gi [x,y,z] 1=some y:=λ_ _ _=>rfl
 have g2:∀ x y z:Int,gi [x,y,z] 2=some z:=λ_ _ _=>rfl
 have d0:decide ((0:Int)<3)=true:=rfl
 have d1:decide ((1:Int)<3)=true:=rfl
 have d2:decide ((2:Int)<3)=true:=rfl
 have d3:decide ((3:Int)<3)=false:=rfl
 simp only[J5.eq_2,w1,w2,w3,g0,g1,g2,d0,d1,d2,d3,if_true,oB,Bool.false_eq_true,if_false]
 rw[O0a]
 simp only
 rcases l04 a a' with⟨h,e⟩|⟨h,e⟩|⟨h,e⟩
 ·simp[e,h,l9]
 ·have : ¬ a<a':=by omega
  simp[e,h,this,l9]
 ·subst h
  rcases l04 l l' with⟨h,e2⟩|⟨h,e2⟩|⟨h,e2⟩
  ·simp[e,e2,h,l9]
  ·have : ¬ l<l':=by omega
   simp[e,e2,h,this,l9]
  ·subst h
   rcases l04 b b' with⟨h,e3⟩|⟨h,e3⟩|⟨h,e3⟩
   ·simp[e,e2,e3,h,l9]
   ·have : ¬ b<b':=by omega
    simp[e,e2,e3,h,this,l9]
   ·subst h
    simp[e,e2,e3,l9]
theorem R0i(a b:Int):R5 a b=some (C7 a b):=by
 unfold R5 C7
 by_cases h:a<b
 ·simp[h]
 ·by_cases h2:a>b<;>simp[h,h2]
theorem D02(e f:I0):K7 e f=some (N0a e f):=by
 obtain⟨a,l,b⟩:=e
 obtain⟨a',l',b'⟩:=f
 rw[O0a]
 unfold K7
 simp only[R0i,oB,H0 (K0d _ _)]
 by_cases h1:C7 a a'=0
 ·by_cases h2:C7 l l'=0
  ·simp[h1,h2]
  ·simp[h1,h2]
 ·simp[h1]
def l0k(r hi:Int)(es:List I0)(k:Nat):Bool:=match es[k]? with
 |none=>true
 |some e => !n03 r hi e || (decide (0<k)&&match es[k-1]? with
  |none=>true
  |some f=>decide (N0a f e ≥ 0))
def okE(r hi:Int)(es:List I0):Nat->Nat->Bool
 |0,_=>true
 |d+1,k => !l0k r hi es k&&okE r hi es d (k+1)
def Z0(g:j0):Bool:=okE g.1 (IntKind.i64.wrap (g.2.1-1)) g.2.2 g.2.2.length 0&&inR 1 3 g.1&&inR 1 40 g.2.1&&decide (g.2.2.length<=120)
theorem t07{r hi:Int}{es:List I0}{k:Nat}{e:I0}(hx:es[k]?=some e):l0k r hi es k=(!n03 r hi e || (decide (0<k)&&match es[k-1]? with
  |none=>true
  |some f=>decide (N0a f e ≥ 0))):=by unfold l0k;rw[hx]
theorem c03(r n:Int)(es:List I0)(hl:es.length<=140737488355328):∀(d k fuel:Nat),k+d=es.length->d<fuel ->
  U5 es r n fuel (k:Int)=some (bif okE r (IntKind.i64.wrap (n-1)) es d k then .inr ()else .inl false)
 |d,k,0,hk,hf=>by omega
 |0,k,fuel+1,hk,hf=>by
  rw[U5.eq_2,if_neg (by simp;omega)]
  simp[okE]
 |d+1,k,fuel+1,hk,hf=>by
  have hkl:k<es.length:=by omega
  have hx:=Q7 hkl
  generalize es[k]=e at hx
  obtain⟨e0,e1,e2⟩:=e
  have next:=c03 r n es hl d (k+1) fuel (by omega) (by omega)
  rw[U5.eq_2,if_pos (by simp;omega),d4 hx,oB]
  simp only[k0k,oB,J2 hkl (by omega:es.length<=9223372036854775807),next,okE,t07 hx]
  generalize IntKind.i64.wrap (n-1)=hi
  cases hin:n03 r hi (e0,e1,e2)with
  |false=>simp[chk,grd,P0]
  |true =>
   by_cases hk0:k=0
   ·have ek:decide ((k:Int)>0)=false:=by simp;omega
    have bk:decide (0<k)=false:=by simp;omega
    simp only[ek,bk,n4,Bool.not_true,Bool.not_false,Bool.and_true,Bool.false_and,Bool.or_self,Bool.true_and,cond_true,cond_false,oB,Bool.or_false,Bool.false_eq_true,if_false,H0 (show P0 0 by decide)]
   ·have hy:=Q7 (show k-1<es.length by omega)
    generalize es[k-1]=f at hy
    obtain⟨f0,f1,f2⟩:=f
    have hpr:IntKind.i64.wrap ((k:Int)-1)=((k-1:Nat):Int):=I0h (by omega) (by omega)
    have ek:decide ((k:Int)>0)=true:=by simp;omega
    have bk:decide (0<k)=true:=by simp;omega
    simp only[ek,bk,hpr,hy,d4 hx,d4 hy,O1,Bool.not_true,Bool.not_false,Bool.and_true,Bool.false_and,Bool.or_self,Bool.true_and,cond_true,cond_false,oB,Bool.or_false,Bool.false_or,z00,H0 (R09 _ _)]
    cases decide (N0a (f0,f1,f2) (e0,e1,e2) ≥ 0)<;>rfl
theorem V7(g:j0)(hl:g.2.2.length<=140737488355328):O4 g=some (Z0 g):=by
 obtain⟨r,n,es⟩:=g
 unfold O4 Z0
 simp only at hl ⊢
 have h:=c03 r n es hl es.length 0 T0 (by omega) (D1 hl)
 rw[show((0:Nat):Int)=0 from rfl]at h
 rw[h,oB]
 cases okE r (IntKind.i64.wrap (n-1)) es es.length 0 with
 |false=>simp[l9]
 |true =>
  rw[cond_true,U0,m03,m03,oB]
  cases inR 1 3 r with
  |false=>simp[chk]
  |true =>
   simp only[O1,oB,cond_true,Bool.true_and]
   cases inR 1 40 n with
   |false=>simp
   |true=>simp;omega
theorem d03(r n:Int)(es:List I0)(hl:es.length<=140737488355328):∀(d k fuel:Nat),k+d=es.length->d<fuel ->
  V5 es r n fuel (k:Int)=some (bif okE r (IntKind.i64.wrap (n-1)) es d k then .inr ()else .inl false)
 |d,k,0,hk,hf=>by omega
 |0,k,fuel+1,hk,hf=>by
  rw[V5.eq_2,if_neg (by simp;omega)]
  simp[okE]
 |d+1,k,fuel+1,hk,hf=>by
  have hkl:k<es.length:=by omega
  have hx:=Q7 hkl
  generalize es[k]=e at hx
  obtain⟨e0,e1,e2⟩:=e
  have next:=d03 r n es hl d (k+1) fuel (by omega) (by omega)
  rw[V5.eq_2,if_pos (by simp;omega),d4 hx,oB]
  simp only[v09,oB,J2 hkl (by omega:es.length<=9223372036854775807),next,okE,t07 hx]
  generalize IntKind.i64.wrap (n-1)=hi
  cases hin:n03 r hi (e0,e1,e2)with
  |false=>simp[chk,grd,P0]
  |true =>
   by_cases hk0:k=0
   ·have ek:decide ((k:Int)>0)=false:=by simp;omega
    have bk:decide (0<k)=false:=by simp;omega
    simp only[ek,bk,n4,Bool.not_true,Bool.not_false,Bool.and_true,Bool.false_and,Bool.or_self,Bool.true_and,cond_true,cond_false,oB,Bool.or_false,Bool.false_eq_true,if_false,H0 (show P0 0 by decide)]
   ·have hy:=Q7 (show k-1<es.length by omega)
    generalize es[k-1]=f at hy
    obtain⟨f0,f1,f2⟩:=f
    have hpr:IntKind.i64.wrap ((k:Int)-1)=((k-1:Nat):Int):=I0h (by omega) (by omega)
    have ek:decide ((k:Int)>0)=true:=by simp;omega
    have bk:decide (0<k)=true:=by simp;omega
    simp only[ek,bk,hpr,hy,d4 hx,d4 hy,O1,Bool.not_true,Bool.not_false,Bool.and_true,Bool.false_and,Bool.or_self,Bool.true_and,cond_true,cond_false,oB,Bool.or_false,Bool.false_or,D02,H0 (R09 _ _)]
    cases decide (N0a (f0,f1,f2) (e0,e1,e2) ≥ 0)<;>rfl
theorem s00(g:j0)(hl:g.2.2.length<=140737488355328):o7 g=some (Z0 g):=by
 obtain⟨r,n,es⟩:=g
 unfold o7 Z0
 simp only at hl ⊢
 rw[k05,k05,oB]
 cases hr:inR 1 3 r with
 |false=>simp[chk]
 |true =>
  simp only[Bool.not_true,Bool.not_false,O1,oB,cond_false]
  cases hn:inR 1 40 n with
  |false=>simp
  |true =>
   by_cases h120:es.length<=120
   ·have h:=d03 r n es hl es.length 0 T0 (by omega) (D1 hl)
    rw[show((0:Nat):Int)=0 from rfl]at h
    have e1:decide (((es.length:Nat):Int)>120)=false:=by simp;omega
    have e2:decide (es.length<=120)=true:=by simpa using h120
    simp only[e1,e2,Bool.not_true,cond_false,Bool.false_eq_true,if_false,h,oB]
    cases okE r (IntKind.i64.wrap (n-1)) es es.length 0<;>rfl
   ·have e1:decide (((es.length:Nat):Int)>120)=true:=by simp;omega
    have e2:decide (es.length<=120)=false:=by simpa using h120
    simp only[e1,e2,Bool.not_true,cond_false,if_true,Bool.and_false]
theorem C0g{r hi:Int}{es:List I0}:∀ {d k:Nat},okE r hi es d k=true->∀ i,k<=i->i<k+d->l0k r hi es i=false
 |0,k,h,i,h1,h2=>by omega
 |d+1,k,h,i,h1,h2=>by
  simp only[okE,Bool.and_eq_true,Bool.not_eq_true']at h
  by_cases e:i=k
  ·subst e;exact h.1
  ·exact C0g h.2 i (by omega) (by omega)
theorem f0f{n:Nat}(h:n<=9223372036854775807):n<T0:=by unfold T0;omega
def goI(x:Int):List Int->Bool×List Int
 | []=>(false,[])
 |y::l=>if x<y then(true,x::y::l)else if y=x then(true,y::l)else((goI x l).1,y::(goI x l).2)
theorem J0h(x:Int):∀ l,e00 C7 x l=bif(goI x l).1 then(goI x l).2 else(goI x l).2 ++ [x]
 | []=>rfl
 |y::l=>by
  have ih:=J0h x l
  unfold e00 goI
  rcases l04 x y with⟨h,e⟩|⟨h,e⟩|⟨h,e⟩
  ·rw[e,if_pos (by omega),if_pos h];rfl
  ·rw[e,if_neg (by omega),if_neg (by omega),if_neg (by omega),if_neg (by omega),ih]
   cases (goI x l).1<;>rfl
  ·rw[e,if_neg (by omega),if_pos rfl,if_neg (by omega),if_pos h.symm];rfl
theorem P0a(l:List Int)(w:Int)(hl:l.length<=1099511627776):∀(d k fuel:Nat) (acc:List Int),k+d=l.length->d<fuel->acc.length<=k+1 ->
  Y3 l w fuel true (k:Int) acc=some (true,acc++l.drop k)
 |d,k,0,acc,hd,hf,ha=>by omega
 |0,k,fuel+1,acc,hd,hf,ha=>by
  rw[Y3.eq_2,if_neg (by simp;omega),D2 (by omega),List.append_nil]
 |d+1,k,fuel+1,acc,hd,hf,ha=>by
  have hk:k<l.length:=by omega
  have hx:=Q7 hk
  generalize l[k]=x at hx
  have ih:=P0a l w hl d (k+1) fuel (acc ++ [x]) (by omega) (by omega) (by simp;omega)
  rw[Y3.eq_2,if_pos (by simp;omega),d4 hx,oB]
  have hb:∀ c:Bool,(bif c then(!true)else false)=false:=λc=>by cases c<;>rfl
  simp only[hb,Bool.false_eq_true,if_false,oB,J2 hk (show l.length<=9223372036854775807 by omega),ih,H0 (show(acc.length + [x].length)*8<=140737488355328 by simp;omega)]
  rw[Z2 hx]
  split<;>simp
theorem w0c(l:List Int)(w:Int)(hl:l.length<=1099511627776):∀(d k fuel:Nat) (acc:List Int),k+d=l.length->d<fuel->acc.length=k ->
  Y3 l w fuel false (k:Int) acc=some ((goI w (l.drop k)).1,acc++(goI w (l.drop k)).2)
 |d,k,0,acc,hd,hf,ha=>by omega
 |0,k,fuel+1,acc,hd,hf,ha=>by
  rw[Y3.eq_2,if_neg (by simp;omega),D2 (by omega)]
  simp[goI]
 |d+1,k,fuel+1,acc,hd,hf,ha=>by
  have hk:k<l.length:=by omega
  have hx:=Q7 hk
  generalize l[k]=x at hx
  have ih:=w0c l w hl d (k+1) fuel (acc ++ [x]) (by omega) (by omega) (by simp;omega)
  have on1:=P0a l w hl d (k+1) fuel (acc ++ [x]) (by omega) (by omega) (by simp;omega)
  have on2:=P0a l w hl d (k+1) fuel (acc ++ [w] ++ [x]) (by omega) (by omega) (by simp;omega)
  rw[Y3.eq_2,if_pos (by simp;omega),d4 hx,oB,Z2 hx]
  unfold goI
  have hb:∀ c:Bool,(bif c then(!true)else false)=false:=λc=>by cases c<;>rfl
  have hb2:∀ c:Bool,(bif c then(!false)else false)=c:=λc=>by cases c<;>rfl
  by_cases h0:x=w
  ·rw[if_pos (by simpa using h0),oB,hb,if_neg (by simp),oB,H0 (by simp;omega),oB,J2 hk (by omega),on1,if_neg (by omega),if_pos h0]
   simp
  ·rw[if_neg (by simpa using h0),oB,hb2]
   by_cases h1:w<x
   ·rw[if_pos (by simpa using h1),H0 (by simp;omega),oB,oB,H0 (by simp;omega),oB,J2 hk (by omega),on2,if_pos h1]
    simp
   ·rw[if_neg (by simpa using h1),oB,H0 (by simp;omega),oB,J2 hk (by omega),ih,if_neg h1,if_neg h0]
    simp
theorem u07(l:List Int)(w:Int)(hl:l.length<=1099511627776):c7 l w=some (e00 C7 w l):=by
 unfold c7
 have h:=w0c l w hl l.length 0 T0 [] (by omega) (D1 (by omega)) rfl
 rw[show((0:Nat):Int)=0 from rfl,List.drop_zero,List.nil_append]at h
 rw[h,oB,J0h]
 have hlen:∀ l:List Int,(goI w l).2.length<=l.length+1:=λl=>by
  induction l with
  |nil=>simp[goI]
  |cons y l ih =>
   unfold goI
   split
   ·simp
   ·split
    ·simp
    ·simp only[List.length_cons];omega
 have:=hlen l
 cases (goI w l).1 with
 |true=>rfl
 |false =>
  simp only[Bool.not_false,if_true,cond_false]
  rw[H0 (by simp;omega),oB]
def x0c(v x:Int)(e:I0):List Int :=
 if 0<x/\e.2.1=x/\e.1=v then [e.2.2]else if x<0/\e.2.1 = -x/\e.2.2=v then [e.1]else []
def R7(v x:Int):List I0->List Int
 | []=>[]
 |e::es=>x0c v x e++R7 v x es
theorem S0i(v x:Int)(e:I0):(x0c v x e).length<=1:=by unfold x0c;split<;>(try split)<;>simp
theorem Q0a(v x:Int):∀ es,(R7 v x es).length<=es.length
 | []=>by simp[R7]
 |e::es=>by
  have h1:=S0i v x e
  have h2:=Q0a v x es
  simp only[R7,List.length_append,List.length_cons]
  omega
def Q01(x:Int):Prop:=P0 x/\x ≠ -9223372036854775808
theorem v07(es:List I0)(v x:Int)(hx:Q01 x)(hl:es.length<=1099511627776):∀(d k fuel:Nat) (acc:List Int),k+d=es.length->d<fuel->acc.length<=k ->
  l4 es x v fuel (k:Int) acc=some (acc++R7 v x (es.drop k))
 |d,k,0,acc,hd,hf,ha=>by omega
 |0,k,fuel+1,acc,hd,hf,ha=>by
  rw[l4.eq_2,if_neg (by simp;omega),D2 (by omega)]
  simp[R7]
 |d+1,k,fuel+1,acc,hd,hf,ha=>by
  have hk:k<es.length:=by omega
  have he:=Q7 hk
  generalize es[k]=e at he
  obtain⟨a,l,b⟩:=e
  have ih:=λacc' h=>v07 es v x hx hl d (k+1) fuel acc' (by omega) (by omega) h
  have hn:decide (x = -9223372036854775808)=false:=by simp;exact hx.2
  rw[l4.eq_2,if_pos (by simp;omega),d4 he,oB,Z2 he]
  simp only[R7,x0c,j0k hx.1 hx.2,hn,Bool.not_false,J2 hk (show es.length<=9223372036854775807 by omega)]
  by_cases c1:0<x/\l=x/\a=v
  ·obtain⟨c1,rfl,rfl⟩:=c1
   rw[if_pos (by simp[c1]),if_pos ⟨c1,rfl,rfl⟩,H0 (by simp;omega),oB,ih _ (by simp;omega)]
   simp
  ·rw[if_neg c1,if_neg (by simp only[Bool.cond_eq_ite];simp;intro h1 h2 h3;exact c1 ⟨h1,h2,h3⟩)]
   by_cases c2:x<0/\l = -x/\b=v
   ·rw[if_pos c2,if_pos (by simp[c2.1,c2.2.1,c2.2.2]),H0 (by simp;omega),oB,ih _ (by simp;omega)]
    simp
   ·rw[if_neg c2,if_neg (by simp only[Bool.cond_eq_ite];simp;intro h1 h2 h3;exact c2 ⟨h1,h2,h3⟩),ih _ (by omega)]
    simp
theorem J03(w:Int):∀ l:List Int,(e00 C7 w l).length<=l.length+1
 | []=>by simp[e00]
 |y::l=>by
  have:=J03 w l
  unfold e00
  split
  ·simp
  ·split
   ·simp
   ·simp only[List.length_cons];omega
theorem w07(es:List I0)(v x:Int)(hx:Q01 x)(hl:es.length<=1099511627776):∀(d k fuel:Nat) (u:List Int),k+d=es.length->d<fuel->u.length<=k ->
  O3 es x v fuel u (k:Int)=some (O7 C7 u (R7 v x (es.drop k)))
 |d,k,0,u,hd,hf,ha=>by omega
 |0,k,fuel+1,u,hd,hf,ha=>by
  rw[O3.eq_2,if_neg (by simp;omega),D2 (by omega)]
  rfl
 |d+1,k,fuel+1,u,hd,hf,ha=>by
  have hk:k<es.length:=by omega
  have he:=Q7 hk
  generalize es[k]=e at he
  obtain⟨a,l,b⟩:=e
  have ih:=λu' h=>w07 es v x hx hl d (k+1) fuel u' (by omega) (by omega) h
  rw[O3.eq_2,if_pos (by simp;omega),d4 he,oB,Z2 he]
  simp only[R7,x0c,j0k hx.1 hx.2,J2 hk (show es.length<=9223372036854775807 by omega)]
  by_cases c1:0<x/\l=x/\a=v
  ·obtain⟨c1,rfl,rfl⟩:=c1
   have hno:decide (l<0)=false:=by simp;omega
   have:=J03 b u
   rw[if_pos (by simp[c1]),if_pos ⟨c1,rfl,rfl⟩,u07 u b (by omega),oB,hno,if_neg (by simp),ih _ (by omega)]
   rfl
  ·rw[if_neg c1,if_neg (by simp only[Bool.cond_eq_ite];simp;intro h1 h2 h3;exact c1 ⟨h1,h2,h3⟩)]
   by_cases c2:x<0/\l = -x/\b=v
   ·have:=J03 a u
    rw[if_pos c2,if_pos (by simp[c2.1,c2.2.1,c2.2.2]),u07 u a (by omega),oB,ih _ (by omega)]
    rfl
   ·rw[if_neg c2,if_neg (by simp only[Bool.cond_eq_ite];simp;intro h1 h2 h3;exact c2 ⟨h1,h2,h3⟩),ih _ (by omega)]
    rfl
def w00(g:j0)(v x:Int):List Int:=O7 C7 [] (R7 v x g.2.2)
theorem H0l(x y:Int):eqI x y=true↔x=y:=by simp[eqI]
theorem g0f(g:j0)(v x:Int)(hx:Q01 x)(hl:g.2.2.length<=1099511627776):Q8 g v x=some (w00 g v x):=by
 obtain⟨r,n,es⟩:=g
 unfold Q8 w00
 have h:=w07 es v x hx hl es.length 0 T0 [] (by omega) (f0f (by simp only at hl;omega)) (by simp)
 rw[show((0:Nat):Int)=0 from rfl,List.drop_zero]at h
 simp only[h,oB]
theorem h0f(g:j0)(v x:Int)(hx:Q01 x)(hl:g.2.2.length<=1099511627776):R8 g v x=some (w00 g v x):=by
 obtain⟨r,n,es⟩:=g
 unfold R8 w00
 have h:=v07 es v x hx hl es.length 0 T0 [] (by omega) (f0f (by simp only at hl;omega)) (by simp)
 rw[show((0:Nat):Int)=0 from rfl,List.drop_zero,List.nil_append]at h
 have hlen:=Q0a v x es
 simp only at hl
 simp only[h,oB,H0 (show(R7 v x es).length<4611686018427387904 by omega)]
 rw[←e0f q00 H0l (R7 v x es) (R7 v x es) λ_=>Iff.rfl]
 rfl
def j1(g:j0)(v x:Int):Int:=match w00 g v x with
 | [] => -1
 |a::_=>a
theorem C06(g:j0)(v x:Int)(hx:Q01 x)(hl:g.2.2.length<=1099511627776):A6 g v x=some (j1 g v x):=by
 have h:=g0f g v x hx hl
 obtain⟨r,n,es⟩:=g
 unfold A6 j1
 simp only[h,oB]
 cases w00 (r,n,es) v x with
 |nil=>rfl
 |cons a l=>rfl
theorem D06(g:j0)(v x:Int)(hx:Q01 x)(hl:g.2.2.length<=1099511627776):B6 g v x=some (j1 g v x):=by
 have h:=h0f g v x hx hl
 obtain⟨r,n,es⟩:=g
 unfold B6 j1
 simp only[h,oB]
 cases w00 (r,n,es) v x with
 |nil=>rfl
 |cons a l=>rfl
theorem y0c{g:j0}{v x y:Int}(h:y∈w00 g v x):y∈R7 v x g.2.2:=by
 rcases(H7 q00 y _ []).1 h with h|h
 ·cases h
 ·exact h
theorem C3{v x y:Int}:∀ {es:List I0},y∈R7 v x es↔∃ e∈es,(0<x/\e.2.1=x/\e.1=v/\y=e.2.2)∨(x<0/\e.2.1 = -x/\e.2.2=v/\y=e.1)
 | []=>by simp[R7]
 |e::es=>by
  simp only[R7,List.mem_append,C3 (es:=es),List.mem_cons,exists_eq_or_imp]
  refine or_congr ?_ Iff.rfl
  unfold x0c
  split
  ·rename_i h
   simp only[List.mem_singleton]
   constructor
   ·rintro rfl;exact .inl ⟨h.1,h.2.1,h.2.2,rfl⟩
   ·rintro(⟨_,_,_,h4⟩|⟨h1,_⟩)
    ·exact h4
    ·omega
  ·rename_i h
   split
   ·rename_i h2
    simp only[List.mem_singleton]
    constructor
    ·rintro rfl;exact .inr ⟨h2.1,h2.2.1,h2.2.2,rfl⟩
    ·rintro(⟨h1,_⟩|⟨_,_,_,h4⟩)
     ·omega
     ·exact h4
   ·rename_i h2
    constructor
    ·intro h;cases h
    ·rintro(⟨h3,h4,h5,_⟩|⟨h3,h4,h5,_⟩)
     ·exact absurd ⟨h3,h4,h5⟩ h
     ·exact absurd ⟨h3,h4,h5⟩ h2
def inG(g:j0):Prop:=∀ e∈g.2.2,(0<=e.1/\e.1<g.2.1)/\(0<=e.2.2/\e.2.2<g.2.1)/\1<=e.2.1/\e.2.1<=g.1
theorem T3{g:j0}(h:Z0 g=true):inG g/\(1<=g.1/\g.1<=3)/\(1<=g.2.1/\g.2.1<=40)/\g.2.2.length<=120:=by
 obtain⟨r,n,es⟩:=g
 simp only[Z0,inR,Bool.and_eq_true,decide_eq_true_eq]at h
 obtain⟨⟨⟨h1,h2⟩,h3⟩,h4⟩:=h
 refine⟨λe he=>?_,h2,h3,h4⟩
 obtain⟨i,hi⟩:=List.getElem?_of_mem he
 have hb:=C0g h1 i (Nat.zero_le _) (by have:=(List.getElem?_eq_some_iff.1 hi).1;simp only at this;omega)
 rw[t07 hi]at hb
 simp only[Bool.or_eq_false_iff,Bool.not_eq_false',n03,inR,Bool.and_eq_true,decide_eq_true_eq]at hb
 obtain⟨⟨⟨⟨b1,b2⟩,b3,b4⟩,b5,b6⟩,_⟩:=hb
 rw[w64 (by omega) (by omega)]at b2 b4
 simp only
 exact⟨⟨b1,by omega⟩,⟨b3,by omega⟩,b5,b6⟩
theorem e03{g:j0}(hg:inG g)(v x:Int):j1 g v x = -1∨(0<=j1 g v x/\j1 g v x<g.2.1):=by
 unfold j1
 cases hs:w00 g v x with
 |nil=>exact .inl rfl
 |cons a l =>
  right
  have ha:a∈w00 g v x:=by rw[hs];exact mS
  obtain⟨e,he,h⟩:=C3.1 (y0c ha)
  have:=hg e he
  rcases h with⟨_,_,_,rfl⟩|⟨_,_,_,rfl⟩
  ·exact this.2.1
  ·exact this.1
theorem S09{g:j0}(hg:inG g)(hn:g.2.1<=40)(v x:Int):P0 (j1 g v x):=by
 rcases e03 hg v x with h|h
 ·rw[h];decide
 ·constructor<;>omega
def E02(a b:I0):Bool:=decide (a.2.1=b.2.1)&&(decide (a.1=b.1) || decide (a.2.2=b.2.2))
theorem w08(a b:I0):E02 a b=E02 b a:=by
 unfold E02
 have h:∀ x y:Int,decide (x=y)=decide (y=x):=λx y=>decide_eq_decide.2 ⟨Eq.symm,Eq.symm⟩
 rw[h a.2.1,h a.1,h a.2.2]
def noC(a:I0):List I0->Bool
 | []=>true
 |b::l => !E02 a b&&noC a l
def i06:List I0->Bool
 | []=>true
 |a::l=>noC a l&&i06 l
theorem M0d(a:I0):∀ l,noC a l=true↔∀ b∈l,E02 a b=false
 | []=>by simp[noC]
 |b::l=>by simp[noC,M0d a l]
theorem x08:∀ l,i06 l=true↔l.Pairwise λa b=>E02 a b=false
 | []=>by simp[i06]
 |a::l=>by simp[i06,x08 l,M0d,List.pairwise_cons]
def R0a:List I0->List I0->Bool
 |_,[]=>true
 |pre,a::l=>noC a pre&&R0a (pre ++ [a]) l
theorem z0c:∀(l pre:List I0),R0a pre l=true↔l.Pairwise (λa b=>E02 a b=false)/\∀ a∈l,∀ b∈pre,E02 a b=false
 | [],pre=>by simp[R0a]
 |a::l,pre=>by
  simp only[R0a,Bool.and_eq_true,M0d,z0c l,List.pairwise_cons]
  constructor
  ·rintro⟨h2,h3,h4⟩
   refine⟨⟨λb hb=>by rw[w08];exact h4 b hb a (by simp),h3⟩,λx hx b hb=>?_⟩
   rcases List.mem_cons.1 hx with rfl|hx
   ·exact h2 b hb
   ·exact h4 x hx b (by simp[hb])
  ·rintro⟨⟨h2,h3⟩,h4⟩
   refine⟨λb hb=>h4 a mS b hb,h3,λx hx b hb=>?_⟩
   rcases List.mem_append.1 hb with hb|hb
   ·exact h4 x (mC _ hx) b hb
   ·rw[List.mem_singleton.1 hb,w08];exact h2 x hx
theorem T0i(l:List I0):R0a [] l=i06 l:=by
 rw[Bool.eq_iff_iff,z0c,x08]
 simp
def K0(g:j0):Bool:=Z0 g&&i06 g.2.2
theorem c0m(a0 a1 a2 b0 b1 b2:Int):(bif decide (a1=b1)then(bif decide (a0=b0)then true else decide (a2=b2))else false)=E02 (a0,a1,a2) (b0,b1,b2):=by
 unfold E02
 cases decide (a1=b1)<;>cases decide (a0=b0)<;>rfl
theorem x07(l:List I0)(a:I0)(hl:l.length<=140737488355328):∀(d k fuel:Nat),k+d=l.length->d<fuel ->
  F5 l a.2.1 a.1 a.2.2 fuel (k:Int)=some (bif noC a (l.drop k)then .inr ()else .inl false)
 |d,k,0,hd,hf=>by omega
 |0,k,fuel+1,hd,hf=>by
  rw[F5.eq_2,if_neg (by simp;omega),D2 (by omega)]
  rfl
 |d+1,k,fuel+1,hd,hf=>by
  have hk:k<l.length:=by omega
  have hx:=Q7 hk
  generalize l[k]=x at hx
  obtain⟨a0,a1,a2⟩:=a
  obtain⟨b0,b1,b2⟩:=x
  rw[F5.eq_2,if_pos (by simp;omega),d4 hx,oB,Z2 hx]
  simp only[c0m,noC]
  cases hc:E02 (a0,a1,a2) (b0,b1,b2)with
  |true=>rfl
  |false =>
   rw[if_neg (by simp),J2 hk (by omega),x07 l (a0,a1,a2) hl d (k+1) fuel (by omega) (by omega)]
   simp
theorem m04{α:Type}{xs:List α}{k:Nat}(h:k<=xs.length):y06 xs (k:Int) (xs.length:Int)=some (xs.drop k):=by
 unfold y06
 rw[if_pos ⟨by omega,by omega,by omega⟩]
 simp
theorem y07(l:List I0)(hl:l.length<=140737488355328):∀(d k fuel:Nat),k+d=l.length->d<fuel ->
  G5 l fuel (k:Int)=some (bif i06 (l.drop k)then .inr ()else .inl false)
 |d,k,0,hd,hf=>by omega
 |0,k,fuel+1,hd,hf=>by
  rw[G5.eq_2,if_neg (by simp;omega),D2 (by omega)]
  rfl
 |d+1,k,fuel+1,hd,hf=>by
  have hk:k<l.length:=by omega
  have hx:=Q7 hk
  generalize l[k]=x at hx
  have h0:=x07 (l.drop (k+1)) x (by simp;omega) (l.drop (k+1)).length 0 T0 (by omega) (D1 (by simp;omega))
  rw[show((0:Nat):Int)=0 from rfl,List.drop_zero]at h0
  obtain⟨a0,a1,a2⟩:=x
  rw[G5.eq_2,if_pos (by simp;omega),d4 hx,oB,Z2 hx]
  simp only[J2 hk (show l.length<=9223372036854775807 by omega),m04 (show k+1<=l.length by omega),oB]
  simp only at h0
  rw[h0,oB]
  simp only[i06]
  cases noC (a0,a1,a2) (l.drop (k+1))with
  |false=>rfl
  |true =>
   simp only[cond_true,M0i,Bool.true_and]
   exact y07 l hl d (k+1) fuel (by omega) (by omega)
theorem R9(g:j0)(hl:g.2.2.length<=140737488355328):Q5 g=some (K0 g):=by
 have hG:=s00 g hl
 obtain⟨r,n,es⟩:=g
 unfold Q5 K0
 simp only[hG,oB]
 cases Z0 (r,n,es)with
 |false=>rfl
 |true =>
  have h:=y07 es hl es.length 0 T0 (by omega) (D1 hl)
  rw[show((0:Nat):Int)=0 from rfl,List.drop_zero]at h
  rw[if_neg (by simp),h,oB]
  cases i06 es<;>rfl
theorem z07(l:List I0)(hl:l.length<=140737488355328){i:Nat}{a:I0}(ha:l[i]?=some a):∀(d k fuel:Nat),k+d=i->d<fuel ->
  E5 (i:Int) l fuel (k:Int)=some (bif noC a ((l.take i).drop k)then .inr ()else .inl false)
 |d,k,0,hd,hf=>by omega
 |0,k,fuel+1,hd,hf=>by
  have:=(List.getElem?_eq_some_iff.1 ha).1
  rw[E5.eq_2,if_neg (by simp;omega),D2 (by simp;omega)]
  rfl
 |d+1,k,fuel+1,hd,hf=>by
  have hi:=(List.getElem?_eq_some_iff.1 ha).1
  have hk:k<l.length:=by omega
  have hx:=Q7 hk
  have hx2:(l.take i)[k]?=some l[k]:=by rw[List.getElem?_take,if_pos (by omega)];exact hx
  have ih:=z07 l hl ha d (k+1) fuel (by omega) (by omega)
  generalize l[k]=x at hx hx2
  obtain⟨a0,a1,a2⟩:=a
  obtain⟨b0,b1,b2⟩:=x
  rw[E5.eq_2,if_pos (by simp;omega),d4 ha,oB,Z2 hx2]
  simp only[d4 hx,oB,c0m,noC]
  cases hc:E02 (a0,a1,a2) (b0,b1,b2)with
  |true=>rfl
  |false =>
   rw[if_neg (by simp),J2 hk (by omega),ih]
   simp
theorem d0m{α:Type}{xs:List α}{k:Nat}{x:α}(h:xs[k]?=some x):xs.take (k+1)=xs.take k ++ [x]:=by
 obtain⟨hk,rfl⟩:=List.getElem?_eq_some_iff.1 h
 exact List.take_succ_eq_append_getElem hk
theorem A07(r n:Int)(l:List I0)(hg:Z0 (r,n,l)=true)(hl:l.length<=140737488355328):∀(d k fuel:Nat),k+d=l.length->d<fuel ->
  F4 l r n fuel (k:Int)=some (bif R0a (l.take k) (l.drop k)then .inr ()else .inl false)
 |d,k,0,hd,hf=>by omega
 |0,k,fuel+1,hd,hf=>by
  have e:decide ((k:Int)<(l.length:Int))=false:=by simp;omega
  rw[F4.eq_2,e,n4,oB,if_neg (by simp),D2 (by omega)]
  rfl
 |d+1,k,fuel+1,hd,hf=>by
  have hk:k<l.length:=by omega
  have hx:=Q7 hk
  generalize l[k]=x at hx
  have h0:=z07 l hl hx k 0 T0 (by omega) (D1 (by omega))
  rw[show((0:Nat):Int)=0 from rfl,List.drop_zero]at h0
  have e:decide ((k:Int)<(l.length:Int))=true:=by simp;omega
  rw[F4.eq_2,e,O1,V7 (r,n,l) hl,oB,hg,if_pos (show(bif true then true else false)=true from rfl),h0,oB,Z2 hx]
  simp only[R0a]
  cases noC x (l.take k)with
  |false=>rfl
  |true =>
   simp only[cond_true,M0i,Bool.true_and]
   rw[J2 hk (by omega),←d0m hx]
   exact A07 r n l hg hl d (k+1) fuel (by omega) (by omega)
theorem U00(g:j0)(hl:g.2.2.length<=140737488355328):J6 g=some (K0 g):=by
 have hG:=V7 g hl
 obtain⟨r,n,es⟩:=g
 unfold J6 K0
 simp only[hG,oB]
 cases hg:Z0 (r,n,es)with
 |false =>
  have h1:F4 es r n T0 0=some (.inr ()):=by
   rw[show T0=(T0-1)+1 from rfl,F4.eq_2]
   by_cases e:decide ((0:Int)<(es.length:Int))=true
   ·rw[e,O1,hG,oB,hg,if_neg (by simp)]
   ·rw[Bool.not_eq_true]at e
    rw[e,n4,oB,if_neg (by simp)]
  rw[h1]
  rfl
 |true =>
  have h:=A07 r n es hg hl es.length 0 T0 (by omega) (D1 hl)
  rw[show((0:Nat):Int)=0 from rfl,List.drop_zero,List.take_zero,T0i]at h
  rw[h,oB]
  cases i06 es<;>rfl
def n09(g:j0):Int->List Int->Int×Nat
 |v,[]=>(v,0)
 |v,x::w=>if j1 g v x<0 then(v,0)else((n09 g (j1 g v x) w).1,(n09 g (j1 g v x) w).2+1)
theorem V1{g:j0}(h:K0 g=true):inG g/\(1<=g.1/\g.1<=3)/\(1<=g.2.1/\g.2.1<=40)/\g.2.2.length<=120:=by
 unfold K0 at h
 simp only[Bool.and_eq_true]at h
 exact T3 h.1
def P0b(v:Int)(e:I0):Nat:=(if e.1=v then 1 else 0)+(if e.2.2=v then 1 else 0)
def S7(v:Int):List I0->Nat
 | []=>0
 |e::r=>P0b v e+S7 v r
theorem I0l(v:Int)(e:I0):P0b v e<=2:=by unfold P0b;split<;>split<;>omega
theorem N0d(v:Int):∀ l,S7 v l<=2*l.length
 | []=>by simp[S7]
 |e::r=>by have:=I0l v e;have:=N0d v r;simp only[S7,List.length_cons];omega
theorem S0a(es:List I0)(v:Int)(hl:es.length<=1099511627776):∀(d k fuel acc:Nat),k+d=es.length->d<fuel->acc<=2*k ->
  A3 es v fuel (acc:Int) (k:Int)=some ((acc+S7 v (es.drop k):Nat):Int)
 |d,k,0,acc,hd,hf,ha=>by omega
 |0,k,fuel+1,acc,hd,hf,ha=>by
  rw[A3.eq_2,if_neg (by simp;omega),D2 (by omega)];rfl
 |d+1,k,fuel+1,acc,hd,hf,ha=>by
  have hk:k<es.length:=by omega
  have he:=Q7 hk
  generalize es[k]=e at he
  obtain⟨a,l,b⟩:=e
  have ih:=λacc' h=>S0a es v hl d (k+1) fuel acc' (by omega) (by omega) h
  have w1:IntKind.i64.wrap ((acc:Int)+1)=((acc+1:Nat):Int):=by rw[w64 (by omega) (by omega)];rfl
  have w2:IntKind.i64.wrap (((acc+1:Nat):Int)+1)=((acc+2:Nat):Int):=by rw[w64 (by omega) (by omega)];rfl
  rw[A3.eq_2,if_pos (by simp;omega),d4 he,Z2 he]
  simp only[oB,S7,P0b,J2 hk (show es.length<=9223372036854775807 by omega)]
  by_cases c1:a=v
  ·rw[if_pos (by simpa using c1),if_pos c1]
   by_cases c2:b=v
   ·rw[if_pos (by simpa using c2),if_pos c2,w1,w2,ih _ (by omega)];congr 2;omega
   ·rw[if_neg (by simpa using c2),if_neg c2,w1,ih _ (by omega)];congr 2;omega
  ·rw[if_neg (by simpa using c1),if_neg c1]
   by_cases c2:b=v
   ·rw[if_pos (by simpa using c2),if_pos c2,w1,ih _ (by omega)];congr 2;omega
   ·rw[if_neg (by simpa using c2),if_neg c2,ih _ (by omega)];congr 2;omega
theorem T0a(es:List I0)(v:Int):∀(fuel:Nat) (x y:Int),H4 es v fuel x y=A3 es v fuel x y
 |0,x,y=>rfl
 |fuel+1,x,y=>by
  rw[H4.eq_2,A3.eq_2]
  simp only[T0a es v fuel]
  by_cases c:(decide (y<((es.length:Nat):Int)))=true
  ·rw[if_pos c,if_pos c]
   cases hg:gi es y with
   |none=>rfl
   |some e=>simp only[oB]
  ·rw[if_neg c,if_neg c]
theorem y08(g:j0)(v:Int)(hl:g.2.2.length<=1099511627776):I7 g v=some ((S7 v g.2.2:Nat):Int):=by
 obtain⟨r,n,es⟩:=g
 unfold I7
 have h:=S0a es v hl es.length 0 T0 0 (by omega) (D1 (by simp only at hl;omega)) (Nat.zero_le _)
 rw[show((0:Nat):Int)=0 from rfl,List.drop_zero,Nat.zero_add]at h
 simp only[h,oB]
theorem A0c(g:j0)(v:Int)(hl:g.2.2.length<=1099511627776):B8 g v=some ((S7 v g.2.2:Nat):Int):=by
 have h:=y08 g v hl
 obtain⟨r,n,es⟩:=g
 unfold B8
 unfold I7 at h
 simp only[T0a]at h ⊢
 exact h
def l05(g h:j0):Bool:=decide (g=h)
theorem K0h(x y:I0):eqE x y=true↔x=y:=by simp[eqE]
theorem o09(a b:List I0)(hab:a.length=b.length)(hl:a.length<=9223372036854775807):∀(d k fuel:Nat),k+d=a.length->d<fuel ->
  C1 a b fuel (k:Int)=some (if a.drop k=b.drop k then .inr ()else .inl false)
 |d,k,0,hd,hf=>by omega
 |0,k,fuel+1,hd,hf=>by
  rw[C1.eq_2,if_neg (by simp;omega),D2 (by omega),D2 (by omega)];rfl
 |d+1,k,fuel+1,hd,hf=>by
  have hk:k<a.length:=by omega
  have hk2:k<b.length:=by omega
  have ha:=Q7 hk
  have hb:=Q7 hk2
  generalize a[k]=x at ha
  generalize b[k]=y at hb
  have ih:=o09 a b hab hl d (k+1) fuel (by omega) (by omega)
  rw[C1.eq_2,if_pos (by simp;omega),d4 ha,d4 hb,Z2 ha,Z2 hb]
  simp only[oB,J2 hk hl,ih]
  by_cases c:x=y
  ·subst c
   rw[if_neg (by simp[eqE])]
   simp
  ·have hne:eqE x y=false:=Bool.eq_false_iff.2 λh=>c ((K0h x y).1 h)
   rw[if_pos (show(!eqE x y)=true by rw[hne];rfl),if_neg (by simp[c])]
theorem U0a(a b:List I0)(hl:a.length<=9223372036854775807):L2 a b=some (decide (a=b)):=by
 unfold L2
 by_cases hab:a.length=b.length
 ·have h:=o09 a b hab hl a.length 0 T0 (by omega) (by unfold T0;omega)
  rw[if_neg (by simp;omega),show(0:Int)=((0:Nat):Int) from rfl,h,List.drop_zero,List.drop_zero]
  by_cases c:a=b
  ·rw[if_pos c];simp[l9,c]
  ·rw[if_neg c];simp[l9,c]
 ·rw[if_pos (by simp;omega)]
  congr 1
  symm
  simp
  intro h;exact hab (by rw[h])
theorem B0c(g h:j0)(hl:g.2.2.length<=9223372036854775807):T6 g h=some (l05 g h):=by
 obtain⟨r,n,es⟩:=g
 obtain⟨r',n',es'⟩:=h
 unfold T6 l05
 simp only[Prod.mk.injEq]
 by_cases c1:r=r'<;>by_cases c2:n=n'<;>simp[c1,c2,O1,n4,U0a es es' hl]
theorem C0c(a b:List I0):∀(fuel:Nat) (k:Int),V4 a b fuel k=C1 a b fuel k
 |0,k=>rfl
 |fuel+1,k=>by
  rw[V4.eq_2,C1.eq_2]
  simp only[C0c a b fuel]
theorem D0c(g h:j0)(hl:g.2.2.length<=9223372036854775807):R6 g h=some (l05 g h):=by
 have hS:=U0a g.2.2 h.2.2 hl
 obtain⟨r,n,es⟩:=g
 obtain⟨r',n',es'⟩:=h
 unfold R6 l05
 unfold L2 at hS
 simp only[C0c,Prod.mk.injEq]at hS ⊢
 by_cases c1:r=r'
 ·by_cases c2:n=n'
  ·simp only[c1,c2,decide_true,Bool.not_true,cond_false,true_and]
   rw[←hS]
  ·simp[c1,c2]
 ·simp[c1]
def goE(x:I0):List I0->Bool×List I0
 | []=>(false,[])
 |y::l=>if S0 x y<0 then(true,x::y::l)else if S0 x y=0 then(true,y::l)else((goE x l).1,y::(goE x l).2)
theorem L0h(x:I0):∀ l,e00 S0 x l=bif(goE x l).1 then(goE x l).2 else(goE x l).2 ++ [x]
 | []=>rfl
 |y::l=>by
  have ih:=L0h x l
  unfold e00 goE
  by_cases c1:S0 x y<0
  ·rw[if_pos c1,if_pos c1];rfl
  ·rw[if_neg c1,if_neg c1]
   by_cases c2:S0 x y=0
   ·rw[if_pos c2,if_pos c2];rfl
   ·rw[if_neg c2,if_neg c2,ih];cases (goE x l).1<;>rfl
theorem z08(l:List I0)(w0 w1 w2:Int)(hl:l.length<=1099511627776):∀(d k fuel:Nat) (acc:List I0),k+d=l.length->d<fuel->acc.length<=k+1 ->
  Z3 l w0 w1 w2 fuel true (k:Int) acc=some (true,acc++l.drop k)
 |d,k,0,acc,hd,hf,ha=>by omega
 |0,k,fuel+1,acc,hd,hf,ha=>by
  rw[Z3.eq_2,if_neg (by simp;omega),D2 (by omega),List.append_nil]
 |d+1,k,fuel+1,acc,hd,hf,ha=>by
  have hk:k<l.length:=by omega
  have he:=Q7 hk
  generalize l[k]=e at he
  obtain⟨a,x,b⟩:=e
  have ih:=z08 l w0 w1 w2 hl d (k+1) fuel (acc ++ [(a,x,b)]) (by omega) (by omega) (by simp;omega)
  rw[Z3.eq_2,if_pos (by simp;omega),Z2 he]
  simp only[d4 he,oB,z00,H0 (R09 _ _),J2 hk (show l.length<=9223372036854775807 by omega),Bool.not_true]
  have hb:∀ b:Bool,(bif b then false else false)=false:=λb=>by cases b<;>rfl
  simp only[hb,Bool.false_eq_true,if_false]
  rw[H0 (by simp;omega),oB,ih]
  simp
theorem V0a(l:List I0)(w0 w1 w2:Int)(hl:l.length<=1099511627776):∀(d k fuel:Nat) (acc:List I0),k+d=l.length->d<fuel->acc.length=k ->
  Z3 l w0 w1 w2 fuel false (k:Int) acc=some ((goE (w0,w1,w2) (l.drop k)).1,acc++(goE (w0,w1,w2) (l.drop k)).2)
 |d,k,0,acc,hd,hf,ha=>by omega
 |0,k,fuel+1,acc,hd,hf,ha=>by
  rw[Z3.eq_2,if_neg (by simp;omega),D2 (by omega)];simp[goE]
 |d+1,k,fuel+1,acc,hd,hf,ha=>by
  have hk:k<l.length:=by omega
  have he:=Q7 hk
  generalize l[k]=e at he
  obtain⟨a,x,b⟩:=e
  have ih:=V0a l w0 w1 w2 hl d (k+1) fuel (acc ++ [(a,x,b)]) (by omega) (by omega) (by simp;omega)
  have on1:=z08 l w0 w1 w2 hl d (k+1) fuel (acc ++ [(a,x,b)]) (by omega) (by omega) (by simp;omega)
  have on2:=z08 l w0 w1 w2 hl d (k+1) fuel ((acc ++ [(w0,w1,w2)]) ++ [(a,x,b)]) (by omega) (by omega) (by simp;omega)
  rw[Z3.eq_2,if_pos (by simp;omega),Z2 he]
  simp only[d4 he,oB,z00,H0 (R09 _ _),J2 hk (show l.length<=9223372036854775807 by omega),Bool.not_true,Bool.not_false,goE]
  show _=_
  unfold N0a
  by_cases c1:S0 (w0,w1,w2) (a,x,b)=0
  ·rw[if_pos (by simpa using c1),if_neg (by simp[c1]),if_neg (by omega),if_pos c1]
   rw[H0 (by simp;omega),oB,on1];simp
  ·rw[if_neg (by simpa using c1)]
   by_cases c2:S0 (w0,w1,w2) (a,x,b)<0
   ·rw[if_pos (by simp[c2]),if_pos c2,H0 (by simp;omega),oB,H0 (by simp;omega),oB,on2];simp
   ·rw[if_neg (by simp[c2]),if_neg c2,if_neg c1,H0 (by simp;omega),oB,ih];simp
theorem M0h(l:List I0)(e:I0)(hl:l.length<=1099511627776):f00 l e=some (e00 S0 e l):=by
 obtain⟨w0,w1,w2⟩:=e
 unfold f00
 have h:=V0a l w0 w1 w2 hl l.length 0 T0 [] (by omega) (D1 (by omega)) rfl
 rw[show((0:Nat):Int)=0 from rfl,List.drop_zero,List.nil_append]at h
 simp only[h,oB,L0h]
 have hlen:∀ l:List I0,(goE (w0,w1,w2) l).2.length<=l.length+1:=λl=>by
  induction l with
  |nil=>simp[goE]
  |cons y l ih =>
   unfold goE
   split
   ·simp
   ·split
    ·simp
    ·simp only[List.length_cons];omega
 have:=hlen l
 cases (goE (w0,w1,w2) l).1 with
 |true=>rfl
 |false =>
  simp only[Bool.not_false,if_true,cond_false]
  rw[H0 (by simp;omega),oB]
theorem L05(e:I0):∀ l:List I0,(e00 S0 e l).length<=l.length+1
 | []=>by simp[e00]
 |y::l=>by
  have:=L05 e l
  unfold e00
  split
  ·simp
  ·split
   ·simp
   ·simp only[List.length_cons];omega
theorem i0f(es:List I0)(hl:es.length<=1099511627776):B9 es=some (O7 S0 [] es):=by
 unfold B9
 rw[H0 (by simp;omega),oB,H0 (by simp;omega),oB,List.nil_append]
 exact congrArg some (e0f O5 K0h es es λ_=>Iff.rfl)
theorem n04(g:j0)(hl:g.2.2.length<=1099511627776):G4 g=some g:=by
 obtain⟨r,n,es⟩:=g
 unfold G4
 simp only
 rw[H0 (by simp only[List.length_nil,Nat.zero_add];simp only at hl;omega)];rfl
theorem u01(g:j0)(hl:g.2.2.length<=1099511627776):D4 g=some g:=by
 obtain⟨r,n,es⟩:=g
 unfold D4
 simp only
 rw[H0 (by simp only[List.length_nil,Nat.zero_add];simp only at hl;omega)];rfl
inductive Rch (es:List I0) (v:Int):Int->Prop
 |base:Rch es v v
 |fwd {e:I0}:e∈es->Rch es v e.1->Rch es v e.2.2
 |bwd {e:I0}:e∈es->Rch es v e.2.2->Rch es v e.1
theorem Rch.closed{es:List I0}{v:Int}:∀ e∈es,Rch es v e.1↔Rch es v e.2.2:=λe he=>⟨.fwd he,.bwd he⟩
theorem Rch.sub{es:List I0}{v:Int}{P:Int->Prop}(hv:P v)(hc:∀ e∈es,P e.1↔P e.2.2):∀ {x},Rch es v x->P x
 |_,.base=>hv
 |_,.fwd he h=>(hc _ he).1 (Rch.sub hv hc h)
 |_,.bwd he h=>(hc _ he).2 (Rch.sub hv hc h)
def Z7(S:List Bool)(i:Int):Bool:=S.getD i.toNat false
def stJ(S:List Bool)(e:I0):List Bool:=(S.set e.1.toNat true).set e.2.2.toNat true
def pJ:List I0->Bool->List Bool->Bool×List Bool
 | [],c,S=>(c,S)
 |e::r,c,S=>bif Z7 S e.1 == Z7 S e.2.2 then pJ r c S else pJ r true (stJ S e)
def cF:List Bool->Nat
 | []=>0
 |b::r=>(bif b then 0 else 1)+cF r
theorem D0g:∀(S:List Bool) (i:Nat),cF (S.set i true)<=cF S
 | [],i=>by simp[cF]
 |b::r,0=>by simp[cF]
 |b::r,i+1=>by have:=D0g r i;simp only[List.set_cons_succ,cF];omega
theorem m0k:∀(S:List Bool) (i:Nat),S[i]?=some false->cF (S.set i true)<cF S
 | [],i,h=>by simp at h
 |b::r,0,h=>by simp at h;subst h;simp[cF]
 |b::r,i+1,h=>by have:=m0k r i (by simpa using h);simp only[List.set_cons_succ,cF];omega
theorem e0m:∀ S:List Bool,cF S<=S.length
 | []=>by simp[cF]
 |b::r=>by have:=e0m r;cases b<;>simp only[cF,List.length_cons,cond_true,cond_false]<;>omega
def inN(n:Nat)(es:List I0):Prop:=∀ e∈es,(0<=e.1/\e.1<(n:Int))/\(0<=e.2.2/\e.2.2<(n:Int))
theorem m05{S:List Bool}{i:Nat}(h:i<S.length)(x:Int):Z7 (S.set i true) x=(decide (x.toNat=i) || Z7 S x):=by
 unfold Z7
 rw[List.getD_eq_getElem?_getD,List.getD_eq_getElem?_getD,List.getElem?_set]
 by_cases c:i=x.toNat
 ·rw[if_pos c,if_pos (by omega)];simp[c]
 ·rw[if_neg c]
  have:decide (x.toNat=i)=false:=by simp;exact λe=>c e.symm
  rw[this];rfl
theorem E0g:∀(es:List I0) (c:Bool) (S:List Bool),(pJ es c S).2.length=S.length
 | [],c,S=>rfl
 |e::r,c,S=>by
  unfold pJ
  cases Z7 S e.1 == Z7 S e.2.2
  ·simp only[cond_false];rw[E0g r];simp[stJ]
  ·simp only[cond_true];exact E0g r c S
theorem O0d{n:Nat}:∀(es:List I0) (c:Bool) (S:List Bool),S.length=n->inN n es->∀ x,Z7 S x=true->Z7 (pJ es c S).2 x=true
 | [],c,S,hl,hn,x,h=>h
 |e::r,c,S,hl,hn,x,h=>by
  have he:=hn e mS
  have hr:inN n r:=λe he=>hn e (mC _ he)
  unfold pJ
  cases Z7 S e.1 == Z7 S e.2.2
  ·simp only[cond_false]
   refine O0d r _ _ (by simp[stJ,hl]) hr x ?_
   rw[stJ,m05 (by rw[List.length_set];omega),m05 (by omega),h];simp
  ·simp only[cond_true];exact O0d r c S hl hr x h
theorem W0a{n:Nat}{P:Int->Prop}:∀(es:List I0) (c:Bool) (S:List Bool),S.length=n->inN n es->(∀ e∈es,P e.1↔P e.2.2)->(∀ x,0<=x->Z7 S x=true->P x)->∀ x,0<=x->Z7 (pJ es c S).2 x=true->P x
 | [],c,S,hl,hn,hc,hs,x,h0,h=>hs x h0 h
 |e::r,c,S,hl,hn,hc,hs,x,h0,h=>by
  have he:=hn e mS
  have hr:inN n r:=λe he=>hn e (mC _ he)
  have hc':=λe he=>hc e (mC _ he)
  have hce:=hc e mS
  unfold pJ at h
  cases hb:Z7 S e.1 == Z7 S e.2.2
  ·rw[hb]at h
   refine W0a r true (stJ S e) (by simp[stJ,hl]) hr hc' (λy hy h=>?_) x h0 h
   rw[stJ,m05 (by rw[List.length_set];omega),m05 (by omega)]at h
   simp only[Bool.or_eq_true,decide_eq_true_eq]at h
   have hor:P e.1∨P e.2.2:=by
    cases h1:Z7 S e.1
    ·cases h2:Z7 S e.2.2
     ·rw[h1,h2]at hb;cases hb
     ·exact .inr (hs _ he.2.1 h2)
    ·exact .inl (hs _ he.1.1 h1)
   rcases h with h|h|h
   ·have:y=e.2.2:=by omega
    subst this;exact hor.elim hce.1 id
   ·have:y=e.1:=by omega
    subst this;exact hor.elim id hce.2
   ·exact hs y hy h
  ·rw[hb]at h
   exact W0a r c S hl hr hc' hs x h0 h
theorem F0g{n:Nat}:∀(es:List I0) (c:Bool) (S:List Bool),S.length=n->inN n es->cF (pJ es c S).2<=cF S/\((pJ es c S).1=true->c=true∨cF (pJ es c S).2<cF S)/\((pJ es c S).1=false->c=false/\(pJ es c S).2=S/\∀ e∈es,Z7 S e.1=Z7 S e.2.2)
 | [],c,S,hl,hn=>⟨Nat.le_refl _,λh => .inl h,λh=>⟨h,rfl,λe he=>nomatch he⟩⟩
 |e::r,c,S,hl,hn=>by
  have he:=hn e mS
  have hr:inN n r:=λe he=>hn e (mC _ he)
  unfold pJ
  cases hb:Z7 S e.1 == Z7 S e.2.2
  ·simp only[cond_false]
   obtain⟨h1,h2,h3⟩:=F0g r true (stJ S e) (by simp[stJ,hl]) hr
   have hlt:cF (stJ S e)<cF S:=by
    have g:∀(x:Int),0<=x->x<n->Z7 S x=false->S[x.toNat]?=some false:=λx hx hx2 hg=>by
     have hk:x.toNat<S.length:=by omega
     unfold Z7 at hg
     rw[List.getD_eq_getElem?_getD,List.getElem?_eq_getElem hk]at hg
     rw[List.getElem?_eq_getElem hk];simpa using hg
    cases g1:Z7 S e.1
    ·have:=m0k S _ (g _ he.1.1 he.1.2 g1)
     have:=D0g (S.set e.1.toNat true) e.2.2.toNat
     unfold stJ;omega
    ·have g2:Z7 S e.2.2=false:=by
      cases g2:Z7 S e.2.2
      ·rfl
      ·rw[g1,g2]at hb;cases hb
     have g3:(S.set e.1.toNat true)[e.2.2.toNat]?=some false:=by
      rw[List.getElem?_set]
      by_cases q:e.1.toNat=e.2.2.toNat
      ·exfalso
       have:e.1=e.2.2:=by omega
       rw[this,g2]at g1;cases g1
      ·rw[if_neg q];exact g _ he.2.1 he.2.2 g2
     have:=m0k _ _ g3
     have:=D0g S e.1.toNat
     unfold stJ;omega
   refine⟨by omega,λ_ => .inr (by omega),λh=>?_⟩
   have:=(h3 h).1;cases this
  ·simp only[cond_true]
   obtain⟨h1,h2,h3⟩:=F0g r c S hl hr
   refine⟨h1,h2,λh=>⟨(h3 h).1,(h3 h).2.1,λe' he'=>?_⟩⟩
   rcases List.mem_cons.1 he' with rfl|he'
   ·simpa using hb
   ·exact(h3 h).2.2 e' he'
theorem giB{S:List Bool}{n:Nat}(hl:S.length=n){x:Int}(h0:0<=x)(h1:x<n):gi S x=some (Z7 S x):=by
 have hk:x.toNat<S.length:=by omega
 have e:x=((x.toNat:Nat):Int):=by omega
 have h2:gi S ((x.toNat:Nat):Int)=some (Z7 S x):=by
  rw[s08,List.getElem?_eq_getElem hk]
  unfold Z7
  rw[List.getD_eq_getElem?_getD,List.getElem?_eq_getElem hk];rfl
 rw[←e]at h2;exact h2
theorem E0c(es:List I0){n:Nat}(hn:inN n es)(hl:es.length<=9223372036854775807):∀(d k fuel:Nat) (c:Bool) (S:List Bool),S.length=n->k+d=es.length->d<fuel ->
  Q3 es fuel c (k:Int) S=some (pJ (es.drop k) c S)
 |d,k,0,c,S,hS,hd,hf=>by omega
 |0,k,fuel+1,c,S,hS,hd,hf=>by
  rw[Q3.eq_2,if_neg (by simp;omega),D2 (by omega)];rfl
 |d+1,k,fuel+1,c,S,hS,hd,hf=>by
  have hk:k<es.length:=by omega
  have he:=Q7 hk
  have hin:=hn _ (List.mem_of_getElem? he)
  generalize es[k]=e at he hin
  obtain⟨a,l,b⟩:=e
  have ih:=λc' S' h=>E0c es hn hl d (k+1) fuel c' S' h (by omega) (by omega)
  rw[Q3.eq_2,if_pos (by simp;omega),Z2 he]
  simp only[d4 he,oB,giB hS hin.1.1 hin.1.2,giB hS hin.2.1 hin.2.2,J2 hk hl,giB (show(S.set a.toNat true).length=n by simp[hS]) hin.2.1 hin.2.2,pJ]
  cases hb:Z7 S a == Z7 S b
  ·simp only[Bool.not_false,if_true,cond_false]
   exact ih _ _ (by simp[hS])
  ·simp only[Bool.not_true,Bool.false_eq_true,if_false,cond_true]
   exact ih _ _ hS
theorem F0c(es:List I0){n:Nat}(hn:inN n es)(hl:es.length<=9223372036854775806):∀(m fuel:Nat) (S:List Bool),S.length=n->cF S<=m->m+1<fuel ->
  ∃ S',w4 es fuel true S=some S'/\S'.length=n/\(∀ x,Z7 S x=true->Z7 S' x=true)/\(∀ e∈es,Z7 S' e.1=Z7 S' e.2.2) /\
   ∀ P:Int->Prop,(∀ e∈es,P e.1↔P e.2.2)->(∀ x,0<=x->Z7 S x=true->P x)->∀ x,0<=x->Z7 S' x=true->P x
 |m,0,S,hS,hm,hf=>by omega
 |m,fuel+1,S,hS,hm,hf=>by
  have h0:=E0c es hn (by omega) es.length 0 T0 false S hS (by omega) (by unfold T0;omega)
  rw[show((0:Nat):Int)=0 from rfl,List.drop_zero]at h0
  obtain⟨c1,c2,c3⟩:=F0g es false S hS hn
  have hlen:=E0g es false S
  rw[w4.eq_2,if_pos rfl,h0,oB]
  have hmono:=O0d es false S hS hn
  have hsnd:=λP=>W0a (P:=P) es false S hS hn
  generalize pJ es false S=q at *
  obtain⟨c,S'⟩:=q
  simp only at c1 c2 c3 hlen hmono hsnd ⊢
  cases c with
  |true =>
   rcases c2 rfl with h|h
   ·cases h
   ·obtain⟨S2,e1,e2,e3,e4,e5⟩:=F0c es hn hl (m-1) fuel S' (by omega) (by omega) (by omega)
    exact⟨S2,e1,e2,λx hx=>e3 x (hmono x hx),e4,λP hc hs=>e5 P hc (hsnd P hc hs)⟩
  |false =>
   obtain⟨_,e,hall⟩:=c3 rfl
   subst e
   obtain _|fuel:=fuel
   ·omega
   ·rw[w4.eq_2,if_neg (by simp)]
    exact⟨_,rfl,hS,λx h=>h,hall,λP _ hs=>hs⟩
theorem j0f(r:Int)(n:Nat)(es:List I0)(hn:inN n es)(hl:es.length<=9223372036854775806)(hn2:1<=n)(hn3:n<=140737488355328):
  ∃ S,L7 (r,(n:Int),es) 0=some S/\S.length=n/\∀ x,0<=x->x<(n:Int)->(Z7 S x=true↔Rch es 0 x):=by
 unfold L7
 simp only[Int.toNat_natCast]
 have hg:gi (List.replicate n (false:Bool)) 0=some false:=by
  rw[v08 (x:=false)];rw[List.getElem?_replicate,if_pos (by omega)]
 rw[H0 (by omega),oB,hg,oB]
 have hS:((List.replicate n (false:Bool)).set (0:Int).toNat true).length=n:=by simp
 obtain⟨S',e1,e2,e3,e4,e5⟩:=F0c es hn hl n T0 _ hS (by have:=e0m ((List.replicate n (false:Bool)).set (0:Int).toNat true);omega) (by unfold T0;omega)
 rw[e1]
 have hb:∀ x,Z7 ((List.replicate n (false:Bool)).set (0:Int).toNat true) x=decide (x.toNat=0):=λx=>by
  rw[m05 (by simp;omega)]
  have:Z7 (List.replicate n false) x=false:=by
   unfold Z7
   rw[List.getD_eq_getElem?_getD,List.getElem?_replicate]
   split<;>rfl
  rw[this];simp
 refine⟨S',rfl,e2,λx h0 h1=>⟨λh=>?_,λh=>?_⟩⟩
 ·refine e5 (Rch es 0) Rch.closed (λy hy h=>?_) x h0 h
  rw[hb]at h
  have:y=0:=by simp at h;omega
  subst this;exact .base
 ·exact Rch.sub (P:=λx=>Z7 S' x=true) (e3 0 (by rw[hb];rfl)) (λe he=>by rw[e4 e he]) h
theorem f0m(l:List Int)(w:Int)(hl:l.length<=9223372036854775807):∀(d k fuel:Nat),k+d=l.length->d<fuel ->
  p7 l w fuel (k:Int)=some (if w∈l.drop k then .inl true else .inr ())
 |d,k,0,hd,hf=>by omega
 |0,k,fuel+1,hd,hf=>by
  rw[p7.eq_2,if_neg (by simp;omega),D2 (by omega)];simp
 |d+1,k,fuel+1,hd,hf=>by
  have hk:k<l.length:=by omega
  have hx:=Q7 hk
  generalize l[k]=x at hx
  have ih:=f0m l w hl d (k+1) fuel (by omega) (by omega)
  rw[p7.eq_2,if_pos (by simp;omega),Z2 hx]
  simp only[d4 hx,oB,J2 hk hl,ih,List.mem_cons]
  by_cases c:x=w
  ·rw[if_pos (by simpa using c),if_pos (.inl c.symm)]
  ·rw[if_neg (by simpa using c)]
   by_cases c2:w∈l.drop (k+1)
   ·rw[if_pos c2,if_pos (.inr c2)]
   ·rw[if_neg c2,if_neg (λh=>h.elim (λe=>c e.symm) c2)]
theorem T09(l:List Int)(w:Int)(hl:l.length<=9223372036854775807):P7 l w=some (decide (w∈l)):=by
 unfold P7
 have h:=f0m l w hl l.length 0 T0 (by omega) (by unfold T0;omega)
 rw[show((0:Nat):Int)=0 from rfl,List.drop_zero]at h
 rw[h,oB]
 by_cases c:w∈l
 ·rw[if_pos c];simp[l9,c]
 ·rw[if_neg c];simp[l9,c]
def s1(u:List Int)(e:I0):List Int:=if e.1∈u then e00 C7 e.2.2 u else u
def s2(u:List Int)(e:I0):List Int:=if e.2.2∈u then e00 C7 e.1 u else u
def pS:List I0->List Int->List Int
 | [],u=>u
 |e::r,u=>pS r (s2 (s1 u e) e)
theorem A08{u:List Int}{e:I0}{x:Int}:x∈s1 u e↔x∈u∨(e.1∈u/\x=e.2.2):=by
 unfold s1
 split
 ·rename_i h;rw[j05 q00];constructor
  ·rintro(h1|h1)
   ·exact .inr ⟨h,h1⟩
   ·exact .inl h1
  ·rintro(h1|⟨_,h1⟩)
   ·exact .inr h1
   ·exact .inl h1
 ·rename_i h;constructor
  ·exact .inl
  ·rintro(h1|⟨h1,_⟩)
   ·exact h1
   ·exact absurd h1 h
theorem B08{u:List Int}{e:I0}{x:Int}:x∈s2 u e↔x∈u∨(e.2.2∈u/\x=e.1):=by
 unfold s2
 split
 ·rename_i h;rw[j05 q00];constructor
  ·rintro(h1|h1)
   ·exact .inr ⟨h,h1⟩
   ·exact .inl h1
  ·rintro(h1|⟨_,h1⟩)
   ·exact .inr h1
   ·exact .inl h1
 ·rename_i h;constructor
  ·exact .inl
  ·rintro(h1|⟨h1,_⟩)
   ·exact h1
   ·exact absurd h1 h
theorem n0k(u:List Int)(e:I0):(s1 u e).length<=u.length+1:=by
 unfold s1;split
 ·exact J03 _ _
 ·omega
theorem o0k(u:List Int)(e:I0):(s2 u e).length<=u.length+1:=by
 unfold s2;split
 ·exact J03 _ _
 ·omega
theorem G0g:∀(es:List I0) (u:List Int),(pS es u).length<=u.length+2*es.length
 | [],u=>by simp[pS]
 |e::r,u=>by
  have:=G0g r (s2 (s1 u e) e)
  have:=o0k (s1 u e) e
  have:=n0k u e
  simp only[pS,List.length_cons];omega
theorem o04:∀(es:List I0) (u:List Int) (x:Int),x∈u->x∈pS es u
 | [],u,x,h=>h
 |e::r,u,x,h=>o04 r _ x (B08.2 (.inl (A08.2 (.inl h))))
theorem X0a{P:Int->Prop}:∀(es:List I0) (u:List Int),(∀ e∈es,P e.1↔P e.2.2)->(∀ x∈u,P x)->∀ x∈pS es u,P x
 | [],u,hc,hs=>hs
 |e::r,u,hc,hs=>X0a r _ (λe he=>hc e (mC _ he)) λx hx=>by
  have hce:=hc e mS
  have h1:∀ y∈s1 u e,P y:=λy hy=>by
   rcases A08.1 hy with h|⟨h,rfl⟩
   ·exact hs y h
   ·exact hce.1 (hs _ h)
  rcases B08.1 hx with h|⟨h,rfl⟩
  ·exact h1 x h
  ·exact hce.2 (h1 _ h)
theorem k0f:∀(es:List I0) (u:List Int) (e:I0),e∈es->e.1∈u∨e.2.2∈u->e.1∈pS es u/\e.2.2∈pS es u
 |e'::r,u,e,he,h=>by
  simp only[pS]
  rcases List.mem_cons.1 he with rfl|he
  ·have h2:e.2.2∈s1 u e:=by
    rcases h with h|h
    ·exact A08.2 (.inr ⟨h,rfl⟩)
    ·exact A08.2 (.inl h)
   exact⟨o04 r _ _ (B08.2 (.inr ⟨h2,rfl⟩)),o04 r _ _ (B08.2 (.inl h2))⟩
  ·exact k0f r _ e he (h.imp (λh=>B08.2 (.inl (A08.2 (.inl h)))) λh=>B08.2 (.inl (A08.2 (.inl h))))
def act(es:List I0)(u:List Int):Nat:=es.countP λe=>decide (e.1∈u)&&decide (e.2.2∈u)
def clo(es:List I0)(u:List Int):Prop:=∀ e∈es,e.1∈u↔e.2.2∈u
theorem G0m(es:List I0)(u:List Int):act es u<=es.length:=List.countP_le_length
theorem G0c{α:Type}{p q:α->Bool}:∀ {l:List α},(∀ x∈l,p x=true->q x=true)->(∃ x∈l,p x=false/\q x=true)->l.countP p<l.countP q
 | [],_,⟨x,hx,_⟩=>nomatch hx
 |y::l,h,⟨x,hx,h1,h2⟩=>by
  have hle:l.countP p<=l.countP q:=List.countP_mono_left λz hz=>h z (mC _ hz)
  rcases List.mem_cons.1 hx with rfl|hx
  ·rw[List.countP_cons_of_neg (by simp[h1]),List.countP_cons_of_pos h2];omega
  ·have ih:=G0c (l:=l) (λz hz=>h z (mC _ hz)) ⟨x,hx,h1,h2⟩
   cases hp:p y
   ·rw[List.countP_cons_of_neg (by simp[hp])]
    have:l.countP q<=(y::l).countP q:=by rw[List.countP_cons];omega
    omega
   ·rw[List.countP_cons_of_pos hp,List.countP_cons_of_pos (h y mS hp)];omega
theorem B07{es:List I0}{u:List Int}(h:clo es u)(x:Int):x∈pS es u↔x∈u :=
 ⟨X0a (P:=λx=>x∈u) es u h (λ_ h=>h) x,o04 es u x⟩
theorem p0k{es:List I0}{u:List Int}:clo es (pS es u)∨act es u<act es (pS es u):=by
 by_cases h:clo es u
 ·left
  intro e he
  rw[B07 h,B07 h];exact h e he
 ·right
  have:∃ e∈es,¬ (e.1∈u↔e.2.2∈u):=by
   refine Classical.byContradiction λhn=>h λe he=>?_
   exact Classical.byContradiction λh2=>hn ⟨e,he,h2⟩
  obtain⟨e,he,hne⟩:=this
  refine G0c (λx hx h=>?_) ⟨e,he,?_,?_⟩
  ·simp only[Bool.and_eq_true,decide_eq_true_eq]at h ⊢
   exact⟨o04 _ _ _ h.1,o04 _ _ _ h.2⟩
  ·rw[Bool.eq_false_iff]
   intro h
   simp only[Bool.and_eq_true,decide_eq_true_eq]at h
   exact hne ⟨λ_=>h.2,λ_=>h.1⟩
  ·have ht:e.1∈u∨e.2.2∈u:=by
    refine Classical.byContradiction λhn=>hne ⟨λh=>absurd (.inl h) hn,λh=>absurd (.inr h) hn⟩
   have:=k0f es u e he ht
   simp only[Bool.and_eq_true,decide_eq_true_eq];exact this
def itS(es:List I0):Nat->List Int->List Int
 |0,u=>u
 |j+1,u=>itS es j (pS es u)
theorem N0h(es:List I0):∀(j:Nat) (u:List Int),(itS es j u).length<=u.length+j*(2*es.length)
 |0,u=>by simp[itS]
 |j+1,u=>by have:=N0h es j (pS es u);have:=G0g es u;simp only[itS,Nat.add_mul,Nat.one_mul];omega
theorem O0h(es:List I0):∀(j:Nat) (u:List Int),clo es u->clo es (itS es j u)
 |0,u,h=>h
 |j+1,u,h=>O0h es j _ λe he=>by rw[B07 h,B07 h];exact h e he
theorem P0h(es:List I0):∀(j:Nat) (u:List Int),clo es (itS es j u)∨act es u+j<=act es (itS es j u)
 |0,u => .inr (Nat.le_refl _)
 |j+1,u=>by
  rcases p0k (es:=es) (u:=u)with h|h
  ·exact .inl (O0h es j _ h)
  ·rcases P0h es j (pS es u)with h2|h2
   ·exact .inl h2
   ·right;simp only[itS];omega
theorem l0f(es:List I0):∀(j:Nat) (u:List Int) (x:Int),x∈u->x∈itS es j u
 |0,u,x,h=>h
 |j+1,u,x,h=>l0f es j _ x (o04 es u x h)
theorem H0c{P:Int->Prop}(es:List I0)(hc:∀ e∈es,P e.1↔P e.2.2):∀(j:Nat) (u:List Int),(∀ x∈u,P x)->∀ x∈itS es j u,P x
 |0,u,hs=>hs
 |j+1,u,hs=>H0c es hc j _ (X0a es u hc hs)
theorem p04(es:List I0)(v x:Int):x∈itS es (es.length+1) [v]↔Rch es v x:=by
 constructor
 ·exact H0c (P:=Rch es v) es Rch.closed _ _ (λy hy=>by simp at hy;subst hy;exact .base) x
 ·have hc:clo es (itS es (es.length+1) [v]):=by
   rcases P0h es (es.length+1) [v]with h|h
   ·exact h
   ·have:=G0m es (itS es (es.length+1) [v]);omega
  exact Rch.sub (P:=λx=>x∈itS es (es.length+1) [v]) (l0f _ _ _ _ (by simp)) hc
theorem Y0a(es:List I0)(hl:es.length<=9223372036854775807):∀(d k fuel:Nat) (u:List Int),k+d=es.length->d<fuel->u.length+2*d<=1099511627776 ->
  l3 es fuel u (k:Int)=some (pS (es.drop k) u)
 |d,k,0,u,hd,hf,hu=>by omega
 |0,k,fuel+1,u,hd,hf,hu=>by
  rw[l3.eq_2,if_neg (by simp;omega),D2 (by omega)];rfl
 |d+1,k,fuel+1,u,hd,hf,hu=>by
  have hk:k<es.length:=by omega
  have he:=Q7 hk
  generalize es[k]=e at he
  obtain⟨a,l,b⟩:=e
  have ih:=λu' h=>Y0a es hl d (k+1) fuel u' (by omega) (by omega) h
  have g1:=n0k u (a,l,b)
  have g2:=o0k (s1 u (a,l,b)) (a,l,b)
  rw[l3.eq_2,if_pos (by simp;omega),Z2 he]
  simp only[d4 he,oB,T09 u _ (by omega),J2 hk hl,pS]
  by_cases c:a∈u
  ·rw[if_pos (by simpa using c),u07 _ _ (by omega),oB]
   have e1:s1 u (a,l,b)=e00 C7 b u:=if_pos c
   rw[e1]at g1 g2 ⊢
   rw[T09 _ _ (by omega),oB]
   by_cases c2:b∈e00 C7 b u
   ·rw[if_pos (by simpa using c2),u07 _ _ (by omega),oB]
    have e2:s2 (e00 C7 b u) (a,l,b)=e00 C7 a (e00 C7 b u):=if_pos c2
    rw[e2]at g2 ⊢
    exact ih _ (by omega)
   ·rw[if_neg (by simpa using c2)]
    have e2:s2 (e00 C7 b u) (a,l,b)=e00 C7 b u:=if_neg c2
    rw[e2]
    exact ih _ (by omega)
  ·rw[if_neg (by simpa using c)]
   have e1:s1 u (a,l,b)=u:=if_neg c
   rw[e1]at g2 ⊢
   by_cases c2:b∈u
   ·rw[if_pos (by simpa using c2),u07 _ _ (by omega),oB]
    have e2:s2 u (a,l,b)=e00 C7 a u:=if_pos c2
    rw[e2]at g2 ⊢
    exact ih _ (by omega)
   ·rw[if_neg (by simpa using c2)]
    have e2:s2 u (a,l,b)=u:=if_neg c2
    rw[e2]
    exact ih _ (by omega)
theorem Z0a(es:List I0)(hl:es.length<=120):∀(d k fuel:Nat) (u:List Int),k+d=es.length+1->d<fuel->u.length<=1+k*240 ->
  I4 es fuel u (k:Int)=some (itS es d u)
 |d,k,0,u,hd,hf,hu=>by omega
 |0,k,fuel+1,u,hd,hf,hu=>by
  rw[I4.eq_2,if_neg (by rw[w64 (by omega) (by omega)];simp;omega)];rfl
 |d+1,k,fuel+1,u,hd,hf,hu=>by
  have h0:=Y0a es (by omega) es.length 0 T0 u (by omega) (D1 (by omega)) (by omega)
  rw[show((0:Nat):Int)=0 from rfl,List.drop_zero]at h0
  have ih:=Z0a es hl d (k+1) fuel (pS es u) (by omega) (by omega) (by have:=G0g es u;omega)
  rw[I4.eq_2,if_pos (by rw[w64 (by omega) (by omega)];simp;omega),h0,oB,J2 (show k<1000 by omega) (by omega),ih]
  rfl
def getI(P:List Int)(v:Int):Int:=P.getD v.toNat (-1)
def c9:List Int->Nat->List Int->List Int
 |A,k,[]=>A
 |A,k,v::r=>c9 (A.set v.toNat (k:Int)) (k+1) r
def plc(n:Nat)(o:List Int):List Int:=c9 (List.replicate n (-1)) 0 o
theorem a0b:∀(o:List Int) (k:Nat) (A:List Int),(c9 A k o).length=A.length
 | [],k,A=>rfl
 |v::r,k,A=>by rw[c9,a0b r];simp
def inV(n:Nat)(o:List Int):Prop:=∀ v∈o,0<=v/\v<(n:Int)
theorem giI{P:List Int}{n:Nat}(hl:P.length=n){x:Int}(h0:0<=x)(h1:x<n):gi P x=some (getI P x):=by
 have hk:x.toNat<P.length:=by omega
 have e:x=((x.toNat:Nat):Int):=by omega
 have h2:gi P ((x.toNat:Nat):Int)=some (getI P x):=by
  rw[s08,List.getElem?_eq_getElem hk]
  unfold getI
  rw[List.getD_eq_getElem?_getD,List.getElem?_eq_getElem hk];rfl
 rw[←e]at h2;exact h2
theorem K01{A:List Int}{v x:Int}{y:Int}(h0:0<=v)(h1:v.toNat<A.length)(hx:0<=x):getI (A.set v.toNat y) x=if x=v then y else getI A x:=by
 unfold getI
 rw[List.getD_eq_getElem?_getD,List.getD_eq_getElem?_getD,List.getElem?_set]
 by_cases c:x=v
 ·rw[if_pos c,if_pos (by rw[c]),if_pos h1];rfl
 ·rw[if_neg c,if_neg (by omega)]
theorem C07{n:Nat}:∀(o:List Int) (k:Nat) (A:List Int),A.length=n->inV n o->(∀ x,0<=x -> -1<=getI A x/\getI A x<(k:Int))->∀ x,0<=x -> -1<=getI (c9 A k o) x/\getI (c9 A k o) x<((k+o.length:Nat):Int)
 | [],k,A,hA,ho,h,x,hx=>h x hx
 |v::r,k,A,hA,ho,h,x,hx=>by
  have hv:=ho v mS
  have:=C07 r (k+1) (A.set v.toNat (k:Int)) (by simp[hA]) (λw hw=>ho w (mC _ hw)) (λy hy=>by
   rw[K01 hv.1 (by omega) hy]
   have:=h y hy
   split<;>omega) x hx
  rw[c9,List.length_cons,show k+(r.length+1)=k+1+r.length by omega];exact this
theorem n05(n:Nat)(x:Int):getI (List.replicate n (-1)) x = -1:=by
 unfold getI
 rw[List.getD_eq_getElem?_getD,List.getElem?_replicate]
 split<;>rfl
theorem K03{n:Nat}{o:List Int}(ho:inV n o){x:Int}(hx:0<=x): -1<=getI (plc n o) x/\getI (plc n o) x<(o.length:Int):=by
 have:=C07 o 0 (List.replicate n (-1)) (by simp) ho (λx hx=>by rw[n05];omega) x hx
 rw[Nat.zero_add]at this;exact this
theorem Q0h(n:Nat)(o:List Int):(plc n o).length=n:=by unfold plc;rw[a0b];simp
def pE(P:List Int):List I0->List I0
 | []=>[]
 |e::r=>bif decide (0<=getI P e.1)&&decide (0<=getI P e.2.2)then(getI P e.1,e.2.1,getI P e.2.2)::pE P r else pE P r
theorem P0d(P:List Int):∀ es,(pE P es).length<=es.length
 | []=>by simp[pE]
 |e::r=>by
  have:=P0d P r
  unfold pE
  cases decide (0<=getI P e.1)&&decide (0<=getI P e.2.2)<;>simp only[cond_true,cond_false,List.length_cons]<;>omega
theorem g0m{n:Nat}{o:List Int}(ho:inV n o):∀(es:List I0),inN n es->inN o.length (pE (plc n o) es)
 | [],hn=>λe he=>nomatch he
 |e::r,hn=>by
  have hr:=g0m ho r λe he=>hn e (mC _ he)
  have he:=hn e mS
  unfold pE
  cases hb:decide (0<=getI (plc n o) e.1)&&decide (0<=getI (plc n o) e.2.2)
  ·simpa only[cond_false] using hr
  ·simp only[cond_true]
   simp only[Bool.and_eq_true,decide_eq_true_eq]at hb
   intro e' he'
   rcases List.mem_cons.1 he' with rfl|he'
   ·exact⟨⟨hb.1,(K03 ho he.1.1).2⟩,hb.2,(K03 ho he.2.1).2⟩
   ·exact hr e' he'
def T4(g:j0)(o:List Int):j0:=(g.1,(o.length:Int),O7 S0 [] (pE (plc g.2.1.toNat o) g.2.2))
theorem o05:∀(r l:List I0),(O7 S0 l r).length<=l.length+r.length
 | [],l=>by simp[O7]
 |e::r,l=>by have:=o05 r (e00 S0 e l);have:=L05 e l;simp only[O7,List.length_cons];omega
theorem E06(g:j0)(o:List Int):(T4 g o).2.2.length<=g.2.2.length:=by
 have:=o05 (pE (plc g.2.1.toNat o) g.2.2) []
 have:=P0d (plc g.2.1.toNat o) g.2.2
 simp only[T4,List.length_nil]at *;omega
theorem I0c{n:Nat}{r:Int}{es:List I0}{o:List Int}(ho:inV n o)(hn:inN n es):inN o.length (T4 (r,(n:Int),es) o).2.2:=by
 intro e he
 simp only[T4,Int.toNat_natCast]at he
 rcases(H7 O5 e _ _).1 he with h|h
 ·cases h
 ·exact g0m ho es hn e h
theorem R0h(n:Nat)(hn:n<=140737488355328):∀(d k fuel:Nat),k+d=n->d<fuel ->
  U7 n fuel (k:Int) (List.replicate k (-1)++List.replicate d 0)=some (List.replicate n (-1))
 |d,k,0,hd,hf=>by omega
 |0,k,fuel+1,hd,hf=>by
  rw[U7.eq_2,if_neg (by simp;omega),show k=n by omega];simp
 |d+1,k,fuel+1,hd,hf=>by
  have hg:gi (List.replicate k (-1)++List.replicate (d+1) (0:Int)) (k:Int)=some 0:=by
   rw[s08,List.getElem?_append_right (by simp)];simp
  have ih:=R0h n hn d (k+1) fuel (by omega) (by omega)
  rw[U7.eq_2,if_pos (by simp;omega),hg,oB,J2 (show k<n by omega) (by omega),Int.toNat_natCast]
  have e:(List.replicate k (-1)++List.replicate (d+1) (0:Int)).set k (-1)=List.replicate (k+1) (-1)++List.replicate d 0:=by
   rw[List.set_append_right _ _ (by simp),List.length_replicate,Nat.sub_self,List.replicate_succ,List.set_cons_zero,List.replicate_succ']
   simp
  rw[e,ih]
theorem S0h(o:List Int){n:Nat}(ho:inV n o)(hl:o.length<=9223372036854775807):∀(d k fuel:Nat) (A:List Int),A.length=n->k+d=o.length->d<fuel ->
  T7 o fuel (k:Int) A=some (c9 A k (o.drop k))
 |d,k,0,A,hA,hd,hf=>by omega
 |0,k,fuel+1,A,hA,hd,hf=>by
  rw[T7.eq_2,if_neg (by simp;omega),D2 (by omega)];rfl
 |d+1,k,fuel+1,A,hA,hd,hf=>by
  have hk:k<o.length:=by omega
  have hx:=Q7 hk
  have hin:=ho _ (List.mem_of_getElem? hx)
  generalize o[k]=v at hx hin
  have ih:=S0h o ho hl d (k+1) fuel (A.set v.toNat (k:Int)) (by simp[hA]) (by omega) (by omega)
  rw[T7.eq_2,if_pos (by simp;omega),Z2 hx,d4 hx,oB,giI hA hin.1 hin.2,oB,J2 hk hl,ih]
  rfl
theorem T0h(es:List I0){n:Nat}(hn:inN n es)(hl:es.length<=1099511627776)(P:List Int)(hP:P.length=n)(r m:Int):∀(d k fuel:Nat) (acc:List I0),k+d=es.length->d<fuel->acc.length<=k ->
  d7 es P fuel (k:Int) r m acc=some (r,m,acc++pE P (es.drop k))
 |d,k,0,acc,hd,hf,ha=>by omega
 |0,k,fuel+1,acc,hd,hf,ha=>by
  rw[d7.eq_2,if_neg (by simp;omega),D2 (by omega)];simp[pE]
 |d+1,k,fuel+1,acc,hd,hf,ha=>by
  have hk:k<es.length:=by omega
  have he:=Q7 hk
  have hin:=hn _ (List.mem_of_getElem? he)
  generalize es[k]=e at he hin
  obtain⟨a,l,b⟩:=e
  have ih:=λacc' h=>T0h es hn hl P hP r m d (k+1) fuel acc' (by omega) (by omega) h
  rw[d7.eq_2,if_pos (by simp;omega),Z2 he]
  simp only[d4 he,oB,giI hP hin.1.1 hin.1.2,giI hP hin.2.1 hin.2.2,J2 hk (show es.length<=9223372036854775807 by omega),pE]
  by_cases c1:0<=getI P a
  ·simp only[show decide (getI P a ≥ 0)=true by simpa using c1,O1,oB,cond_true,show decide (0<=getI P a)=true by simpa using c1,Bool.true_and]
   by_cases c2:0<=getI P b
   ·rw[if_pos (by simpa using c2),H0 (by simp;omega),oB,ih _ (by simp;omega)]
    simp[c2]
   ·rw[if_neg (by simpa using c2),ih _ (by omega)]
    simp[c2]
  ·simp only[show decide (getI P a ≥ 0)=false by simpa using c1,n4,oB,cond_false,show decide (0<=getI P a)=false by simpa using c1,Bool.false_and]
   rw[if_neg (by simp),ih _ (by omega)]
theorem Q0d(r:Int)(n:Nat)(es:List I0)(o:List Int)(hn:inN n es)(ho:inV n o)(hn2:n<=1000000)(hl:es.length<=1099511627776)(hl2:o.length<=1099511627776):
  Q9 (r,(n:Int),es) o=some (T4 (r,(n:Int),es) o):=by
 unfold Q9
 have h2:=R0h n (by omega) n 0 T0 (by omega) (D1 (by omega))
 have h1:=S0h o ho (by omega) o.length 0 T0 (List.replicate n (-1)) (by simp) (by omega) (D1 (by omega))
 have h0:=T0h es hn hl (plc n o) (Q0h n o) r ((o.length:Nat):Int) es.length 0 T0 [] (by omega) (D1 (by omega)) (Nat.le_refl _)
 rw[show((0:Nat):Int)=0 from rfl]at h0 h1 h2
 rw[List.replicate_zero,List.nil_append]at h2
 rw[List.drop_zero]at h1
 rw[List.drop_zero,List.nil_append]at h0
 simp only[Int.toNat_natCast]
 rw[H0 (by omega),oB,oB,List.length_replicate,H0 (by omega),oB,h2,oB,h1,oB]
 rw[show c9 (List.replicate n (-1)) 0 o=plc n o from rfl,h0]
 simp only[oB]
 rw[i0f _ (by have:=P0d (plc n o) es;omega),oB]
 rfl
theorem q0k(A:List Int)(i k:Nat):(A.map (·+1)).set i (((k+1:Nat):Int))=(A.set i (k:Int)).map (·+1):=by
 rw[List.map_set];rfl
theorem b0b{A:List Int}{n:Nat}(hA:A.length=n){x:Int}(h0:0<=x)(h1:x<n):gi (A.map (·+1)) x=some (getI A x+1):=by
 have hk:x.toNat<A.length:=by omega
 have e:x=((x.toNat:Nat):Int):=by omega
 have h2:gi (A.map (·+1)) ((x.toNat:Nat):Int)=some (getI A x+1):=by
  rw[s08,List.getElem?_map,List.getElem?_eq_getElem hk]
  unfold getI
  rw[List.getD_eq_getElem?_getD,List.getElem?_eq_getElem hk];rfl
 rw[←e]at h2;exact h2
theorem c0b{n:Nat}:∀(o:List Int) (k:Nat) (A:List Int) (x:Int),A.length=n->inV n o->0<=x->x ∉ o->getI (c9 A k o) x=getI A x
 | [],k,A,x,hA,ho,hx,h=>rfl
 |v::r,k,A,x,hA,ho,hx,h=>by
  have hv:=ho v mS
  rw[c9,c0b r _ _ x (by simp[hA]) (λw hw=>ho w (mC _ hw)) hx (λhm=>h (mC _ hm)),K01 hv.1 (by omega) hx,if_neg (λe=>h (by rw[e];exact mS))]
theorem r0k(r:Int)(n:Nat)(es:List I0)(o:List Int)(ho:inV n o)(hd':o.Nodup)(hn2:1<=n/\n<=1000000)(hl:o.length<=1099511627776):∀(d k fuel:Nat) (A:List Int),A.length=n->(∀ x,0<=x -> -1<=getI A x/\getI A x<=1099511627776)->(∀ x∈o.drop k,getI A x = -1)->k+d=o.length->d<fuel ->
  c4 o (n:Int) r es fuel (k:Int) (A.map (·+1))=some (.inr ((c9 A k (o.drop k)).map (·+1)))
 |d,k,0,A,hA,hr,hm,hd,hf=>by omega
 |0,k,fuel+1,A,hA,hr,hm,hd,hf=>by
  rw[c4.eq_2,if_neg (by simp;omega),D2 (by omega)];rfl
 |d+1,k,fuel+1,A,hA,hr,hm,hd,hf=>by
  have hk:k<o.length:=by omega
  have hx:=Q7 hk
  have hin:=ho _ (List.mem_of_getElem? hx)
  have hdr:=Z2 hx
  generalize o[k]=v at hx hin hdr
  have hnd:(o.drop k).Nodup:=hd'.sublist (List.drop_sublist _ _)
  rw[hdr]at hnd hm
  have hA0:=hm v mS
  have ih:=r0k r n es o ho hd' hn2 hl d (k+1) fuel (A.set v.toNat (k:Int)) (by simp[hA]) (λx hx=>by
   rw[K01 hin.1 (by omega) hx];have:=hr x hx;split<;>omega) (λx hx=>by
   have hx0:=ho x (List.mem_of_mem_drop hx)
   rw[K01 hin.1 (by omega) hx0.1,if_neg (λe=>(List.nodup_cons.1 hnd).1 (by rw[←e];exact hx))]
   exact hm x (mC _ hx)) (by omega) (by omega)
  rw[c4.eq_2,if_pos (by simp;omega),hdr,d4 hx]
  simp only[oB,m03,w64 (show -9223372036854775808<=(n:Int)-1 by omega) (show(n:Int)-1<=9223372036854775807 by omega),inR,show decide (0<=v)=true by simpa using hin.1,show decide (v<=(n:Int)-1)=true by simp;omega,Bool.and_self,Bool.not_true,Bool.not_false,O1,b0b hA hin.1 hin.2,hA0,cond_false]
  rw[if_neg (by decide),J2 hk (by omega),q0k,ih]
  rfl
theorem s0k(es:List I0){n:Nat}(hn:inN n es)(hl:es.length<=1099511627776)(P:List Int)(hP:P.length=n)(hr:∀ x,0<=x -> -1<=getI P x/\getI P x<=1099511627776)(r m:Int):∀(d k fuel:Nat) (acc:List I0),k+d=es.length->d<fuel->acc.length<=k ->
  K3 es (P.map (·+1)) fuel (k:Int) r m acc=some (r,m,O7 S0 acc (pE P (es.drop k)))
 |d,k,0,acc,hd,hf,ha=>by omega
 |0,k,fuel+1,acc,hd,hf,ha=>by
  rw[K3.eq_2,if_neg (by simp;omega),D2 (by omega)];rfl
 |d+1,k,fuel+1,acc,hd,hf,ha=>by
  have hk:k<es.length:=by omega
  have he:=Q7 hk
  have hin:=hn _ (List.mem_of_getElem? he)
  generalize es[k]=e at he hin
  obtain⟨a,l,b⟩:=e
  have ih:=λacc' h=>s0k es hn hl P hP hr r m d (k+1) fuel acc' (by omega) (by omega) h
  have ra:=hr a hin.1.1
  have rb:=hr b hin.2.1
  rw[K3.eq_2,if_pos (by simp;omega),Z2 he]
  simp only[d4 he,oB,b0b hP hin.1.1 hin.1.2,b0b hP hin.2.1 hin.2.2,J2 hk (show es.length<=9223372036854775807 by omega),pE]
  by_cases c1:0<=getI P a
  ·simp only[show decide (getI P a+1>0)=true by simp;omega,O1,oB,cond_true,show decide (0<=getI P a)=true by simpa using c1,Bool.true_and]
   by_cases c2:0<=getI P b
   ·rw[if_pos (by simp;omega),w64 (by omega) (by omega),w64 (by omega) (by omega),show getI P a+1-1=getI P a by omega,show getI P b+1-1=getI P b by omega]
    rw[M0h _ _ (by omega),oB,ih _ (by have:=L05 (getI P a,l,getI P b) acc;omega)]
    simp[c2,O7]
   ·rw[if_neg (by simp;omega),ih _ (by omega)]
    simp[c2]
  ·simp only[show decide (getI P a+1>0)=false by simp;omega,n4,oB,cond_false,show decide (0<=getI P a)=false by simpa using c1,Bool.false_and]
   rw[if_neg (by simp),ih _ (by omega)]
theorem F06(r:Int)(n:Nat)(es:List I0)(o:List Int)(hg:Z0 (r,(n:Int),es)=true)(ho:inV n o)(hd:o.Nodup)(h1:1<=o.length)(h2:o.length<=n):
  W4 (r,(n:Int),es) o=some (T4 (r,(n:Int),es) o,true):=by
 obtain⟨q1,q2,q3,q4⟩:=T3 hg
 simp only at q2 q3 q4
 have hn:inN n es:=λe he=>⟨(q1 e he).1,(q1 e he).2.1⟩
 have hG:=V7 (r,(n:Int),es) (by simp only;omega)
 unfold W4
 have e1:=r0k r n es o ho hd (by omega) (by omega) o.length 0 T0 (List.replicate n (-1)) (by simp) (λx hx=>by rw[n05];omega) (λx hx=>n05 n x) (by omega) (D1 (by omega))
 have e0:=s0k es hn (by omega) (plc n o) (Q0h n o) (λx hx=>by have:=K03 ho hx;omega) r ((o.length:Nat):Int) es.length 0 T0 [] (by omega) (D1 (by omega)) (Nat.le_refl _)
 rw[show((0:Nat):Int)=0 from rfl,List.drop_zero]at e0 e1
 rw[show(List.replicate n (-1:Int)).map (·+1)=List.replicate n 0 by simp]at e1
 rw[show c9 (List.replicate n (-1)) 0 o=plc n o from rfl]at e1
 have c1:decide (((o.length:Nat):Int)=0)=false:=decide_eq_false (by omega)
 have c2:decide (((o.length:Nat):Int)>(n:Int))=false:=decide_eq_false (by omega)
 simp only[hG,hg,oB,Bool.not_true,cond_false,Int.toNat_natCast,c1,c2]
 rw[if_neg (by simp),H0 (by omega),oB,e1]
 simp only[oB,l9,e0]
 rfl
theorem O8:∀(n:Nat) (o:List Int),o.Nodup->inV n o->o.length<=n
 |0,[],_,_=>Nat.le_refl _
 |0,x::r,_,h=>by have:=h x mS;omega
 |n+1,o,hd,h=>by
  have h1:inV n (o.erase (n:Int)):=λx hx=>by
   obtain⟨hne,hm⟩:=(List.Nodup.mem_erase_iff hd).1 hx
   have:=h x hm;omega
  have h2:=O8 n _ (hd.erase _) h1
  by_cases hm:(n:Int)∈o
  ·rw[List.length_erase_of_mem hm]at h2;omega
  ·rw[List.erase_of_not_mem hm]at h2;omega
def I5:Nat->Nat->List Int
 |0,_=>[]
 |d+1,i=>(i:Int) :: -(i:Int)::I5 d (i+1)
theorem t00:∀ d i,(I5 d i).length=2*d
 |0,i=>rfl
 |d+1,i=>by simp only[I5,List.length_cons,t00 d];omega
theorem D07:∀(d i:Nat),i+d<=1000->∀ x∈I5 d i,Q01 x
 |0,i,h,x,hx=>nomatch hx
 |d+1,i,h,x,hx=>by
  simp only[I5,List.mem_cons]at hx
  rcases hx with rfl|rfl|hx
  ·exact⟨⟨by omega,by omega⟩,by omega⟩
  ·exact⟨⟨by omega,by omega⟩,by omega⟩
  ·exact D07 d (i+1) (by omega) x hx
theorem t0k(R:Nat)(hR:R<=900):∀(d i fuel:Nat) (acc:List Int),i+d=R+1->d<fuel->acc.length+2*d<=10000 ->
  W5 (R:Int) fuel (i:Int) acc=some (acc++I5 d i)
 |d,i,0,acc,hd,hf,ha=>by omega
 |0,i,fuel+1,acc,hd,hf,ha=>by
  rw[W5.eq_2,if_neg (by simp;omega)];simp[I5]
 |d+1,i,fuel+1,acc,hd,hf,ha=>by
  have ih:=t0k R hR d (i+1) fuel (acc ++ [(i:Int),-(i:Int)]) (by omega) (by omega) (by simp;omega)
  have w1:IntKind.i64.wrap (0-(i:Int)) = -(i:Int):=by rw[w64 (by omega) (by omega)];omega
  rw[W5.eq_2,if_pos (by simp;omega),w1,H0 (by simp;omega),oB,J2 (show i<1000 by omega) (by omega),ih]
  simp[I5]
theorem u0k(R:Nat)(hR:R<=900):∀(d i fuel:Nat) (acc:List Int),i+d=R+1->d<fuel->acc.length+2*d<=10000 ->
  Y4 (R:Int) fuel (i:Int) acc=some (acc++I5 d i)
 |d,i,0,acc,hd,hf,ha=>by omega
 |0,i,fuel+1,acc,hd,hf,ha=>by
  rw[Y4.eq_2,if_neg (by simp;omega)];simp[I5]
 |d+1,i,fuel+1,acc,hd,hf,ha=>by
  have ih:=u0k R hR d (i+1) fuel ((acc ++ [(i:Int)]) ++ [-(i:Int)]) (by omega) (by omega) (by simp;omega)
  have w1:IntKind.i64.wrap (0-(i:Int)) = -(i:Int):=by rw[w64 (by omega) (by omega)];omega
  rw[Y4.eq_2,if_pos (by simp;omega),w1,H0 (by simp;omega),oB,H0 (by simp;omega),oB,J2 (show i<1000 by omega) (by omega),ih]
  simp[I5]
theorem H0g(R:Nat)(hR:R<=900):r7 (R:Int)=some (I5 R 1):=by
 unfold r7
 rw[show(1:Int)=((1:Nat):Int) from rfl,t0k R hR R 1 T0 [] (by omega) (D1 (by omega)) (by simp;omega)];rfl
theorem I0g(R:Nat)(hR:R<=900):S6 (R:Int)=some (I5 R 1):=by
 unfold S6
 rw[show(1:Int)=((1:Nat):Int) from rfl,u0k R hR R 1 T0 [] (by omega) (D1 (by omega)) (by simp;omega)];rfl
def o03(u:List Int)(x:Int):List Int:=if 0<=x/\x ∉ u then u ++ [x]else u
def Z8(g:j0)(v:Int):List Int->List Int->List Int
 | [],u=>u
 |x::r,u=>Z8 g v r (o03 u (j1 g v x))
def S5(g:j0)(ls:List Int):Nat->Nat->List Int->List Int
 |0,i,u=>u
 |f+1,i,u=>match u[i]? with
  |some v=>S5 g ls f (i+1) (Z8 g v ls u)
  |none=>u
def gud(n:Nat)(u:List Int):Prop:=u.Nodup/\inV n u
theorem m0f{n:Nat}{u:List Int}{x:Int}(h:gud n u)(hx:x = -1∨(0<=x/\x<(n:Int))):gud n (o03 u x):=by
 unfold o03
 split
 ·rename_i hc
  refine⟨List.nodup_append.2 ⟨h.1,by simp,λa ha b hb=>?_⟩,λy hy=>?_⟩
  ·simp at hb;subst hb;exact λe=>hc.2 (e▸ha)
  ·rcases List.mem_append.1 hy with hy|hy
   ·exact h.2 y hy
   ·simp at hy;subst hy;omega
 ·exact h
theorem d0b(u:List Int)(x:Int):∃ t,o03 u x=u++t:=by
 unfold o03;split
 ·exact⟨_,rfl⟩
 ·exact⟨[],by simp⟩
theorem F00(g:j0)(v:Int):∀(ls u:List Int),∃ t,Z8 g v ls u=u++t
 | [],u=>⟨[],by simp[Z8]⟩
 |x::r,u=>by
  obtain⟨t1,e1⟩:=d0b u (j1 g v x)
  obtain⟨t2,e2⟩:=F00 g v r (o03 u (j1 g v x))
  exact⟨t1++t2,by rw[Z8,e2,e1,List.append_assoc]⟩
theorem v01{r:Int}{n:Nat}{es:List I0}(hg:inG (r,(n:Int),es))(v:Int):∀(ls u:List Int),gud n u->gud n (Z8 (r,(n:Int),es) v ls u)
 | [],u,h=>h
 |x::l,u,h=>v01 hg v l _ (m0f h (e03 hg v x))
theorem e0b{r:Int}{n:Nat}{es:List I0}(hg:inG (r,(n:Int),es))(ls:List Int):∀(f i:Nat) (u:List Int),gud n u->gud n (S5 (r,(n:Int),es) ls f i u)
 |0,i,u,h=>h
 |f+1,i,u,h=>by
  unfold S5
  split
  ·exact e0b hg ls f _ _ (v01 hg _ _ _ h)
  ·exact h
theorem f0b(g:j0)(ls:List Int):∀(f i:Nat) (u:List Int),u.length<=(S5 g ls f i u).length
 |0,i,u=>Nat.le_refl _
 |f+1,i,u=>by
  unfold S5
  split
  ·rename_i v _
   obtain⟨t,e⟩:=F00 g v ls u
   have:=f0b g ls f (i+1) (Z8 g v ls u)
   rw[e]at this ⊢;simp only[List.length_append]at this;omega
  ·exact Nat.le_refl _
theorem U0h(r:Int)(n:Nat)(es:List I0)(hg:inG (r,(n:Int),es))(hn:n<=40)(hes:es.length<=1099511627776)(ls:List Int)(hls:∀ x∈ls,Q01 x)(hl:ls.length<=1000000)(i:Nat)(v:Int):∀(d k fuel:Nat) (u:List Int),gud n u->u[i]?=some v->k+d=ls.length->d<fuel ->
  B3 ls (i:Int) r (n:Int) es fuel (k:Int) u=some (Z8 (r,(n:Int),es) v (ls.drop k) u)
 |d,k,0,u,hu,hi,hd,hf=>by omega
 |0,k,fuel+1,u,hu,hi,hd,hf=>by
  rw[B3.eq_2,if_neg (by simp;omega),D2 (by omega)];rfl
 |d+1,k,fuel+1,u,hu,hi,hd,hf=>by
  have hk:k<ls.length:=by omega
  have hx:=Q7 hk
  have hxm:=hls _ (List.mem_of_getElem? hx)
  have hdr:=Z2 hx
  generalize ls[k]=x at hx hxm hdr
  have hlen:=O8 n u hu.1 hu.2
  have hnx:j1 (r,(n:Int),es) v x = -1∨(0<=j1 (r,(n:Int),es) v x/\j1 (r,(n:Int),es) v x<(n:Int)):=e03 hg v x
  have hg2:=m0f hu hnx
  have hi2:(o03 u (j1 (r,(n:Int),es) v x))[i]?=some v:=by
   obtain⟨t,e⟩:=d0b u (j1 (r,(n:Int),es) v x)
   rw[e,List.getElem?_append_left (List.getElem?_eq_some_iff.1 hi).1];exact hi
  have ih:=U0h r n es hg hn hes ls hls hl i v d (k+1) fuel _ hg2 hi2 (by omega) (by omega)
  rw[B3.eq_2,if_pos (by simp;omega),hdr]
  simp only[d4 hi,d4 hx,oB,C06 (r,(n:Int),es) v x hxm hes,H0 (S09 hg (show(n:Int)<=40 by omega) v x),J2 hk (show ls.length<=9223372036854775807 by omega),Z8]
  rw[←ih]
  generalize j1 (r,(n:Int),es) v x=y at *
  unfold o03
  by_cases c1:0<=y
  ·simp only[show decide (y ≥ 0)=true by simpa using c1,O1,T09 u y (by omega),oB,cond_true]
   by_cases c2:y∈u
   ·rw[if_neg (by simp[c2]),if_neg (by simp[c2])]
   ·rw[if_pos (by simp[c2]),if_pos ⟨c1,c2⟩,H0 (by simp;omega),oB]
  ·simp only[show decide (y ≥ 0)=false by simpa using c1,n4,oB,cond_false]
   rw[if_neg (by simp),if_neg (λh=>c1 h.1)]
theorem V0h(r:Int)(n:Nat)(es:List I0)(hg:inG (r,(n:Int),es))(hn:n<=40)(hes:es.length<=1099511627776)(ls:List Int)(hls:∀ x∈ls,Q01 x)(hl:ls.length<=1000000):∀(f i fuel:Nat) (u:List Int),gud n u->i<=u.length->n+1<=i+f->f<fuel ->
  C4 ls r (n:Int) es fuel (i:Int) u=some (S5 (r,(n:Int),es) ls f i u)
 |f,i,0,u,hu,hi,hd,hf=>by omega
 |0,i,fuel+1,u,hu,hi,hd,hf=>by have:=O8 n u hu.1 hu.2;omega
 |f+1,i,fuel+1,u,hu,hi,hd,hf=>by
  have hlen:=O8 n u hu.1 hu.2
  rw[C4.eq_2,oB,H0 (by omega),oB]
  by_cases hk:i<u.length
  ·have hx:=Q7 hk
   generalize u[i]=v at hx
   have h0:=U0h r n es hg hn hes ls hls hl i v ls.length 0 T0 u hu hx (by omega) (D1 (by omega))
   rw[show((0:Nat):Int)=0 from rfl,List.drop_zero]at h0
   obtain⟨t,e⟩:=F00 (r,(n:Int),es) v ls u
   have ih:=V0h r n es hg hn hes ls hls hl f (i+1) fuel _ (v01 hg v ls u hu) (by rw[e,List.length_append];omega) (by omega) (by omega)
   rw[if_pos (by simpa using hk),h0,oB,J2 hk (by omega),ih]
   simp only[S5,hx]
  ·have hx:u[i]?=none:=List.getElem?_eq_none (by omega)
   rw[if_neg (by simpa using hk)]
   simp only[S5,hx]
def Q2(g:j0):List Int:=S5 g (I5 g.1.toNat 1) (g.2.1.toNat+1) 0 [0]
theorem G00{g:j0}(hf:K0 g=true):gud g.2.1.toNat (Q2 g)/\1<=(Q2 g).length:=by
 obtain⟨h1,h2,h3,h4⟩:=V1 hf
 obtain⟨r,n,es⟩:=g
 simp only at h2 h3 h4
 obtain⟨N,rfl⟩:∃ N:Nat,n=(N:Int):=⟨n.toNat,by omega⟩
 refine⟨?_,?_⟩
 ·exact e0b h1 _ _ _ _ ⟨by simp,λx hx=>by simp at hx;subst hx;show(0:Int)<=0/\(0:Int)<(((N:Int).toNat:Nat):Int);omega⟩
 ·exact f0b _ _ _ _ [0]
theorem n0f(g:j0)(hf:K0 g=true):N6 g=some (Q2 g):=by
 obtain⟨h1,h2,h3,h4⟩:=V1 hf
 have hF:=U00 g (by omega)
 obtain⟨r,n,es⟩:=g
 simp only at h2 h3 h4
 obtain⟨N,rfl⟩:∃ N:Nat,n=(N:Int):=⟨n.toNat,by omega⟩
 obtain⟨R,rfl⟩:∃ R:Nat,r=(R:Int):=⟨r.toNat,by omega⟩
 unfold N6
 have h0:=V0h (R:Int) N es h1 (by omega) (by omega) (I5 R 1) (D07 R 1 (by omega)) (by rw[t00];omega) (N+1) 0 T0 [0] ⟨by simp,λx hx=>by simp at hx;subst hx;omega⟩ (by simp) (by omega) (D1 (by omega))
 simp only[hF,hf,oB,Bool.not_true,I0g R (by omega)]
 rw[show((0:Nat):Int)=0 from rfl]at h0
 rw[if_neg (by simp),h0]
 rfl
theorem W0h{a:List Int}(la:a.length<=1099511627776):C8 a=some a:=by
 unfold C8
 rw[H0 (by simp;omega)];rfl
def l6(W:List (Option (List Int)))(x:Int):Option (List Int):=W.getD x.toNat none
theorem giO{W:List (Option (List Int))}{n:Nat}(hl:W.length=n){x:Int}(h0:0<=x)(h1:x<n):gi W x=some (l6 W x):=by
 have hk:x.toNat<W.length:=by omega
 have e:x=((x.toNat:Nat):Int):=by omega
 have h2:gi W ((x.toNat:Nat):Int)=some (l6 W x):=by
  rw[s08,List.getElem?_eq_getElem hk]
  unfold l6
  rw[List.getD_eq_getElem?_getD,List.getElem?_eq_getElem hk];rfl
 rw[←e]at h2;exact h2
theorem n9{A:List (Option (List Int))}{v x:Int}{y:Option (List Int)}(h0:0<=v)(h1:v.toNat<A.length)(hx:0<=x):l6 (A.set v.toNat y) x=if x=v then y else l6 A x:=by
 unfold l6
 rw[List.getD_eq_getElem?_getD,List.getD_eq_getElem?_getD,List.getElem?_set]
 by_cases c:x=v
 ·rw[if_pos c,if_pos (by rw[c]),if_pos h1];rfl
 ·rw[if_neg c,if_neg (by omega)]
structure WOk (n:Nat) (W:List (Option (List Int))) (u:List Int):Prop where
 len:W.length=n
 iff:∀ x,0<=x->x<(n:Int)->((l6 W x).isNone=true↔x ∉ u)
 short:∀ x,((l6 W x).getD []).length<=u.length
theorem X0h(r:Int)(n:Nat)(es:List I0)(hg:inG (r,(n:Int),es))(hn:n<=40)(hes:es.length<=1099511627776)(ls:List Int)(hls:∀ x∈ls,Q01 x)(hl:ls.length<=1000000)(v:Int)(hv:0<=v/\v<(n:Int)):∀(d k fuel:Nat) (W:List (Option (List Int))) (u:List Int),gud n u->WOk n W u->k+d=ls.length->d<fuel ->
  ∃ W',A2 ls r (n:Int) es v fuel (k:Int) W u=some (W',Z8 (r,(n:Int),es) v (ls.drop k) u)/\WOk n W' (Z8 (r,(n:Int),es) v (ls.drop k) u)
 |d,k,0,W,u,hu,hw,hd,hf=>by omega
 |0,k,fuel+1,W,u,hu,hw,hd,hf=>by
  rw[A2.eq_2,if_neg (by simp;omega),D2 (by omega)];exact⟨W,rfl,hw⟩
 |d+1,k,fuel+1,W,u,hu,hw,hd,hf=>by
  have hk:k<ls.length:=by omega
  have hx:=Q7 hk
  have hxm:=hls _ (List.mem_of_getElem? hx)
  have hdr:=Z2 hx
  generalize ls[k]=x at hx hxm hdr
  have hlen:=O8 n u hu.1 hu.2
  have hnx:j1 (r,(n:Int),es) v x = -1∨(0<=j1 (r,(n:Int),es) v x/\j1 (r,(n:Int),es) v x<(n:Int)):=e03 hg v x
  have hg2:=m0f hu hnx
  have ih:=λW' h=>X0h r n es hg hn hes ls hls hl v hv d (k+1) fuel W' _ hg2 h (by omega) (by omega)
  rw[A2.eq_2,if_pos (by simp;omega),hdr]
  simp only[d4 hx,oB,D06 (r,(n:Int),es) v x hxm hes,H0 (S09 hg (show(n:Int)<=40 by omega) v x),J2 hk (show ls.length<=9223372036854775807 by omega),Z8]
  generalize j1 (r,(n:Int),es) v x=y at *
  by_cases c1:0<=y
  ·have hy:y<(n:Int):=by omega
   simp only[show decide (y ≥ 0)=true by simpa using c1,O1,giO hw.len c1 hy,oB,cond_true]
   by_cases c2:y∈u
   ·have : ¬ ((l6 W y).isNone=true):=λh=>(hw.iff y c1 hy).1 h c2
    have e:o03 u y=u:=if_neg λh=>h.2 c2
    rw[if_neg this]
    rw[e]at ih ⊢
    exact ih W hw
   ·have:(l6 W y).isNone=true:=(hw.iff y c1 hy).2 c2
    have e:o03 u y=u ++ [y]:=if_pos ⟨c1,c2⟩
    have hs:=hw.short v
    rw[if_pos this,giO hw.len hv.1 hv.2,oB,W0h (by omega),oB,H0 (by simp;omega),oB,H0 (by simp;omega),oB]
    rw[e]at ih ⊢
    refine ih _ ⟨by simp[hw.len],λz h0 h1=>?_,λz=>?_⟩
    ·rw[n9 c1 (by have:=hw.len;omega) h0]
     by_cases c:z=y
     ·rw[if_pos c];simp[c]
     ·rw[if_neg c,hw.iff z h0 h1];simp[c]
    ·by_cases hz:0<=z
     ·rw[n9 c1 (by have:=hw.len;omega) hz]
      by_cases c:z=y
      ·rw[if_pos c];simp;exact hs
      ·rw[if_neg c];have:=hw.short z;simp only[List.length_append];omega
     ·have hz0:l6 (W.set y.toNat (some ((l6 W v).getD [] ++ [x]))) z=l6 (W.set y.toNat (some ((l6 W v).getD [] ++ [x]))) 0:=by
       unfold l6;rw[show z.toNat=(0:Int).toNat by omega]
      rw[hz0,n9 c1 (by have:=hw.len;omega) (iR 0)]
      by_cases c:(0:Int)=y
      ·rw[if_pos c];simp;exact hs
      ·rw[if_neg c];have:=hw.short 0;simp only[List.length_append];omega
  ·have e:o03 u y=u:=if_neg λh=>c1 h.1
   simp only[show decide (y ≥ 0)=false by simpa using c1,n4,oB,cond_false]
   rw[if_neg (by simp)]
   rw[e]at ih ⊢
   exact ih W hw
theorem Y0h(R n:Nat)(hR:R<=900)(es:List I0)(hg:inG ((R:Int),(n:Int),es))(hn:n<=40)(hes:es.length<=1099511627776):∀(f i fuel:Nat) (W:List (Option (List Int))) (u:List Int),gud n u->WOk n W u->i<=u.length->n+1<=i+f->f<fuel ->
  ∃ W',I3 (R:Int) (n:Int) es fuel (i:Int) W u=some (W',S5 ((R:Int),(n:Int),es) (I5 R 1) f i u)
 |f,i,0,W,u,hu,hw,hi,hd,hf=>by omega
 |0,i,fuel+1,W,u,hu,hw,hi,hd,hf=>by have:=O8 n u hu.1 hu.2;omega
 |f+1,i,fuel+1,W,u,hu,hw,hi,hd,hf=>by
  have hlen:=O8 n u hu.1 hu.2
  rw[I3.eq_2,oB,H0 (by omega),oB]
  by_cases hk:i<u.length
  ·have hx:=Q7 hk
   have hv:=hu.2 _ (List.mem_of_getElem? hx)
   generalize u[i]=v at hx hv
   obtain⟨W1,h0,hw1⟩:=X0h (R:Int) n es hg hn hes (I5 R 1) (D07 R 1 (by omega)) (by rw[t00];omega) v hv (I5 R 1).length 0 T0 W u hu hw (by omega) (D1 (by rw[t00];omega))
   rw[show((0:Nat):Int)=0 from rfl,List.drop_zero]at h0
   rw[List.drop_zero]at hw1
   obtain⟨t,e⟩:=F00 ((R:Int),(n:Int),es) v (I5 R 1) u
   obtain⟨W2,ih⟩:=Y0h R n hR es hg hn hes f (i+1) fuel W1 _ (v01 hg v _ u hu) hw1 (by rw[e,List.length_append];omega) (by omega) (by omega)
   rw[if_pos (by simpa using hk),d4 hx,oB,H0g R hR,oB,h0,oB]
   simp only[J2 hk (show u.length<=9223372036854775807 by omega),ih,S5,hx]
   exact⟨_,rfl⟩
  ·have hx:u[i]?=none:=List.getElem?_eq_none (by omega)
   rw[if_neg (by simpa using hk)]
   simp only[S5,hx]
   exact⟨_,rfl⟩
theorem o0f(g:j0)(hf:K0 g=true):O6 g=some (Q2 g):=by
 obtain⟨h1,h2,h3,h4⟩:=V1 hf
 have hF:=R9 g (by omega)
 obtain⟨r,n,es⟩:=g
 simp only at h2 h3 h4
 obtain⟨N,rfl⟩:∃ N:Nat,n=(N:Int):=⟨n.toNat,by omega⟩
 obtain⟨R,rfl⟩:∃ R:Nat,r=(R:Int):=⟨r.toNat,by omega⟩
 unfold O6
 have hrep:∀ x,l6 (List.replicate N (none:Option (List Int))) x=none:=λx=>by
  unfold l6
  rw[List.getD_eq_getElem?_getD,List.getElem?_replicate];split<;>rfl
 have hW:WOk N ((List.replicate N (none:Option (List Int))).set (0:Int).toNat (some [])) [0]:=by
  refine⟨by simp,λx h0 h1=>?_,λx=>?_⟩
  ·rw[n9 (iR 0) (by simp;omega) h0]
   by_cases c:x=0
   ·rw[if_pos c];simp[c]
   ·rw[if_neg c,hrep];simp[c]
  ·by_cases hz:0<=x
   ·rw[n9 (iR 0) (by simp;omega) hz]
    split
    ·simp
    ·rw[hrep];simp
   ·have:l6 ((List.replicate N (none:Option (List Int))).set (0:Int).toNat (some [])) x=l6 ((List.replicate N (none:Option (List Int))).set (0:Int).toNat (some [])) 0:=by
     unfold l6;rw[show x.toNat=(0:Int).toNat by omega]
    rw[this,n9 (iR 0) (by simp;omega) (iR 0),if_pos rfl];simp
 obtain⟨W',h0⟩:=Y0h R N (by omega) es h1 (by omega) (by omega) (N+1) 0 T0 _ [0] ⟨by simp,λx hx=>by simp at hx;subst hx;omega⟩ hW (by simp) (by omega) (D1 (by omega))
 have hg0:gi (List.replicate N (none:Option (List Int))) 0=some none:=by
  rw[v08 (x:=none)];rw[List.getElem?_replicate,if_pos (by omega)]
 simp only[hF,hf,oB,Bool.not_true,D9,Int.toNat_natCast]
 rw[if_neg (by simp),H0 (by omega),oB,hg0,oB]
 rw[show((0:Nat):Int)=0 from rfl]at h0
 rw[h0]
 rfl
def M2(g:j0):j0:=T4 g (Q2 g)
theorem p09(g:j0)(hf:K0 g=true):L5 g=some (M2 g):=by
 obtain⟨h1,h2,h3,h4⟩:=V1 hf
 have hF:=R9 g (by omega)
 have hO:=o0f g hf
 obtain⟨ho,ho1⟩:=G00 hf
 have hle:=O8 _ _ ho.1 ho.2
 obtain⟨r,n,es⟩:=g
 simp only at h2 h3 h4
 obtain⟨N,rfl⟩:∃ N:Nat,n=(N:Int):=⟨n.toNat,by omega⟩
 simp only[Int.toNat_natCast]at ho hle
 have hp:=Q0d r N es (Q2 (r,(N:Int),es)) (λe he=>⟨(h1 e he).1,(h1 e he).2.1⟩) ho.2 (by omega) (by omega) (by omega)
 unfold L5
 simp only[hF,hf,oB,Bool.not_true,hO,hp]
 rfl
theorem q09(g:j0)(hf:K0 g=true):K5 g=some (M2 g):=by
 obtain⟨h1,h2,h3,h4⟩:=V1 hf
 have hG:Z0 g=true:=by
  unfold K0 at hf;exact(Bool.and_eq_true _ _▸hf).1
 have hO:=n0f g hf
 obtain⟨ho,ho1⟩:=G00 hf
 have hle:=O8 _ _ ho.1 ho.2
 obtain⟨r,n,es⟩:=g
 simp only at h2 h3 h4
 obtain⟨N,rfl⟩:∃ N:Nat,n=(N:Int):=⟨n.toNat,by omega⟩
 simp only[Int.toNat_natCast]at ho hle
 have hp:=F06 r N es (Q2 (r,(N:Int),es)) hG ho.2 ho.1 ho1 hle
 unfold K5
 simp only[oB,hO,hp]
 rw[if_neg (by simp;intro h;rw[h]at ho1;simp at ho1)]
 rfl
def lf(bad:Nat->Bool):Nat->Nat->Option Nat
 |0,v=>none
 |d+1,v=>bif bad v then some v else lf bad d (v+1)
theorem p05{bad:Nat->Bool}:∀(d v k:Nat),lf bad d v=some k->v<=k/\k<v+d
 |0,v,k,h=>by cases h
 |d+1,v,k,h=>by
  unfold lf at h
  cases hb:bad v
  ·rw[hb]at h;have:=p05 d (v+1) k h;omega
  ·rw[hb]at h;cases h;omega
theorem g0b{b1 b2:Nat->Bool}:∀(d v:Nat),(∀ k,v<=k->k<v+d->b1 k=b2 k)->lf b1 d v=lf b2 d v
 |0,v,h=>rfl
 |d+1,v,h=>by unfold lf;rw[h v (Nat.le_refl _) (by omega),g0b d (v+1) λk h1 h2=>h k (by omega) (by omega)]
def U0i(es:List I0):List Int:=itS es (es.length+1) [0]
def R05(es:List I0)(v:Nat):Bool:=decide (S7 (v:Int) es<2) || !decide ((v:Int)∈U0i es)
def P5(g:j0):Option Nat:=lf (R05 g.2.2) (g.2.1.toNat-1) 1
theorem J0g(g:j0)(hg:Z0 g=true):n8 g 0=some (U0i g.2.2)/\(U0i g.2.2).length<=100000:=by
 obtain⟨h1,h2,h3,h4⟩:=T3 hg
 have hq:=V7 g (by omega)
 obtain⟨r,n,es⟩:=g
 simp only at h2 h3 h4
 unfold n8 U0i
 have hl:=Z0a es h4 (es.length+1) 0 T0 [0] (by omega) (D1 (by omega)) (by simp)
 have hlen:=N0h es (es.length+1) [0]
 refine⟨?_,?_⟩
 ·rw[show((0:Nat):Int)=0 from rfl]at hl
  simp only[hq,hg,oB,Bool.not_true,Bool.not_false,O1,m03,inR,w64 (show -9223372036854775808<=n-1 by omega) (show n-1<=9223372036854775807 by omega)]
  rw[if_neg (by simp;omega),hl];rfl
 ·have:(es.length+1)*(2*es.length)<=121*240:=Nat.mul_le_mul (by omega) (by omega)
  simp only[List.length_singleton]at hlen
  simp only
  omega
theorem v0k(r:Int)(n:Nat)(es:List I0)(hes:es.length<=1000)(u:List Int)(hu:u.length<=100000)(hn:n<=40):∀(d v fuel:Nat),v+d=n∨(d=0/\n<=v)->v<=1000->d<fuel ->
  K6 (n:Int) r es u fuel (v:Int)=some (match lf (λv=>decide (S7 (v:Int) es<2) || !decide ((v:Int)∈u)) d v with|some k => .inl (k:Int)|none => .inr ())
 |d,v,0,hd,hv,hf=>by omega
 |0,v,fuel+1,hd,hv,hf=>by
  rw[K6.eq_2,if_neg (by simp;omega)];rfl
 |d+1,v,fuel+1,hd,hv,hf=>by
  have ih:=v0k r n es hes u hu hn d (v+1) fuel (by omega) (by omega) (by omega)
  have hdeg:=N0d (v:Int) es
  rw[K6.eq_2,if_pos (by simp;omega),y08 (r,(n:Int),es) _ (by simp only;omega),oB,H0 (c64 (by simp only;omega) (by simp only;omega)),oB,J2 (show v<10000 by omega) (by omega)]
  unfold lf
  by_cases c1:S7 (v:Int) es<2
  ·have e1:decide (((S7 (v:Int) es:Nat):Int)<2)=true:=decide_eq_true (by omega)
   simp only[e1,Bool.not_true,n4,oB,cond_true,if_true,decide_eq_true c1,Bool.true_or]
  ·have e1:decide (((S7 (v:Int) es:Nat):Int)<2)=false:=decide_eq_false (by omega)
   simp only[e1,Bool.not_false,O1,T09 u _ (show u.length<=9223372036854775807 by omega),oB,cond_false,decide_eq_false c1,Bool.false_or]
   by_cases c2:(v:Int)∈u
   ·simp only[decide_eq_true c2,Bool.not_true,Bool.false_eq_true,if_false,cond_false];exact ih
   ·simp only[decide_eq_false c2,Bool.not_false,if_true,cond_true]
theorem w0k(g:j0)(hg:Z0 g=true):z9 g=some (match P5 g with|some k=>(k:Int)|none => -1):=by
 obtain⟨e1,e2⟩:=J0g g hg
 obtain⟨h1,h2,h3,h4⟩:=T3 hg
 obtain⟨r,n,es⟩:=g
 simp only at h2 h3 h4 e1 e2
 obtain⟨N,rfl⟩:∃ N:Nat,n=(N:Int):=⟨n.toNat,by omega⟩
 unfold z9 P5
 have hl:=v0k r N es (by omega) (U0i es) e2 (by omega) (N-1) 1 T0 (by omega) (by omega) (D1 (by omega))
 simp only[e1,oB,Int.toNat_natCast]
 rw[show(1:Int)=((1:Nat):Int) from rfl,hl]
 rw[show(λv:Nat=>decide (S7 (v:Int) es<2) || !decide ((v:Int)∈U0i es))=R05 es from rfl]
 cases lf (R05 es) (N-1) 1<;>rfl
theorem R0d(r:Int)(n:Nat)(es:List I0)(hes:es.length<=1000)(S:List Bool)(hS:S.length=n)(hn:n<=40):∀(d v fuel:Nat),1<=v->v+d=n∨(d=0/\n<=v)->v<=1000->d+1<fuel ->
  P3 (n:Int) r es S fuel 0 (v:Int)=some (match lf (λv=>decide (S7 (v:Int) es<2) || !Z7 S (v:Int)) d v with|some k=>(k:Int)|none=>0)
 |d,v,0,h1,hd,hv,hf=>by omega
 |0,v,fuel+1,h1,hd,hv,hf=>by
  have e:decide ((v:Int)<(n:Int))=false:=decide_eq_false (by omega)
  rw[P3.eq_2,if_neg (by rw[e];simp)];rfl
 |d+1,v,fuel+1,h1,hd,hv,hf=>by
  have ih:=R0d r n es hes S hS hn d (v+1) fuel (by omega) (by omega) (by omega) (by omega)
  have hdeg:=N0d (v:Int) es
  have e:decide ((v:Int)<(n:Int))=true:=decide_eq_true (by omega)
  have hfin:∀ w:Int,P3 (n:Int) r es S fuel (v:Int) w=some (v:Int):=λw=>by
   obtain _|fuel:=fuel
   ·omega
   ·have e2:decide ((v:Int)=0)=false:=decide_eq_false (by omega)
    have e3:∀ b:Bool,(bif b then false else false)=false:=λb=>by cases b<;>rfl
    rw[P3.eq_2,if_neg (by rw[e2,e3];simp)]
  rw[P3.eq_2,if_pos (by rw[e];rfl),A0c (r,(n:Int),es) _ (by simp only;omega),oB,H0 (c64 (by simp only;omega) (by simp only;omega)),oB,J2 (show v<10000 by omega) (by omega)]
  unfold lf
  by_cases c1:S7 (v:Int) es<2
  ·have e1:decide (((S7 (v:Int) es:Nat):Int)<2)=true:=decide_eq_true (by omega)
   simp only[e1,Bool.not_true,n4,oB,cond_true,if_true,decide_eq_true c1,Bool.true_or,hfin]
  ·have e1:decide (((S7 (v:Int) es:Nat):Int)<2)=false:=decide_eq_false (by omega)
   simp only[e1,Bool.not_false,O1,giB hS (show(0:Int)<=(v:Int) by omega) (show(v:Int)<(n:Int) by omega),oB,cond_false,decide_eq_false c1,Bool.false_or]
   cases hb:Z7 S (v:Int)
   ·simp only[Bool.not_false,if_true,cond_true,hfin]
   ·simp only[Bool.not_true,Bool.false_eq_true,if_false,cond_false];exact ih
def wo(g:Nat):Nat->Nat->List Int
 |0,k=>[]
 |d+1,k=>if k=g then wo g d (k+1)else(k:Int)::wo g d (k+1)
theorem h0b(g:Nat):∀(d k:Nat),(wo g d k).length=d-(if k<=g/\g<k+d then 1 else 0)
 |0,k=>by simp[wo]
 |d+1,k=>by
  have ih:=h0b g d (k+1)
  unfold wo
  by_cases c:k=g
  ·rw[if_pos c,ih,if_neg (by omega),if_pos (by omega)];omega
  ·rw[if_neg c,List.length_cons,ih]
   by_cases c2:k+1<=g/\g<k+1+d
   ·rw[if_pos c2,if_pos (by omega)];omega
   ·rw[if_neg c2,if_neg (by omega)];omega
theorem p0f(g n:Nat):∀(d k:Nat),k+d<=n->inV n (wo g d k)
 |0,k,h=>λx hx=>nomatch hx
 |d+1,k,h=>by
  have ih:=p0f g n d (k+1) (by omega)
  unfold wo
  split
  ·exact ih
  ·intro x hx
   rcases List.mem_cons.1 hx with rfl|hx
   ·omega
   ·exact ih x hx
theorem S0d(n g:Nat)(hn:n<=1000):∀(d k fuel:Nat) (acc:List Int),k+d=n->d<fuel->acc.length<=k ->
  J4 (n:Int) (g:Int) fuel (k:Int) acc=some (acc++wo g d k)
 |d,k,0,acc,hd,hf,ha=>by omega
 |0,k,fuel+1,acc,hd,hf,ha=>by
  rw[J4.eq_2,if_neg (by simp;omega)];simp[wo]
 |d+1,k,fuel+1,acc,hd,hf,ha=>by
  have ih:=λacc' h=>S0d n g hn d (k+1) fuel acc' (by omega) (by omega) h
  rw[J4.eq_2,if_pos (by simp;omega),J2 (show k<10000 by omega) (by omega)]
  unfold wo
  by_cases c:k=g
  ·have e:decide ((k:Int)=(g:Int))=true:=decide_eq_true (by omega)
   rw[e,if_neg (by simp),if_pos c,ih _ (by omega)]
  ·have e:decide ((k:Int)=(g:Int))=false:=decide_eq_false (by omega)
   rw[e,if_pos (show(!false)=true from rfl),if_neg c,H0 (by simp;omega),oB,ih _ (by simp;omega)]
   simp
theorem T0d(n:Nat)(hn:n<=1000):∀(d k fuel:Nat) (acc:List Int),k+d=n->d<fuel->acc.length=k ->
  ∃ u,Z4 (n:Int) fuel (k:Int) acc=some u/\u.length=n
 |d,k,0,acc,hd,hf,ha=>by omega
 |0,k,fuel+1,acc,hd,hf,ha=>by
  rw[Z4.eq_2,if_neg (by simp;omega)];exact⟨_,rfl,by omega⟩
 |d+1,k,fuel+1,acc,hd,hf,ha=>by
  obtain⟨u,e1,e2⟩:=T0d n hn d (k+1) fuel (acc ++ [(k:Int)]) (by omega) (by omega) (by simp;omega)
  rw[Z4.eq_2,if_pos (by simp;omega),J2 (show k<10000 by omega) (by omega),H0 (by simp;omega),oB,e1]
  exact⟨u,rfl,e2⟩
theorem q0f{α:Type}{xs:List α}{k:Nat}(h:k<=xs.length):y06 xs 0 (k:Int)=some (xs.take k):=by
 unfold y06
 rw[if_pos (by omega)];rfl
theorem Z0h:∀(n fuel:Nat) (left:List Int) (r:Int) (es:List I0),1<=n->n<=40->inN n es->es.length<=120->left.length=n->n<fuel ->
  ∃(g':j0) (l':List Int),K4 fuel left r (n:Int) es=some (.inl (g',l'))/\g'.2.1<=(n:Int)/\(g'.2.1=(n:Int)↔lf (R05 es) (n-1) 1=none)
 |n,0,left,r,es,h1,h2,hn,hes,hl,hf=>by omega
 |n,fuel+1,left,r,es,h1,h2,hn,hes,hl,hf=>by
  obtain⟨S,eS,lS,hS⟩:=j0f r n es hn (by omega) h1 (by omega)
  have ht1:=R0d r n es (by omega) S lS h2 (n-1) 1 T0 (Nat.le_refl _) (by omega) (by omega) (D1 (by omega))
  have hcg:lf (λv=>decide (S7 (v:Int) es<2) || !Z7 S (v:Int)) (n-1) 1=lf (R05 es) (n-1) 1:=g0b _ _ λk k1 k2=>by
   unfold R05
   have:=hS (k:Int) (by omega) (by omega)
   have h3:=p04 es 0 (k:Int)
   congr 2
   cases hb:Z7 S (k:Int)
   ·symm;exact decide_eq_false λh=>by rw[this.2 (h3.1 h)]at hb;cases hb
   ·symm;exact decide_eq_true (h3.2 (this.1 hb))
  rw[hcg]at ht1
  rw[K4.eq_2,eS,oB,show(1:Int)=((1:Nat):Int) from rfl,ht1,oB]
  cases hlf:lf (R05 es) (n-1) 1 with
  |none =>
   exact⟨(r,(n:Int),es),left,by rw[if_pos (by rfl)],iR _,by simp⟩
  |some k =>
   have hk:=p05 _ _ _ hlf
   have e0:decide ((k:Int)=0)=false:=decide_eq_false (by omega)
   have ho:=p0f k n n 0 (by omega)
   have hlen:=h0b k n 0
   rw[if_pos (by omega)]at hlen
   have ht0:=S0d n k (by omega) n 0 T0 [] (by omega) (D1 (by omega)) (Nat.le_refl _)
   rw[show((0:Nat):Int)=0 from rfl,List.nil_append]at ht0
   have hp:=Q0d r n es (wo k n 0) hn ho (by omega) (by omega) (by omega)
   have hpl:=E06 (r,(n:Int),es) (wo k n 0)
   have hpi:=I0c (r:=r) ho hn
   have hw:IntKind.i64.wrap ((k:Int)+((1:Nat):Int))=((k+1:Nat):Int):=by rw[w64 (by omega) (by omega)];rfl
   obtain⟨g',l',q1,q2,q3⟩:=Z0h (n-1) fuel (left.take k++left.drop (k+1)) r (T4 (r,(n:Int),es) (wo k n 0)).2.2 (by omega) (by omega) (by rw[hlen]at hpi;exact hpi) (by simp only at hpl;omega) (by simp only[List.length_append,List.length_take,List.length_drop];omega) (by omega)
   refine⟨g',l',?_,by omega,?_⟩
   ·simp only[e0,Bool.false_eq_true,if_false,ht0,oB,hp]
    rw[show T4 (r,(n:Int),es) (wo k n 0)=(r,((n-1:Nat):Int),(T4 (r,(n:Int),es) (wo k n 0)).2.2) by rw[←hlen];rfl]
    simp only[hw]
    rw[q0f (by omega),oB,m04 (by omega),oB,H0 (by simp only[List.length_take,List.length_drop];omega),oB,q1]
   ·constructor
    ·intro h;omega
    ·intro h;cases h
theorem K0g(g:j0)(hg:Z0 g=true):∃(g':j0) (l':List Int),Y5 g=some (g',l')/\(g'.2.1=g.2.1↔P5 g=none):=by
 obtain⟨h1,h2,h3,h4⟩:=T3 hg
 have hq:=s00 g (by omega)
 have hc:=u01 g (by omega)
 obtain⟨r,n,es⟩:=g
 simp only at h2 h3 h4
 obtain⟨N,rfl⟩:∃ N:Nat,n=(N:Int):=⟨n.toNat,by omega⟩
 have hn:inN N es:=λe he=>⟨(h1 e he).1,(h1 e he).2.1⟩
 obtain⟨u,e1,e2⟩:=T0d N (by omega) N 0 T0 [] (by omega) (D1 (by omega)) rfl
 obtain⟨g',l',q1,q2,q3⟩:=Z0h N T0 u r es (by omega) (by omega) hn h4 e2 (D1 (by omega))
 refine⟨g',l',?_,?_⟩
 ·unfold Y5
  rw[show((0:Nat):Int)=0 from rfl]at e1
  simp only[hc,oB,hq,hg,Bool.not_true,Bool.false_eq_true,if_false,e1,q1,l9]
 ·simp only[P5,Int.toNat_natCast];exact q3
def P1(g:j0):Bool:=K0 g&&((P5 g).isNone&&l05 (M2 g) g)
theorem R3{g:j0}(h:K0 g=true):Z0 g=true:=by
 unfold K0 at h;exact(Bool.and_eq_true _ _▸h).1
theorem J0c{g:j0}(hf:K0 g=true):(M2 g).2.2.length<=120:=by
 have:=E06 g (Q2 g)
 have:=(V1 hf).2.2.2
 unfold M2;omega
theorem q04(g:j0)(hl:g.2.2.length<=140737488355328):W7 g=some (P1 g):=by
 have hF:=R9 g hl
 unfold P1
 by_cases hf:K0 g=true
 ·obtain⟨g',l',e1,e2⟩:=K0g g (R3 hf)
  have hC:=p09 g hf
  have hE:=B0c (M2 g) g (by have:=J0c hf;omega)
  obtain⟨r,n,es⟩:=g
  obtain⟨r',n',es'⟩:=g'
  unfold W7
  simp only at e2
  generalize M2 (r,n,es)=C at *
  obtain⟨c1,c2,c3⟩:=C
  simp only[hF,hf,oB,Bool.not_true,Bool.false_eq_true,if_false,e1,hC]
  by_cases c:n'=n
  ·have:=e2.1 c
   simp only[decide_eq_true c,O1,oB,hE,cond_true,this,Option.isNone_none,Bool.true_and]
  ·have hne:(P5 (r,n,es)).isNone=false:=by
    cases hq:P5 (r,n,es)with
    |none=>exact absurd (e2.2 hq) c
    |some k=>rfl
   simp only[decide_eq_false c,n4,oB,cond_false,hne,Bool.false_and,Bool.and_false]
 ·have hf':K0 g=false:=Bool.eq_false_iff.2 hf
  obtain⟨r,n,es⟩:=g
  unfold W7
  simp only[hF,hf',oB,Bool.not_false,if_true,Bool.false_and]
theorem U0d(g:j0)(hl:g.2.2.length<=140737488355328):A9 g=some (P1 g):=by
 have hF:=U00 g hl
 unfold P1
 by_cases hf:K0 g=true
 ·have hL:=w0k g (R3 hf)
  have hC:=q09 g hf
  have hE:=D0c (M2 g) g (by have:=J0c hf;omega)
  obtain⟨h1,h2,h3,h4⟩:=V1 hf
  obtain⟨r,n,es⟩:=g
  unfold A9
  generalize M2 (r,n,es)=C at *
  obtain⟨c1,c2,c3⟩:=C
  simp only[hF,hf,oB,O1,hL,cond_true]
  cases hq:P5 (r,n,es)with
  |none =>
   simp only[H0 (show P0 (-1) by decide),oB,show decide ((-1:Int)<0)=true from rfl,O1,hC,hE,cond_true,Option.isNone_none,Bool.true_and]
  |some k =>
   have hk:=p05 _ _ _ hq
   simp only at h3
   simp only at hk
   have e0:decide ((k:Int)<0)=false:=decide_eq_false (by omega)
   simp only[H0 (show P0 (k:Int) from c64 (by omega) (by omega)),oB,e0,n4,cond_false,Option.isNone_some,Bool.false_and,Bool.and_false]
 ·have hf':K0 g=false:=Bool.eq_false_iff.2 hf
  obtain⟨r,n,es⟩:=g
  unfold A9
  simp only[hF,hf',oB,n4,H0 (show P0 0 by decide),cond_false,Bool.false_and]
def H0m(l:O09):Prop:=l.length<=140737488355328/\∀ e∈l,e.1.size<=140737488355328/\e.2.2.2.length<=140737488355328
def x0k(l:O09):Prop:=l.length<=1048576/\∀ e∈l,e.1.size<=1048576/\e.2.2.2.length<=1048576
theorem x0k.ok{l:O09}(h:x0k l):H0m l:=⟨by have:=h.1;omega,λe he=>by have:=h.2 e he;omega⟩
theorem r0f{α:Type}{cf:α->α->Int}(h:w8 cf):∀ {l:List α},(∀ i x y,l[i]?=some x->l[i+1]?=some y->cf x y<0)->Asc cf l
 | [],_=>List.Pairwise.nil
 | [x],_=>List.pairwise_singleton _ _
 |x::y::l,hn=>by
  have ih:Asc cf (y::l):=r0f h λi a b ha hb=>hn (i+1) a b (by simpa using ha) (by simpa using hb)
  have hxy:=hn 0 x y rfl rfl
  refine List.pairwise_cons.2 ⟨λz hz=>?_,ih⟩
  rcases List.mem_cons.1 hz with rfl|hz
  ·exact hxy
  ·exact h.trans _ _ _ hxy ((List.pairwise_cons.1 ih).1 z hz)
theorem y0k{α:Type}{cf:α->α->Int}:∀ {l:List α},Asc cf l->∀ {i:Nat} {x y:α},l[i]?=some x->l[i+1]?=some y->cf x y<0
 | [],_,i,x,y,hx,_=>by simp at hx
 |a::l,h,0,x,y,hx,hy=>by
  simp at hx hy;subst hx
  exact(List.pairwise_cons.1 h).1 y (List.mem_of_getElem? hy)
 |a::l,h,i+1,x,y,hx,hy=>y0k (List.pairwise_cons.1 h).2 (i:=i) (by simpa using hx) (by simpa using hy)
theorem z0k{r hi:Int}{es:List I0}:∀ {d k:Nat},(∀ i,k<=i->i<k+d->l0k r hi es i=false)->okE r hi es d k=true
 |0,k,h=>rfl
 |d+1,k,h=>by
  simp only[okE,Bool.and_eq_true,Bool.not_eq_true']
  exact⟨h k (Nat.le_refl _) (by omega),z0k λi h1 h2=>h i (by omega) (by omega)⟩
theorem L03(g:j0):Z0 g=true↔inG g/\(1<=g.1/\g.1<=3)/\(1<=g.2.1/\g.2.1<=40)/\g.2.2.length<=120/\Asc S0 g.2.2:=by
 constructor
 ·intro h
  obtain⟨q1,q2,q3,q4⟩:=T3 h
  refine⟨q1,q2,q3,q4,r0f O5 λi x y hx hy=>?_⟩
  simp only[Z0,Bool.and_eq_true]at h
  have hb:=C0g h.1.1.1 (i+1) (Nat.zero_le _) (by have:=(List.getElem?_eq_some_iff.1 hy).1;omega)
  rw[t07 hy]at hb
  simp only[Nat.add_sub_cancel,hx,Bool.or_eq_false_iff]at hb
  have:=hb.2
  simp only[show decide (0<i+1)=true by simp,Bool.true_and,decide_eq_false_iff_not]at this
  have e:N0a x y=S0 x y:=rfl
  omega
 ·rintro⟨q1,q2,q3,q4,q5⟩
  obtain⟨r,n,es⟩:=g
  simp only at q2 q3 q4 q5
  simp only[Z0,inR,Bool.and_eq_true,decide_eq_true_eq]
  refine⟨⟨⟨z0k λi _ hi=>?_,q2⟩,q3⟩,q4⟩
  have hx:=Q7 (show i<es.length by omega)
  generalize es[i]=e at hx
  rw[t07 hx]
  have he:=q1 e (List.mem_of_getElem? hx)
  simp only at he
  simp only[Bool.or_eq_false_iff,Bool.not_eq_false',n03,inR,Bool.and_eq_true,decide_eq_true_eq]
  rw[w64 (by omega) (by omega)]
  refine⟨⟨⟨⟨by omega,by omega⟩,by omega,by omega⟩,by omega,by omega⟩,?_⟩
  cases i with
  |zero=>rfl
  |succ j =>
   have hy:=Q7 (show j<es.length by omega)
   generalize es[j]=f at hy
   have:=y0k q5 hy hx
   simp only[Nat.add_sub_cancel,hy]
   have e':N0a f e=S0 f e:=rfl
   simp[e'];omega
theorem E07{r:Int}{n:Int}{es:List I0}(hr:1<=r/\r<=3)(hn:1<=n/\n<=40)(hes:es.length<=120)(hin:inG (r,n,es)):Z0 (r,n,O7 S0 [] es)=true:=by
 refine(L03 _).2 ⟨λe he=>hin e ?_,hr,hn,?_,t01 O5 _ _ List.Pairwise.nil⟩
 ·rcases(H7 O5 e es []).1 he with h|h
  ·simp at h
  ·exact h
 ·have:=o05 es []
  simp only[List.length_nil]at this
  simp only;omega
def F07(a b:I0):List (Int×Int) :=
 bif decide (a.2.1=b.2.1)then(bif decide (a.1=b.1)then [(if b.2.2<a.2.2 then b.2.2 else a.2.2,if b.2.2>a.2.2 then b.2.2 else a.2.2)]else [])++(bif decide (a.2.2=b.2.2)then [(if b.1<a.1 then b.1 else a.1,if b.1>a.1 then b.1 else a.1)]else [])else []
def H00(a:I0):List I0->List (Int×Int)
 | []=>[]
 |b::r=>F07 a b++H00 a r
def t7:List I0->List (Int×Int)
 | []=>[]
 |a::r=>H00 a r++t7 r
theorem V0i(a b:I0):(F07 a b).length<=2:=by
 unfold F07
 cases decide (a.2.1=b.2.1)<;>cases decide (a.1=b.1)<;>cases decide (a.2.2=b.2.2)<;>simp
theorem C08(a:I0):∀ l,(H00 a l).length<=2*l.length
 | []=>by simp[H00]
 |b::r=>by have:=V0i a b;have:=C08 a r;simp only[H00,List.length_append,List.length_cons];omega
def mvV(f:Int×Int)(v:Int):Int:=if v=f.2 then f.1 else if v>f.2 then v-1 else v
def mvE(f:Int×Int)(e:I0):I0:=(mvV f e.1,e.2.1,mvV f e.2.2)
def E9(g:j0)(f:Int×Int):j0:=(g.1,g.2.1-1,O7 S0 [] (g.2.2.map (mvE f)))
def okF(g:j0)(f:Int×Int):Prop:=0<=f.1/\f.1<f.2/\f.2<g.2.1
theorem q05{g:j0}{f:Int×Int}(hg:Z0 g=true)(hf:okF g f):Z0 (E9 g f)=true:=by
 obtain⟨q1,q2,q3,q4,_⟩:=(L03 g).1 hg
 obtain⟨f1,f2,f3⟩:=hf
 refine E07 q2 ⟨by omega,by omega⟩ (by simpa using q4) λe he=>?_
 obtain⟨e',he',rfl⟩:=List.mem_map.1 he
 obtain⟨a1,a2,a3⟩:=q1 e' he'
 have hm:∀ v:Int,0<=v/\v<g.2.1->0<=mvV f v/\mvV f v<g.2.1-1:=λv hv=>by
  unfold mvV;split
  ·omega
  ·split<;>omega
 exact⟨hm _ a1,hm _ a2,a3⟩
theorem s0f{g:j0}(hg:inG g){a:I0}(ha:a∈g.2.2):∀ {l:List I0},(∀ b∈l,b∈g.2.2/\a≠b)->∀ f∈H00 a l,okF g f
 | [],_,f,hf=>by simp[H00]at hf
 |b::r,h,f,hf=>by
  rcases List.mem_append.1 (show f∈F07 a b++H00 a r from hf)with hf|hf
  ·have hb:=hg b (h b mS).1
   have ha':=hg a ha
   have hne:=(h b mS).2
   obtain⟨a0,a1,a2⟩:=a
   obtain⟨b0,b1,b2⟩:=b
   simp only at ha' hb
   unfold F07 at hf
   simp only at hf
   by_cases c1:a1=b1
   ·have d1 : ¬ (a0=b0/\a2=b2):=λ⟨x,y⟩=>hne (by rw[x,c1,y])
    simp only[c1,decide_true,cond_true,List.mem_append]at hf
    rcases hf with hf|hf
    ·by_cases c2:a0=b0
     ·simp only[c2,decide_true,cond_true,List.mem_singleton]at hf
      subst hf
      have:a2≠b2:=λy=>d1 ⟨c2,y⟩
      unfold okF
      simp only
      split<;>split<;>omega
     ·simp[c2]at hf
    ·by_cases c2:a2=b2
     ·simp only[c2,decide_true,cond_true,List.mem_singleton]at hf
      subst hf
      have:a0≠b0:=λy=>d1 ⟨y,c2⟩
      unfold okF
      simp only
      split<;>split<;>omega
     ·simp[c2]at hf
   ·simp[c1]at hf
  ·exact s0f hg ha (λb' hb'=>h b' (mC _ hb')) f hf
theorem t0f{g:j0}(hg:inG g):∀ {l:List I0},(∀ b∈l,b∈g.2.2)->Asc S0 l->∀ f∈t7 l,okF g f
 | [],_,_,f,hf=>by simp[t7]at hf
 |a::r,h,hA,f,hf=>by
  rcases List.mem_append.1 (show f∈H00 a r++t7 r from hf)with hf|hf
  ·refine s0f hg (h a mS) (λb hb=>⟨h b (mC _ hb),λe=>?_⟩) f hf
   have:=(List.pairwise_cons.1 hA).1 b hb
   rw[e,O5.refl]at this;omega
  ·exact t0f hg (λb hb=>h b (mC _ hb)) (List.pairwise_cons.1 hA).2 f hf
theorem M03{g:j0}(hg:Z0 g=true):∀ f∈t7 g.2.2,okF g f:=by
 obtain⟨q1,_,_,_,q5⟩:=(L03 g).1 hg
 exact t0f q1 (λ_ h=>h) q5
def m00:Nat->j0->j0×List (Int×Int)
 |0,g=>(g,[])
 |n+1,g=>match t7 g.2.2 with
  | []=>(g,[])
  |f::_=>((m00 n (E9 g f)).1,f::(m00 n (E9 g f)).2)
def h02(g:j0):j0×List (Int×Int):=bif Z0 g then m00 40 g else(g,[])
theorem i0b:∀(n:Nat) {g:j0},Z0 g=true->g.2.1<=(n:Int)+1->t7 (m00 n g).1.2.2 = []
 |0,g,h,hn=>by
  cases e:t7 g.2.2 with
  |nil=>exact e
  |cons f l =>
   have:=M03 h f (by rw[e];exact mS)
   unfold okF at this
   omega
 |n+1,g,h,hn=>by
  unfold m00
  cases e:t7 g.2.2 with
  |nil=>exact e
  |cons f l=>exact i0b n (q05 h (M03 h f (by rw[e];exact mS))) (by show g.2.1-1<=_;omega)
theorem W0i(a b:I0):F07 a b = []↔E02 a b=false:=by
 unfold F07 E02
 cases decide (a.2.1=b.2.1)<;>cases decide (a.1=b.1)<;>cases decide (a.2.2=b.2.2)<;>simp
theorem K0c(a:I0):∀ l,H00 a l = []↔∀ b∈l,E02 a b=false
 | []=>by simp[H00]
 |b::r=>by
  rw[H00,List.append_eq_nil_iff,W0i,K0c a r]
  simp
theorem D08:∀ l,t7 l = []↔l.Pairwise λa b=>E02 a b=false
 | []=>by simp[t7]
 |a::r=>by rw[t7,List.append_eq_nil_iff,K0c,D08 r,List.pairwise_cons]
theorem j0b(g:j0):K0 g=true↔Z0 g=true/\t7 g.2.2 = []:=by
 unfold K0
 rw[Bool.and_eq_true,x08,D08]
theorem L0c(l:List I0)(a0 a1 a2:Int)(hl:l.length<=1000):∀(d k fuel:Nat) (acc:List Q4),k+d=l.length->d<fuel->acc.length+2*d<=4000000 ->
  E4 l a1 a0 a2 fuel (k:Int) acc=some (acc++H00 (a0,a1,a2) (l.drop k))
 |d,k,0,acc,hd,hf,ha=>by omega
 |0,k,fuel+1,acc,hd,hf,ha=>by
  rw[E4.eq_2,if_neg (by simp;omega),D2 (by omega)]
  simp[H00]
 |d+1,k,fuel+1,acc,hd,hf,ha=>by
  have hk:k<l.length:=by omega
  have hx:=Q7 hk
  generalize l[k]=b at hx
  obtain⟨b0,b1,b2⟩:=b
  have ih:∀ acc':List Q4,acc'.length+2*d<=4000000->E4 l a1 a0 a2 fuel ((k+1:Nat):Int) acc'=some (acc'++H00 (a0,a1,a2) (l.drop (k+1))):=λacc' h=>L0c l a0 a1 a2 hl d (k+1) fuel acc' (by omega) (by omega) h
  rw[E4.eq_2,if_pos (by simp;omega),d4 hx,oB,J2 hk (by omega),Z2 hx]
  simp only[H00,F07]
  cases decide (a1=b1)
  ·simp only[Bool.not_false,if_true,cond_false,List.nil_append]
   exact ih acc (by omega)
  ·cases decide (a0=b0)<;>cases decide (a2=b2)
   all_goals simp only[Bool.not_true,Bool.false_eq_true,if_false,if_true,cond_true,cond_false,List.nil_append,List.append_nil]
   ·exact ih acc (by omega)
   ·rw[H0 (by simp;omega),oB,ih _ (by simp;omega)];simp
   ·rw[H0 (by simp;omega),oB,ih _ (by simp;omega)];simp
   ·rw[H0 (by simp;omega),oB,H0 (by simp;omega),oB,ih _ (by simp;omega)];simp
theorem M0c(l:List I0)(hl:l.length<=1000):∀(d k fuel:Nat) (acc:List Q4),k+d=l.length->d<fuel->acc.length+2000*d<=3000000 ->
  w7 l fuel (k:Int) acc=some (acc++t7 (l.drop k))
 |d,k,0,acc,hd,hf,ha=>by omega
 |0,k,fuel+1,acc,hd,hf,ha=>by
  rw[w7.eq_2,if_neg (by simp;omega),D2 (by omega)]
  simp[t7]
 |d+1,k,fuel+1,acc,hd,hf,ha=>by
  have hk:k<l.length:=by omega
  have hx:=Q7 hk
  generalize l[k]=b at hx
  obtain⟨b0,b1,b2⟩:=b
  have h0:=L0c (l.drop (k+1)) b0 b1 b2 (by simp;omega) (l.length-(k+1)) 0 T0 acc (by simp) (D1 (by omega)) (by omega)
  have hr:=C08 (b0,b1,b2) (l.drop (k+1))
  simp only[List.length_drop]at hr
  rw[w7.eq_2,if_pos (by simp;omega),d4 hx,oB]
  simp only[J2 hk (show l.length<=9223372036854775807 by omega)]
  rw[m04 (by omega),oB,show(0:Int)=((0:Nat):Int) from rfl,h0,oB,M0c l hl d (k+1) fuel _ (by omega) (by omega) (by simp only[List.length_append,List.drop_zero,List.length_drop]at hr ⊢;omega),Z2 hx,t7]
  simp
theorem N0c(l:List I0)(hl:l.length<=1000)(i:Nat)(a0 a1 a2:Int)(hi:l[i]?=some (a0,a1,a2)):∀(d k fuel:Nat) (acc:List Q4),k+d=l.length->d<fuel->acc.length+2*d<=4000000 ->
  V3 l (i:Int) fuel (k:Int) acc=some (acc++H00 (a0,a1,a2) (l.drop k))
 |d,k,0,acc,hd,hf,ha=>by omega
 |0,k,fuel+1,acc,hd,hf,ha=>by
  rw[V3.eq_2,if_neg (by simp;omega),D2 (by omega)]
  simp[H00]
 |d+1,k,fuel+1,acc,hd,hf,ha=>by
  have hk:k<l.length:=by omega
  have hx:=Q7 hk
  generalize l[k]=b at hx
  obtain⟨b0,b1,b2⟩:=b
  have ih:∀ acc':List Q4,acc'.length+2*d<=4000000->V3 l (i:Int) fuel ((k+1:Nat):Int) acc'=some (acc'++H00 (a0,a1,a2) (l.drop (k+1))):=λacc' h=>N0c l hl i a0 a1 a2 hi d (k+1) fuel acc' (by omega) (by omega) h
  rw[V3.eq_2,if_pos (by simp;omega),d4 hi,oB]
  simp only[]
  rw[d4 hx,oB,J2 hk (by omega),Z2 hx]
  simp only[H00,F07]
  cases decide (a1=b1)
  ·simp only[Bool.false_eq_true,if_false,cond_false,List.nil_append]
   exact ih acc (by omega)
  ·cases decide (a0=b0)<;>cases decide (a2=b2)
   all_goals simp only[Bool.not_true,Bool.false_eq_true,if_false,if_true,cond_true,cond_false,List.nil_append,List.append_nil]
   ·exact ih acc (by omega)
   ·rw[H0 (by simp;omega),oB,ih _ (by simp;omega)];simp
   ·rw[H0 (by simp;omega),oB,ih _ (by simp;omega)];simp
   ·rw[H0 (by simp;omega),oB,H0 (by simp;omega),oB,ih _ (by simp;omega)];simp
theorem O0c(l:List I0)(hl:l.length<=1000):∀(d k fuel:Nat) (acc:List Q4),k+d=l.length->d<fuel->acc.length+2000*d<=3000000 ->
  Z5 l fuel (k:Int) acc=some (acc++t7 (l.drop k))
 |d,k,0,acc,hd,hf,ha=>by omega
 |0,k,fuel+1,acc,hd,hf,ha=>by
  rw[Z5.eq_2,if_neg (by simp;omega),D2 (by omega)]
  simp[t7]
 |d+1,k,fuel+1,acc,hd,hf,ha=>by
  have hk:k<l.length:=by omega
  have hx:=Q7 hk
  generalize l[k]=b at hx
  obtain⟨b0,b1,b2⟩:=b
  have h0:=N0c l hl k b0 b1 b2 hx (l.length-(k+1)) (k+1) T0 acc (by omega) (D1 (by omega)) (by omega)
  have hr:=C08 (b0,b1,b2) (l.drop (k+1))
  simp only[List.length_drop]at hr
  rw[Z5.eq_2,if_pos (by simp;omega),J2 hk (by omega),h0,oB,O0c l hl d (k+1) fuel _ (by omega) (by omega) (by simp only[List.length_append,List.length_drop]at hr ⊢;omega),Z2 hx,t7]
  simp
theorem u0f(g:j0)(hl:g.2.2.length<=1000):V00 g=some (t7 g.2.2):=by
 obtain⟨r,n,es⟩:=g
 unfold V00
 simp only
 rw[show(0:Int)=((0:Nat):Int) from rfl,M0c es hl es.length 0 T0 [] (by omega) (D1 (by simp only at hl;omega)) (by simp only at hl;simp;omega)]
 rfl
theorem v0f(g:j0)(hl:g.2.2.length<=1000):S9 g=some (t7 g.2.2):=by
 obtain⟨r,n,es⟩:=g
 unfold S9
 simp only
 rw[show(0:Int)=((0:Nat):Int) from rfl,O0c es hl es.length 0 T0 [] (by omega) (D1 (by simp only at hl;omega)) (by simp only at hl;simp;omega)]
 rfl
def I00(g:j0):Q4×Bool:=bif Z0 g then(match t7 g.2.2 with
 | []=>((0,0),false)
 |f::_=>(f,true))else((0,0),false)
theorem w09(g:j0)(hl:g.2.2.length<=140737488355328):c8 g=some (I00 g):=by
 have h1:=s00 g hl
 have h2:=u0f g
 unfold I00
 cases hg:Z0 g with
 |false =>
  obtain⟨r,n,es⟩:=g
  unfold c8
  simp only[h1,hg,oB];rfl
 |true =>
  have h2:=h2 (by have:=(T3 hg).2.2.2;omega)
  obtain⟨r,n,es⟩:=g
  unfold c8
  simp only[h1,hg,h2,oB,cond_true]
  simp only at h2
  cases t7 es with
  |nil=>rfl
  |cons f l =>
   rw[if_neg (by simp),if_neg (by simp;omega),v08 rfl]
   rfl
theorem x09(g:j0)(hl:g.2.2.length<=140737488355328):a8 g=some (I00 g):=by
 have h1:=V7 g hl
 have h2:=v0f g
 unfold I00
 cases hg:Z0 g with
 |false =>
  obtain⟨r,n,es⟩:=g
  unfold a8
  simp only[h1,hg,oB];rfl
 |true =>
  have h2:=h2 (by have:=(T3 hg).2.2.2;omega)
  obtain⟨r,n,es⟩:=g
  unfold a8
  simp only[h1,hg,h2,oB,cond_true]
  simp only at h2
  cases t7 es with
  |nil=>rfl
  |cons f l =>
   rw[if_neg (by simp),if_neg (by simp;omega),v08 rfl]
   rfl
theorem a0i(v:Int)(f:Q4)(hv:0<=v/\v<1000)(hf:0<=f.1/\f.1<f.2):g00 v f=some (mvV f v):=by
 obtain⟨a,b⟩:=f
 simp only at hf
 unfold g00 mvV
 simp only
 by_cases c:v=b
 ·rw[if_pos (by simp[c]),if_neg (by simp;omega),if_pos c]
 ·rw[if_neg (by simp[c]),if_neg c]
  by_cases c2:v>b
  ·rw[if_pos (by simp[c2]),if_pos c2,w64 (by omega) (by omega)]
  ·rw[if_neg (by simp;omega),if_neg c2]
theorem w0f(v:Int)(f:Q4)(hv:0<=v/\v<1000):p5 v f=some (mvV f v):=by
 obtain⟨a,b⟩:=f
 unfold p5 mvV
 simp only
 by_cases c:v=b
 ·rw[if_pos (by simp[c]),if_pos c]
 ·rw[if_neg (by simp[c]),if_neg c]
  by_cases c2:v>b
  ·rw[if_pos (by simp[c2]),if_pos c2,w64 (by omega) (by omega)]
  ·rw[if_neg (by simp;omega),if_neg c2]
theorem V0d{f:Q4}{v:Int}(hv:0<=v/\v<1000)(hf:0<=f.1/\f.1<1000):P0 (mvV f v):=by
 unfold mvV
 split
 ·exact⟨by omega,by omega⟩
 ·split
  ·exact⟨by omega,by omega⟩
  ·exact⟨by omega,by omega⟩
theorem x0f(es:List I0)(f:Q4)(r n:Int)(hl:es.length<=1000)(hv:∀ e∈es,(0<=e.1/\e.1<1000)/\(0<=e.2.2/\e.2.2<1000))(hf:0<=f.1/\f.1<f.2)(hf2:f.2<1000):∀(d k fuel:Nat) (acc:List I0),k+d=es.length->d<fuel->acc.length<=k ->
  f4 es f.1 f.2 fuel (k:Int) r n acc=some (r,n,O7 S0 acc ((es.drop k).map (mvE f)))
 |d,k,0,acc,hd,hfu,ha=>by omega
 |0,k,fuel+1,acc,hd,hfu,ha=>by
  rw[f4.eq_2,if_neg (by simp;omega),D2 (by omega)]
  rfl
 |d+1,k,fuel+1,acc,hd,hfu,ha=>by
  have hk:k<es.length:=by omega
  have hx:=Q7 hk
  have hvk:=hv _ (List.getElem_mem hk)
  generalize es[k]=b at hx hvk
  obtain⟨b0,b1,b2⟩:=b
  simp only at hvk
  have hln:=L05 (mvE f (b0,b1,b2)) acc
  rw[f4.eq_2,if_pos (by simp;omega),d4 hx,oB]
  simp only[]
  rw[a0i b0 (f.1,f.2) hvk.1 hf,oB,H0 (V0d hvk.1 ⟨hf.1,by show f.1<1000;omega⟩),oB,a0i b2 (f.1,f.2) hvk.2 hf,oB,H0 (V0d hvk.2 ⟨hf.1,by show f.1<1000;omega⟩),oB,
   M0h acc _ (by omega),oB,J2 hk (by omega),Z2 hx,List.map_cons]
  exact x0f es f r n hl hv hf hf2 d (k+1) fuel _ (by omega) (by omega) (Nat.le_trans hln (by omega))
theorem y0f{g:j0}{f:Q4}(hg:Z0 g=true)(hf:okF g f):a6 g f=some (E9 g f,true):=by
 obtain⟨q1,q2,q3,q4⟩:=T3 hg
 have h1:=V7 g (by omega)
 obtain⟨f1,f2,f3⟩:=hf
 obtain⟨r,n,es⟩:=g
 obtain⟨a,b⟩:=f
 simp only at f1 f2 f3 q3 q4
 have h:=x0f es (a,b) r (IntKind.i64.wrap (n-1)) (by omega) (λe he=>by
  have:=q1 e he
  simp only at this
  exact⟨⟨by omega,by omega⟩,by omega,by omega⟩) ⟨f1,f2⟩ (by simp only;omega) es.length 0 T0 [] (by omega) (D1 (by omega)) (Nat.le_refl _)
 unfold a6
 simp only[h1,hg,oB]
 rw[if_neg (by simp;omega),show(0:Int)=((0:Nat):Int) from rfl,h,w64 (by omega) (by omega)]
 rfl
theorem z0f(es:List I0)(f:Q4)(hl:es.length<=1000)(hv:∀ e∈es,(0<=e.1/\e.1<1000)/\(0<=e.2.2/\e.2.2<1000))(hf:0<=f.1/\f.1<1000):∀(d k fuel:Nat),k+d=es.length->d<fuel ->
  i4 es f.1 f.2 fuel (k:Int) ((es.take k).map (mvE f)++es.drop k)=some (es.map (mvE f))
 |d,k,0,hd,hfu=>by omega
 |0,k,fuel+1,hd,hfu=>by
  rw[i4.eq_2,if_neg (by simp;omega),D2 (by omega),List.append_nil,List.take_of_length_le (by omega)]
 |d+1,k,fuel+1,hd,hfu=>by
  have hk:k<es.length:=by omega
  have hx:=Q7 hk
  have hvk:=hv _ (List.getElem_mem hk)
  generalize es[k]=b at hx hvk
  have htl:((es.take k).map (mvE f)).length=k:=by simp;omega
  have hg:((es.take k).map (mvE f)++es.drop k)[k]?=some b:=by
   rw[List.getElem?_append_right (by omega),htl,Z2 hx];simp
  have hs:∀ y,((es.take k).map (mvE f)++es.drop k).set k y=(es.take k).map (mvE f)++y::es.drop (k+1):=λy=>by
   rw[List.set_append_right _ _ (by omega),htl,Z2 hx];simp
  obtain⟨b0,b1,b2⟩:=b
  simp only at hvk
  have e:(es.take (k+1)).map (mvE f)++es.drop (k+1)=(es.take k).map (mvE f)++mvE f (b0,b1,b2)::es.drop (k+1):=by
   rw[d0m hx];simp
  have ih:=z0f es f hl hv hf d (k+1) fuel (by omega) (by omega)
  rw[e]at ih
  rw[i4.eq_2,if_pos (by simp;omega),d4 hg,oB]
  simp only[]
  rw[w0f b0 (f.1,f.2) hvk.1,oB,H0 (V0d hvk.1 hf),oB,w0f b2 (f.1,f.2) hvk.2,oB,H0 (V0d hvk.2 hf),oB]
  simp only[oB]
  rw[show((k:Nat):Int).toNat=k from Int.toNat_natCast k,hs,J2 hk (by omega)]
  exact ih
theorem A0f{g:j0}{f:Q4}(hg:Z0 g=true)(hf:okF g f):c6 g f=some (E9 g f,true):=by
 obtain⟨q1,q2,q3,q4⟩:=T3 hg
 have h1:=s00 g (by omega)
 have h2:=u01 g (by omega)
 obtain⟨f1,f2,f3⟩:=hf
 obtain⟨r,n,es⟩:=g
 obtain⟨a,b⟩:=f
 simp only at f1 f2 f3 q3 q4
 have h:=z0f es (a,b) (by omega) (λe he=>by
  have:=q1 e he
  simp only at this
  exact⟨⟨by omega,by omega⟩,by omega,by omega⟩) ⟨f1,by simp only;omega⟩ es.length 0 T0 (by omega) (D1 (by omega))
 simp only[List.take_zero,List.map_nil,List.nil_append,List.drop_zero]at h
 unfold c6
 simp only[h1,h2,hg,oB]
 rw[if_neg (by simp;omega),show(0:Int)=((0:Nat):Int) from rfl,h,oB,i0f _ (by simp;omega),oB,w64 (by omega) (by omega)]
 rfl
def V9(g:j0):j0×Q4×Bool:=bif Z0 g then(match t7 g.2.2 with
 | []=>(g,(0,0),false)
 |f::_=>(E9 g f,f,true))else(g,(0,0),false)
theorem r05(g:j0)(hl:g.2.2.length<=1099511627776):o9 g=some (V9 g):=by
 have h1:=x09 g (by omega)
 have h2:=n04 g hl
 have h3:∀ f,Z0 g=true->okF g f->a6 g f=some (E9 g f,true):=λf a b=>y0f a b
 have h4:Z0 g=true->∀ f∈t7 g.2.2,okF g f:=M03
 unfold I00 at h1
 unfold V9
 obtain⟨r,n,es⟩:=g
 unfold o9
 simp only[h1,oB]
 cases hg:Z0 (r,n,es)with
 |false=>simp only[cond_false,Bool.not_false,if_true,h2,oB]
 |true =>
  simp only[cond_true]
  simp only at h4
  cases e:t7 es with
  |nil=>simp only[Bool.not_false,if_true,h2,oB]
  |cons f l =>
   simp only[Bool.not_true,Bool.false_eq_true,if_false,h3 f hg (h4 hg f (by rw[e];exact mS)),oB]
theorem s05(g:j0)(hl:g.2.2.length<=1099511627776):p9 g=some (V9 g):=by
 have h1:=w09 g (by omega)
 have h2:=u01 g hl
 have h3:∀ f,Z0 g=true->okF g f->c6 g f=some (E9 g f,true):=λf a b=>A0f a b
 have h4:Z0 g=true->∀ f∈t7 g.2.2,okF g f:=M03
 unfold I00 at h1
 unfold V9
 obtain⟨r,n,es⟩:=g
 unfold p9
 simp only[h1,oB]
 cases hg:Z0 (r,n,es)with
 |false=>simp only[cond_false,Bool.not_false,if_true,h2,oB]
 |true =>
  simp only[cond_true]
  simp only at h4
  cases e:t7 es with
  |nil=>simp only[Bool.not_false,if_true,h2,oB]
  |cons f l =>
   simp only[Bool.not_true,Bool.false_eq_true,if_false,h3 f hg (h4 hg f (by rw[e];exact mS)),oB]
def I0m:(j0×l7) ⊕ (Int×Int×O0×(List Q4))->Option (j0×l7):=λX=>l9 X (λS=>match S with
 |(a,b,c,e)=>some ((a,b,c),e))
theorem k0b:∀(d k fuel:Nat) (g:j0) (acc:List Q4),k+d=40->d<fuel->Z0 g=true->acc.length=k ->
  (o5 fuel (k:Int) g.1 g.2.1 g.2.2 acc).bind I0m=some ((m00 d g).1,acc++(m00 d g).2)
 |d,k,0,g,acc,hd,hf,hg,ha=>by omega
 |0,k,fuel+1,g,acc,hd,hf,hg,ha=>by
  rw[o5.eq_2,if_neg (by simp;omega)]
  simp[I0m,l9,m00]
 |d+1,k,fuel+1,g,acc,hd,hf,hg,ha=>by
  have h1:=r05 g (by have:=(T3 hg).2.2.2;omega)
  have h4:=M03 hg
  unfold V9 at h1
  rw[hg]at h1
  simp only[cond_true]at h1
  rw[o5.eq_2,if_pos (by simp;omega),show(g.1,g.2.1,g.2.2)=g from rfl,h1]
  unfold m00
  cases e:t7 g.2.2 with
  |nil=>simp[I0m,l9]
  |cons f l =>
   have ih:=k0b d (k+1) fuel (E9 g f) (acc ++ [f]) (by omega) (by omega) (q05 hg (h4 f (by rw[e];exact mS))) (by simp[ha])
   simp only[oB,Bool.not_true,Bool.false_eq_true,if_false]
   rw[H0 (by simp;omega),oB,J2 (show k<1000 by omega) (by omega)]
   refine ih.trans ?_
   simp
theorem Q0b(g:j0)(hl:g.2.2.length<=1099511627776):T9 g=some (h02 g):=by
 have h1:=r05 g hl
 have h2:=n04 g hl
 have h3:=k0b 40 0 T0 g [] rfl (D1 (by omega))
 unfold h02
 obtain⟨r,n,es⟩:=g
 unfold T9
 simp only[h2,oB]
 cases hg:Z0 (r,n,es)with
 |false =>
  unfold V9 at h1
  rw[hg]at h1
  simp only[cond_false]at h1
  rw[show T0=(T0-1)+1 from rfl,o5.eq_2,if_pos (by simp),h1]
  rfl
 |true=>exact h3 hg rfl
theorem l0b:∀(d fuel:Nat) (g:j0) (acc:List Q4),d<fuel->Z0 g=true->t7 (m00 d g).1.2.2 = []->acc.length+d<=1000 ->
  d6 fuel g.1 g.2.1 g.2.2 acc=some (.inl ((m00 d g).1,acc++(m00 d g).2))
 |d,0,g,acc,hf,hg,hn,ha=>by omega
 |d,fuel+1,g,acc,hf,hg,hn,ha=>by
  have h1:=s05 g (by have:=(T3 hg).2.2.2;omega)
  have h4:=M03 hg
  unfold V9 at h1
  rw[hg]at h1
  simp only[cond_true]at h1
  rw[d6.eq_2,show(g.1,g.2.1,g.2.2)=g from rfl,h1]
  cases e:t7 g.2.2 with
  |nil =>
   have e2:m00 d g=(g,[]):=by
    cases d with
    |zero=>rfl
    |succ d=>unfold m00;rw[e]
   rw[e2]
   simp
  |cons f l =>
   cases d with
   |zero=>exact absurd e (by rw[show t7 g.2.2 = [] from hn];simp)
   |succ d =>
    have e2:m00 (d+1) g=((m00 d (E9 g f)).1,f::(m00 d (E9 g f)).2):=by
     show(match t7 g.2.2 with | []=>(g,[])|f::_=>((m00 d (E9 g f)).1,f::(m00 d (E9 g f)).2))=_
     rw[e]
    rw[e2]at hn ⊢
    have ih:=l0b d fuel (E9 g f) (acc ++ [f]) (by omega) (q05 hg (h4 f (by rw[e];exact mS))) hn (by simp;omega)
    simp only[oB,Bool.not_true,Bool.false_eq_true,if_false]
    rw[H0 (by simp;omega),oB]
    refine ih.trans ?_
    simp
theorem R0b(g:j0)(hl:g.2.2.length<=1099511627776):U9 g=some (h02 g):=by
 have h1:=s05 g hl
 have h2:=u01 g hl
 have h3:=l0b 40 T0 g [] (D1 (by omega))
 have h5:Z0 g=true->t7 (m00 40 g).1.2.2 = []:=λhg=>i0b 40 hg (by have:=(T3 hg).2.2.1;omega)
 unfold h02
 obtain⟨r,n,es⟩:=g
 unfold U9
 simp only[h2,oB]
 cases hg:Z0 (r,n,es)with
 |false =>
  unfold V9 at h1
  rw[hg]at h1
  simp only[cond_false]at h1
  rw[show T0=(T0-1)+1 from rfl,d6.eq_2,h1]
  rfl
 |true =>
  have h:=h3 hg (h5 hg) (by simp)
  simp only at h
  rw[h]
  rfl
theorem M05{g:j0}(h:Z0 g=true):Asc S0 g.2.2:=((L03 g).1 h).2.2.2.2
theorem f0n{g:j0}(hg:Z0 g=true){u:Int}(hu:0<=u/\u<g.2.1):U3 g u=some true:=by
 obtain⟨q1,q2,q3,q4⟩:=T3 hg
 obtain⟨r,n,es⟩:=g
 simp only at q3 hu
 unfold U3
 simp only[k05]
 rw[w64 (by omega) (by omega)]
 simp[inR];omega
theorem m0b:∀(d i:Nat) (x:Int),x∈I5 d i->∃ j:Nat,i<=j/\j<i+d/\(x=(j:Int)∨x = -(j:Int))
 |0,i,x,h=>by simp[I5]at h
 |d+1,i,x,h=>by
  simp only[I5,List.mem_cons]at h
  rcases h with rfl|rfl|h
  ·exact⟨i,Nat.le_refl _,by omega,.inl rfl⟩
  ·exact⟨i,Nat.le_refl _,by omega,.inr rfl⟩
  ·obtain⟨j,h1,h2,h3⟩:=m0b d (i+1) x h
   exact⟨j,by omega,by omega,h3⟩
theorem L0g(g:Nat):∀(d k:Nat) (x:Int),x∈wo g d k->∃ j:Nat,x=(j:Int)/\k<=j/\j<k+d
 |0,k,x,h=>nomatch h
 |d+1,k,x,h=>by
  unfold wo at h
  split at h
  ·obtain⟨j,h1,h2,h3⟩:=L0g g d (k+1) x h
   exact⟨j,h1,by omega,by omega⟩
  ·rcases List.mem_cons.1 h with rfl|h
   ·exact⟨k,rfl,Nat.le_refl _,by omega⟩
   ·obtain⟨j,h1,h2,h3⟩:=L0g g d (k+1) x h
    exact⟨j,h1,by omega,by omega⟩
theorem t05(g:Nat):∀(d k:Nat),(wo g d k).Nodup
 |0,k=>List.nodup_nil
 |d+1,k=>by
  unfold wo
  split
  ·exact t05 g d (k+1)
  ·refine List.nodup_cons.2 ⟨λh=>?_,t05 g d (k+1)⟩
   obtain⟨j,h1,h2,h3⟩:=L0g g d (k+1) _ h
   omega
theorem W0d(P:List Int):∀(es:List I0),∀ e∈pE P es,∃ a∈es,e=(getI P a.1,a.2.1,getI P a.2.2)/\0<=getI P a.1/\0<=getI P a.2.2
 | [],e,h=>nomatch h
 |b::r,e,h=>by
  unfold pE at h
  cases hb:decide (0<=getI P b.1)&&decide (0<=getI P b.2.2)
  ·rw[hb]at h
   obtain⟨a,h1,h2⟩:=W0d P r e h
   exact⟨a,mC _ h1,h2⟩
  ·rw[hb]at h
   simp only[Bool.and_eq_true,decide_eq_true_eq]at hb
   rcases List.mem_cons.1 h with rfl|h
   ·exact⟨b,mS,rfl,hb.1,hb.2⟩
   ·obtain⟨a,h1,h2⟩:=W0d P r e h
    exact⟨a,mC _ h1,h2⟩
theorem F02{g:j0}{o:List Int}(hg:Z0 g=true)(ho:inV g.2.1.toNat o)(h1:1<=o.length)(h2:o.length<=40):Z0 (T4 g o)=true:=by
 obtain⟨q1,q2,q3,q4⟩:=T3 hg
 have hl:=P0d (plc g.2.1.toNat o) g.2.2
 refine E07 q2 ⟨by omega,by omega⟩ (by omega) λe he=>?_
 obtain⟨a,ha,rfl,k1,k2⟩:=W0d _ _ e he
 have hq:=q1 a ha
 have r1:=(K03 ho (x:=a.1) (by omega)).2
 have r2:=(K03 ho (x:=a.2.2) (by omega)).2
 exact⟨⟨k1,r1⟩,⟨k2,r2⟩,hq.2.2⟩
theorem n0b{n:Nat}:∀(o:List Int) (k:Nat) (A:List Int),A.length=n->inV n o->o.Nodup->(∀ x,0<=x->getI A x<(k:Int))->(∀ x y,0<=x->0<=y->0<=getI A x->getI A x=getI A y->x=y) ->
  ∀ x y,0<=x->0<=y->0<=getI (c9 A k o) x->getI (c9 A k o) x=getI (c9 A k o) y->x=y
 | [],k,A,hA,ho,hd,hr,hi=>hi
 |v::r,k,A,hA,ho,hd,hr,hi=>by
  have hv:=ho v mS
  refine n0b r (k+1) (A.set v.toNat (k:Int)) (by simp[hA]) (λw hw=>ho w (mC _ hw)) (List.nodup_cons.1 hd).2 (λx hx=>?_) (λx y hx hy h0 he=>?_)
  ·rw[K01 hv.1 (by omega) hx]
   have:=hr x hx
   split<;>omega
  ·rw[K01 hv.1 (by omega) hx]at h0 he
   rw[K01 hv.1 (by omega) hy]at he
   have h1:=hr x hx
   have h2:=hr y hy
   by_cases c1:x=v
   ·by_cases c2:y=v
    ·rw[c1,c2]
    ·rw[if_pos c1,if_neg c2]at he;omega
   ·by_cases c2:y=v
    ·rw[if_neg c1,if_pos c2]at he;omega
    ·rw[if_neg c1]at h0;rw[if_neg c1,if_neg c2]at he
     exact hi x y hx hy h0 he
theorem U09{n:Nat}{o:List Int}(ho:inV n o)(hd:o.Nodup){x y:Int}(hx:0<=x)(hy:0<=y)(h0:0<=getI (plc n o) x)(he:getI (plc n o) x=getI (plc n o) y):x=y:=by
 refine n0b o 0 (List.replicate n (-1)) (by simp) ho hd (λx hx=>by rw[n05];omega) (λx y _ _ h _=>by rw[n05]at h;omega) x y hx hy h0 he
theorem A0k{es:List I0}(h:es.Pairwise λa b=>E02 a b=false){a b:I0}(ha:a∈es)(hb:b∈es)(hne:a≠b):E02 a b=false:=by
 induction es with
 |nil=>cases ha
 |cons c r ih =>
  obtain⟨h1,h2⟩:=List.pairwise_cons.1 h
  rcases List.mem_cons.1 ha with rfl|ha'
  ·rcases List.mem_cons.1 hb with rfl|hb'
   ·exact absurd rfl hne
   ·exact h1 b hb'
  ·rcases List.mem_cons.1 hb with rfl|hb'
   ·rw[w08];exact h1 a ha'
   ·exact ih h2 ha' hb'
theorem J0l{es:List I0}(hA:Asc S0 es)(h:∀ a∈es,∀ b∈es,a≠b->E02 a b=false):es.Pairwise λa b=>E02 a b=false:=by
 induction es with
 |nil=>exact .nil
 |cons c r ih =>
  obtain⟨h1,h2⟩:=List.pairwise_cons.1 hA
  refine List.pairwise_cons.2 ⟨λb hb=>h c mS b (mC _ hb) λe=>?_,ih h2 λa ha b hb=>h a (mC _ ha) b (mC _ hb)⟩
  have:=h1 b hb
  rw[e,O5.refl]at this;omega
theorem E08{g:j0}(hg:Z0 g=true):K0 g=true↔∀ a∈g.2.2,∀ b∈g.2.2,a≠b->E02 a b=false:=by
 rw[j0b,D08]
 exact⟨λh a ha b hb hne=>A0k h.2 ha hb hne,λh=>⟨hg,J0l (graph_asc' hg) h⟩⟩
where graph_asc' {g:j0} (h:Z0 g=true):Asc S0 g.2.2:=((L03 g).1 h).2.2.2.2
theorem f03{g:j0}{o:List Int}(hf:K0 g=true)(ho:inV g.2.1.toNat o)(hd:o.Nodup)(h1:1<=o.length)(h2:o.length<=40):K0 (T4 g o)=true:=by
 have hg:=R3 hf
 obtain⟨q1,q2,q3,q4⟩:=T3 hg
 refine(E08 (F02 hg ho h1 h2)).2 λa ha b hb hne=>?_
 have mem:∀ e∈(T4 g o).2.2,∃ a∈g.2.2,e=(getI (plc g.2.1.toNat o) a.1,a.2.1,getI (plc g.2.1.toNat o) a.2.2)/\0<=getI (plc g.2.1.toNat o) a.1/\0<=getI (plc g.2.1.toNat o) a.2.2:=λe he=>by
  rcases(H7 O5 e _ _).1 he with h|h
  ·cases h
  ·exact W0d _ _ e h
 obtain⟨a',ha',rfl,k1,k2⟩:=mem a ha
 obtain⟨b',hb',rfl,k3,k4⟩:=mem b hb
 have hne':a'≠b':=λe=>hne (by rw[e])
 have hc:=(E08 hg).1 hf a' ha' b' hb' hne'
 have ra:=q1 a' ha'
 have rb:=q1 b' hb'
 unfold E02 at hc ⊢
 simp only[Bool.and_eq_false_iff,Bool.or_eq_false_iff,decide_eq_false_iff_not]at hc ⊢
 rcases hc with hc|⟨hc1,hc2⟩
 ·exact .inl hc
 ·exact .inr ⟨λe=>hc1 (U09 ho hd ra.1.1 rb.1.1 k1 e),λe=>hc2 (U09 ho hd ra.2.1.1 rb.2.1.1 k2 e)⟩
def W00:Nat->j0->j0
 |0,g=>g
 |d+1,g=>match P5 g with
  |none=>g
  |some k=>W00 d (T4 g (wo k g.2.1.toNat 0))
theorem X0d{g:j0}{k:Nat}(h:P5 g=some k):1<=k/\k<g.2.1.toNat:=by
 have:=p05 _ _ _ h
 omega
theorem N03{g:j0}(hg:Z0 g=true){k:Nat}(h:P5 g=some k):inV g.2.1.toNat (wo k g.2.1.toNat 0)/\(wo k g.2.1.toNat 0).length=g.2.1.toNat-1/\1<=(wo k g.2.1.toNat 0).length/\(wo k g.2.1.toNat 0).length<=40:=by
 obtain⟨q1,q2,q3,q4⟩:=T3 hg
 have hk:=X0d h
 have hlen:=h0b k g.2.1.toNat 0
 rw[if_pos (by omega)]at hlen
 exact⟨p0f k _ _ 0 (by omega),hlen,by omega,by omega⟩
theorem X00:∀(d:Nat) {g:j0},K0 g=true->K0 (W00 d g)=true
 |0,g,h=>h
 |d+1,g,h=>by
  unfold W00
  cases e:P5 g with
  |none=>exact h
  |some k =>
   obtain⟨h1,h2,h3,h4⟩:=N03 (R3 h) e
   exact X00 d (f03 h h1 (t05 _ _ _) h3 h4)
theorem o0b(n g:Nat)(hn:n<=1000)(u:List Int)(hu:u.length=n):∀(d k fuel:Nat) (acc bcc:List Int),k+d=n->d<fuel->acc.length<=k->bcc.length<=k ->
  ∃ v,L4 (n:Int) (g:Int) u fuel (k:Int) acc bcc=some (acc++wo g d k,v)/\v.length+acc.length=bcc.length+(acc++wo g d k).length
 |d,k,0,acc,bcc,hd,hf,ha,hb=>by omega
 |0,k,fuel+1,acc,bcc,hd,hf,ha,hb=>by
  rw[L4.eq_2,if_neg (by simp;omega)];exact⟨bcc,by simp[wo],by simp[wo]⟩
 |d+1,k,fuel+1,acc,bcc,hd,hf,ha,hb=>by
  have hx:=Q7 (show k<u.length by omega)
  generalize u[k]=x at hx
  rw[L4.eq_2,if_pos (by simp;omega),J2 (show k<10000 by omega) (by omega)]
  unfold wo
  by_cases c:k=g
  ·have e:decide ((k:Int)=(g:Int))=true:=decide_eq_true (by omega)
   rw[e,if_neg (by simp),if_pos c]
   exact o0b n g hn u hu d (k+1) fuel acc bcc (by omega) (by omega) (by omega) (by omega)
  ·have e:decide ((k:Int)=(g:Int))=false:=decide_eq_false (by omega)
   rw[e,if_pos (show(!false)=true from rfl),if_neg c,H0 (by simp;omega),oB,d4 hx,oB,H0 (by simp;omega),oB]
   obtain⟨v,h1,h2⟩:=o0b n g hn u hu d (k+1) fuel (acc ++ [(k:Int)]) (bcc ++ [x]) (by omega) (by omega) (by simp;omega) (by simp;omega)
   refine⟨v,by rw[h1];simp,?_⟩
   simp only[List.length_append,List.length_cons,List.length_nil]at h2 ⊢
   omega
theorem B0f(g:j0)(hg:Z0 g=true):∀(d k fuel:Nat) (acc:List Int),k+d=g.2.1.toNat->d<fuel->acc.length=k ->
  ∃ u,c5 g.2.1 g.1 g.2.2 fuel (k:Int) acc=some u/\u.length=g.2.1.toNat
 |d,k,0,acc,hd,hf,ha=>by omega
 |0,k,fuel+1,acc,hd,hf,ha=>by
  obtain⟨q1,q2,q3,q4⟩:=T3 hg
  rw[c5.eq_2,show decide (((k:Nat):Int)<g.2.1)=false by simp;omega]
  exact⟨acc,by simp[chk],by omega⟩
 |d+1,k,fuel+1,acc,hd,hf,ha=>by
  obtain⟨q1,q2,q3,q4⟩:=T3 hg
  obtain⟨u,h1,h2⟩:=B0f g hg d (k+1) fuel (acc ++ [(k:Int)]) (by omega) (by omega) (by simp;omega)
  rw[c5.eq_2,show decide (((k:Nat):Int)<g.2.1)=true by simp;omega,O1,show(g.1,g.2.1,g.2.2)=g from rfl,V7 g (by omega),oB,hg]
  rw[if_pos (show(bif true then true else false)=true from rfl),H0 (by simp;omega),oB,J2 (show k<1000 by omega) (by omega),h1]
  exact⟨u,rfl,h2⟩
theorem C0f(g0:j0)(hg0:Z0 g0=true):∀(d k fuel:Nat) (g:j0) (u:List Int),k+d=40->d<fuel->Z0 g=true->u.length=g.2.1.toNat->g.2.1.toNat<=d+1 ->
  ∃ v,(a5 g0.1 g0.2.1 g0.2.2 fuel u (k:Int) g.1 g.2.1 g.2.2).bind (λX=>l9 X (λS=>match S with|(a,b,c,e)=>some ((b,c,e),a)))=some (W00 d g,v)
 |d,k,0,g,u,hd,hf,hg,hu,hn=>by omega
 |0,k,fuel+1,g,u,hd,hf,hg,hu,hn=>by
  rw[a5.eq_2,show decide (((k:Nat):Int)<40)=false by simp;omega]
  exact⟨u,by simp[chk,l9,W00]⟩
 |d+1,k,fuel+1,g,u,hd,hf,hg,hu,hn=>by
  obtain⟨p1,p2,p3,p4⟩:=T3 hg0
  obtain⟨q1,q2,q3,q4⟩:=T3 hg
  have hl:=w0k g hg
  rw[a5.eq_2,show decide (((k:Nat):Int)<40)=true by simp;omega,O1,show(g0.1,g0.2.1,g0.2.2)=g0 from rfl,V7 g0 (by omega),oB,hg0]
  rw[if_pos (show(bif true then true else false)=true from rfl),show(g.1,g.2.1,g.2.2)=g from rfl,hl]
  unfold W00
  cases e:P5 g with
  |none =>
   simp only[oB]
   rw[H0 (show P0 (-1) from⟨by omega,by omega⟩),oB,if_pos (by simp)]
   exact⟨u,rfl⟩
  |some j =>
   obtain⟨h1,h2,h3,h4⟩:=N03 hg e
   have hj:=X0d e
   obtain⟨N,hN⟩:∃ N:Nat,g.2.1=(N:Int):=⟨g.2.1.toNat,by omega⟩
   have hNt:g.2.1.toNat=N:=by omega
   obtain⟨v,w1,w2⟩:=o0b N j (by omega) u (by omega) N 0 T0 [] [] (by omega) (D1 (by omega)) (Nat.le_refl _) (Nat.le_refl _)
   have hr:=F06 g.1 N g.2.2 (wo j N 0) (by rw[←hN];exact hg) (by rw[←hNt];exact h1) (t05 _ _ _) (by rw[←hNt];exact h3) (by rw[←hNt];omega)
   rw[←hN,show(g.1,g.2.1,g.2.2)=g from rfl]at hr
   have hG:=F02 hg h1 h3 h4
   rw[hNt]at hG h2 h3
   obtain⟨v2,z⟩:=C0f g0 hg0 d (k+1) fuel (T4 g (wo j N 0)) v (by omega) (by omega) hG (by simp only[List.nil_append,List.length_nil]at w2;show v.length=((wo j N 0).length:Int).toNat;omega) (by show((wo j N 0).length:Int).toNat<=d+1;omega)
   simp only[oB]
   rw[H0 (show P0 ((j:Nat):Int) from⟨by omega,by omega⟩),oB,if_neg (by simp),hN,show(0:Int)=((0:Nat):Int) from rfl,w1]
   simp only[oB,List.nil_append]
   rw[←hN,hr]
   simp only[oB]
   rw[J2 (show k<1000 by omega) (by omega),hNt]
   exact⟨v2,z⟩
def r04(g:j0):j0:=W00 40 g
theorem M0g{g:j0}(hg:Z0 g=true):∃ v,S8 g=some (r04 g,v):=by
 obtain⟨q1,q2,q3,q4⟩:=T3 hg
 have hc:=n04 g (by omega)
 obtain⟨u,h1,h2⟩:=B0f g hg g.2.1.toNat 0 T0 [] (by omega) (D1 (by omega)) rfl
 obtain⟨v,h3⟩:=C0f g hg 40 0 T0 g u rfl (D1 (by omega)) hg h2 (by omega)
 refine⟨v,?_⟩
 obtain⟨r,n,es⟩:=g
 unfold S8
 simp only[hc,oB]
 simp only at h1 h3
 rw[show(0:Int)=((0:Nat):Int) from rfl,h1,oB]
 exact h3
theorem D0f:∀(n fuel d:Nat) (left:List Int) (r:Int) (es:List I0),1<=n->n<=40->inN n es->es.length<=120->left.length=n->n<fuel->n<=d+1 ->
  ∃ l',K4 fuel left r (n:Int) es=some (.inl (W00 d (r,(n:Int),es),l'))
 |n,0,d,left,r,es,h1,h2,hn,hes,hl,hf,hd=>by omega
 |n,fuel+1,d,left,r,es,h1,h2,hn,hes,hl,hf,hd=>by
  obtain⟨S,eS,lS,hS⟩:=j0f r n es hn (by omega) h1 (by omega)
  have ht1:=R0d r n es (by omega) S lS h2 (n-1) 1 T0 (Nat.le_refl _) (by omega) (by omega) (D1 (by omega))
  have hcg:lf (λv=>decide (S7 (v:Int) es<2) || !Z7 S (v:Int)) (n-1) 1=lf (R05 es) (n-1) 1:=g0b _ _ λk k1 k2=>by
   unfold R05
   have:=hS (k:Int) (by omega) (by omega)
   have h3:=p04 es 0 (k:Int)
   congr 2
   cases hb:Z7 S (k:Int)
   ·symm;exact decide_eq_false λh=>by rw[this.2 (h3.1 h)]at hb;cases hb
   ·symm;exact decide_eq_true (h3.2 (this.1 hb))
  rw[hcg]at ht1
  have hleaf:P5 (r,(n:Int),es)=lf (R05 es) (n-1) 1:=by simp only[P5,Int.toNat_natCast]
  rw[K4.eq_2,eS,oB,show(1:Int)=((1:Nat):Int) from rfl,ht1,oB]
  cases hlf:lf (R05 es) (n-1) 1 with
  |none =>
   have e2:W00 d (r,(n:Int),es)=(r,(n:Int),es):=by
    cases d with
    |zero=>rfl
    |succ d=>unfold W00;rw[hleaf,hlf]
   rw[e2]
   exact⟨left,by rw[if_pos (by rfl)]⟩
  |some k =>
   have hk:=p05 _ _ _ hlf
   have e0:decide ((k:Int)=0)=false:=decide_eq_false (by omega)
   have ho:=p0f k n n 0 (by omega)
   have hlen:=h0b k n 0
   rw[if_pos (by omega)]at hlen
   have ht0:=S0d n k (by omega) n 0 T0 [] (by omega) (D1 (by omega)) (Nat.le_refl _)
   rw[show((0:Nat):Int)=0 from rfl,List.nil_append]at ht0
   have hp:=Q0d r n es (wo k n 0) hn ho (by omega) (by omega) (by omega)
   have hpl:=E06 (r,(n:Int),es) (wo k n 0)
   have hpi:=I0c (r:=r) ho hn
   have hw:IntKind.i64.wrap ((k:Int)+((1:Nat):Int))=((k+1:Nat):Int):=by rw[w64 (by omega) (by omega)];rfl
   obtain⟨d',rfl⟩:∃ d',d=d'+1:=⟨d-1,by omega⟩
   have hF:T4 (r,(n:Int),es) (wo k n 0)=(r,((n-1:Nat):Int),(T4 (r,(n:Int),es) (wo k n 0)).2.2):=by rw[←hlen];rfl
   obtain⟨l',q1⟩:=D0f (n-1) fuel d' (left.take k++left.drop (k+1)) r (T4 (r,(n:Int),es) (wo k n 0)).2.2 (by omega) (by omega) (by rw[hlen]at hpi;exact hpi) (by simp only at hpl;omega) (by simp only[List.length_append,List.length_take,List.length_drop];omega) (by omega) (by omega)
   refine⟨l',?_⟩
   rw[←hF]at q1
   have e2:W00 (d'+1) (r,(n:Int),es)=W00 d' (T4 (r,(n:Int),es) (wo k n 0)):=by
    show(match P5 (r,(n:Int),es)with|none=>(r,(n:Int),es)|some k=>W00 d' (T4 (r,(n:Int),es) (wo k ((n:Int)).toNat 0)))=_
    rw[hleaf,hlf,Int.toNat_natCast]
   rw[e2]
   simp only[e0,Bool.false_eq_true,if_false,ht0,oB,hp]
   generalize T4 (r,(n:Int),es) (wo k n 0)=gp at *
   rw[hF]
   simp only[hw]
   rw[q0f (by omega),oB,m04 (by omega),oB,H0 (by simp only[List.length_take,List.length_drop];omega),oB,q1,←hF]
theorem E0f{g:j0}(hg:Z0 g=true):∃ v,Y5 g=some (r04 g,v):=by
 obtain⟨h1,h2,h3,h4⟩:=T3 hg
 have hq:=s00 g (by omega)
 have hc:=u01 g (by omega)
 obtain⟨r,n,es⟩:=g
 simp only at h2 h3 h4
 obtain⟨N,rfl⟩:∃ N:Nat,n=(N:Int):=⟨n.toNat,by omega⟩
 have hn:inN N es:=λe he=>⟨(h1 e he).1,(h1 e he).2.1⟩
 obtain⟨u,e1,e2⟩:=T0d N (by omega) N 0 T0 [] (by omega) (D1 (by omega)) rfl
 obtain⟨l',q1⟩:=D0f N T0 40 u r es (by omega) (by omega) hn h4 e2 (D1 (by omega)) (by omega)
 refine⟨l',?_⟩
 unfold Y5
 rw[show((0:Nat):Int)=0 from rfl]at e1
 simp only[hc,oB,hq,hg,Bool.not_true,Bool.false_eq_true,if_false,e1,q1,l9]
 rfl
def u05(g:j0):j0:=M2 (r04 g)
theorem G07{g:j0}(hf:K0 g=true):h02 g=(g,[]):=by
 obtain⟨h1,h2⟩:=(j0b g).1 hf
 unfold h02
 rw[h1]
 show m00 40 g=_
 unfold m00
 rw[h2]
theorem N0g{g:j0}(hf:K0 g=true):T8 g=some (u05 g):=by
 have hg:=R3 hf
 obtain⟨h1,h2,h3,h4⟩:=T3 hg
 have e1:=Q0b g (by omega)
 rw[G07 hf]at e1
 obtain⟨v,e2⟩:=M0g hg
 have e3:=q09 (r04 g) (X00 40 hf)
 obtain⟨r,n,es⟩:=g
 unfold T8 u05
 simp only[e1,oB,e2]
 simp only[e3,oB]
theorem O0g{g:j0}(hf:K0 g=true):U8 g=some (u05 g):=by
 have hg:=R3 hf
 obtain⟨h1,h2,h3,h4⟩:=T3 hg
 have e1:=R0b g (by omega)
 rw[G07 hf]at e1
 obtain⟨v,e2⟩:=E0f hg
 have e3:=p09 (r04 g) (X00 40 hf)
 obtain⟨r,n,es⟩:=g
 unfold U8 u05
 simp only[e1,oB,e2]
 simp only[e3,oB]
def ng(x:Int):Int:=IntKind.i64.wrap (0-x)
def inv(w:List Int):List Int:=(w.map ng).reverse
theorem N0l(w:List Int):(inv w).length=w.length:=by simp[inv]
def p8(w:List Int):Prop:=∀ x∈w,P0 x
theorem J0m(w:List Int):p8 (inv w):=λx hx=>by
 simp only[inv,List.mem_reverse,List.mem_map]at hx
 obtain⟨y,_,rfl⟩:=hx
 exact J0 _
theorem F0k{w:List Int}{k:Nat}{x:Int}(hx:w[k]?=some x):inv (w.drop k)=inv (w.drop (k+1)) ++ [ng x]:=by
 rw[Z2 hx]
 simp[inv]
theorem M01(w:List Int)(hl:w.length<=1099511627776):∀(k fuel:Nat),k<=w.length->k<fuel ->
  S3 w fuel ((k:Int)-1) (inv (w.drop k))=some (inv w)
 |k,0,hk,hf=>by omega
 |0,fuel+1,hk,hf=>by
  rw[S3.eq_2,if_neg (by simp)]
  rfl
 |k+1,fuel+1,hk,hf=>by
  have hx:=Q7 (show k<w.length by omega)
  have next:=M01 w hl k fuel (by omega) (by omega)
  generalize w[k]=x at hx
  rw[F0k hx]at next
  have hlen:=N0l (w.drop (k+1))
  rw[List.length_drop]at hlen
  rw[show(((k+1:Nat):Int)-1)=(k:Int) by omega,S3.eq_2,if_pos (by simp),d4 hx,oB,H0 (by simp only[List.length_singleton];omega),oB,
   w64 (by omega) (by omega)]
  exact next
theorem O03(w:List Int)(hl:w.length<=1099511627776):D7 w=some (inv w):=by
 unfold D7
 have h:=M01 w hl w.length T0 (Nat.le_refl _) (D1 (by omega))
 rw[List.drop_length]at h
 rw[w64 (by omega) (by omega),show([]:B0)=inv [] from rfl,h]
 rfl
theorem Y00(w:List Int):∀(fuel:Nat) (k:Int) (u:List Int),A5 w fuel k u=S3 w fuel k u
 |0,k,u=>rfl
 |fuel+1,k,u=>by
  rw[A5.eq_2,S3.eq_2]
  simp only[Y00 w fuel]
theorem M08(w:List Int)(hl:w.length<=1099511627776):I8 w=some (inv w):=by
 rw[←O03 w hl]
 unfold I8 D7
 rw[H0 (by omega),oB,Y00]
 rfl
def z0b(l x:Int):Bool := !(l == 0) && !(l == -9223372036854775808)&&(x == ng l)
def T01(s:List Int)(x:Int):List Int:=match s with
 | []=>[x]
 |l::t=>bif z0b l x then t else x::l::t
def K06(s w:List Int):List Int:=w.foldl T01 s
def Red:List Int->Bool
 | []=>true
 | [_]=>true
 |x::l::t => !z0b l x&&Red (l::t)
theorem N08(s:List Int)(x:Int):(T01 s x).length<=s.length+1:=by
 cases s with
 |nil=>simp[T01]
 |cons l t =>
  simp only[T01]
  cases z0b l x<;>simp<;>omega
theorem J07:∀(w s:List Int),(K06 s w).length<=s.length+w.length
 | [],s=>by simp[K06]
 |x::w,s=>by
  have:=J07 w (T01 s x)
  have:=N08 s x
  simp only[K06,List.foldl_cons,List.length_cons]at *
  omega
theorem M0f{s:List Int}{x:Int}(h:p8 s)(hx:P0 x):p8 (T01 s x):=by
 cases s with
 |nil=>intro y hy;simp[T01]at hy;subst hy;exact hx
 |cons l t =>
  simp only[T01]
  cases z0b l x with
  |true=>exact λy hy=>h y (mC _ hy)
  |false =>
   intro y hy
   rcases List.mem_cons.1 hy with rfl|hy
   ·exact hx
   ·exact h y hy
theorem d0i:∀(w s:List Int),p8 s->p8 w->p8 (K06 s w)
 | [],s,hs,hw=>hs
 |x::w,s,hs,hw=>d0i w (T01 s x) (M0f hs (hw x mS)) λy hy=>hw y (mC _ hy)
theorem c0j{l x:Int}(hl:P0 l)(hx:P0 x):(!(x == 0)&&(l == ng x) && !(l == x))=z0b l x:=by
 unfold z0b ng
 have e:∀ {z:Int},P0 z->IntKind.i64.wrap (0-z)=if z = -9223372036854775808 then -9223372036854775808 else -z:=λ{z} hz=>by
  split
  ·rename_i h;subst h;decide
  ·rw[w64 (by have:=hz.1;have:=hz.2;omega) (by have:=hz.1;have:=hz.2;omega)];omega
 rw[e hl,e hx]
 have hl1:=hl.1
 have hl2:=hl.2
 have hx1:=hx.1
 have hx2:=hx.2
 rw[Bool.eq_iff_iff]
 simp only[Bool.and_eq_true,Bool.not_eq_true',beq_iff_eq,beq_eq_false_iff_ne,ne_eq]
 split<;>split<;>omega
theorem A0b{l:Int}{t:List Int}:(l::t).reverse[t.length]?=some l:=by
 rw[List.reverse_cons,List.getElem?_append_right (by simp)]
 simp
theorem V0c(l:Int)(t:List Int):(l::t).reverse.take t.length=t.reverse:=by
 rw[List.reverse_cons,List.take_append_of_le_length (by simp),List.take_of_length_le (by simp)]
theorem K00(w:List Int)(hw:p8 w)(hl:w.length<=1099511627776):∀(d k fuel:Nat) (s:List Int),k+d=w.length->d<fuel->p8 s->s.length<=k ->
  L3 w fuel (k:Int) s.reverse=some (K06 s (w.drop k)).reverse
 |d,k,0,s,hk,hf,hs,hsl=>by omega
 |0,k,fuel+1,s,hk,hf,hs,hsl=>by
  rw[L3.eq_2,if_neg (by simp;omega),D2 (by omega)]
  rfl
 |d+1,k,fuel+1,s,hk,hf,hs,hsl=>by
  have hkl:k<w.length:=by omega
  have hx:=Q7 hkl
  have hx64:=hw _ (List.mem_of_getElem? hx)
  generalize w[k]=x at hx hx64
  have next:=K00 w hw hl d (k+1) fuel (T01 s x) (by omega) (by omega) (M0f hs hx64) (by have:=N08 s x;omega)
  rw[Z2 hx]
  show _=some (K06 (T01 s x) (w.drop (k+1))).reverse
  rw[←next,L3.eq_2,if_pos (by simp;omega),oB,H0 (by rw[List.length_reverse];omega),oB]
  rw[J2 hkl (by omega:w.length<=9223372036854775807)]
  have e0:decide (x=0)=(x == 0):=by rw[Bool.eq_iff_iff];simp
  cases s with
  |nil =>
   have hz:decide ((((([]:List Int).reverse).length:Nat):Int)>0)=false:=rfl
   simp only[hz,n4,oB,cond_false,Bool.false_eq_true,if_false,d4 hx]
   rw[H0 (by simp)]
   rfl
  |cons l t =>
   have hl64:=hs l mS
   have hp:decide ((((l::t).reverse.length:Nat):Int)>0)=true:=by simp
   have hpr:IntKind.i64.wrap ((((l::t).reverse.length:Nat):Int)-1)=((t.length:Nat):Int):=by
    rw[I0h (by simp) (by simp only[List.length_reverse,List.length_cons]at *;omega)];simp
   have hc:=c0j hl64 hx64
   have e1:decide (l=IntKind.i64.wrap (0-x))=(l == ng x):=by rw[Bool.eq_iff_iff];simp[ng]
   have e2:decide (l=x)=(l == x):=by rw[Bool.eq_iff_iff];simp
   have hpush:(grd (((l::t).reverse.length + [x].length)*8<=140737488355328))=some ():=H0 (by simp only[List.length_cons]at hsl;simp only[List.length_reverse,List.length_cons,List.length_nil];omega)
   simp only[hp,hpr,O1,oB,cond_true,d4 hx,d4 A0b,e0,T01]
   cases h0:(x == 0)with
   |true =>
    rw[h0]at hc
    simp only[Bool.not_true,Bool.false_and]at hc
    simp only[←hc,Bool.not_true,n4,cond_false,oB,Bool.false_eq_true,if_false,hpush]
    exact congrArg _ (List.reverse_cons ..).symm
   |false =>
    rw[h0]at hc
    simp only[Bool.not_false,Bool.true_and]at hc
    simp only[Bool.not_false,O1,cond_true,oB,e1]
    cases h1:(l == ng x)with
    |false =>
     rw[h1]at hc
     simp only[Bool.false_and]at hc
     simp only[←hc,n4,cond_false,oB,Bool.false_eq_true,if_false,hpush]
     exact congrArg _ (List.reverse_cons ..).symm
    |true =>
     rw[h1]at hc
     simp only[Bool.true_and]at hc
     simp only[O1,cond_true,oB,e2]
     cases h2:(l == x)with
     |true =>
      rw[h2]at hc
      simp only[Bool.not_true]at hc
      simp only[←hc,Bool.not_true,Bool.false_eq_true,if_false,cond_false,oB,hpush]
      exact congrArg _ (List.reverse_cons ..).symm
     |false =>
      rw[h2]at hc
      simp only[Bool.not_false]at hc
      simp only[←hc,Bool.not_false,if_true,cond_true]
      rw[H0 (by simp only[List.length_reverse,List.length_cons]at *;omega),oB,Int.toNat_natCast,V0c]
theorem S05(w:List Int)(hw:p8 w)(hl:w.length<=1099511627776):z7 w=some (K06 [] w).reverse:=by
 unfold z7
 have h:=K00 w hw hl w.length 0 T0 [] (by omega) (D1 (by omega)) (λx hx=>by cases hx) (by simp)
 rw[show((0:Nat):Int)=0 from rfl,List.drop_zero,List.reverse_nil]at h
 rw[h,oB,H0 (by have:=J07 w [];simp only[List.length_reverse,List.length_nil]at *;omega),oB,List.nil_append]
theorem P03{a b:List Int}(ha:p8 a)(hb:p8 b):p8 (a++b):=λx hx=>by
 rcases List.mem_append.1 hx with h|h
 ·exact ha x h
 ·exact hb x h
theorem f0j{a:List Int}(ha:p8 a):p8 a.reverse:=λx hx=>ha x (List.mem_reverse.1 hx)
theorem V01(w:List Int)(hl:w.length<=1099511627776)(n0:Nat)(hn:n0<=1099511627776):∀(d k fuel:Nat) (s:List Int),k+d=w.length->d<fuel->s.length<=n0+k ->
  s5 w fuel (k:Int) s.reverse=some (K06 s (w.drop k)).reverse
 |d,k,0,s,hk,hf,hsl=>by omega
 |0,k,fuel+1,s,hk,hf,hsl=>by
  rw[s5.eq_2,if_neg (by simp;omega),D2 (by omega)]
  rfl
 |d+1,k,fuel+1,s,hk,hf,hsl=>by
  have hkl:k<w.length:=by omega
  have hx:=Q7 hkl
  generalize w[k]=x at hx
  have next:=V01 w hl n0 hn d (k+1) fuel (T01 s x) (by omega) (by omega) (by have:=N08 s x;omega)
  rw[Z2 hx]
  show _=some (K06 (T01 s x) (w.drop (k+1))).reverse
  rw[←next,s5.eq_2,if_pos (by simp;omega),d4 hx,oB,oB,H0 (by rw[List.length_reverse];omega),oB,oB,oB]
  rw[J2 hkl (by omega:w.length<=9223372036854775807)]
  cases s with
  |nil =>
   have hz:decide ((((([]:List Int).reverse).length:Nat):Int)>0)=false:=rfl
   simp only[hz,n4,oB,cond_false,Bool.false_eq_true,if_false]
   rw[H0 (by simp)]
   rfl
  |cons l t =>
   have hp:decide ((((l::t).reverse.length:Nat):Int)>0)=true:=by simp
   have hpr:IntKind.i64.wrap ((((l::t).reverse.length:Nat):Int)-1)=((t.length:Nat):Int):=by
    rw[I0h (by simp) (by simp only[List.length_cons]at hsl;simp only[List.length_reverse,List.length_cons];omega)];simp
   have hpush:(grd (((l::t).reverse.length + [x].length)*8<=140737488355328))=some ():=H0 (by simp only[List.length_cons]at hsl;simp only[List.length_reverse,List.length_cons,List.length_nil];omega)
   have hlen:(grd ((l::t).reverse.length<=9223372036854775807))=some ():=H0 (by rw[List.length_reverse];omega)
   simp only[hp,hpr,O1,oB,cond_true,d4 A0b,L0d,T01]
   have hcc:(!(l == 0) && !(l == -9223372036854775808)&&(x == IntKind.i64.wrap (0-l)))=z0b l x:=rfl
   rw[hcc]
   cases hc:z0b l x with
   |true =>
    simp only[if_true,cond_true,hlen,oB]
    rw[H0 (by simp only[List.length_reverse,List.length_cons];omega),oB,Int.toNat_natCast,V0c]
   |false =>
    simp only[Bool.false_eq_true,if_false,cond_false,hpush,hlen,oB]
    exact congrArg _ (List.reverse_cons ..).symm
def G0k:List (List Int)->Nat
 | []=>0
 |w::r=>w.length+G0k r
def L0m(s:List Int):List (List Int)->List Int
 | []=>s
 |w::r=>L0m (K06 s w) r
theorem W01(ws:List (List Int))(hn:ws.length<=1099511627776):∀(d k fuel:Nat) (s:List Int),k+d=ws.length->d<fuel->s.length+G0k (ws.drop k)<=1099511627776 ->
  i6 ws fuel (k:Int) s.reverse=some (L0m s (ws.drop k)).reverse
 |d,k,0,s,hk,hf,hsl=>by omega
 |0,k,fuel+1,s,hk,hf,hsl=>by
  rw[i6.eq_2,if_neg (by simp;omega),D2 (by omega)]
  rfl
 |d+1,k,fuel+1,s,hk,hf,hsl=>by
  have hkl:k<ws.length:=by omega
  have hx:=Q7 hkl
  generalize ws[k]=w at hx
  rw[Z2 hx]at hsl ⊢
  simp only[G0k]at hsl
  have hr:=J07 w s
  have h0:=V01 w (by omega) s.length (by omega) w.length 0 T0 s (by omega) (D1 (by omega)) (by omega)
  rw[show((0:Nat):Int)=0 from rfl,List.drop_zero]at h0
  rw[i6.eq_2,if_pos (by simp;omega),d4 hx,oB,h0,oB,J2 hkl (by omega:ws.length<=9223372036854775807)]
  exact W01 ws hn d (k+1) fuel (K06 s w) (by omega) (by omega) (by omega)
theorem S0b(ws:List (List Int))(hn:ws.length<=1099511627776)(hl:G0k ws<=1099511627776):W9 ws=some (L0m [] ws).reverse:=by
 unfold W9
 have h:=W01 ws hn ws.length 0 T0 [] (by omega) (D1 (by omega)) (by simpa using hl)
 rw[show((0:Nat):Int)=0 from rfl,List.drop_zero,List.reverse_nil]at h
 rw[h]
 rfl
theorem X01(a b:List Int)(ha:p8 a)(hb:p8 b)(hl:a.length+b.length<=1099511627776):g6 a b=some (K06 [] (a++b)).reverse:=by
 unfold g6
 rw[H0 (by simp only[List.length_nil];omega),oB,H0 (by simp only[List.length_append,List.length_nil];omega),oB,List.nil_append,
  S05 _ (P03 ha hb) (by simp only[List.length_append];omega)]
 rfl
end Go.Proofs.YtkjhghloldgioaaGreat
