/- Texts of the claim, joined: Plain laws: words and presentations, as the spec and the cod and others. -/
import Derived.Test.YtkjhghloldgioaaGreatPart20
import Derived.Test.YtkjhghloldgioaaGreatH33
import Derived.Test.YtkjhghloldgioaaGreatH36
import Derived.Test.YtkjhghloldgioaaGreatPart19
namespace Go.Proofs.YtkjhghloldgioaaGreat
open Go.H
set_option linter.unusedVariables false
set_option linter.unusedSimpArgs false
theorem C1{n:Nat}(h:n<=140737488355328):n<U0:=by unfold U0;omega
theorem F0{p:Prop}[Decidable p](h:p):grd p=some ():=by unfold grd;rw[if_pos h]
theorem Q2{a:Type}(o:Option a)(d:a):chk true o d=o:=rfl
theorem o5{a:Type}(o:Option a)(d:a):chk false o d=some d:=rfl
theorem T2{a:Type}{xs:List a}{k:Nat}{x:a}(h:xs[k]?=some x):gi xs (k:Int)=some x:=by rw[H0b];exact h
theorem x09{a:Type}{xs:List a}{x:a}(h:xs[0]?=some x):gi xs 0=some x:=T2 (k:=0) h
theorem B0g{x:Int}(h:I0 x)(a:x ≠ -9223372036854775808):IntKind.i64.wrap (0-x) = -x:=by rw[w64 (by have:=h.1;have:=h.2;omega) (by have:=h.1;have:=h.2;omega)];omega
theorem M0j{n:Nat}(h:0<n)(a:n<=9223372036854775807):IntKind.i64.wrap ((n:Int)-1)=((n-1:Nat):Int):=by rw[w64 (by omega) (by omega)];omega
theorem V5{a:Type}{xs:List a}{k:Nat}(h:k<xs.length):xs[k]?=some xs[k]:=List.getElem?_eq_getElem h
def inR(b a x:Int):Bool:=decide (b<=x)&&decide (x<=a)
theorem N04(a b c:Int):a6 a b c=some (inR b c a):=by
 unfold a6 inR
 by_cases h:b<=a<;>simp[h]
theorem K07(a b c:Int):J00 a b c=some (inR b c a):=N04 a b c
theorem d0i(y x:Int):x00 y x=some (!(y == 0) && !(y == -9223372036854775808)&&(x == IntKind.i64.wrap (0-y))):=by
 unfold x00
 by_cases h0:y=0
 ·simp[h0]
 ·by_cases h1:y = -9223372036854775808
  ·simp[h1]
  ·simp only[h0,h1,decide_false,Bool.not_false,cond_true,Option.some.injEq]
   have a:(y == 0)=false:=by simpa using h0
   have b:(y == -9223372036854775808)=false:=by simpa using h1
   rw[a,b]
   rfl
def tot:List (List Int)->Nat
 | []=>0
 |w::r=>w.length+tot r
theorem L1{a:Type}{xs:List a}{k:Nat}{x:a}(h:xs[k]?=some x):xs.drop k=x::xs.drop (k+1):=by
 obtain⟨b,rfl⟩:=List.getElem?_eq_some_iff.1 h
 exact List.drop_eq_getElem_cons b
theorem N1{a:Type}{xs:List a}{k:Nat}(h:k=xs.length):xs.drop k = []:=by rw[h];exact List.drop_length
def B05(r a:Int)(e:M0):Bool:=inR 0 a e.1&&inR 0 a e.2.2&&inR 1 r e.2.1
def i0e(e f:M0):Int:=D1 e f
theorem j0e(e f:M0):i0e e f=if t9 e.1 f.1≠0 then t9 e.1 f.1 else if t9 e.2.1 f.2.1≠0 then t9 e.2.1 f.2.1 else t9 e.2.2 f.2.2:=rfl
theorem F06(a b:Int):(a<b/\t9 a b = -1)∨(a>b/\t9 a b=1)∨(a=b/\t9 a b=0):=by
 unfold t9
 split
 ·omega
 ·split<;>omega
theorem g0d(e f:M0):I0 (i0e e f):=by
 rw[j0e]
 split
 ·exact c0i _ _
 ·split<;>exact c0i _ _
theorem M0p(g:j0)(e:M0):p02 g e=some (B05 g.1 (IntKind.i64.wrap (g.2.1-1)) e):=by
 obtain⟨r,n,es⟩:=g
 obtain⟨a,l,b⟩:=e
 unfold p02 B05
 simp only[N04,oB]
 cases inR 0 (IntKind.i64.wrap (n-1)) a with
 |false=>rfl
 |true =>
  cases inR 0 (IntKind.i64.wrap (n-1)) b with
  |false=>rfl
  |true=>simp[chk]
theorem O0c(g:j0)(e:M0):c9 g e=some (B05 g.1 (IntKind.i64.wrap (g.2.1-1)) e):=by
 obtain⟨r,n,es⟩:=g
 obtain⟨a,l,b⟩:=e
 unfold c9 T3 B05
 simp only[K07,oB]
 cases inR 0 (IntKind.i64.wrap (n-1)) a with
 |false=>rfl
 |true =>
  cases inR 0 (IntKind.i64.wrap (n-1)) b with
  |false=>rfl
  |true=>simp[chk]
theorem y02(e f:M0):A8 e f=some (i0e e f):=by
 obtain⟨a,l,b⟩:=e
 obtain⟨g,j,i⟩:=f
 unfold A8
 rw[show U0=(U0-4)+1+1+1+1 from rfl]
 have s:IntKind.i64.wrap (0+1)=1:=by decide
 have t:IntKind.i64.wrap (1+1)=2:=by decide
 have u:IntKind.i64.wrap (2+1)=3:=by decide
 have o:∀ x y z:Int,gi [x,y,z] 0=some x:=λ_ _ _=>rfl
 have p:∀ x y z:Int,gi [x,y,z] 1=some y:=λ_ _ _=>rfl
 have q:∀ x y z:Int,gi [x,y,z] 2=some z:=λ_ _ _=>rfl
 have d0:decide ((0:Int)<3)=true:=rfl
 have k:decide ((1:Int)<3)=true:=rfl
 have m:decide ((2:Int)<3)=true:=rfl
 have n:decide ((3:Int)<3)=false:=rfl
 simp only[l7.eq_2,s,t,u,o,p,q,d0,k,m,n,if_true,oB,Bool.false_eq_true,if_false]
 rw[j0e]
 simp only
 rcases F06 a g with⟨h,e⟩|⟨h,e⟩|⟨h,e⟩
 ·simp[e,h,I9]
 ·have : ¬ a<g:=by omega
  simp[e,h,this,I9]
 ·subst h
  rcases F06 l j with⟨h,c⟩|⟨h,c⟩|⟨h,c⟩
  ·simp[e,c,h,I9]
  ·have : ¬ l<j:=by omega
   simp[e,c,h,this,I9]
  ·subst h
   rcases F06 b i with⟨h,d⟩|⟨h,d⟩|⟨h,d⟩
   ·simp[e,c,d,h,I9]
   ·have : ¬ b<i:=by omega
    simp[e,c,d,h,this,I9]
   ·subst h
    simp[e,c,d,I9]
theorem q0o(a b:Int):F7 a b=some (t9 a b):=by
 unfold F7 t9
 by_cases h:a<b
 ·simp[h]
 ·by_cases h2:a>b<;>simp[h,h2]
theorem O04(e f:M0):E9 e f=some (i0e e f):=by
 obtain⟨a,l,b⟩:=e
 obtain⟨c,d,g⟩:=f
 rw[j0e]
 unfold E9
 simp only[q0o,oB,F0 (c0i _ _)]
 by_cases h1:t9 a c=0
 ·by_cases h2:t9 l d=0
  ·simp[h1,h2]
  ·simp[h1,h2]
 ·simp[h1]
def N0p(r a:Int)(es:List M0)(k:Nat):Bool:=match es[k]? with
 |none=>true
 |some e => !B05 r a e || (decide (0<k)&&match es[k-1]? with
  |none=>true
  |some f=>decide (i0e f e ≥ 0))
def okE(r a:Int)(es:List M0):Nat->Nat->Bool
 |0,_=>true
 |d+1,k => !N0p r a es k&&okE r a es d (k+1)
def E1(g:j0):Bool:=okE g.1 (IntKind.i64.wrap (g.2.1-1)) g.2.2 g.2.2.length 0&&inR 1 3 g.1&&inR 1 40 g.2.1&&decide (g.2.2.length<=120)
theorem t0a{r a:Int}{es:List M0}{k:Nat}{e:M0}(b:es[k]?=some e):N0p r a es k=(!B05 r a e || (decide (0<k)&&match es[k-1]? with
  |none=>true
  |some f=>decide (i0e f e ≥ 0))):=by unfold N0p;rw[b]
theorem p05(r n:Int)(es:List M0)(q:es.length<=140737488355328):∀(d k fuel:Nat),k+d=es.length->d<fuel ->
  L7 es r n fuel (k:Int)=some (bif okE r (IntKind.i64.wrap (n-1)) es d k then .inr ()else .inl false)
 |d,k,0,l,hf=>by omega
 |0,k,fuel+1,l,hf=>by
  rw[L7.eq_2,if_neg (by simp;omega)]
  simp[okE]
 |d+1,k,fuel+1,l,hf=>by
  have m:k<es.length:=by omega
  have a:=V5 m
  generalize es[k]=e at a
  obtain⟨h,i,j⟩:=e
  have next:=p05 r n es q d (k+1) fuel (by omega) (by omega)
  rw[L7.eq_2,if_pos (by simp;omega),T2 a,oB]
  simp only[M0p,oB,G2 m (by omega:es.length<=9223372036854775807),next,okE,t0a a]
  generalize IntKind.i64.wrap (n-1)=hi
  cases hin:B05 r hi (h,i,j)with
  |false=>simp[chk,grd,I0]
  |true =>
   by_cases hk0:k=0
   ·have c:decide ((k:Int)>0)=false:=by simp;omega
    have b:decide (0<k)=false:=by simp;omega
    simp only[c,b,o5,Bool.not_true,Bool.not_false,Bool.and_true,Bool.false_and,Bool.or_self,Bool.true_and,cond_true,cond_false,oB,Bool.or_false,Bool.false_eq_true,if_false,F0 (show I0 0 by decide)]
   ·have g:=V5 (show k-1<es.length by omega)
    generalize es[k-1]=f at g
    obtain⟨o,p,f2⟩:=f
    have s:IntKind.i64.wrap ((k:Int)-1)=((k-1:Nat):Int):=M0j (by omega) (by omega)
    have c:decide ((k:Int)>0)=true:=by simp;omega
    have b:decide (0<k)=true:=by simp;omega
    simp only[c,b,s,g,T2 a,T2 g,Q2,Bool.not_true,Bool.not_false,Bool.and_true,Bool.false_and,Bool.or_self,Bool.true_and,cond_true,cond_false,oB,Bool.or_false,Bool.false_or,y02,F0 (g0d _ _)]
    cases decide (i0e (o,p,f2) (h,i,j) ≥ 0)<;>rfl
theorem P9(g:j0)(a:g.2.2.length<=140737488355328):O5 g=some (E1 g):=by
 obtain⟨r,n,es⟩:=g
 unfold O5 E1
 simp only at a ⊢
 have h:=p05 r n es a es.length 0 U0 (by omega) (C1 a)
 rw[show((0:Nat):Int)=0 from rfl]at h
 rw[h,oB]
 cases okE r (IntKind.i64.wrap (n-1)) es es.length 0 with
 |false=>simp[I9]
 |true =>
  rw[cond_true,W0,N04,N04,oB]
  cases inR 1 3 r with
  |false=>simp[chk]
  |true =>
   simp only[Q2,oB,cond_true,Bool.true_and]
   cases inR 1 40 n with
   |false=>simp
   |true=>simp;omega
theorem q05(r n:Int)(es:List M0)(q:es.length<=140737488355328):∀(d k fuel:Nat),k+d=es.length->d<fuel ->
  M7 es r n fuel (k:Int)=some (bif okE r (IntKind.i64.wrap (n-1)) es d k then .inr ()else .inl false)
 |d,k,0,l,hf=>by omega
 |0,k,fuel+1,l,hf=>by
  rw[M7.eq_2,if_neg (by simp;omega)]
  simp[okE]
 |d+1,k,fuel+1,l,hf=>by
  have m:k<es.length:=by omega
  have a:=V5 m
  generalize es[k]=e at a
  obtain⟨h,i,j⟩:=e
  have next:=q05 r n es q d (k+1) fuel (by omega) (by omega)
  rw[M7.eq_2,if_pos (by simp;omega),T2 a,oB]
  simp only[O0c,oB,G2 m (by omega:es.length<=9223372036854775807),next,okE,t0a a]
  generalize IntKind.i64.wrap (n-1)=hi
  cases hin:B05 r hi (h,i,j)with
  |false=>simp[chk,grd,I0]
  |true =>
   by_cases hk0:k=0
   ·have c:decide ((k:Int)>0)=false:=by simp;omega
    have b:decide (0<k)=false:=by simp;omega
    simp only[c,b,o5,Bool.not_true,Bool.not_false,Bool.and_true,Bool.false_and,Bool.or_self,Bool.true_and,cond_true,cond_false,oB,Bool.or_false,Bool.false_eq_true,if_false,F0 (show I0 0 by decide)]
   ·have g:=V5 (show k-1<es.length by omega)
    generalize es[k-1]=f at g
    obtain⟨o,p,f2⟩:=f
    have s:IntKind.i64.wrap ((k:Int)-1)=((k-1:Nat):Int):=M0j (by omega) (by omega)
    have c:decide ((k:Int)>0)=true:=by simp;omega
    have b:decide (0<k)=true:=by simp;omega
    simp only[c,b,s,g,T2 a,T2 g,Q2,Bool.not_true,Bool.not_false,Bool.and_true,Bool.false_and,Bool.or_self,Bool.true_and,cond_true,cond_false,oB,Bool.or_false,Bool.false_or,O04,F0 (g0d _ _)]
    cases decide (i0e (o,p,f2) (h,i,j) ≥ 0)<;>rfl
theorem q02(g:j0)(c:g.2.2.length<=140737488355328):d9 g=some (E1 g):=by
 obtain⟨r,n,es⟩:=g
 unfold d9 E1
 simp only at c ⊢
 rw[K07,K07,oB]
 cases hr:inR 1 3 r with
 |false=>simp[chk]
 |true =>
  simp only[Bool.not_true,Bool.not_false,Q2,oB,cond_false]
  cases hn:inR 1 40 n with
  |false=>simp
  |true =>
   by_cases h120:es.length<=120
   ·have h:=q05 r n es c es.length 0 U0 (by omega) (C1 c)
    rw[show((0:Nat):Int)=0 from rfl]at h
    have a:decide (((es.length:Nat):Int)>120)=false:=by simp;omega
    have b:decide (es.length<=120)=true:=by simpa using h120
    simp only[a,b,Bool.not_true,cond_false,Bool.false_eq_true,if_false,h,oB]
    cases okE r (IntKind.i64.wrap (n-1)) es es.length 0<;>rfl
   ·have a:decide (((es.length:Nat):Int)>120)=true:=by simp;omega
    have b:decide (es.length<=120)=false:=by simpa using h120
    simp only[a,b,Bool.not_true,cond_false,if_true,Bool.and_false]
theorem F0l{r a:Int}{es:List M0}:∀ {d k:Nat},okE r a es d k=true->∀ i,k<=i->i<k+d->N0p r a es i=false
 |0,k,h,i,b,c=>by omega
 |d+1,k,h,i,b,c=>by
  simp only[okE,Bool.and_eq_true,Bool.not_eq_true']at h
  by_cases e:i=k
  ·subst e;exact h.1
  ·exact F0l h.2 i (by omega) (by omega)
theorem N0j{n:Nat}(h:n<=9223372036854775807):n<U0:=by unfold U0;omega
def goI(x:Int):List Int->Bool×List Int
 | []=>(false,[])
 |y::l=>if x<y then(true,x::y::l)else if y=x then(true,y::l)else((goI x l).1,y::(goI x l).2)
theorem L0m(x:Int):∀ l,H01 t9 x l=bif(goI x l).1 then(goI x l).2 else(goI x l).2 ++ [x]
 | []=>rfl
 |y::l=>by
  have a:=L0m x l
  unfold H01 goI
  rcases F06 x y with⟨h,e⟩|⟨h,e⟩|⟨h,e⟩
  ·rw[e,if_pos (by omega),if_pos h];rfl
  ·rw[e,if_neg (by omega),if_neg (by omega),if_neg (by omega),if_neg (by omega),a]
   cases (goI x l).1<;>rfl
  ·rw[e,if_neg (by omega),if_pos rfl,if_neg (by omega),if_pos h.symm];rfl
theorem k0e(l:List Int)(w:Int)(h:l.length<=1099511627776):∀(d k fuel:Nat) (acc:List Int),k+d=l.length->d<fuel->acc.length<=k+1 ->
  M4 l w fuel true (k:Int) acc=some (true,acc++l.drop k)
 |d,k,0,acc,e,hf,b=>by omega
 |0,k,fuel+1,acc,e,hf,b=>by
  rw[M4.eq_2,if_neg (by simp;omega),N1 (by omega),List.append_nil]
 |d+1,k,fuel+1,acc,e,hf,b=>by
  have f:k<l.length:=by omega
  have a:=V5 f
  generalize l[k]=x at a
  have i:=k0e l w h d (k+1) fuel (acc ++ [x]) (by omega) (by omega) (by simp;omega)
  rw[M4.eq_2,if_pos (by simp;omega),T2 a,oB]
  have g:∀ c:Bool,(bif c then(!true)else false)=false:=λc=>by cases c<;>rfl
  simp only[g,Bool.false_eq_true,if_false,oB,G2 f (show l.length<=9223372036854775807 by omega),i,F0 (show(acc.length + [x].length)*8<=140737488355328 by simp;omega)]
  rw[L1 a]
  split<;>simp
theorem C0g(l:List Int)(w:Int)(b:l.length<=1099511627776):∀(d k fuel:Nat) (acc:List Int),k+d=l.length->d<fuel->acc.length=k ->
  M4 l w fuel false (k:Int) acc=some ((goI w (l.drop k)).1,acc++(goI w (l.drop k)).2)
 |d,k,0,acc,g,hf,f=>by omega
 |0,k,fuel+1,acc,g,hf,f=>by
  rw[M4.eq_2,if_neg (by simp;omega),N1 (by omega)]
  simp[goI]
 |d+1,k,fuel+1,acc,g,hf,f=>by
  have a:k<l.length:=by omega
  have e:=V5 a
  generalize l[k]=x at e
  have j:=C0g l w b d (k+1) fuel (acc ++ [x]) (by omega) (by omega) (by simp;omega)
  have m:=k0e l w b d (k+1) fuel (acc ++ [x]) (by omega) (by omega) (by simp;omega)
  have n:=k0e l w b d (k+1) fuel (acc ++ [w] ++ [x]) (by omega) (by omega) (by simp;omega)
  rw[M4.eq_2,if_pos (by simp;omega),T2 e,oB,L1 e]
  unfold goI
  have h:∀ c:Bool,(bif c then(!true)else false)=false:=λc=>by cases c<;>rfl
  have i:∀ c:Bool,(bif c then(!false)else false)=c:=λc=>by cases c<;>rfl
  by_cases h0:x=w
  ·rw[if_pos (by simpa using h0),oB,h,if_neg (by simp),oB,F0 (by simp;omega),oB,G2 a (by omega),m,if_neg (by omega),if_pos h0]
   simp
  ·rw[if_neg (by simpa using h0),oB,i]
   by_cases h1:w<x
   ·rw[if_pos (by simpa using h1),F0 (by simp;omega),oB,oB,F0 (by simp;omega),oB,G2 a (by omega),n,if_pos h1]
    simp
   ·rw[if_neg (by simpa using h1),oB,F0 (by simp;omega),oB,G2 a (by omega),j,if_neg h1,if_neg h0]
    simp
theorem u0a(l:List Int)(w:Int)(a:l.length<=1099511627776):V8 l w=some (H01 t9 w l):=by
 unfold V8
 have h:=C0g l w a l.length 0 U0 [] (by omega) (C1 (by omega)) rfl
 rw[show((0:Nat):Int)=0 from rfl,List.drop_zero,List.nil_append]at h
 rw[h,oB,L0m]
 have b:∀ l:List Int,(goI w l).2.length<=l.length+1:=λl=>by
  induction l with
  |nil=>simp[goI]
  |cons y l c =>
   unfold goI
   split
   ·simp
   ·split
    ·simp
    ·simp only[List.length_cons];omega
 have:=b l
 cases (goI w l).1 with
 |true=>rfl
 |false =>
  simp only[Bool.not_false,if_true,cond_false]
  rw[F0 (by simp;omega),oB]
def D0g(v x:Int)(e:M0):List Int :=
 if 0<x/\e.2.1=x/\e.1=v then [e.2.2]else if x<0/\e.2.1 = -x/\e.2.2=v then [e.1]else []
def J9(v x:Int):List M0->List Int
 | []=>[]
 |e::es=>D0g v x e++J9 v x es
theorem r0o(v x:Int)(e:M0):(D0g v x e).length<=1:=by unfold D0g;split<;>(try split)<;>simp
theorem l0e(v x:Int):∀ es,(J9 v x es).length<=es.length
 | []=>by simp[J9]
 |e::es=>by
  have a:=r0o v x e
  have b:=l0e v x es
  simp only[J9,List.length_append,List.length_cons]
  omega
def O3(x:Int):Prop:=I0 x/\x ≠ -9223372036854775808
theorem v0a(es:List M0)(v x:Int)(f:O3 x)(t:es.length<=1099511627776):∀(d k fuel:Nat) (acc:List Int),k+d=es.length->d<fuel->acc.length<=k ->
  S4 es x v fuel (k:Int) acc=some (acc++J9 v x (es.drop k))
 |d,k,0,acc,p,hf,o=>by omega
 |0,k,fuel+1,acc,p,hf,o=>by
  rw[S4.eq_2,if_neg (by simp;omega),N1 (by omega)]
  simp[J9]
 |d+1,k,fuel+1,acc,p,hf,o=>by
  have q:k<es.length:=by omega
  have m:=V5 q
  generalize es[k]=e at m
  obtain⟨a,l,b⟩:=e
  have n:=λs h=>v0a es v x f t d (k+1) fuel s (by omega) (by omega) h
  have u:decide (x = -9223372036854775808)=false:=by simp;exact f.2
  rw[S4.eq_2,if_pos (by simp;omega),T2 m,oB,L1 m]
  simp only[J9,D0g,B0g f.1 f.2,u,Bool.not_false,G2 q (show es.length<=9223372036854775807 by omega)]
  by_cases c:0<x/\l=x/\a=v
  ·obtain⟨c,rfl,rfl⟩:=c
   rw[if_pos (by simp[c]),if_pos ⟨c,rfl,rfl⟩,F0 (by simp;omega),oB,n _ (by simp;omega)]
   simp
  ·rw[if_neg c,if_neg (by simp only[Bool.cond_eq_ite];simp;intro g i j;exact c ⟨g,i,j⟩)]
   by_cases c2:x<0/\l = -x/\b=v
   ·rw[if_pos c2,if_pos (by simp[c2.1,c2.2.1,c2.2.2]),F0 (by simp;omega),oB,n _ (by simp;omega)]
    simp
   ·rw[if_neg c2,if_neg (by simp only[Bool.cond_eq_ite];simp;intro g i j;exact c2 ⟨g,i,j⟩),n _ (by omega)]
    simp
theorem Z05(w:Int):∀ l:List Int,(H01 t9 w l).length<=l.length+1
 | []=>by simp[H01]
 |y::l=>by
  have:=Z05 w l
  unfold H01
  split
  ·simp
  ·split
   ·simp
   ·simp only[List.length_cons];omega
theorem w0a(es:List M0)(v x:Int)(m:O3 x)(s:es.length<=1099511627776):∀(d k fuel:Nat) (u:List Int),k+d=es.length->d<fuel->u.length<=k ->
  E4 es x v fuel u (k:Int)=some (F6 t9 u (J9 v x (es.drop k)))
 |d,k,0,u,p,hf,o=>by omega
 |0,k,fuel+1,u,p,hf,o=>by
  rw[E4.eq_2,if_neg (by simp;omega),N1 (by omega)]
  rfl
 |d+1,k,fuel+1,u,p,hf,o=>by
  have q:k<es.length:=by omega
  have j:=V5 q
  generalize es[k]=e at j
  obtain⟨a,l,b⟩:=e
  have n:=λw h=>w0a es v x m s d (k+1) fuel w (by omega) (by omega) h
  rw[E4.eq_2,if_pos (by simp;omega),T2 j,oB,L1 j]
  simp only[J9,D0g,B0g m.1 m.2,G2 q (show es.length<=9223372036854775807 by omega)]
  by_cases c:0<x/\l=x/\a=v
  ·obtain⟨c,rfl,rfl⟩:=c
   have t:decide (l<0)=false:=by simp;omega
   have:=Z05 b u
   rw[if_pos (by simp[c]),if_pos ⟨c,rfl,rfl⟩,u0a u b (by omega),oB,t,if_neg (by simp),n _ (by omega)]
   rfl
  ·rw[if_neg c,if_neg (by simp only[Bool.cond_eq_ite];simp;intro f g i;exact c ⟨f,g,i⟩)]
   by_cases c2:x<0/\l = -x/\b=v
   ·have:=Z05 a u
    rw[if_pos c2,if_pos (by simp[c2.1,c2.2.1,c2.2.2]),u0a u a (by omega),oB,n _ (by omega)]
    rfl
   ·rw[if_neg c2,if_neg (by simp only[Bool.cond_eq_ite];simp;intro f g i;exact c2 ⟨f,g,i⟩),n _ (by omega)]
    rfl
def t02(g:j0)(v x:Int):List Int:=F6 t9 [] (J9 v x g.2.2)
theorem a0s(x y:Int):eqI x y=true↔x=y:=by simp[eqI]
theorem O0j(g:j0)(v x:Int)(b:O3 x)(a:g.2.2.length<=1099511627776):R00 g v x=some (t02 g v x):=by
 obtain⟨r,n,es⟩:=g
 unfold R00 t02
 have h:=w0a es v x b a es.length 0 U0 [] (by omega) (N0j (by simp only at a;omega)) (by simp)
 rw[show((0:Nat):Int)=0 from rfl,List.drop_zero]at h
 simp only[h,oB]
theorem P0j(g:j0)(v x:Int)(b:O3 x)(a:g.2.2.length<=1099511627776):S00 g v x=some (t02 g v x):=by
 obtain⟨r,n,es⟩:=g
 unfold S00 t02
 have h:=v0a es v x b a es.length 0 U0 [] (by omega) (N0j (by simp only at a;omega)) (by simp)
 rw[show((0:Nat):Int)=0 from rfl,List.drop_zero,List.nil_append]at h
 have c:=l0e v x es
 simp only at a
 simp only[h,oB,F0 (show(J9 v x es).length<4611686018427387904 by omega)]
 rw[←L0j o02 a0s (J9 v x es) (J9 v x es) λ_=>Iff.rfl]
 rfl
def D0(g:j0)(v x:Int):Int:=match t02 g v x with
 | [] => -1
 |a::_=>a
theorem N8(g:j0)(v x:Int)(c:O3 x)(b:g.2.2.length<=1099511627776):P2 g v x=some (D0 g v x):=by
 have h:=O0j g v x c b
 obtain⟨r,n,es⟩:=g
 unfold P2 D0
 simp only[h,oB]
 cases t02 (r,n,es) v x with
 |nil=>rfl
 |cons a l=>rfl
theorem g00(g:j0)(v x:Int)(c:O3 x)(b:g.2.2.length<=1099511627776):N3 g v x=some (D0 g v x):=by
 have h:=P0j g v x c b
 obtain⟨r,n,es⟩:=g
 unfold N3 D0
 simp only[h,oB]
 cases t02 (r,n,es) v x with
 |nil=>rfl
 |cons a l=>rfl
theorem E0g{g:j0}{v x y:Int}(h:y∈t02 g v x):y∈J9 v x g.2.2:=by
 rcases(z9 o02 y _ []).1 h with h|h
 ·cases h
 ·exact h
theorem U2{v x y:Int}:∀ {es:List M0},y∈J9 v x es↔∃ e∈es,(0<x/\e.2.1=x/\e.1=v/\y=e.2.2)∨(x<0/\e.2.1 = -x/\e.2.2=v/\y=e.1)
 | []=>by simp[J9]
 |e::es=>by
  simp only[J9,List.mem_append,U2 (es:=es),List.mem_cons,exists_eq_or_imp]
  refine or_congr ?_ Iff.rfl
  unfold D0g
  split
  ·rename_i h
   simp only[List.mem_singleton]
   constructor
   ·rintro rfl;exact .inl ⟨h.1,h.2.1,h.2.2,rfl⟩
   ·rintro(⟨_,_,_,a⟩|⟨f,_⟩)
    ·exact a
    ·omega
  ·rename_i h
   split
   ·rename_i b
    simp only[List.mem_singleton]
    constructor
    ·rintro rfl;exact .inr ⟨b.1,b.2.1,b.2.2,rfl⟩
    ·rintro(⟨f,_⟩|⟨_,_,_,a⟩)
     ·omega
     ·exact a
   ·rename_i b
    constructor
    ·intro h;cases h
    ·rintro(⟨c,a,d,_⟩|⟨c,a,d,_⟩)
     ·exact absurd ⟨c,a,d⟩ h
     ·exact absurd ⟨c,a,d⟩ b
def inG(g:j0):Prop:=∀ e∈g.2.2,(0<=e.1/\e.1<g.2.1)/\(0<=e.2.2/\e.2.2<g.2.1)/\1<=e.2.1/\e.2.1<=g.1
theorem Z0{g:j0}(h:E1 g=true):inG g/\(1<=g.1/\g.1<=3)/\(1<=g.2.1/\g.2.1<=40)/\g.2.2.length<=120:=by
 obtain⟨r,n,es⟩:=g
 simp only[E1,inR,Bool.and_eq_true,decide_eq_true_eq]at h
 obtain⟨⟨⟨m,o⟩,p⟩,q⟩:=h
 refine⟨λe s=>?_,o,p,q⟩
 obtain⟨i,b⟩:=List.getElem?_of_mem s
 have a:=F0l m i (Nat.zero_le _) (by have:=(List.getElem?_eq_some_iff.1 b).1;simp only at this;omega)
 rw[t0a b]at a
 simp only[Bool.or_eq_false_iff,Bool.not_eq_false',B05,inR,Bool.and_eq_true,decide_eq_true_eq]at a
 obtain⟨⟨⟨⟨c,d⟩,f,j⟩,k,l⟩,_⟩:=a
 rw[w64 (by omega) (by omega)]at d j
 simp only
 exact⟨⟨c,by omega⟩,⟨f,by omega⟩,k,l⟩
theorem l8{g:j0}(d:inG g)(v x:Int):D0 g v x = -1∨(0<=D0 g v x/\D0 g v x<g.2.1):=by
 unfold D0
 cases hs:t02 g v x with
 |nil=>exact .inl rfl
 |cons a l =>
  right
  have b:a∈t02 g v x:=by rw[hs];exact mS
  obtain⟨e,c,h⟩:=U2.1 (E0g b)
  have:=d e c
  rcases h with⟨_,_,_,rfl⟩|⟨_,_,_,rfl⟩
  ·exact this.2.1
  ·exact this.1
theorem Z7{g:j0}(a:inG g)(b:g.2.1<=40)(v x:Int):I0 (D0 g v x):=by
 rcases l8 a v x with h|h
 ·rw[h];decide
 ·constructor<;>omega
def N03(a b:M0):Bool:=decide (a.2.1=b.2.1)&&(decide (a.1=b.1) || decide (a.2.2=b.2.2))
theorem J0b(a b:M0):N03 a b=N03 b a:=by
 unfold N03
 have h:∀ x y:Int,decide (x=y)=decide (y=x):=λx y=>decide_eq_decide.2 ⟨Eq.symm,Eq.symm⟩
 rw[h a.2.1,h a.1,h a.2.2]
def noC(a:M0):List M0->Bool
 | []=>true
 |b::l => !N03 a b&&noC a l
def Y08:List M0->Bool
 | []=>true
 |a::l=>noC a l&&Y08 l
theorem e0i(a:M0):∀ l,noC a l=true↔∀ b∈l,N03 a b=false
 | []=>by simp[noC]
 |b::l=>by simp[noC,e0i a l]
theorem q08:∀ l,Y08 l=true↔l.Pairwise λa b=>N03 a b=false
 | []=>by simp[Y08]
 |a::l=>by simp[Y08,q08 l,e0i,List.pairwise_cons]
def m0e:List M0->List M0->Bool
 |_,[]=>true
 |b,a::l=>noC a b&&m0e (b ++ [a]) l
theorem F0g:∀(l f:List M0),m0e f l=true↔l.Pairwise (λa b=>N03 a b=false)/\∀ a∈l,∀ b∈f,N03 a b=false
 | [],f=>by simp[m0e]
 |a::l,f=>by
  simp only[m0e,Bool.and_eq_true,e0i,F0g l,List.pairwise_cons]
  constructor
  ·rintro⟨g,h,e⟩
   refine⟨⟨λb c=>by rw[J0b];exact e b c a (by simp),h⟩,λx d b c=>?_⟩
   rcases List.mem_cons.1 d with rfl|d
   ·exact g b c
   ·exact e x d b (by simp[c])
  ·rintro⟨⟨g,h⟩,e⟩
   refine⟨λb c=>e a mS b c,h,λx d b c=>?_⟩
   rcases List.mem_append.1 c with c|c
   ·exact e x (mC _ d) b c
   ·rw[List.mem_singleton.1 c,J0b];exact g x d
theorem s0o(l:List M0):m0e [] l=Y08 l:=by
 rw[Bool.eq_iff_iff,F0g,q08]
 simp
def C0(g:j0):Bool:=E1 g&&Y08 g.2.2
theorem G0s(a b e c d f:Int):(bif decide (b=d)then(bif decide (a=c)then true else decide (e=f))else false)=N03 (a,b,e) (c,d,f):=by
 unfold N03
 cases decide (b=d)<;>cases decide (a=c)<;>rfl
theorem x0a(l:List M0)(a:M0)(n:l.length<=140737488355328):∀(d k fuel:Nat),k+d=l.length->d<fuel ->
  Y6 l a.2.1 a.1 a.2.2 fuel (k:Int)=some (bif noC a (l.drop k)then .inr ()else .inl false)
 |d,k,0,g,hf=>by omega
 |0,k,fuel+1,g,hf=>by
  rw[Y6.eq_2,if_neg (by simp;omega),N1 (by omega)]
  rfl
 |d+1,k,fuel+1,g,hf=>by
  have h:k<l.length:=by omega
  have b:=V5 h
  generalize l[k]=x at b
  obtain⟨c,e,f⟩:=a
  obtain⟨i,j,m⟩:=x
  rw[Y6.eq_2,if_pos (by simp;omega),T2 b,oB,L1 b]
  simp only[G0s,noC]
  cases hc:N03 (c,e,f) (i,j,m)with
  |true=>rfl
  |false =>
   rw[if_neg (by simp),G2 h (by omega),x0a l (c,e,f) n d (k+1) fuel (by omega) (by omega)]
   simp
theorem P04{a:Type}{xs:List a}{k:Nat}(h:k<=xs.length):D06 xs (k:Int) (xs.length:Int)=some (xs.drop k):=by
 unfold D06
 rw[if_pos ⟨by omega,by omega,by omega⟩]
 simp
theorem y0a(l:List M0)(h:l.length<=140737488355328):∀(d k fuel:Nat),k+d=l.length->d<fuel ->
  Z6 l fuel (k:Int)=some (bif Y08 (l.drop k)then .inr ()else .inl false)
 |d,k,0,b,hf=>by omega
 |0,k,fuel+1,b,hf=>by
  rw[Z6.eq_2,if_neg (by simp;omega),N1 (by omega)]
  rfl
 |d+1,k,fuel+1,b,hf=>by
  have c:k<l.length:=by omega
  have a:=V5 c
  generalize l[k]=x at a
  have h0:=x0a (l.drop (k+1)) x (by simp;omega) (l.drop (k+1)).length 0 U0 (by omega) (C1 (by simp;omega))
  rw[show((0:Nat):Int)=0 from rfl,List.drop_zero]at h0
  obtain⟨e,f,g⟩:=x
  rw[Z6.eq_2,if_pos (by simp;omega),T2 a,oB,L1 a]
  simp only[G2 c (show l.length<=9223372036854775807 by omega),P04 (show k+1<=l.length by omega),oB]
  simp only at h0
  rw[h0,oB]
  simp only[Y08]
  cases noC (e,f,g) (l.drop (k+1))with
  |false=>rfl
  |true =>
   simp only[cond_true,V0f,Bool.true_and]
   exact y0a l h d (k+1) fuel (by omega) (by omega)
theorem n8(g:j0)(a:g.2.2.length<=140737488355328):P5 g=some (C0 g):=by
 have b:=q02 g a
 obtain⟨r,n,es⟩:=g
 unfold P5 C0
 simp only[b,oB]
 cases E1 (r,n,es)with
 |false=>rfl
 |true =>
  have h:=y0a es a es.length 0 U0 (by omega) (C1 a)
  rw[show((0:Nat):Int)=0 from rfl,List.drop_zero]at h
  rw[if_neg (by simp),h,oB]
  cases Y08 es<;>rfl
theorem z0a(l:List M0)(q:l.length<=140737488355328){i:Nat}{a:M0}(b:l[i]?=some a):∀(d k fuel:Nat),k+d=i->d<fuel ->
  V6 (i:Int) l fuel (k:Int)=some (bif noC a ((l.take i).drop k)then .inr ()else .inl false)
 |d,k,0,e,hf=>by omega
 |0,k,fuel+1,e,hf=>by
  have:=(List.getElem?_eq_some_iff.1 b).1
  rw[V6.eq_2,if_neg (by simp;omega),N1 (by simp;omega)]
  rfl
 |d+1,k,fuel+1,e,hf=>by
  have t:=(List.getElem?_eq_some_iff.1 b).1
  have f:k<l.length:=by omega
  have c:=V5 f
  have g:(l.take i)[k]?=some l[k]:=by rw[List.getElem?_take,if_pos (by omega)];exact c
  have s:=z0a l q b d (k+1) fuel (by omega) (by omega)
  generalize l[k]=x at c g
  obtain⟨h,j,m⟩:=a
  obtain⟨n,o,p⟩:=x
  rw[V6.eq_2,if_pos (by simp;omega),T2 b,oB,L1 g]
  simp only[T2 c,oB,G0s,noC]
  cases hc:N03 (h,j,m) (n,o,p)with
  |true=>rfl
  |false =>
   rw[if_neg (by simp),G2 f (by omega),s]
   simp
theorem H0s{a:Type}{xs:List a}{k:Nat}{x:a}(h:xs[k]?=some x):xs.take (k+1)=xs.take k ++ [x]:=by
 obtain⟨b,rfl⟩:=List.getElem?_eq_some_iff.1 h
 exact List.take_succ_eq_append_getElem b
theorem A0a(r n:Int)(l:List M0)(f:E1 (r,n,l)=true)(b:l.length<=140737488355328):∀(d k fuel:Nat),k+d=l.length->d<fuel ->
  A5 l r n fuel (k:Int)=some (bif m0e (l.take k) (l.drop k)then .inr ()else .inl false)
 |d,k,0,c,hf=>by omega
 |0,k,fuel+1,c,hf=>by
  have e:decide ((k:Int)<(l.length:Int))=false:=by simp;omega
  rw[A5.eq_2,e,o5,oB,if_neg (by simp),N1 (by omega)]
  rfl
 |d+1,k,fuel+1,c,hf=>by
  have g:k<l.length:=by omega
  have a:=V5 g
  generalize l[k]=x at a
  have h0:=z0a l b a k 0 U0 (by omega) (C1 (by omega))
  rw[show((0:Nat):Int)=0 from rfl,List.drop_zero]at h0
  have e:decide ((k:Int)<(l.length:Int))=true:=by simp;omega
  rw[A5.eq_2,e,Q2,P9 (r,n,l) b,oB,f,if_pos (show(bif true then true else false)=true from rfl),h0,oB,L1 a]
  simp only[m0e]
  cases noC x (l.take k)with
  |false=>rfl
  |true =>
   simp only[cond_true,V0f,Bool.true_and]
   rw[G2 g (by omega),←H0s a]
   exact A0a r n l f b d (k+1) fuel (by omega) (by omega)
theorem i9(g:j0)(a:g.2.2.length<=140737488355328):E6 g=some (C0 g):=by
 have b:=P9 g a
 obtain⟨r,n,es⟩:=g
 unfold E6 C0
 simp only[b,oB]
 cases hg:E1 (r,n,es)with
 |false =>
  have c:A5 es r n U0 0=some (.inr ()):=by
   rw[show U0=(U0-1)+1 from rfl,A5.eq_2]
   by_cases e:decide ((0:Int)<(es.length:Int))=true
   ·rw[e,Q2,b,oB,hg,if_neg (by simp)]
   ·rw[Bool.not_eq_true]at e
    rw[e,o5,oB,if_neg (by simp)]
  rw[c]
  rfl
 |true =>
  have h:=A0a r n es hg a es.length 0 U0 (by omega) (C1 a)
  rw[show((0:Nat):Int)=0 from rfl,List.drop_zero,List.take_zero,s0o]at h
  rw[h,oB]
  cases Y08 es<;>rfl
def G9(g:j0):Int->List Int->Int×Nat
 |v,[]=>(v,0)
 |v,x::w=>if D0 g v x<0 then(v,0)else((G9 g (D0 g v x) w).1,(G9 g (D0 g v x) w).2+1)
theorem n0e(g:j0):∀(w:List Int) (v:Int),(G9 g v w).2<=w.length
 | [],v=>by simp[G9]
 |x::w,v=>by
  have:=n0e g w (D0 g v x)
  unfold G9
  split
  ·simp
  ·simp only[List.length_cons];omega
theorem Q0j{g:j0}(a:inG g)(b:g.2.1<=40):∀(w:List Int) (v:Int),I0 v->I0 (G9 g v w).1
 | [],v,h=>h
 |x::w,v,h=>by
  unfold G9
  split
  ·exact h
  ·exact Q0j a b w _ (Z7 a b v x)
def b0s(q:Int×Nat)(n:Nat)(k:Nat):(Int×Int) ⊕ Int:=bif decide (q.2<n)then .inl (q.1,((k+q.2:Nat):Int))else .inr q.1
theorem E0c(r n:Int)(es:List M0)(f:inG (r,n,es))(g:n<=40)(e:es.length<=1099511627776)(w:List Int)(i:∀ x∈w,O3 x)(l:w.length<=140737488355328):∀(d k fuel:Nat) (v:Int),k+d=w.length->d<fuel ->
  R5 w r n es fuel v (k:Int)=some (b0s (G9 (r,n,es) v (w.drop k)) d k)
 |d,k,0,v,c,hf=>by omega
 |0,k,fuel+1,v,c,hf=>by
  rw[R5.eq_2,if_neg (by simp;omega),N1 (by omega)]
  rfl
 |d+1,k,fuel+1,v,c,hf=>by
  have a:k<w.length:=by omega
  have b:=V5 a
  have j:=i _ (List.getElem_mem a)
  generalize w[k]=x at b j
  rw[R5.eq_2,if_pos (by simp;omega),T2 b,oB,g00 (r,n,es) v x j e,oB,F0 (Z7 f g v x),oB,L1 b]
  unfold G9
  by_cases h:D0 (r,n,es) v x<0
  ·rw[if_pos (by simpa using h),if_pos h]
   simp[b0s]
  ·rw[if_neg (by simpa using h),if_neg h,G2 a (by omega),E0c r n es f g e w i l d (k+1) fuel _ (by omega) (by omega)]
   unfold b0s
   simp only[Nat.add_lt_add_iff_right]
   congr 2
   simp only[Nat.add_assoc,Nat.add_comm 1]
theorem O0p(g:j0)(c:inG g)(d:g.2.1<=40)(b:g.2.2.length<=1099511627776)(v:Int)(w:List Int)(e:∀ x∈w,O3 x)(a:w.length<=140737488355328):w9 g v w=some ((G9 g v w).1,(((G9 g v w).2:Nat):Int)):=by
 obtain⟨r,n,es⟩:=g
 unfold w9
 have h:=E0c r n es c d b w e a w.length 0 U0 v (by omega) (C1 a)
 rw[show((0:Nat):Int)=0 from rfl,List.drop_zero]at h
 have f:=n0e (r,n,es) w v
 simp only[h,oB,b0s]
 by_cases hc:(G9 (r,n,es) v w).2<w.length
 ·simp[hc,I9]
 ·have:(G9 (r,n,es) v w).2=w.length:=by omega
  simp[this,I9]
theorem F0c(r n:Int)(es:List M0)(f:inG (r,n,es))(g:n<=40)(e:es.length<=1099511627776)(w:List Int)(i:∀ x∈w,O3 x)(l:w.length<=140737488355328):∀(d k fuel:Nat) (v:Int),k+d=w.length->d<fuel ->
  W6 w r n es fuel v (k:Int)=some (bif decide ((G9 (r,n,es) v (w.drop k)).2<d)then .inl (-1,false)else .inr (G9 (r,n,es) v (w.drop k)).1)
 |d,k,0,v,c,hf=>by omega
 |0,k,fuel+1,v,c,hf=>by
  rw[W6.eq_2,if_neg (by simp;omega),N1 (by omega)]
  rfl
 |d+1,k,fuel+1,v,c,hf=>by
  have a:k<w.length:=by omega
  have b:=V5 a
  have j:=i _ (List.getElem_mem a)
  generalize w[k]=x at b j
  rw[W6.eq_2,if_pos (by simp;omega),T2 b,oB,N8 (r,n,es) v x j e,oB,F0 (Z7 f g v x),oB,L1 b]
  unfold G9
  by_cases h:D0 (r,n,es) v x<0
  ·rw[if_pos (by simpa using h),if_pos h]
   simp
  ·rw[if_neg (by simpa using h),if_neg h,G2 a (by omega),F0c r n es f g e w i l d (k+1) fuel _ (by omega) (by omega)]
   simp only[Nat.add_lt_add_iff_right]
theorem P0p(g:j0)(hf:C0 g=true)(v:Int)(j:0<=v/\v<g.2.1)(w:List Int)(k:∀ x∈w,O3 x)(a:w.length<=140737488355328):
  k01 g v w=some (bif decide ((G9 g v w).2<w.length)then(-1,false)else((G9 g v w).1,true)):=by
 have f:E1 g=true:=by unfold C0 at hf;simp only[Bool.and_eq_true]at hf;exact hf.1
 obtain⟨e,_,b,d⟩:=Z0 f
 have c:=i9 g (by omega)
 obtain⟨r,n,es⟩:=g
 simp only at j b d
 unfold k01
 have h:=F0c r n es e b.2 (by omega) w k a w.length 0 U0 v (by omega) (C1 a)
 rw[show((0:Nat):Int)=0 from rfl,List.drop_zero]at h
 have i:inR 0 (n-1) v=true:=by simp only[inR,Bool.and_eq_true,decide_eq_true_eq];omega
 simp only[c,hf,oB,Bool.not_true,Bool.not_false,Q2,N04,w64 (show -9223372036854775808<=n-1 by omega) (show n-1<=9223372036854775807 by omega),i,cond_false,Bool.false_eq_true,if_false,h]
 cases decide ((G9 (r,n,es) v w).2<w.length)<;>rfl
theorem Q0{g:j0}(h:C0 g=true):inG g/\(1<=g.1/\g.1<=3)/\(1<=g.2.1/\g.2.1<=40)/\g.2.2.length<=120:=by
 unfold C0 at h
 simp only[Bool.and_eq_true]at h
 exact Z0 h.1
def T02(v:Int)(e:M0):Nat:=(if e.1=v then 1 else 0)+(if e.2.2=v then 1 else 0)
def O8(v:Int):List M0->Nat
 | []=>0
 |e::r=>T02 v e+O8 v r
theorem c0s(v:Int)(e:M0):T02 v e<=2:=by unfold T02;split<;>split<;>omega
theorem f0i(v:Int):∀ l,O8 v l<=2*l.length
 | []=>by simp[O8]
 |e::r=>by have:=c0s v e;have:=f0i v r;simp only[O8,List.length_cons];omega
theorem o0e(es:List M0)(v:Int)(o:es.length<=1099511627776):∀(d k fuel acc:Nat),k+d=es.length->d<fuel->acc<=2*k ->
  U3 es v fuel (acc:Int) (k:Int)=some ((acc+O8 v (es.drop k):Nat):Int)
 |d,k,0,acc,j,hf,i=>by omega
 |0,k,fuel+1,acc,j,hf,i=>by
  rw[U3.eq_2,if_neg (by simp;omega),N1 (by omega)];rfl
 |d+1,k,fuel+1,acc,j,hf,i=>by
  have m:k<es.length:=by omega
  have f:=V5 m
  generalize es[k]=e at f
  obtain⟨a,l,b⟩:=e
  have c:=λn h=>o0e es v o d (k+1) fuel n (by omega) (by omega) h
  have g:IntKind.i64.wrap ((acc:Int)+1)=((acc+1:Nat):Int):=by rw[w64 (by omega) (by omega)];rfl
  have p:IntKind.i64.wrap (((acc+1:Nat):Int)+1)=((acc+2:Nat):Int):=by rw[w64 (by omega) (by omega)];rfl
  rw[U3.eq_2,if_pos (by simp;omega),T2 f,L1 f]
  simp only[oB,O8,T02,G2 m (show es.length<=9223372036854775807 by omega)]
  by_cases c1:a=v
  ·rw[if_pos (by simpa using c1),if_pos c1]
   by_cases c2:b=v
   ·rw[if_pos (by simpa using c2),if_pos c2,g,p,c _ (by omega)];congr 2;omega
   ·rw[if_neg (by simpa using c2),if_neg c2,g,c _ (by omega)];congr 2;omega
  ·rw[if_neg (by simpa using c1),if_neg c1]
   by_cases c2:b=v
   ·rw[if_pos (by simpa using c2),if_pos c2,g,c _ (by omega)];congr 2;omega
   ·rw[if_neg (by simpa using c2),if_neg c2,c _ (by omega)];congr 2;omega
theorem p0e(es:List M0)(v:Int):∀(fuel:Nat) (x y:Int),C5 es v fuel x y=U3 es v fuel x y
 |0,x,y=>rfl
 |fuel+1,x,y=>by
  rw[C5.eq_2,U3.eq_2]
  simp only[p0e es v fuel]
  by_cases c:(decide (y<((es.length:Nat):Int)))=true
  ·rw[if_pos c,if_pos c]
   cases hg:gi es y with
   |none=>rfl
   |some e=>simp only[oB]
  ·rw[if_neg c,if_neg c]
theorem K0b(g:j0)(v:Int)(a:g.2.2.length<=1099511627776):A9 g v=some ((O8 v g.2.2:Nat):Int):=by
 obtain⟨r,n,es⟩:=g
 unfold A9
 have h:=o0e es v a es.length 0 U0 0 (by omega) (C1 (by simp only at a;omega)) (Nat.zero_le _)
 rw[show((0:Nat):Int)=0 from rfl,List.drop_zero,Nat.zero_add]at h
 simp only[h,oB]
theorem G0g(g:j0)(v:Int)(a:g.2.2.length<=1099511627776):t00 g v=some ((O8 v g.2.2:Nat):Int):=by
 have h:=K0b g v a
 obtain⟨r,n,es⟩:=g
 unfold t00
 unfold A9 at h
 simp only[p0e]at h ⊢
 exact h
def q0e(g h:j0):Bool:=decide (g=h)
theorem h0d(x y:M0):eqE x y=true↔x=y:=by simp[eqE]
theorem G0c(a b:List M0)(l:a.length=b.length)(j:a.length<=9223372036854775807):∀(d k fuel:Nat),k+d=a.length->d<fuel ->
  I1 a b fuel (k:Int)=some (if a.drop k=b.drop k then .inr ()else .inl false)
 |d,k,0,g,hf=>by omega
 |0,k,fuel+1,g,hf=>by
  rw[I1.eq_2,if_neg (by simp;omega),N1 (by omega),N1 (by omega)];rfl
 |d+1,k,fuel+1,g,hf=>by
  have i:k<a.length:=by omega
  have m:k<b.length:=by omega
  have e:=V5 i
  have f:=V5 m
  generalize a[k]=x at e
  generalize b[k]=y at f
  have o:=G0c a b l j d (k+1) fuel (by omega) (by omega)
  rw[I1.eq_2,if_pos (by simp;omega),T2 e,T2 f,L1 e,L1 f]
  simp only[oB,G2 i j,o]
  by_cases c:x=y
  ·subst c
   rw[if_neg (by simp[eqE])]
   simp
  ·have n:eqE x y=false:=Bool.eq_false_iff.2 λh=>c ((h0d x y).1 h)
   rw[if_pos (show(!eqE x y)=true by rw[n];rfl),if_neg (by simp[c])]
theorem r0e(a b:List M0)(d:a.length<=9223372036854775807):B3 a b=some (decide (a=b)):=by
 unfold B3
 by_cases hab:a.length=b.length
 ·have h:=G0c a b hab d a.length 0 U0 (by omega) (by unfold U0;omega)
  rw[if_neg (by simp;omega),show(0:Int)=((0:Nat):Int) from rfl,h,List.drop_zero,List.drop_zero]
  by_cases c:a=b
  ·rw[if_pos c];simp[I9,c]
  ·rw[if_neg c];simp[I9,c]
 ·rw[if_pos (by simp;omega)]
  congr 1
  symm
  simp
  intro h;exact hab (by rw[h])
theorem t0o(g h:j0)(b:g.2.2.length<=9223372036854775807):f00 g h=some (q0e g h):=by
 obtain⟨r,n,es⟩:=g
 obtain⟨d,c,a⟩:=h
 unfold f00 q0e
 simp only[Prod.mk.injEq]
 by_cases c1:r=d<;>by_cases c2:n=c<;>simp[c1,c2,Q2,o5,r0e es a b]
theorem H0g(a b:List M0):∀(fuel:Nat) (k:Int),c6 a b fuel k=I1 a b fuel k
 |0,k=>rfl
 |fuel+1,k=>by
  rw[c6.eq_2,I1.eq_2]
  simp only[H0g a b fuel]
theorem u0o(g h:j0)(b:g.2.2.length<=9223372036854775807):d00 g h=some (q0e g h):=by
 have a:=r0e g.2.2 h.2.2 b
 obtain⟨r,n,es⟩:=g
 obtain⟨d,c,e⟩:=h
 unfold d00 q0e
 unfold B3 at a
 simp only[H0g,Prod.mk.injEq]at a ⊢
 by_cases c1:r=d
 ·by_cases c2:n=c
  ·simp only[c1,c2,decide_true,Bool.not_true,cond_false,true_and]
   rw[←a]
  ·simp[c1,c2]
 ·simp[c1]
def goE(x:M0):List M0->Bool×List M0
 | []=>(false,[])
 |y::l=>if D1 x y<0 then(true,x::y::l)else if D1 x y=0 then(true,y::l)else((goE x l).1,y::(goE x l).2)
theorem M0m(x:M0):∀ l,H01 D1 x l=bif(goE x l).1 then(goE x l).2 else(goE x l).2 ++ [x]
 | []=>rfl
 |y::l=>by
  have a:=M0m x l
  unfold H01 goE
  by_cases c1:D1 x y<0
  ·rw[if_pos c1,if_pos c1];rfl
  ·rw[if_neg c1,if_neg c1]
   by_cases c2:D1 x y=0
   ·rw[if_pos c2,if_pos c2];rfl
   ·rw[if_neg c2,if_neg c2,a];cases (goE x l).1<;>rfl
theorem L0b(l:List M0)(w0 i j:Int)(n:l.length<=1099511627776):∀(d k fuel:Nat) (acc:List M0),k+d=l.length->d<fuel->acc.length<=k+1 ->
  N4 l w0 i j fuel true (k:Int) acc=some (true,acc++l.drop k)
 |d,k,0,acc,g,hf,f=>by omega
 |0,k,fuel+1,acc,g,hf,f=>by
  rw[N4.eq_2,if_neg (by simp;omega),N1 (by omega),List.append_nil]
 |d+1,k,fuel+1,acc,g,hf,f=>by
  have h:k<l.length:=by omega
  have c:=V5 h
  generalize l[k]=e at c
  obtain⟨a,x,b⟩:=e
  have o:=L0b l w0 i j n d (k+1) fuel (acc ++ [(a,x,b)]) (by omega) (by omega) (by simp;omega)
  rw[N4.eq_2,if_pos (by simp;omega),L1 c]
  simp only[T2 c,oB,y02,F0 (g0d _ _),G2 h (show l.length<=9223372036854775807 by omega),Bool.not_true]
  have m:∀ b:Bool,(bif b then false else false)=false:=λb=>by cases b<;>rfl
  simp only[m,Bool.false_eq_true,if_false]
  rw[F0 (by simp;omega),oB,o]
  simp
theorem s0e(l:List M0)(w0 c f:Int)(h:l.length<=1099511627776):∀(d k fuel:Nat) (acc:List M0),k+d=l.length->d<fuel->acc.length=k ->
  N4 l w0 c f fuel false (k:Int) acc=some ((goE (w0,c,f) (l.drop k)).1,acc++(goE (w0,c,f) (l.drop k)).2)
 |d,k,0,acc,j,hf,i=>by omega
 |0,k,fuel+1,acc,j,hf,i=>by
  rw[N4.eq_2,if_neg (by simp;omega),N1 (by omega)];simp[goE]
 |d+1,k,fuel+1,acc,j,hf,i=>by
  have m:k<l.length:=by omega
  have g:=V5 m
  generalize l[k]=e at g
  obtain⟨a,x,b⟩:=e
  have n:=s0e l w0 c f h d (k+1) fuel (acc ++ [(a,x,b)]) (by omega) (by omega) (by simp;omega)
  have o:=L0b l w0 c f h d (k+1) fuel (acc ++ [(a,x,b)]) (by omega) (by omega) (by simp;omega)
  have p:=L0b l w0 c f h d (k+1) fuel ((acc ++ [(w0,c,f)]) ++ [(a,x,b)]) (by omega) (by omega) (by simp;omega)
  rw[N4.eq_2,if_pos (by simp;omega),L1 g]
  simp only[T2 g,oB,y02,F0 (g0d _ _),G2 m (show l.length<=9223372036854775807 by omega),Bool.not_true,Bool.not_false,goE]
  show _=_
  unfold i0e
  by_cases c1:D1 (w0,c,f) (a,x,b)=0
  ·rw[if_pos (by simpa using c1),if_neg (by simp[c1]),if_neg (by omega),if_pos c1]
   rw[F0 (by simp;omega),oB,o];simp
  ·rw[if_neg (by simpa using c1)]
   by_cases c2:D1 (w0,c,f) (a,x,b)<0
   ·rw[if_pos (by simp[c2]),if_pos c2,F0 (by simp;omega),oB,F0 (by simp;omega),oB,p];simp
   ·rw[if_neg (by simp[c2]),if_neg c2,if_neg c1,F0 (by simp;omega),oB,n];simp
theorem g0i(l:List M0)(e:M0)(c:l.length<=1099511627776):f01 l e=some (H01 D1 e l):=by
 obtain⟨w0,a,b⟩:=e
 unfold f01
 have h:=s0e l w0 a b c l.length 0 U0 [] (by omega) (C1 (by omega)) rfl
 rw[show((0:Nat):Int)=0 from rfl,List.drop_zero,List.nil_append]at h
 simp only[h,oB,M0m]
 have d:∀ l:List M0,(goE (w0,a,b) l).2.length<=l.length+1:=λl=>by
  induction l with
  |nil=>simp[goE]
  |cons y l f =>
   unfold goE
   split
   ·simp
   ·split
    ·simp
    ·simp only[List.length_cons];omega
 have:=d l
 cases (goE (w0,a,b) l).1 with
 |true=>rfl
 |false =>
  simp only[Bool.not_false,if_true,cond_false]
  rw[F0 (by simp;omega),oB]
theorem j04(e:M0):∀ l:List M0,(H01 D1 e l).length<=l.length+1
 | []=>by simp[H01]
 |y::l=>by
  have:=j04 e l
  unfold H01
  split
  ·simp
  ·split
   ·simp
   ·simp only[List.length_cons];omega
theorem B0a(es:List M0)(a:es.length<=1099511627776):M9 es=some (F6 D1 [] es):=by
 unfold M9
 rw[F0 (by simp;omega),oB,F0 (by simp;omega),oB,List.nil_append]
 exact congrArg some (L0j H8 h0d es es λ_=>Iff.rfl)
theorem q03(g:j0)(a:g.2.2.length<=1099511627776):B5 g=some g:=by
 obtain⟨r,n,es⟩:=g
 unfold B5
 simp only
 rw[F0 (by simp only[List.length_nil,Nat.zero_add];simp only at a;omega)];rfl
theorem O01(g:j0)(a:g.2.2.length<=1099511627776):j5 g=some g:=by
 obtain⟨r,n,es⟩:=g
 unfold j5
 simp only
 rw[F0 (by simp only[List.length_nil,Nat.zero_add];simp only at a;omega)];rfl
inductive Rch (es:List M0) (v:Int):Int->Prop
 |base:Rch es v v
 |fwd {e:M0}:e∈es->Rch es v e.1->Rch es v e.2.2
 |bwd {e:M0}:e∈es->Rch es v e.2.2->Rch es v e.1
theorem Rch.closed{es:List M0}{v:Int}:∀ e∈es,Rch es v e.1↔Rch es v e.2.2:=λe a=>⟨.fwd a,.bwd a⟩
theorem Rch.sub{es:List M0}{v:Int}{P:Int->Prop}(c:P v)(a:∀ e∈es,P e.1↔P e.2.2):∀ {x},Rch es v x->P x
 |_,.base=>c
 |_,.fwd b h=>(a _ b).1 (Rch.sub c a h)
 |_,.bwd b h=>(a _ b).2 (Rch.sub c a h)
def S9(S:List Bool)(i:Int):Bool:=S.getD i.toNat false
def stJ(S:List Bool)(e:M0):List Bool:=(S.set e.1.toNat true).set e.2.2.toNat true
def pJ:List M0->Bool->List Bool->Bool×List Bool
 | [],c,S=>(c,S)
 |e::r,c,S=>bif S9 S e.1 == S9 S e.2.2 then pJ r c S else pJ r true (stJ S e)
def cF:List Bool->Nat
 | []=>0
 |b::r=>(bif b then 0 else 1)+cF r
theorem G0l:∀(S:List Bool) (i:Nat),cF (S.set i true)<=cF S
 | [],i=>by simp[cF]
 |b::r,0=>by simp[cF]
 |b::r,i+1=>by have:=G0l r i;simp only[List.set_cons_succ,cF];omega
theorem Q0p:∀(S:List Bool) (i:Nat),S[i]?=some false->cF (S.set i true)<cF S
 | [],i,h=>by simp at h
 |b::r,0,h=>by simp at h;subst h;simp[cF]
 |b::r,i+1,h=>by have:=Q0p r i (by simpa using h);simp only[List.set_cons_succ,cF];omega
theorem I0s:∀ S:List Bool,cF S<=S.length
 | []=>by simp[cF]
 |b::r=>by have:=I0s r;cases b<;>simp only[cF,List.length_cons,cond_true,cond_false]<;>omega
def inN(n:Nat)(es:List M0):Prop:=∀ e∈es,(0<=e.1/\e.1<(n:Int))/\(0<=e.2.2/\e.2.2<(n:Int))
theorem L07{S:List Bool}{i:Nat}(h:i<S.length)(x:Int):S9 (S.set i true) x=(decide (x.toNat=i) || S9 S x):=by
 unfold S9
 rw[List.getD_eq_getElem?_getD,List.getD_eq_getElem?_getD,List.getElem?_set]
 by_cases c:i=x.toNat
 ·rw[if_pos c,if_pos (by omega)];simp[c]
 ·rw[if_neg c]
  have:decide (x.toNat=i)=false:=by simp;exact λe=>c e.symm
  rw[this];rfl
theorem H0l:∀(es:List M0) (c:Bool) (S:List Bool),(pJ es c S).2.length=S.length
 | [],c,S=>rfl
 |e::r,c,S=>by
  unfold pJ
  cases S9 S e.1 == S9 S e.2.2
  ·simp only[cond_false];rw[H0l r];simp[stJ]
  ·simp only[cond_true];exact H0l r c S
theorem h0i{n:Nat}:∀(es:List M0) (c:Bool) (a:List Bool),a.length=n->inN n es->∀ x,S9 a x=true->S9 (pJ es c a).2 x=true
 | [],c,a,b,d,x,h=>h
 |e::r,c,a,b,d,x,h=>by
  have f:=d e mS
  have g:inN n r:=λe f=>d e (mC _ f)
  unfold pJ
  cases S9 a e.1 == S9 a e.2.2
  ·simp only[cond_false]
   refine h0i r _ _ (by simp[stJ,b]) g x ?_
   rw[stJ,L07 (by rw[List.length_set];omega),L07 (by omega),h];simp
  ·simp only[cond_true];exact h0i r c a b g x h
theorem t0e{n:Nat}{P:Int->Prop}:∀(es:List M0) (c:Bool) (a:List Bool),a.length=n->inN n es->(∀ e∈es,P e.1↔P e.2.2)->(∀ x,0<=x->S9 a x=true->P x)->∀ x,0<=x->S9 (pJ es c a).2 x=true->P x
 | [],c,a,g,i,f,d,x,h0,h=>d x h0 h
 |e::r,c,a,g,i,f,d,x,h0,h=>by
  have b:=i e mS
  have m:inN n r:=λe b=>i e (mC _ b)
  have j:=λe b=>f e (mC _ b)
  have k:=f e mS
  unfold pJ at h
  cases hb:S9 a e.1 == S9 a e.2.2
  ·rw[hb]at h
   refine t0e r true (stJ a e) (by simp[stJ,g]) m j (λy o h=>?_) x h0 h
   rw[stJ,L07 (by rw[List.length_set];omega),L07 (by omega)]at h
   simp only[Bool.or_eq_true,decide_eq_true_eq]at h
   have l:P e.1∨P e.2.2:=by
    cases h1:S9 a e.1
    ·cases h2:S9 a e.2.2
     ·rw[h1,h2]at hb;cases hb
     ·exact .inr (d _ b.2.1 h2)
    ·exact .inl (d _ b.1.1 h1)
   rcases h with h|h|h
   ·have:y=e.2.2:=by omega
    subst this;exact l.elim k.1 id
   ·have:y=e.1:=by omega
    subst this;exact l.elim id k.2
   ·exact d y o h
  ·rw[hb]at h
   exact t0e r c a g m j d x h0 h
theorem I0l{n:Nat}:∀(es:List M0) (c:Bool) (a:List Bool),a.length=n->inN n es->cF (pJ es c a).2<=cF a/\((pJ es c a).1=true->c=true∨cF (pJ es c a).2<cF a)/\((pJ es c a).1=false->c=false/\(pJ es c a).2=a/\∀ e∈es,S9 a e.1=S9 a e.2.2)
 | [],c,a,k,l=>⟨Nat.le_refl _,λh => .inl h,λh=>⟨h,rfl,λe b=>nomatch b⟩⟩
 |e::r,c,a,k,l=>by
  have b:=l e mS
  have s:inN n r:=λe b=>l e (mC _ b)
  unfold pJ
  cases hb:S9 a e.1 == S9 a e.2.2
  ·simp only[cond_false]
   obtain⟨m,o,d⟩:=I0l r true (stJ a e) (by simp[stJ,k]) s
   have v:cF (stJ a e)<cF a:=by
    have g:∀(x:Int),0<=x->x<n->S9 a x=false->a[x.toNat]?=some false:=λx w y j=>by
     have p:x.toNat<a.length:=by omega
     unfold S9 at j
     rw[List.getD_eq_getElem?_getD,List.getElem?_eq_getElem p]at j
     rw[List.getElem?_eq_getElem p];simpa using j
    cases g1:S9 a e.1
    ·have:=Q0p a _ (g _ b.1.1 b.1.2 g1)
     have:=G0l (a.set e.1.toNat true) e.2.2.toNat
     unfold stJ;omega
    ·have f:S9 a e.2.2=false:=by
      cases f:S9 a e.2.2
      ·rfl
      ·rw[g1,f]at hb;cases hb
     have u:(a.set e.1.toNat true)[e.2.2.toNat]?=some false:=by
      rw[List.getElem?_set]
      by_cases q:e.1.toNat=e.2.2.toNat
      ·exfalso
       have:e.1=e.2.2:=by omega
       rw[this,f]at g1;cases g1
      ·rw[if_neg q];exact g _ b.2.1 b.2.2 f
     have:=Q0p _ _ u
     have:=G0l a e.1.toNat
     unfold stJ;omega
   refine⟨by omega,λ_ => .inr (by omega),λh=>?_⟩
   have:=(d h).1;cases this
  ·simp only[cond_true]
   obtain⟨m,o,d⟩:=I0l r c a k s
   refine⟨m,o,λh=>⟨(d h).1,(d h).2.1,λt i=>?_⟩⟩
   rcases List.mem_cons.1 i with rfl|i
   ·simpa using hb
   ·exact(d h).2.2 t i
theorem giB{a:List Bool}{n:Nat}(f:a.length=n){x:Int}(h0:0<=x)(d:x<n):gi a x=some (S9 a x):=by
 have c:x.toNat<a.length:=by omega
 have e:x=((x.toNat:Nat):Int):=by omega
 have b:gi a ((x.toNat:Nat):Int)=some (S9 a x):=by
  rw[H0b,List.getElem?_eq_getElem c]
  unfold S9
  rw[List.getD_eq_getElem?_getD,List.getElem?_eq_getElem c];rfl
 rw[←e]at b;exact b
theorem I0g(es:List M0){n:Nat}(q:inN n es)(p:es.length<=9223372036854775807):∀(d k fuel:Nat) (c:Bool) (f:List Bool),f.length=n->k+d=es.length->d<fuel ->
  G4 es fuel c (k:Int) f=some (pJ (es.drop k) c f)
 |d,k,0,c,f,g,m,hf=>by omega
 |0,k,fuel+1,c,f,g,m,hf=>by
  rw[G4.eq_2,if_neg (by simp;omega),N1 (by omega)];rfl
 |d+1,k,fuel+1,c,f,g,m,hf=>by
  have o:k<es.length:=by omega
  have j:=V5 o
  have i:=q _ (List.mem_of_getElem? j)
  generalize es[k]=e at j i
  obtain⟨a,l,b⟩:=e
  have s:=λu t h=>I0g es q p d (k+1) fuel u t h (by omega) (by omega)
  rw[G4.eq_2,if_pos (by simp;omega),L1 j]
  simp only[T2 j,oB,giB g i.1.1 i.1.2,giB g i.2.1 i.2.2,G2 o p,giB (show(f.set a.toNat true).length=n by simp[g]) i.2.1 i.2.2,pJ]
  cases hb:S9 f a == S9 f b
  ·simp only[Bool.not_false,if_true,cond_false]
   exact s _ _ (by simp[g])
  ·simp only[Bool.not_true,Bool.false_eq_true,if_false,cond_true]
   exact s _ _ g
theorem J0g(es:List M0){n:Nat}(f:inN n es)(z:es.length<=9223372036854775806):∀(m fuel:Nat) (a:List Bool),a.length=n->cF a<=m->m+1<fuel ->
  ∃ b,W4 es fuel true a=some b/\b.length=n/\(∀ x,S9 a x=true->S9 b x=true)/\(∀ e∈es,S9 b e.1=S9 b e.2.2) /\
   ∀ P:Int->Prop,(∀ e∈es,P e.1↔P e.2.2)->(∀ x,0<=x->S9 a x=true->P x)->∀ x,0<=x->S9 b x=true->P x
 |m,0,a,d,C,hf=>by omega
 |m,fuel+1,a,d,C,hf=>by
  have h0:=I0g es f (by omega) es.length 0 U0 false a d (by omega) (by unfold U0;omega)
  rw[show((0:Nat):Int)=0 from rfl,List.drop_zero]at h0
  obtain⟨p,i,j⟩:=I0l es false a d f
  have A:=H0l es false a
  rw[W4.eq_2,if_pos rfl,h0,oB]
  have l:=h0i es false a d f
  have o:=λP=>t0e (P:=P) es false a d f
  generalize pJ es false a=q at *
  obtain⟨c,b⟩:=q
  simp only at p i j A l o ⊢
  cases c with
  |true =>
   rcases i rfl with h|h
   ·cases h
   ·obtain⟨S2,s,t,u,v,w⟩:=J0g es f z (m-1) fuel b (by omega) (by omega) (by omega)
    exact⟨S2,s,t,λx D=>u x (l x D),v,λP k g=>w P k (o P k g)⟩
  |false =>
   obtain⟨_,e,y⟩:=j rfl
   subst e
   obtain _|fuel:=fuel
   ·omega
   ·rw[W4.eq_2,if_neg (by simp)]
    exact⟨_,rfl,d,λx h=>h,y,λP _ g=>g⟩
theorem R0j(r:Int)(n:Nat)(es:List M0)(p:inN n es)(o:es.length<=9223372036854775806)(s:1<=n)(t:n<=140737488355328):
  ∃ a,F9 (r,(n:Int),es) 0=some a/\a.length=n/\∀ x,0<=x->x<(n:Int)->(S9 a x=true↔Rch es 0 x):=by
 unfold F9
 simp only[Int.toNat_natCast]
 have m:gi (List.replicate n (false:Bool)) 0=some false:=by
  rw[x09 (x:=false)];rw[List.getElem?_replicate,if_pos (by omega)]
 rw[F0 (by omega),oB,m,oB]
 have k:((List.replicate n (false:Bool)).set (0:Int).toNat true).length=n:=by simp
 obtain⟨b,d,f,g,i,j⟩:=J0g es p o n U0 _ k (by have:=I0s ((List.replicate n (false:Bool)).set (0:Int).toNat true);omega) (by unfold U0;omega)
 rw[d]
 have c:∀ x,S9 ((List.replicate n (false:Bool)).set (0:Int).toNat true) x=decide (x.toNat=0):=λx=>by
  rw[L07 (by simp;omega)]
  have:S9 (List.replicate n false) x=false:=by
   unfold S9
   rw[List.getD_eq_getElem?_getD,List.getElem?_replicate]
   split<;>rfl
  rw[this];simp
 refine⟨b,rfl,f,λx h0 q=>⟨λh=>?_,λh=>?_⟩⟩
 ·refine j (Rch es 0) Rch.closed (λy u h=>?_) x h0 h
  rw[c]at h
  have:y=0:=by simp at h;omega
  subst this;exact .base
 ·exact Rch.sub (P:=λx=>S9 b x=true) (g 0 (by rw[c];rfl)) (λe l=>by rw[i e l]) h
theorem J0s(l:List Int)(w:Int)(g:l.length<=9223372036854775807):∀(d k fuel:Nat),k+d=l.length->d<fuel ->
  g9 l w fuel (k:Int)=some (if w∈l.drop k then .inl true else .inr ())
 |d,k,0,b,hf=>by omega
 |0,k,fuel+1,b,hf=>by
  rw[g9.eq_2,if_neg (by simp;omega),N1 (by omega)];simp
 |d+1,k,fuel+1,b,hf=>by
  have f:k<l.length:=by omega
  have a:=V5 f
  generalize l[k]=x at a
  have i:=J0s l w g d (k+1) fuel (by omega) (by omega)
  rw[g9.eq_2,if_pos (by simp;omega),L1 a]
  simp only[T2 a,oB,G2 f g,i,List.mem_cons]
  by_cases c:x=w
  ·rw[if_pos (by simpa using c),if_pos (.inl c.symm)]
  ·rw[if_neg (by simpa using c)]
   by_cases c2:w∈l.drop (k+1)
   ·rw[if_pos c2,if_pos (.inr c2)]
   ·rw[if_neg c2,if_neg (λh=>h.elim (λe=>c e.symm) c2)]
theorem r08(l:List Int)(w:Int)(a:l.length<=9223372036854775807):j8 l w=some (decide (w∈l)):=by
 unfold j8
 have h:=J0s l w a l.length 0 U0 (by omega) (by unfold U0;omega)
 rw[show((0:Nat):Int)=0 from rfl,List.drop_zero]at h
 rw[h,oB]
 by_cases c:w∈l
 ·rw[if_pos c];simp[I9,c]
 ·rw[if_neg c];simp[I9,c]
def s1(u:List Int)(e:M0):List Int:=if e.1∈u then H01 t9 e.2.2 u else u
def s2(u:List Int)(e:M0):List Int:=if e.2.2∈u then H01 t9 e.1 u else u
def pS:List M0->List Int->List Int
 | [],u=>u
 |e::r,u=>pS r (s2 (s1 u e) e)
theorem M0b{u:List Int}{e:M0}{x:Int}:x∈s1 u e↔x∈u∨(e.1∈u/\x=e.2.2):=by
 unfold s1
 split
 ·rename_i h;rw[J07 o02];constructor
  ·rintro(a|a)
   ·exact .inr ⟨h,a⟩
   ·exact .inl a
  ·rintro(a|⟨_,a⟩)
   ·exact .inr a
   ·exact .inl a
 ·rename_i h;constructor
  ·exact .inl
  ·rintro(a|⟨a,_⟩)
   ·exact a
   ·exact absurd a h
theorem N0b{u:List Int}{e:M0}{x:Int}:x∈s2 u e↔x∈u∨(e.2.2∈u/\x=e.1):=by
 unfold s2
 split
 ·rename_i h;rw[J07 o02];constructor
  ·rintro(a|a)
   ·exact .inr ⟨h,a⟩
   ·exact .inl a
  ·rintro(a|⟨_,a⟩)
   ·exact .inr a
   ·exact .inl a
 ·rename_i h;constructor
  ·exact .inl
  ·rintro(a|⟨a,_⟩)
   ·exact a
   ·exact absurd a h
theorem R0p(u:List Int)(e:M0):(s1 u e).length<=u.length+1:=by
 unfold s1;split
 ·exact Z05 _ _
 ·omega
theorem S0p(u:List Int)(e:M0):(s2 u e).length<=u.length+1:=by
 unfold s2;split
 ·exact Z05 _ _
 ·omega
theorem J0l:∀(es:List M0) (u:List Int),(pS es u).length<=u.length+2*es.length
 | [],u=>by simp[pS]
 |e::r,u=>by
  have:=J0l r (s2 (s1 u e) e)
  have:=S0p (s1 u e) e
  have:=R0p u e
  simp only[pS,List.length_cons];omega
theorem G06:∀(es:List M0) (u:List Int) (x:Int),x∈u->x∈pS es u
 | [],u,x,h=>h
 |e::r,u,x,h=>G06 r _ x (N0b.2 (.inl (M0b.2 (.inl h))))
theorem u0e{P:Int->Prop}:∀(es:List M0) (u:List Int),(∀ e∈es,P e.1↔P e.2.2)->(∀ x∈u,P x)->∀ x∈pS es u,P x
 | [],u,b,a=>a
 |e::r,u,b,a=>u0e r _ (λe f=>b e (mC _ f)) λx g=>by
  have d:=b e mS
  have c:∀ y∈s1 u e,P y:=λy i=>by
   rcases M0b.1 i with h|⟨h,rfl⟩
   ·exact a y h
   ·exact d.1 (a _ h)
  rcases N0b.1 g with h|⟨h,rfl⟩
  ·exact c x h
  ·exact d.2 (c _ h)
theorem S0j:∀(es:List M0) (u:List Int) (e:M0),e∈es->e.1∈u∨e.2.2∈u->e.1∈pS es u/\e.2.2∈pS es u
 |c::r,u,e,a,h=>by
  simp only[pS]
  rcases List.mem_cons.1 a with rfl|a
  ·have b:e.2.2∈s1 u e:=by
    rcases h with h|h
    ·exact M0b.2 (.inr ⟨h,rfl⟩)
    ·exact M0b.2 (.inl h)
   exact⟨G06 r _ _ (N0b.2 (.inr ⟨b,rfl⟩)),G06 r _ _ (N0b.2 (.inl b))⟩
  ·exact S0j r _ e a (h.imp (λh=>N0b.2 (.inl (M0b.2 (.inl h)))) λh=>N0b.2 (.inl (M0b.2 (.inl h))))
def act(es:List M0)(u:List Int):Nat:=es.countP λe=>decide (e.1∈u)&&decide (e.2.2∈u)
def clo(es:List M0)(u:List Int):Prop:=∀ e∈es,e.1∈u↔e.2.2∈u
theorem s0t(es:List M0)(u:List Int):act es u<=es.length:=List.countP_le_length
theorem K0g{e:Type}{p q:e->Bool}:∀ {l:List e},(∀ x∈l,p x=true->q x=true)->(∃ x∈l,p x=false/\q x=true)->l.countP p<l.countP q
 | [],_,⟨x,a,_⟩=>nomatch a
 |y::l,h,⟨x,a,c,d⟩=>by
  have f:l.countP p<=l.countP q:=List.countP_mono_left λz b=>h z (mC _ b)
  rcases List.mem_cons.1 a with rfl|a
  ·rw[List.countP_cons_of_neg (by simp[c]),List.countP_cons_of_pos d];omega
  ·have g:=K0g (l:=l) (λz b=>h z (mC _ b)) ⟨x,a,c,d⟩
   cases hp:p y
   ·rw[List.countP_cons_of_neg (by simp[hp])]
    have:l.countP q<=(y::l).countP q:=by rw[List.countP_cons];omega
    omega
   ·rw[List.countP_cons_of_pos hp,List.countP_cons_of_pos (h y mS hp)];omega
theorem C0a{es:List M0}{u:List Int}(h:clo es u)(x:Int):x∈pS es u↔x∈u :=
 ⟨u0e (P:=λx=>x∈u) es u h (λ_ h=>h) x,G06 es u x⟩
theorem T0p{es:List M0}{u:List Int}:clo es (pS es u)∨act es u<act es (pS es u):=by
 by_cases h:clo es u
 ·left
  intro e a
  rw[C0a h,C0a h];exact h e a
 ·right
  have:∃ e∈es,¬ (e.1∈u↔e.2.2∈u):=by
   refine Classical.byContradiction λb=>h λe a=>?_
   exact Classical.byContradiction λd=>b ⟨e,a,d⟩
  obtain⟨e,a,c⟩:=this
  refine K0g (λx g h=>?_) ⟨e,a,?_,?_⟩
  ·simp only[Bool.and_eq_true,decide_eq_true_eq]at h ⊢
   exact⟨G06 _ _ _ h.1,G06 _ _ _ h.2⟩
  ·rw[Bool.eq_false_iff]
   intro h
   simp only[Bool.and_eq_true,decide_eq_true_eq]at h
   exact c ⟨λ_=>h.2,λ_=>h.1⟩
  ·have f:e.1∈u∨e.2.2∈u:=by
    refine Classical.byContradiction λb=>c ⟨λh=>absurd (.inl h) b,λh=>absurd (.inr h) b⟩
   have:=S0j es u e a f
   simp only[Bool.and_eq_true,decide_eq_true_eq];exact this
def itS(es:List M0):Nat->List Int->List Int
 |0,u=>u
 |j+1,u=>itS es j (pS es u)
theorem N0m(es:List M0):∀(j:Nat) (u:List Int),(itS es j u).length<=u.length+j*(2*es.length)
 |0,u=>by simp[itS]
 |j+1,u=>by have:=N0m es j (pS es u);have:=J0l es u;simp only[itS,Nat.add_mul,Nat.one_mul];omega
theorem O0m(es:List M0):∀(j:Nat) (u:List Int),clo es u->clo es (itS es j u)
 |0,u,h=>h
 |j+1,u,h=>O0m es j _ λe a=>by rw[C0a h,C0a h];exact h e a
theorem P0m(es:List M0):∀(j:Nat) (u:List Int),clo es (itS es j u)∨act es u+j<=act es (itS es j u)
 |0,u => .inr (Nat.le_refl _)
 |j+1,u=>by
  rcases T0p (es:=es) (u:=u)with h|h
  ·exact .inl (O0m es j _ h)
  ·rcases P0m es j (pS es u)with a|a
   ·exact .inl a
   ·right;simp only[itS];omega
theorem T0j(es:List M0):∀(j:Nat) (u:List Int) (x:Int),x∈u->x∈itS es j u
 |0,u,x,h=>h
 |j+1,u,x,h=>T0j es j _ x (G06 es u x h)
theorem L0g{P:Int->Prop}(es:List M0)(b:∀ e∈es,P e.1↔P e.2.2):∀(j:Nat) (u:List Int),(∀ x∈u,P x)->∀ x∈itS es j u,P x
 |0,u,a=>a
 |j+1,u,a=>L0g es b j _ (u0e es u b a)
theorem c04(es:List M0)(v x:Int):x∈itS es (es.length+1) [v]↔Rch es v x:=by
 constructor
 ·exact L0g (P:=Rch es v) es Rch.closed _ _ (λy a=>by simp at a;subst a;exact .base) x
 ·have b:clo es (itS es (es.length+1) [v]):=by
   rcases P0m es (es.length+1) [v]with h|h
   ·exact h
   ·have:=s0t es (itS es (es.length+1) [v]);omega
  exact Rch.sub (P:=λx=>x∈itS es (es.length+1) [v]) (T0j _ _ _ _ (by simp)) b
theorem v0e(es:List M0)(p:es.length<=9223372036854775807):∀(d k fuel:Nat) (u:List Int),k+d=es.length->d<fuel->u.length+2*d<=1099511627776 ->
  S3 es fuel u (k:Int)=some (pS (es.drop k) u)
 |d,k,0,u,n,hf,q=>by omega
 |0,k,fuel+1,u,n,hf,q=>by
  rw[S3.eq_2,if_neg (by simp;omega),N1 (by omega)];rfl
 |d+1,k,fuel+1,u,n,hf,q=>by
  have o:k<es.length:=by omega
  have m:=V5 o
  generalize es[k]=e at m
  obtain⟨a,l,b⟩:=e
  have i:=λt h=>v0e es p d (k+1) fuel t (by omega) (by omega) h
  have s:=R0p u (a,l,b)
  have g:=S0p (s1 u (a,l,b)) (a,l,b)
  rw[S3.eq_2,if_pos (by simp;omega),L1 m]
  simp only[T2 m,oB,r08 u _ (by omega),G2 o p,pS]
  by_cases c:a∈u
  ·rw[if_pos (by simpa using c),u0a _ _ (by omega),oB]
   have j:s1 u (a,l,b)=H01 t9 b u:=if_pos c
   rw[j]at s g ⊢
   rw[r08 _ _ (by omega),oB]
   by_cases c2:b∈H01 t9 b u
   ·rw[if_pos (by simpa using c2),u0a _ _ (by omega),oB]
    have f:s2 (H01 t9 b u) (a,l,b)=H01 t9 a (H01 t9 b u):=if_pos c2
    rw[f]at g ⊢
    exact i _ (by omega)
   ·rw[if_neg (by simpa using c2)]
    have f:s2 (H01 t9 b u) (a,l,b)=H01 t9 b u:=if_neg c2
    rw[f]
    exact i _ (by omega)
  ·rw[if_neg (by simpa using c)]
   have j:s1 u (a,l,b)=u:=if_neg c
   rw[j]at g ⊢
   by_cases c2:b∈u
   ·rw[if_pos (by simpa using c2),u0a _ _ (by omega),oB]
    have f:s2 u (a,l,b)=H01 t9 a u:=if_pos c2
    rw[f]at g ⊢
    exact i _ (by omega)
   ·rw[if_neg (by simpa using c2)]
    have f:s2 u (a,l,b)=u:=if_neg c2
    rw[f]
    exact i _ (by omega)
theorem w0e(es:List M0)(c:es.length<=120):∀(d k fuel:Nat) (u:List Int),k+d=es.length+1->d<fuel->u.length<=1+k*240 ->
  G5 es fuel u (k:Int)=some (itS es d u)
 |d,k,0,u,a,hf,b=>by omega
 |0,k,fuel+1,u,a,hf,b=>by
  rw[G5.eq_2,if_neg (by rw[w64 (by omega) (by omega)];simp;omega)];rfl
 |d+1,k,fuel+1,u,a,hf,b=>by
  have h0:=v0e es (by omega) es.length 0 U0 u (by omega) (C1 (by omega)) (by omega)
  rw[show((0:Nat):Int)=0 from rfl,List.drop_zero]at h0
  have e:=w0e es c d (k+1) fuel (pS es u) (by omega) (by omega) (by have:=J0l es u;omega)
  rw[G5.eq_2,if_pos (by rw[w64 (by omega) (by omega)];simp;omega),h0,oB,G2 (show k<1000 by omega) (by omega),e]
  rfl
def getI(P:List Int)(v:Int):Int:=P.getD v.toNat (-1)
def g01:List Int->Nat->List Int->List Int
 |A,k,[]=>A
 |A,k,v::r=>g01 (A.set v.toNat (k:Int)) (k+1) r
def plc(n:Nat)(o:List Int):List Int:=g01 (List.replicate n (-1)) 0 o
theorem x0e:∀(o:List Int) (k:Nat) (A:List Int),(g01 A k o).length=A.length
 | [],k,A=>rfl
 |v::r,k,A=>by rw[g01,x0e r];simp
def inV(n:Nat)(o:List Int):Prop:=∀ v∈o,0<=v/\v<(n:Int)
theorem giI{P:List Int}{n:Nat}(d:P.length=n){x:Int}(h0:0<=x)(c:x<n):gi P x=some (getI P x):=by
 have b:x.toNat<P.length:=by omega
 have e:x=((x.toNat:Nat):Int):=by omega
 have a:gi P ((x.toNat:Nat):Int)=some (getI P x):=by
  rw[H0b,List.getElem?_eq_getElem b]
  unfold getI
  rw[List.getD_eq_getElem?_getD,List.getElem?_eq_getElem b];rfl
 rw[←e]at a;exact a
theorem m01{A:List Int}{v x:Int}{y:Int}(h0:0<=v)(a:v.toNat<A.length)(b:0<=x):getI (A.set v.toNat y) x=if x=v then y else getI A x:=by
 unfold getI
 rw[List.getD_eq_getElem?_getD,List.getD_eq_getElem?_getD,List.getElem?_set]
 by_cases c:x=v
 ·rw[if_pos c,if_pos (by rw[c]),if_pos a];rfl
 ·rw[if_neg c,if_neg (by omega)]
theorem D0a{n:Nat}:∀(o:List Int) (k:Nat) (A:List Int),A.length=n->inV n o->(∀ x,0<=x -> -1<=getI A x/\getI A x<(k:Int))->∀ x,0<=x -> -1<=getI (g01 A k o) x/\getI (g01 A k o) x<((k+o.length:Nat):Int)
 | [],k,A,c,a,h,x,b=>h x b
 |v::r,k,A,c,a,h,x,b=>by
  have e:=a v mS
  have:=D0a r (k+1) (A.set v.toNat (k:Int)) (by simp[c]) (λw f=>a w (mC _ f)) (λy d=>by
   rw[m01 e.1 (by omega) d]
   have:=h y d
   split<;>omega) x b
  rw[g01,List.length_cons,show k+(r.length+1)=k+1+r.length by omega];exact this
theorem M07(n:Nat)(x:Int):getI (List.replicate n (-1)) x = -1:=by
 unfold getI
 rw[List.getD_eq_getElem?_getD,List.getElem?_replicate]
 split<;>rfl
theorem k04{n:Nat}{o:List Int}(b:inV n o){x:Int}(a:0<=x): -1<=getI (plc n o) x/\getI (plc n o) x<(o.length:Int):=by
 have:=D0a o 0 (List.replicate n (-1)) (by simp) b (λx a=>by rw[M07];omega) x a
 rw[Nat.zero_add]at this;exact this
theorem Q0m(n:Nat)(o:List Int):(plc n o).length=n:=by unfold plc;rw[x0e];simp
def pE(P:List Int):List M0->List M0
 | []=>[]
 |e::r=>bif decide (0<=getI P e.1)&&decide (0<=getI P e.2.2)then(getI P e.1,e.2.1,getI P e.2.2)::pE P r else pE P r
theorem i0i(P:List Int):∀ es,(pE P es).length<=es.length
 | []=>by simp[pE]
 |e::r=>by
  have:=i0i P r
  unfold pE
  cases decide (0<=getI P e.1)&&decide (0<=getI P e.2.2)<;>simp only[cond_true,cond_false,List.length_cons]<;>omega
theorem K0s{n:Nat}{o:List Int}(d:inV n o):∀(es:List M0),inN n es->inN o.length (pE (plc n o) es)
 | [],c=>λe a=>nomatch a
 |e::r,c=>by
  have f:=K0s d r λe a=>c e (mC _ a)
  have a:=c e mS
  unfold pE
  cases hb:decide (0<=getI (plc n o) e.1)&&decide (0<=getI (plc n o) e.2.2)
  ·simpa only[cond_false] using f
  ·simp only[cond_true]
   simp only[Bool.and_eq_true,decide_eq_true_eq]at hb
   intro g b
   rcases List.mem_cons.1 b with rfl|b
   ·exact⟨⟨hb.1,(k04 d a.1.1).2⟩,hb.2,(k04 d a.2.1).2⟩
   ·exact f g b
def L5(g:j0)(o:List Int):j0:=(g.1,(o.length:Int),F6 D1 [] (pE (plc g.2.1.toNat o) g.2.2))
theorem I03:∀(r l:List M0),(F6 D1 l r).length<=l.length+r.length
 | [],l=>by simp[F6]
 |e::r,l=>by have:=I03 r (H01 D1 e l);have:=j04 e l;simp only[F6,List.length_cons];omega
theorem y09(g:j0)(o:List Int):(L5 g o).2.2.length<=g.2.2.length:=by
 have:=I03 (pE (plc g.2.1.toNat o) g.2.2) []
 have:=i0i (plc g.2.1.toNat o) g.2.2
 simp only[L5,List.length_nil]at *;omega
theorem M0g{n:Nat}{r:Int}{es:List M0}{o:List Int}(c:inV n o)(b:inN n es):inN o.length (L5 (r,(n:Int),es) o).2.2:=by
 intro e a
 simp only[L5,Int.toNat_natCast]at a
 rcases(z9 H8 e _ _).1 a with h|h
 ·cases h
 ·exact K0s c es b e h
theorem R0m(n:Nat)(c:n<=140737488355328):∀(d k fuel:Nat),k+d=n->d<fuel ->
  O9 n fuel (k:Int) (List.replicate k (-1)++List.replicate d 0)=some (List.replicate n (-1))
 |d,k,0,a,hf=>by omega
 |0,k,fuel+1,a,hf=>by
  rw[O9.eq_2,if_neg (by simp;omega),show k=n by omega];simp
 |d+1,k,fuel+1,a,hf=>by
  have b:gi (List.replicate k (-1)++List.replicate (d+1) (0:Int)) (k:Int)=some 0:=by
   rw[H0b,List.getElem?_append_right (by simp)];simp
  have f:=R0m n c d (k+1) fuel (by omega) (by omega)
  rw[O9.eq_2,if_pos (by simp;omega),b,oB,G2 (show k<n by omega) (by omega),Int.toNat_natCast]
  have e:(List.replicate k (-1)++List.replicate (d+1) (0:Int)).set k (-1)=List.replicate (k+1) (-1)++List.replicate d 0:=by
   rw[List.set_append_right _ _ (by simp),List.length_replicate,Nat.sub_self,List.replicate_succ,List.set_cons_zero,List.replicate_succ']
   simp
  rw[e,f]
theorem S0m(o:List Int){n:Nat}(h:inV n o)(g:o.length<=9223372036854775807):∀(d k fuel:Nat) (A:List Int),A.length=n->k+d=o.length->d<fuel ->
  N9 o fuel (k:Int) A=some (g01 A k (o.drop k))
 |d,k,0,A,a,e,hf=>by omega
 |0,k,fuel+1,A,a,e,hf=>by
  rw[N9.eq_2,if_neg (by simp;omega),N1 (by omega)];rfl
 |d+1,k,fuel+1,A,a,e,hf=>by
  have f:k<o.length:=by omega
  have b:=V5 f
  have c:=h _ (List.mem_of_getElem? b)
  generalize o[k]=v at b c
  have i:=S0m o h g d (k+1) fuel (A.set v.toNat (k:Int)) (by simp[a]) (by omega) (by omega)
  rw[N9.eq_2,if_pos (by simp;omega),L1 b,T2 b,oB,giI a c.1 c.2,oB,G2 f g,i]
  rfl
theorem T0m(es:List M0){n:Nat}(q:inN n es)(t:es.length<=1099511627776)(P:List Int)(g:P.length=n)(r m:Int):∀(d k fuel:Nat) (acc:List M0),k+d=es.length->d<fuel->acc.length<=k ->
  W8 es P fuel (k:Int) r m acc=some (r,m,acc++pE P (es.drop k))
 |d,k,0,acc,o,hf,j=>by omega
 |0,k,fuel+1,acc,o,hf,j=>by
  rw[W8.eq_2,if_neg (by simp;omega),N1 (by omega)];simp[pE]
 |d+1,k,fuel+1,acc,o,hf,j=>by
  have p:k<es.length:=by omega
  have f:=V5 p
  have c:=q _ (List.mem_of_getElem? f)
  generalize es[k]=e at f c
  obtain⟨a,l,b⟩:=e
  have i:=λs h=>T0m es q t P g r m d (k+1) fuel s (by omega) (by omega) h
  rw[W8.eq_2,if_pos (by simp;omega),L1 f]
  simp only[T2 f,oB,giI g c.1.1 c.1.2,giI g c.2.1 c.2.2,G2 p (show es.length<=9223372036854775807 by omega),pE]
  by_cases c1:0<=getI P a
  ·simp only[show decide (getI P a ≥ 0)=true by simpa using c1,Q2,oB,cond_true,show decide (0<=getI P a)=true by simpa using c1,Bool.true_and]
   by_cases c2:0<=getI P b
   ·rw[if_pos (by simpa using c2),F0 (by simp;omega),oB,i _ (by simp;omega)]
    simp[c2]
   ·rw[if_neg (by simpa using c2),i _ (by omega)]
    simp[c2]
  ·simp only[show decide (getI P a ≥ 0)=false by simpa using c1,o5,oB,cond_false,show decide (0<=getI P a)=false by simpa using c1,Bool.false_and]
   rw[if_neg (by simp),i _ (by omega)]
theorem j0i(r:Int)(n:Nat)(es:List M0)(o:List Int)(d:inN n es)(e:inV n o)(g:n<=1000000)(c:es.length<=1099511627776)(f:o.length<=1099511627776):
  N01 (r,(n:Int),es) o=some (L5 (r,(n:Int),es) o):=by
 unfold N01
 have b:=R0m n (by omega) n 0 U0 (by omega) (C1 (by omega))
 have a:=S0m o e (by omega) o.length 0 U0 (List.replicate n (-1)) (by simp) (by omega) (C1 (by omega))
 have h0:=T0m es d c (plc n o) (Q0m n o) r ((o.length:Nat):Int) es.length 0 U0 [] (by omega) (C1 (by omega)) (Nat.le_refl _)
 rw[show((0:Nat):Int)=0 from rfl]at h0 a b
 rw[List.replicate_zero,List.nil_append]at b
 rw[List.drop_zero]at a
 rw[List.drop_zero,List.nil_append]at h0
 simp only[Int.toNat_natCast]
 rw[F0 (by omega),oB,oB,List.length_replicate,F0 (by omega),oB,b,oB,a,oB]
 rw[show g01 (List.replicate n (-1)) 0 o=plc n o from rfl,h0]
 simp only[oB]
 rw[B0a _ (by have:=i0i (plc n o) es;omega),oB]
 rfl
theorem U0p(A:List Int)(i k:Nat):(A.map (·+1)).set i (((k+1:Nat):Int))=(A.set i (k:Int)).map (·+1):=by
 rw[List.map_set];rfl
theorem y0e{A:List Int}{n:Nat}(d:A.length=n){x:Int}(h0:0<=x)(c:x<n):gi (A.map (·+1)) x=some (getI A x+1):=by
 have b:x.toNat<A.length:=by omega
 have e:x=((x.toNat:Nat):Int):=by omega
 have a:gi (A.map (·+1)) ((x.toNat:Nat):Int)=some (getI A x+1):=by
  rw[H0b,List.getElem?_map,List.getElem?_eq_getElem b]
  unfold getI
  rw[List.getD_eq_getElem?_getD,List.getElem?_eq_getElem b];rfl
 rw[←e]at a;exact a
theorem z0e{n:Nat}:∀(o:List Int) (k:Nat) (A:List Int) (x:Int),A.length=n->inV n o->0<=x->x ∉ o->getI (g01 A k o) x=getI A x
 | [],k,A,x,c,a,b,h=>rfl
 |v::r,k,A,x,c,a,b,h=>by
  have f:=a v mS
  rw[g01,z0e r _ _ x (by simp[c]) (λw g=>a w (mC _ g)) b (λd=>h (mC _ d)),m01 f.1 (by omega) b,if_neg (λe=>h (by rw[e];exact mS))]
theorem V0p(r:Int)(n:Nat)(es:List M0)(o:List Int)(h:inV n o)(l:o.Nodup)(t:1<=n/\n<=1000000)(s:o.length<=1099511627776):∀(d k fuel:Nat) (A:List Int),A.length=n->(∀ x,0<=x -> -1<=getI A x/\getI A x<=1099511627776)->(∀ x∈o.drop k,getI A x = -1)->k+d=o.length->d<fuel ->
  O4 o (n:Int) r es fuel (k:Int) (A.map (·+1))=some (.inr ((g01 A k (o.drop k)).map (·+1)))
 |d,k,0,A,f,i,c,j,hf=>by omega
 |0,k,fuel+1,A,f,i,c,j,hf=>by
  rw[O4.eq_2,if_neg (by simp;omega),N1 (by omega)];rfl
 |d+1,k,fuel+1,A,f,i,c,j,hf=>by
  have m:k<o.length:=by omega
  have a:=V5 m
  have b:=h _ (List.mem_of_getElem? a)
  have g:=L1 a
  generalize o[k]=v at a b g
  have p:(o.drop k).Nodup:=l.sublist (List.drop_sublist _ _)
  rw[g]at p c
  have q:=c v mS
  have w:=V0p r n es o h l t s d (k+1) fuel (A.set v.toNat (k:Int)) (by simp[f]) (λx a=>by
   rw[m01 b.1 (by omega) a];have:=i x a;split<;>omega) (λx a=>by
   have u:=h x (List.mem_of_mem_drop a)
   rw[m01 b.1 (by omega) u.1,if_neg (λe=>(List.nodup_cons.1 p).1 (by rw[←e];exact a))]
   exact c x (mC _ a)) (by omega) (by omega)
  rw[O4.eq_2,if_pos (by simp;omega),g,T2 a]
  simp only[oB,N04,w64 (show -9223372036854775808<=(n:Int)-1 by omega) (show(n:Int)-1<=9223372036854775807 by omega),inR,show decide (0<=v)=true by simpa using b.1,show decide (v<=(n:Int)-1)=true by simp;omega,Bool.and_self,Bool.not_true,Bool.not_false,Q2,y0e f b.1 b.2,q,cond_false]
  rw[if_neg (by decide),G2 m (by omega),U0p,w]
  rfl
theorem W0p(es:List M0){n:Nat}(s:inN n es)(u:es.length<=1099511627776)(P:List Int)(g:P.length=n)(i:∀ x,0<=x -> -1<=getI P x/\getI P x<=1099511627776)(r m:Int):∀(d k fuel:Nat) (acc:List M0),k+d=es.length->d<fuel->acc.length<=k ->
  j4 es (P.map (·+1)) fuel (k:Int) r m acc=some (r,m,F6 D1 acc (pE P (es.drop k)))
 |d,k,0,acc,p,hf,o=>by omega
 |0,k,fuel+1,acc,p,hf,o=>by
  rw[j4.eq_2,if_neg (by simp;omega),N1 (by omega)];rfl
 |d+1,k,fuel+1,acc,p,hf,o=>by
  have q:k<es.length:=by omega
  have f:=V5 q
  have c:=s _ (List.mem_of_getElem? f)
  generalize es[k]=e at f c
  obtain⟨a,l,b⟩:=e
  have j:=λt h=>W0p es s u P g i r m d (k+1) fuel t (by omega) (by omega) h
  have v:=i a c.1.1
  have w:=i b c.2.1
  rw[j4.eq_2,if_pos (by simp;omega),L1 f]
  simp only[T2 f,oB,y0e g c.1.1 c.1.2,y0e g c.2.1 c.2.2,G2 q (show es.length<=9223372036854775807 by omega),pE]
  by_cases c1:0<=getI P a
  ·simp only[show decide (getI P a+1>0)=true by simp;omega,Q2,oB,cond_true,show decide (0<=getI P a)=true by simpa using c1,Bool.true_and]
   by_cases c2:0<=getI P b
   ·rw[if_pos (by simp;omega),w64 (by omega) (by omega),w64 (by omega) (by omega),show getI P a+1-1=getI P a by omega,show getI P b+1-1=getI P b by omega]
    rw[g0i _ _ (by omega),oB,j _ (by have:=j04 (getI P a,l,getI P b) acc;omega)]
    simp[c2,F6]
   ·rw[if_neg (by simp;omega),j _ (by omega)]
    simp[c2]
  ·simp only[show decide (getI P a+1>0)=false by simp;omega,o5,oB,cond_false,show decide (0<=getI P a)=false by simpa using c1,Bool.false_and]
   rw[if_neg (by simp),j _ (by omega)]
theorem z09(r:Int)(n:Nat)(es:List M0)(o:List Int)(f:E1 (r,(n:Int),es)=true)(g:inV n o)(l:o.Nodup)(t:1<=o.length)(u:o.length<=n):
  d6 (r,(n:Int),es) o=some (L5 (r,(n:Int),es) o,true):=by
 obtain⟨h,p,q,s⟩:=Z0 f
 simp only at p q s
 have m:inN n es:=λe d=>⟨(h e d).1,(h e d).2.1⟩
 have k:=P9 (r,(n:Int),es) (by simp only;omega)
 unfold d6
 have a:=V0p r n es o g l (by omega) (by omega) o.length 0 U0 (List.replicate n (-1)) (by simp) (λx b=>by rw[M07];omega) (λx b=>M07 n x) (by omega) (C1 (by omega))
 have c:=W0p es m (by omega) (plc n o) (Q0m n o) (λx b=>by have:=k04 g b;omega) r ((o.length:Nat):Int) es.length 0 U0 [] (by omega) (C1 (by omega)) (Nat.le_refl _)
 rw[show((0:Nat):Int)=0 from rfl,List.drop_zero]at c a
 rw[show(List.replicate n (-1:Int)).map (·+1)=List.replicate n 0 by simp]at a
 rw[show g01 (List.replicate n (-1)) 0 o=plc n o from rfl]at a
 have i:decide (((o.length:Nat):Int)=0)=false:=decide_eq_false (by omega)
 have j:decide (((o.length:Nat):Int)>(n:Int))=false:=decide_eq_false (by omega)
 simp only[k,f,oB,Bool.not_true,cond_false,Int.toNat_natCast,i,j]
 rw[if_neg (by simp),F0 (by omega),oB,a]
 simp only[oB,I9,c]
 rfl
theorem R6:∀(n:Nat) (o:List Int),o.Nodup->inV n o->o.length<=n
 |0,[],_,_=>Nat.le_refl _
 |0,x::r,_,h=>by have:=h x mS;omega
 |n+1,o,c,h=>by
  have d:inV n (o.erase (n:Int)):=λx e=>by
   obtain⟨f,a⟩:=(List.Nodup.mem_erase_iff c).1 e
   have:=h x a;omega
  have b:=R6 n _ (c.erase _) d
  by_cases a:(n:Int)∈o
  ·rw[List.length_erase_of_mem a]at b;omega
  ·rw[List.erase_of_not_mem a]at b;omega
def P1:Nat->Nat->List Int
 |0,_=>[]
 |d+1,i=>(i:Int) :: -(i:Int)::P1 d (i+1)
theorem o8:∀ d i,(P1 d i).length=2*d
 |0,i=>rfl
 |d+1,i=>by simp only[P1,List.length_cons,o8 d];omega
theorem d04:∀(d i:Nat),i+d<=1000->∀ x∈P1 d i,O3 x
 |0,i,h,x,a=>nomatch a
 |d+1,i,h,x,a=>by
  simp only[P1,List.mem_cons]at a
  rcases a with rfl|rfl|a
  ·exact⟨⟨by omega,by omega⟩,by omega⟩
  ·exact⟨⟨by omega,by omega⟩,by omega⟩
  ·exact d04 d (i+1) (by omega) x a
theorem X0p(R:Nat)(c:R<=900):∀(d i fuel:Nat) (acc:List Int),i+d=R+1->d<fuel->acc.length+2*d<=10000 ->
  l5 (R:Int) fuel (i:Int) acc=some (acc++P1 d i)
 |d,i,0,acc,b,hf,a=>by omega
 |0,i,fuel+1,acc,b,hf,a=>by
  rw[l5.eq_2,if_neg (by simp;omega)];simp[P1]
 |d+1,i,fuel+1,acc,b,hf,a=>by
  have e:=X0p R c d (i+1) fuel (acc ++ [(i:Int),-(i:Int)]) (by omega) (by omega) (by simp;omega)
  have f:IntKind.i64.wrap (0-(i:Int)) = -(i:Int):=by rw[w64 (by omega) (by omega)];omega
  rw[l5.eq_2,if_pos (by simp;omega),f,F0 (by simp;omega),oB,G2 (show i<1000 by omega) (by omega),e]
  simp[P1]
theorem Y0p(R:Nat)(c:R<=900):∀(d i fuel:Nat) (acc:List Int),i+d=R+1->d<fuel->acc.length+2*d<=10000 ->
  i6 (R:Int) fuel (i:Int) acc=some (acc++P1 d i)
 |d,i,0,acc,b,hf,a=>by omega
 |0,i,fuel+1,acc,b,hf,a=>by
  rw[i6.eq_2,if_neg (by simp;omega)];simp[P1]
 |d+1,i,fuel+1,acc,b,hf,a=>by
  have e:=Y0p R c d (i+1) fuel ((acc ++ [(i:Int)]) ++ [-(i:Int)]) (by omega) (by omega) (by simp;omega)
  have f:IntKind.i64.wrap (0-(i:Int)) = -(i:Int):=by rw[w64 (by omega) (by omega)];omega
  rw[i6.eq_2,if_pos (by simp;omega),f,F0 (by simp;omega),oB,F0 (by simp;omega),oB,G2 (show i<1000 by omega) (by omega),e]
  simp[P1]
theorem O0b(R:Nat)(a:R<=900):d4 (R:Int)=some (P1 R 1):=by
 unfold d4
 rw[show(1:Int)=((1:Nat):Int) from rfl,X0p R a R 1 U0 [] (by omega) (C1 (by omega)) (by simp;omega)];rfl
theorem P0b(R:Nat)(a:R<=900):d5 (R:Int)=some (P1 R 1):=by
 unfold d5
 rw[show(1:Int)=((1:Nat):Int) from rfl,Y0p R a R 1 U0 [] (by omega) (C1 (by omega)) (by simp;omega)];rfl
def L02(u:List Int)(x:Int):List Int:=if 0<=x/\x ∉ u then u ++ [x]else u
def j9(g:j0)(v:Int):List Int->List Int->List Int
 | [],u=>u
 |x::r,u=>j9 g v r (L02 u (D0 g v x))
def p5(g:j0)(ls:List Int):Nat->Nat->List Int->List Int
 |0,i,u=>u
 |f+1,i,u=>match u[i]? with
  |some v=>p5 g ls f (i+1) (j9 g v ls u)
  |none=>u
def gud(n:Nat)(u:List Int):Prop:=u.Nodup/\inV n u
theorem N0g{n:Nat}{u:List Int}{x:Int}(h:gud n u)(i:x = -1∨(0<=x/\x<(n:Int))):gud n (L02 u x):=by
 unfold L02
 split
 ·rename_i g
  refine⟨List.nodup_append.2 ⟨h.1,by simp,λa f b d=>?_⟩,λy c=>?_⟩
  ·simp at d;subst d;exact λe=>g.2 (e▸f)
  ·rcases List.mem_append.1 c with c|c
   ·exact h.2 y c
   ·simp at c;subst c;omega
 ·exact h
theorem A0e(u:List Int)(x:Int):∃ t,L02 u x=u++t:=by
 unfold L02;split
 ·exact⟨_,rfl⟩
 ·exact⟨[],by simp⟩
theorem T00(g:j0)(v:Int):∀(ls u:List Int),∃ t,j9 g v ls u=u++t
 | [],u=>⟨[],by simp[j9]⟩
 |x::r,u=>by
  obtain⟨c,a⟩:=A0e u (D0 g v x)
  obtain⟨d,b⟩:=T00 g v r (L02 u (D0 g v x))
  exact⟨c++d,by rw[j9,b,a,List.append_assoc]⟩
theorem r03{r:Int}{n:Nat}{es:List M0}(a:inG (r,(n:Int),es))(v:Int):∀(ls u:List Int),gud n u->gud n (j9 (r,(n:Int),es) v ls u)
 | [],u,h=>h
 |x::l,u,h=>r03 a v l _ (N0g h (l8 a v x))
theorem B0e{r:Int}{n:Nat}{es:List M0}(a:inG (r,(n:Int),es))(ls:List Int):∀(f i:Nat) (u:List Int),gud n u->gud n (p5 (r,(n:Int),es) ls f i u)
 |0,i,u,h=>h
 |f+1,i,u,h=>by
  unfold p5
  split
  ·exact B0e a ls f _ _ (r03 a _ _ _ h)
  ·exact h
theorem C0e(g:j0)(ls:List Int):∀(f i:Nat) (u:List Int),u.length<=(p5 g ls f i u).length
 |0,i,u=>Nat.le_refl _
 |f+1,i,u=>by
  unfold p5
  split
  ·rename_i v _
   obtain⟨t,e⟩:=T00 g v ls u
   have:=C0e g ls f (i+1) (j9 g v ls u)
   rw[e]at this ⊢;simp only[List.length_append]at this;omega
  ·exact Nat.le_refl _
theorem U0m(r:Int)(n:Nat)(es:List M0)(f:inG (r,(n:Int),es))(z:n<=40)(l:es.length<=1099511627776)(ls:List Int)(o:∀ x∈ls,O3 x)(w:ls.length<=1000000)(i:Nat)(v:Int):∀(d k fuel:Nat) (u:List Int),gud n u->u[i]?=some v->k+d=ls.length->d<fuel ->
  V3 ls (i:Int) r (n:Int) es fuel (k:Int) u=some (j9 (r,(n:Int),es) v (ls.drop k) u)
 |d,k,0,u,b,a,g,hf=>by omega
 |0,k,fuel+1,u,b,a,g,hf=>by
  rw[V3.eq_2,if_neg (by simp;omega),N1 (by omega)];rfl
 |d+1,k,fuel+1,u,b,a,g,hf=>by
  have m:k<ls.length:=by omega
  have c:=V5 m
  have p:=o _ (List.mem_of_getElem? c)
  have j:=L1 c
  generalize ls[k]=x at c p j
  have D:=R6 n u b.1 b.2
  have A:D0 (r,(n:Int),es) v x = -1∨(0<=D0 (r,(n:Int),es) v x/\D0 (r,(n:Int),es) v x<(n:Int)):=l8 f v x
  have q:=N0g b A
  have s:(L02 u (D0 (r,(n:Int),es) v x))[i]?=some v:=by
   obtain⟨t,e⟩:=A0e u (D0 (r,(n:Int),es) v x)
   rw[e,List.getElem?_append_left (List.getElem?_eq_some_iff.1 a).1];exact a
  have C:=U0m r n es f z l ls o w i v d (k+1) fuel _ q s (by omega) (by omega)
  rw[V3.eq_2,if_pos (by simp;omega),j]
  simp only[T2 a,T2 c,oB,N8 (r,(n:Int),es) v x p l,F0 (Z7 f (show(n:Int)<=40 by omega) v x),G2 m (show ls.length<=9223372036854775807 by omega),j9]
  rw[←C]
  generalize D0 (r,(n:Int),es) v x=y at *
  unfold L02
  by_cases c1:0<=y
  ·simp only[show decide (y ≥ 0)=true by simpa using c1,Q2,r08 u y (by omega),oB,cond_true]
   by_cases c2:y∈u
   ·rw[if_neg (by simp[c2]),if_neg (by simp[c2])]
   ·rw[if_pos (by simp[c2]),if_pos ⟨c1,c2⟩,F0 (by simp;omega),oB]
  ·simp only[show decide (y ≥ 0)=false by simpa using c1,o5,oB,cond_false]
   rw[if_neg (by simp),if_neg (λh=>c1 h.1)]
theorem V0m(r:Int)(n:Nat)(es:List M0)(c:inG (r,(n:Int),es))(l:n<=40)(g:es.length<=1099511627776)(ls:List Int)(k:∀ x∈ls,O3 x)(j:ls.length<=1000000):∀(f i fuel:Nat) (u:List Int),gud n u->i<=u.length->n+1<=i+f->f<fuel ->
  i5 ls r (n:Int) es fuel (i:Int) u=some (p5 (r,(n:Int),es) ls f i u)
 |f,i,0,u,a,h,d,hf=>by omega
 |0,i,fuel+1,u,a,h,d,hf=>by have:=R6 n u a.1 a.2;omega
 |f+1,i,fuel+1,u,a,h,d,hf=>by
  have o:=R6 n u a.1 a.2
  rw[i5.eq_2,oB,F0 (by omega),oB]
  by_cases hk:i<u.length
  ·have b:=V5 hk
   generalize u[i]=v at b
   have h0:=U0m r n es c l g ls k j i v ls.length 0 U0 u a b (by omega) (C1 (by omega))
   rw[show((0:Nat):Int)=0 from rfl,List.drop_zero]at h0
   obtain⟨t,e⟩:=T00 (r,(n:Int),es) v ls u
   have m:=V0m r n es c l g ls k j f (i+1) fuel _ (r03 c v ls u a) (by rw[e,List.length_append];omega) (by omega) (by omega)
   rw[if_pos (by simpa using hk),h0,oB,G2 hk (by omega),m]
   simp only[p5,b]
  ·have b:u[i]?=none:=List.getElem?_eq_none (by omega)
   rw[if_neg (by simpa using hk)]
   simp only[p5,b]
def l3(g:j0):List Int:=p5 g (P1 g.1.toNat 1) (g.2.1.toNat+1) 0 [0]
theorem G02{g:j0}(hf:C0 g=true):gud g.2.1.toNat (l3 g)/\1<=(l3 g).length:=by
 obtain⟨b,c,d,e⟩:=Q0 hf
 obtain⟨r,n,es⟩:=g
 simp only at c d e
 obtain⟨N,rfl⟩:∃ N:Nat,n=(N:Int):=⟨n.toNat,by omega⟩
 refine⟨?_,?_⟩
 ·exact B0e b _ _ _ _ ⟨by simp,λx a=>by simp at a;subst a;show(0:Int)<=0/\(0:Int)<(((N:Int).toNat:Nat):Int);omega⟩
 ·exact C0e _ _ _ _ [0]
theorem U0j(g:j0)(hf:C0 g=true):I8 g=some (l3 g):=by
 obtain⟨b,c,d,e⟩:=Q0 hf
 have f:=i9 g (by omega)
 obtain⟨r,n,es⟩:=g
 simp only at c d e
 obtain⟨N,rfl⟩:∃ N:Nat,n=(N:Int):=⟨n.toNat,by omega⟩
 obtain⟨R,rfl⟩:∃ R:Nat,r=(R:Int):=⟨r.toNat,by omega⟩
 unfold I8
 have h0:=V0m (R:Int) N es b (by omega) (by omega) (P1 R 1) (d04 R 1 (by omega)) (by rw[o8];omega) (N+1) 0 U0 [0] ⟨by simp,λx a=>by simp at a;subst a;omega⟩ (by simp) (by omega) (C1 (by omega))
 simp only[f,hf,oB,Bool.not_true,P0b R (by omega)]
 rw[show((0:Nat):Int)=0 from rfl]at h0
 rw[if_neg (by simp),h0]
 rfl
theorem W0m{a:List Int}(la:a.length<=1099511627776):l01 a=some a:=by
 unfold l01
 rw[F0 (by simp;omega)];rfl
def K9(W:List (Option (List Int)))(x:Int):Option (List Int):=W.getD x.toNat none
theorem giO{a:List (Option (List Int))}{n:Nat}(f:a.length=n){x:Int}(h0:0<=x)(d:x<n):gi a x=some (K9 a x):=by
 have c:x.toNat<a.length:=by omega
 have e:x=((x.toNat:Nat):Int):=by omega
 have b:gi a ((x.toNat:Nat):Int)=some (K9 a x):=by
  rw[H0b,List.getElem?_eq_getElem c]
  unfold K9
  rw[List.getD_eq_getElem?_getD,List.getElem?_eq_getElem c];rfl
 rw[←e]at b;exact b
theorem n01{A:List (Option (List Int))}{v x:Int}{y:Option (List Int)}(h0:0<=v)(a:v.toNat<A.length)(b:0<=x):K9 (A.set v.toNat y) x=if x=v then y else K9 A x:=by
 unfold K9
 rw[List.getD_eq_getElem?_getD,List.getD_eq_getElem?_getD,List.getElem?_set]
 by_cases c:x=v
 ·rw[if_pos c,if_pos (by rw[c]),if_pos a];rfl
 ·rw[if_neg c,if_neg (by omega)]
structure WOk (n:Nat) (W:List (Option (List Int))) (u:List Int):Prop where
 len:W.length=n
 iff:∀ x,0<=x->x<(n:Int)->((K9 W x).isNone=true↔x ∉ u)
 short:∀ x,((K9 W x).getD []).length<=u.length
theorem X0m(r:Int)(n:Nat)(es:List M0)(l:inG (r,(n:Int),es))(G:n<=40)(s:es.length<=1099511627776)(ls:List Int)(w:∀ x∈ls,O3 x)(F:ls.length<=1000000)(v:Int)(m:0<=v/\v<(n:Int)):∀(d k fuel:Nat) (b:List (Option (List Int))) (u:List Int),gud n u->WOk n b u->k+d=ls.length->d<fuel ->
  ∃ i,Q3 ls r (n:Int) es v fuel (k:Int) b u=some (i,j9 (r,(n:Int),es) v (ls.drop k) u)/\WOk n i (j9 (r,(n:Int),es) v (ls.drop k) u)
 |d,k,0,b,u,g,a,p,hf=>by omega
 |0,k,fuel+1,b,u,g,a,p,hf=>by
  rw[Q3.eq_2,if_neg (by simp;omega),N1 (by omega)];exact⟨b,rfl,a⟩
 |d+1,k,fuel+1,b,u,g,a,p,hf=>by
  have t:k<ls.length:=by omega
  have j:=V5 t
  have C:=w _ (List.mem_of_getElem? j)
  have q:=L1 j
  generalize ls[k]=x at j C q
  have J:=R6 n u g.1 g.2
  have H:D0 (r,(n:Int),es) v x = -1∨(0<=D0 (r,(n:Int),es) v x/\D0 (r,(n:Int),es) v x<(n:Int)):=l8 l v x
  have E:=N0g g H
  have f:=λi h=>X0m r n es l G s ls w F v m d (k+1) fuel i _ E h (by omega) (by omega)
  rw[Q3.eq_2,if_pos (by simp;omega),q]
  simp only[T2 j,oB,g00 (r,(n:Int),es) v x C s,F0 (Z7 l (show(n:Int)<=40 by omega) v x),G2 t (show ls.length<=9223372036854775807 by omega),j9]
  generalize D0 (r,(n:Int),es) v x=y at *
  by_cases c1:0<=y
  ·have o:y<(n:Int):=by omega
   simp only[show decide (y ≥ 0)=true by simpa using c1,Q2,giO a.len c1 o,oB,cond_true]
   by_cases c2:y∈u
   ·have : ¬ ((K9 b y).isNone=true):=λh=>(a.iff y c1 o).1 h c2
    have e:L02 u y=u:=if_neg λh=>h.2 c2
    rw[if_neg this]
    rw[e]at f ⊢
    exact f b a
   ·have:(K9 b y).isNone=true:=(a.iff y c1 o).2 c2
    have e:L02 u y=u ++ [y]:=if_pos ⟨c1,c2⟩
    have A:=a.short v
    rw[if_pos this,giO a.len m.1 m.2,oB,W0m (by omega),oB,F0 (by simp;omega),oB,F0 (by simp;omega),oB]
    rw[e]at f ⊢
    refine f _ ⟨by simp[a.len],λz h0 D=>?_,λz=>?_⟩
    ·rw[n01 c1 (by have:=a.len;omega) h0]
     by_cases c:z=y
     ·rw[if_pos c];simp[c]
     ·rw[if_neg c,a.iff z h0 D];simp[c]
    ·by_cases hz:0<=z
     ·rw[n01 c1 (by have:=a.len;omega) hz]
      by_cases c:z=y
      ·rw[if_pos c];simp;exact A
      ·rw[if_neg c];have:=a.short z;simp only[List.length_append];omega
     ·have I:K9 (b.set y.toNat (some ((K9 b v).getD [] ++ [x]))) z=K9 (b.set y.toNat (some ((K9 b v).getD [] ++ [x]))) 0:=by
       unfold K9;rw[show z.toNat=(0:Int).toNat by omega]
      rw[I,n01 c1 (by have:=a.len;omega) (iR 0)]
      by_cases c:(0:Int)=y
      ·rw[if_pos c];simp;exact A
      ·rw[if_neg c];have:=a.short 0;simp only[List.length_append];omega
  ·have e:L02 u y=u:=if_neg λh=>c1 h.1
   simp only[show decide (y ≥ 0)=false by simpa using c1,o5,oB,cond_false]
   rw[if_neg (by simp)]
   rw[e]at f ⊢
   exact f b a
theorem Y0m(R n:Nat)(h:R<=900)(es:List M0)(d:inG ((R:Int),(n:Int),es))(m:n<=40)(k:es.length<=1099511627776):∀(f i fuel:Nat) (b:List (Option (List Int))) (u:List Int),gud n u->WOk n b u->i<=u.length->n+1<=i+f->f<fuel ->
  ∃ q,Y4 (R:Int) (n:Int) es fuel (i:Int) b u=some (q,p5 ((R:Int),(n:Int),es) (P1 R 1) f i u)
 |f,i,0,b,u,a,g,l,j,hf=>by omega
 |0,i,fuel+1,b,u,a,g,l,j,hf=>by have:=R6 n u a.1 a.2;omega
 |f+1,i,fuel+1,b,u,a,g,l,j,hf=>by
  have y:=R6 n u a.1 a.2
  rw[Y4.eq_2,oB,F0 (by omega),oB]
  by_cases hk:i<u.length
  ·have c:=V5 hk
   have o:=a.2 _ (List.mem_of_getElem? c)
   generalize u[i]=v at c o
   obtain⟨s,h0,p⟩:=X0m (R:Int) n es d m k (P1 R 1) (d04 R 1 (by omega)) (by rw[o8];omega) v o (P1 R 1).length 0 U0 b u a g (by omega) (C1 (by rw[o8];omega))
   rw[show((0:Nat):Int)=0 from rfl,List.drop_zero]at h0
   rw[List.drop_zero]at p
   obtain⟨t,e⟩:=T00 ((R:Int),(n:Int),es) v (P1 R 1) u
   obtain⟨x,w⟩:=Y0m R n h es d m k f (i+1) fuel s _ (r03 d v _ u a) p (by rw[e,List.length_append];omega) (by omega) (by omega)
   rw[if_pos (by simpa using hk),T2 c,oB,O0b R h,oB,h0,oB]
   simp only[G2 hk (show u.length<=9223372036854775807 by omega),w,p5,c]
   exact⟨_,rfl⟩
  ·have c:u[i]?=none:=List.getElem?_eq_none (by omega)
   rw[if_neg (by simpa using hk)]
   simp only[p5,c]
   exact⟨_,rfl⟩
theorem V0j(g:j0)(hf:C0 g=true):J8 g=some (l3 g):=by
 obtain⟨a,e,f,h⟩:=Q0 hf
 have i:=n8 g (by omega)
 obtain⟨r,n,es⟩:=g
 simp only at e f h
 obtain⟨N,rfl⟩:∃ N:Nat,n=(N:Int):=⟨n.toNat,by omega⟩
 obtain⟨R,rfl⟩:∃ R:Nat,r=(R:Int):=⟨r.toNat,by omega⟩
 unfold J8
 have b:∀ x,K9 (List.replicate N (none:Option (List Int))) x=none:=λx=>by
  unfold K9
  rw[List.getD_eq_getElem?_getD,List.getElem?_replicate];split<;>rfl
 have j:WOk N ((List.replicate N (none:Option (List Int))).set (0:Int).toNat (some [])) [0]:=by
  refine⟨by simp,λx h0 a=>?_,λx=>?_⟩
  ·rw[n01 (iR 0) (by simp;omega) h0]
   by_cases c:x=0
   ·rw[if_pos c];simp[c]
   ·rw[if_neg c,b];simp[c]
  ·by_cases hz:0<=x
   ·rw[n01 (iR 0) (by simp;omega) hz]
    split
    ·simp
    ·rw[b];simp
   ·have:K9 ((List.replicate N (none:Option (List Int))).set (0:Int).toNat (some [])) x=K9 ((List.replicate N (none:Option (List Int))).set (0:Int).toNat (some [])) 0:=by
     unfold K9;rw[show x.toNat=(0:Int).toNat by omega]
    rw[this,n01 (iR 0) (by simp;omega) (iR 0),if_pos rfl];simp
 obtain⟨l,h0⟩:=Y0m R N (by omega) es a (by omega) (by omega) (N+1) 0 U0 _ [0] ⟨by simp,λx d=>by simp at d;subst d;omega⟩ j (by simp) (by omega) (C1 (by omega))
 have k:gi (List.replicate N (none:Option (List Int))) 0=some none:=by
  rw[x09 (x:=none)];rw[List.getElem?_replicate,if_pos (by omega)]
 simp only[i,hf,oB,Bool.not_true,a7,Int.toNat_natCast]
 rw[if_neg (by simp),F0 (by omega),oB,k,oB]
 rw[show((0:Nat):Int)=0 from rfl]at h0
 rw[h0]
 rfl
def L3(g:j0):j0:=L5 g (l3 g)
theorem N07(g:j0)(hf:C0 g=true):o7 g=some (L3 g):=by
 obtain⟨b,d,f,h⟩:=Q0 hf
 have i:=n8 g (by omega)
 have j:=V0j g hf
 obtain⟨a,m⟩:=G02 hf
 have k:=R6 _ _ a.1 a.2
 obtain⟨r,n,es⟩:=g
 simp only at d f h
 obtain⟨N,rfl⟩:∃ N:Nat,n=(N:Int):=⟨n.toNat,by omega⟩
 simp only[Int.toNat_natCast]at a k
 have l:=j0i r N es (l3 (r,(N:Int),es)) (λe c=>⟨(b e c).1,(b e c).2.1⟩) a.2 (by omega) (by omega) (by omega)
 unfold o7
 simp only[i,hf,oB,Bool.not_true,j,l]
 rfl
theorem O07(g:j0)(hf:C0 g=true):n7 g=some (L3 g):=by
 obtain⟨l,d,e,f⟩:=Q0 hf
 have i:E1 g=true:=by
  unfold C0 at hf;exact(Bool.and_eq_true _ _▸hf).1
 have j:=U0j g hf
 obtain⟨a,b⟩:=G02 hf
 have c:=R6 _ _ a.1 a.2
 obtain⟨r,n,es⟩:=g
 simp only at d e f
 obtain⟨N,rfl⟩:∃ N:Nat,n=(N:Int):=⟨n.toNat,by omega⟩
 simp only[Int.toNat_natCast]at a c
 have k:=z09 r N es (l3 (r,(N:Int),es)) i a.2 a.1 b c
 unfold n7
 simp only[oB,j,k]
 rw[if_neg (by simp;intro h;rw[h]at b;simp at b)]
 rfl
def lf(a:Nat->Bool):Nat->Nat->Option Nat
 |0,v=>none
 |d+1,v=>bif a v then some v else lf a d (v+1)
theorem P07{a:Nat->Bool}:∀(d v k:Nat),lf a d v=some k->v<=k/\k<v+d
 |0,v,k,h=>by cases h
 |d+1,v,k,h=>by
  unfold lf at h
  cases hb:a v
  ·rw[hb]at h;have:=P07 d (v+1) k h;omega
  ·rw[hb]at h;cases h;omega
theorem D0e{a b:Nat->Bool}:∀(d v:Nat),(∀ k,v<=k->k<v+d->a k=b k)->lf a d v=lf b d v
 |0,v,h=>rfl
 |d+1,v,h=>by unfold lf;rw[h v (Nat.le_refl _) (by omega),D0e d (v+1) λk c e=>h k (by omega) (by omega)]
def v0o(es:List M0):List Int:=itS es (es.length+1) [0]
def H06(es:List M0)(v:Nat):Bool:=decide (O8 (v:Int) es<2) || !decide ((v:Int)∈v0o es)
def w7(g:j0):Option Nat:=lf (H06 g.2.2) (g.2.1.toNat-1) 1
theorem K0l(g:j0)(b:E1 g=true):e00 g 0=some (v0o g.2.2)/\(v0o g.2.2).length<=100000:=by
 obtain⟨i,d,e,a⟩:=Z0 b
 have h:=P9 g (by omega)
 obtain⟨r,n,es⟩:=g
 simp only at d e a
 unfold e00 v0o
 have c:=w0e es a (es.length+1) 0 U0 [0] (by omega) (C1 (by omega)) (by simp)
 have f:=N0m es (es.length+1) [0]
 refine⟨?_,?_⟩
 ·rw[show((0:Nat):Int)=0 from rfl]at c
  simp only[h,b,oB,Bool.not_true,Bool.not_false,Q2,N04,inR,w64 (show -9223372036854775808<=n-1 by omega) (show n-1<=9223372036854775807 by omega)]
  rw[if_neg (by simp;omega),c];rfl
 ·have:(es.length+1)*(2*es.length)<=121*240:=Nat.mul_le_mul (by omega) (by omega)
  simp only[List.length_singleton]at f
  simp only
  omega
theorem Z0p(r:Int)(n:Nat)(es:List M0)(e:es.length<=1000)(u:List Int)(g:u.length<=100000)(f:n<=40):∀(d v fuel:Nat),v+d=n∨(d=0/\n<=v)->v<=1000->d<fuel ->
  B8 (n:Int) r es u fuel (v:Int)=some (match lf (λv=>decide (O8 (v:Int) es<2) || !decide ((v:Int)∈u)) d v with|some k => .inl (k:Int)|none => .inr ())
 |d,v,0,b,c,hf=>by omega
 |0,v,fuel+1,b,c,hf=>by
  rw[B8.eq_2,if_neg (by simp;omega)];rfl
 |d+1,v,fuel+1,b,c,hf=>by
  have h:=Z0p r n es e u g f d (v+1) fuel (by omega) (by omega) (by omega)
  have i:=f0i (v:Int) es
  rw[B8.eq_2,if_pos (by simp;omega),K0b (r,(n:Int),es) _ (by simp only;omega),oB,F0 (c64 (by simp only;omega) (by simp only;omega)),oB,G2 (show v<10000 by omega) (by omega)]
  unfold lf
  by_cases c1:O8 (v:Int) es<2
  ·have a:decide (((O8 (v:Int) es:Nat):Int)<2)=true:=decide_eq_true (by omega)
   simp only[a,Bool.not_true,o5,oB,cond_true,if_true,decide_eq_true c1,Bool.true_or]
  ·have a:decide (((O8 (v:Int) es:Nat):Int)<2)=false:=decide_eq_false (by omega)
   simp only[a,Bool.not_false,Q2,r08 u _ (show u.length<=9223372036854775807 by omega),oB,cond_false,decide_eq_false c1,Bool.false_or]
   by_cases c2:(v:Int)∈u
   ·simp only[decide_eq_true c2,Bool.not_true,Bool.false_eq_true,if_false,cond_false];exact h
   ·simp only[decide_eq_false c2,Bool.not_false,if_true,cond_true]
theorem a0q(g:j0)(c:E1 g=true):y01 g=some (match w7 g with|some k=>(k:Int)|none => -1):=by
 obtain⟨a,b⟩:=K0l g c
 obtain⟨i,d,e,f⟩:=Z0 c
 obtain⟨r,n,es⟩:=g
 simp only at d e f a b
 obtain⟨N,rfl⟩:∃ N:Nat,n=(N:Int):=⟨n.toNat,by omega⟩
 unfold y01 w7
 have h:=Z0p r N es (by omega) (v0o es) b (by omega) (N-1) 1 U0 (by omega) (by omega) (C1 (by omega))
 simp only[a,oB,Int.toNat_natCast]
 rw[show(1:Int)=((1:Nat):Int) from rfl,h]
 rw[show(λv:Nat=>decide (O8 (v:Int) es<2) || !decide ((v:Int)∈v0o es))=H06 es from rfl]
 cases lf (H06 es) (N-1) 1<;>rfl
theorem k0i(r:Int)(n:Nat)(es:List M0)(o:es.length<=1000)(a:List Bool)(g:a.length=n)(p:n<=40):∀(d v fuel:Nat),1<=v->v+d=n∨(d=0/\n<=v)->v<=1000->d+1<fuel ->
  F4 (n:Int) r es a fuel 0 (v:Int)=some (match lf (λv=>decide (O8 (v:Int) es<2) || !S9 a (v:Int)) d v with|some k=>(k:Int)|none=>0)
 |d,v,0,f,h,j,hf=>by omega
 |0,v,fuel+1,f,h,j,hf=>by
  have e:decide ((v:Int)<(n:Int))=false:=decide_eq_false (by omega)
  rw[F4.eq_2,if_neg (by rw[e];simp)];rfl
 |d+1,v,fuel+1,f,h,j,hf=>by
  have q:=k0i r n es o a g p d (v+1) fuel (by omega) (by omega) (by omega) (by omega)
  have s:=f0i (v:Int) es
  have e:decide ((v:Int)<(n:Int))=true:=decide_eq_true (by omega)
  have i:∀ w:Int,F4 (n:Int) r es a fuel (v:Int) w=some (v:Int):=λw=>by
   obtain _|fuel:=fuel
   ·omega
   ·have l:decide ((v:Int)=0)=false:=decide_eq_false (by omega)
    have m:∀ b:Bool,(bif b then false else false)=false:=λb=>by cases b<;>rfl
    rw[F4.eq_2,if_neg (by rw[l,m];simp)]
  rw[F4.eq_2,if_pos (by rw[e];rfl),G0g (r,(n:Int),es) _ (by simp only;omega),oB,F0 (c64 (by simp only;omega) (by simp only;omega)),oB,G2 (show v<10000 by omega) (by omega)]
  unfold lf
  by_cases c1:O8 (v:Int) es<2
  ·have c:decide (((O8 (v:Int) es:Nat):Int)<2)=true:=decide_eq_true (by omega)
   simp only[c,Bool.not_true,o5,oB,cond_true,if_true,decide_eq_true c1,Bool.true_or,i]
  ·have c:decide (((O8 (v:Int) es:Nat):Int)<2)=false:=decide_eq_false (by omega)
   simp only[c,Bool.not_false,Q2,giB g (show(0:Int)<=(v:Int) by omega) (show(v:Int)<(n:Int) by omega),oB,cond_false,decide_eq_false c1,Bool.false_or]
   cases hb:S9 a (v:Int)
   ·simp only[Bool.not_false,if_true,cond_true,i]
   ·simp only[Bool.not_true,Bool.false_eq_true,if_false,cond_false];exact q
def wo(g:Nat):Nat->Nat->List Int
 |0,k=>[]
 |d+1,k=>if k=g then wo g d (k+1)else(k:Int)::wo g d (k+1)
theorem Q0b(g:Nat):∀(d k:Nat),(wo g d k).length=d-(if k<=g/\g<k+d then 1 else 0)
 |0,k=>by simp[wo]
 |d+1,k=>by
  have a:=Q0b g d (k+1)
  unfold wo
  by_cases c:k=g
  ·rw[if_pos c,a,if_neg (by omega),if_pos (by omega)];omega
  ·rw[if_neg c,List.length_cons,a]
   by_cases c2:k+1<=g/\g<k+1+d
   ·rw[if_pos c2,if_pos (by omega)];omega
   ·rw[if_neg c2,if_neg (by omega)];omega
theorem O0g(g n:Nat):∀(d k:Nat),k+d<=n->inV n (wo g d k)
 |0,k,h=>λx a=>nomatch a
 |d+1,k,h=>by
  have b:=O0g g n d (k+1) (by omega)
  unfold wo
  split
  ·exact b
  ·intro x a
   rcases List.mem_cons.1 a with rfl|a
   ·omega
   ·exact b x a
theorem l0i(n g:Nat)(j:n<=1000):∀(d k fuel:Nat) (acc:List Int),k+d=n->d<fuel->acc.length<=k ->
  J5 (n:Int) (g:Int) fuel (k:Int) acc=some (acc++wo g d k)
 |d,k,0,acc,b,hf,a=>by omega
 |0,k,fuel+1,acc,b,hf,a=>by
  rw[J5.eq_2,if_neg (by simp;omega)];simp[wo]
 |d+1,k,fuel+1,acc,b,hf,a=>by
  have f:=λi h=>l0i n g j d (k+1) fuel i (by omega) (by omega) h
  rw[J5.eq_2,if_pos (by simp;omega),G2 (show k<10000 by omega) (by omega)]
  unfold wo
  by_cases c:k=g
  ·have e:decide ((k:Int)=(g:Int))=true:=decide_eq_true (by omega)
   rw[e,if_neg (by simp),if_pos c,f _ (by omega)]
  ·have e:decide ((k:Int)=(g:Int))=false:=decide_eq_false (by omega)
   rw[e,if_pos (show(!false)=true from rfl),if_neg c,F0 (by simp;omega),oB,f _ (by simp;omega)]
   simp
theorem m0i(n:Nat)(f:n<=1000):∀(d k fuel:Nat) (acc:List Int),k+d=n->d<fuel->acc.length=k ->
  ∃ u,j6 (n:Int) fuel (k:Int) acc=some u/\u.length=n
 |d,k,0,acc,b,hf,a=>by omega
 |0,k,fuel+1,acc,b,hf,a=>by
  rw[j6.eq_2,if_neg (by simp;omega)];exact⟨_,rfl,by omega⟩
 |d+1,k,fuel+1,acc,b,hf,a=>by
  obtain⟨u,c,e⟩:=m0i n f d (k+1) fuel (acc ++ [(k:Int)]) (by omega) (by omega) (by simp;omega)
  rw[j6.eq_2,if_pos (by simp;omega),G2 (show k<10000 by omega) (by omega),F0 (by simp;omega),oB,c]
  exact⟨u,rfl,e⟩
theorem W0j{a:Type}{xs:List a}{k:Nat}(h:k<=xs.length):D06 xs 0 (k:Int)=some (xs.take k):=by
 unfold D06
 rw[if_pos (by omega)];rfl
theorem Z0m:∀(n fuel:Nat) (left:List Int) (r:Int) (es:List M0),1<=n->n<=40->inN n es->es.length<=120->left.length=n->n<fuel ->
  ∃(a:j0) (e:List Int),K5 fuel left r (n:Int) es=some (.inl (a,e))/\a.2.1<=(n:Int)/\(a.2.1=(n:Int)↔lf (H06 es) (n-1) 1=none)
 |n,0,left,r,es,f,g,b,u,w,hf=>by omega
 |n,fuel+1,left,r,es,f,g,b,u,w,hf=>by
  obtain⟨c,q,A,s⟩:=R0j r n es b (by omega) f (by omega)
  have o:=k0i r n es (by omega) c A g (n-1) 1 U0 (Nat.le_refl _) (by omega) (by omega) (C1 (by omega))
  have t:lf (λv=>decide (O8 (v:Int) es<2) || !S9 c (v:Int)) (n-1) 1=lf (H06 es) (n-1) 1:=D0e _ _ λk E F=>by
   unfold H06
   have:=s (k:Int) (by omega) (by omega)
   have i:=c04 es 0 (k:Int)
   congr 2
   cases hb:S9 c (k:Int)
   ·symm;exact decide_eq_false λh=>by rw[this.2 (i.1 h)]at hb;cases hb
   ·symm;exact decide_eq_true (i.2 (this.1 hb))
  rw[t]at o
  rw[K5.eq_2,q,oB,show(1:Int)=((1:Nat):Int) from rfl,o,oB]
  cases hlf:lf (H06 es) (n-1) 1 with
  |none =>
   exact⟨(r,(n:Int),es),left,by rw[if_pos (by rfl)],iR _,by simp⟩
  |some k =>
   have D:=P07 _ _ _ hlf
   have p:decide ((k:Int)=0)=false:=decide_eq_false (by omega)
   have j:=O0g k n n 0 (by omega)
   have d:=Q0b k n 0
   rw[if_pos (by omega)]at d
   have m:=l0i n k (by omega) n 0 U0 [] (by omega) (C1 (by omega)) (Nat.le_refl _)
   rw[show((0:Nat):Int)=0 from rfl,List.nil_append]at m
   have x:=j0i r n es (wo k n 0) b j (by omega) (by omega) (by omega)
   have y:=y09 (r,(n:Int),es) (wo k n 0)
   have l:=M0g (r:=r) j b
   have z:IntKind.i64.wrap ((k:Int)+((1:Nat):Int))=((k+1:Nat):Int):=by rw[w64 (by omega) (by omega)];rfl
   obtain⟨a,e,C,G,H⟩:=Z0m (n-1) fuel (left.take k++left.drop (k+1)) r (L5 (r,(n:Int),es) (wo k n 0)).2.2 (by omega) (by omega) (by rw[d]at l;exact l) (by simp only at y;omega) (by simp only[List.length_append,List.length_take,List.length_drop];omega) (by omega)
   refine⟨a,e,?_,by omega,?_⟩
   ·simp only[p,Bool.false_eq_true,if_false,m,oB,x]
    rw[show L5 (r,(n:Int),es) (wo k n 0)=(r,((n-1:Nat):Int),(L5 (r,(n:Int),es) (wo k n 0)).2.2) by rw[←d];rfl]
    simp only[z]
    rw[W0j (by omega),oB,P04 (by omega),oB,F0 (by simp only[List.length_take,List.length_drop];omega),oB,C]
   ·constructor
    ·intro h;omega
    ·intro h;cases h
theorem L0l(g:j0)(i:E1 g=true):∃(a:j0) (b:List Int),N7 g=some (a,b)/\(a.2.1=g.2.1↔w7 g=none):=by
 obtain⟨d,k,l,f⟩:=Z0 i
 have p:=q02 g (by omega)
 have m:=O01 g (by omega)
 obtain⟨r,n,es⟩:=g
 simp only at k l f
 obtain⟨N,rfl⟩:∃ N:Nat,n=(N:Int):=⟨n.toNat,by omega⟩
 have o:inN N es:=λe h=>⟨(d e h).1,(d e h).2.1⟩
 obtain⟨u,c,j⟩:=m0i N (by omega) N 0 U0 [] (by omega) (C1 (by omega)) rfl
 obtain⟨a,b,q,t,s⟩:=Z0m N U0 u r es (by omega) (by omega) o f j (C1 (by omega))
 refine⟨a,b,?_,?_⟩
 ·unfold N7
  rw[show((0:Nat):Int)=0 from rfl]at c
  simp only[m,oB,p,i,Bool.not_true,Bool.false_eq_true,if_false,c,q,I9]
 ·simp only[w7,Int.toNat_natCast];exact s
def T0(g:j0):Bool:=C0 g&&((w7 g).isNone&&q0e (L3 g) g)
theorem K0{g:j0}(h:C0 g=true):E1 g=true:=by
 unfold C0 at h;exact(Bool.and_eq_true _ _▸h).1
theorem R0b{g:j0}(hf:C0 g=true):(L3 g).2.2.length<=120:=by
 have:=y09 g (l3 g)
 have:=(Q0 hf).2.2.2
 unfold L3;omega
theorem p8(g:j0)(j:g.2.2.length<=140737488355328):J4 g=some (T0 g):=by
 have b:=n8 g j
 unfold T0
 by_cases hf:C0 g=true
 ·obtain⟨e,t,d,a⟩:=L0l g (K0 hf)
  have f:=N07 g hf
  have h:=t0o (L3 g) g (by have:=R0b hf;omega)
  obtain⟨r,n,es⟩:=g
  obtain⟨u,m,s⟩:=e
  unfold J4
  simp only at a
  generalize L3 (r,n,es)=C at *
  obtain⟨o,p,q⟩:=C
  simp only[b,hf,oB,Bool.not_true,Bool.false_eq_true,if_false,d,f]
  by_cases c:m=n
  ·have:=a.1 c
   simp only[decide_eq_true c,Q2,oB,h,cond_true,this,Option.isNone_none,Bool.true_and]
  ·have l:(w7 (r,n,es)).isNone=false:=by
    cases hq:w7 (r,n,es)with
    |none=>exact absurd (a.2 hq) c
    |some k=>rfl
   simp only[decide_eq_false c,o5,oB,cond_false,l,Bool.false_and,Bool.and_false]
 ·have i:C0 g=false:=Bool.eq_false_iff.2 hf
  obtain⟨r,n,es⟩:=g
  unfold J4
  simp only[b,i,oB,Bool.not_false,if_true,Bool.false_and]
theorem e04(g:j0)(j:g.2.2.length<=140737488355328):K00 g=some (T0 g):=by
 have a:=i9 g j
 unfold T0
 by_cases hf:C0 g=true
 ·have f:=a0q g (K0 hf)
  have d:=O07 g hf
  have e:=u0o (L3 g) g (by have:=R0b hf;omega)
  obtain⟨p,q,c,s⟩:=Q0 hf
  obtain⟨r,n,es⟩:=g
  unfold K00
  generalize L3 (r,n,es)=C at *
  obtain⟨l,m,o⟩:=C
  simp only[a,hf,oB,Q2,f,cond_true]
  cases hq:w7 (r,n,es)with
  |none =>
   simp only[F0 (show I0 (-1) by decide),oB,show decide ((-1:Int)<0)=true from rfl,Q2,d,e,cond_true,Option.isNone_none,Bool.true_and]
  |some k =>
   have i:=P07 _ _ _ hq
   simp only at c
   simp only at i
   have b:decide ((k:Int)<0)=false:=decide_eq_false (by omega)
   simp only[F0 (show I0 (k:Int) from c64 (by omega) (by omega)),oB,b,o5,cond_false,Option.isNone_some,Bool.false_and,Bool.and_false]
 ·have h:C0 g=false:=Bool.eq_false_iff.2 hf
  obtain⟨r,n,es⟩:=g
  unfold K00
  simp only[a,h,oB,o5,F0 (show I0 0 by decide),cond_false,Bool.false_and]
def t0t(l:e0d):Prop:=l.length<=140737488355328/\∀ e∈l,e.1.size<=140737488355328/\e.2.2.2.length<=140737488355328
def b0q(l:e0d):Prop:=l.length<=1048576/\∀ e∈l,e.1.size<=1048576/\e.2.2.2.length<=1048576
theorem b0q.ok{l:e0d}(h:b0q l):t0t l:=⟨by have:=h.1;omega,λe a=>by have:=h.2 e a;omega⟩
theorem X0j{e:Type}{c:e->e->Int}(h:q00 c):∀ {l:List e},(∀ i x y,l[i]?=some x->l[i+1]?=some y->c x y<0)->Asc c l
 | [],_=>List.Pairwise.nil
 | [x],_=>List.pairwise_singleton _ _
 |x::y::l,f=>by
  have j:Asc c (y::l):=X0j h λi a b k m=>f (i+1) a b (by simpa using k) (by simpa using m)
  have g:=f 0 x y rfl rfl
  refine List.pairwise_cons.2 ⟨λz d=>?_,j⟩
  rcases List.mem_cons.1 d with rfl|d
  ·exact g
  ·exact h.trans _ _ _ g ((List.pairwise_cons.1 j).1 z d)
theorem c0q{d:Type}{e:d->d->Int}:∀ {l:List d},Asc e l->∀ {i:Nat} {x y:d},l[i]?=some x->l[i+1]?=some y->e x y<0
 | [],_,i,x,y,b,_=>by simp at b
 |a::l,h,0,x,y,b,c=>by
  simp at b c;subst b
  exact(List.pairwise_cons.1 h).1 y (List.mem_of_getElem? c)
 |a::l,h,i+1,x,y,b,c=>c0q (List.pairwise_cons.1 h).2 (i:=i) (by simpa using b) (by simpa using c)
theorem d0q{r a:Int}{es:List M0}:∀ {d k:Nat},(∀ i,k<=i->i<k+d->N0p r a es i=false)->okE r a es d k=true
 |0,k,h=>rfl
 |d+1,k,h=>by
  simp only[okE,Bool.and_eq_true,Bool.not_eq_true']
  exact⟨h k (Nat.le_refl _) (by omega),d0q λi b c=>h i (by omega) (by omega)⟩
theorem a06(g:j0):E1 g=true↔inG g/\(1<=g.1/\g.1<=3)/\(1<=g.2.1/\g.2.1<=40)/\g.2.2.length<=120/\Asc D1 g.2.2:=by
 constructor
 ·intro h
  obtain⟨m,c,d,k⟩:=Z0 h
  refine⟨m,c,d,k,X0j H8 λi x y a b=>?_⟩
  simp only[E1,Bool.and_eq_true]at h
  have l:=F0l h.1.1.1 (i+1) (Nat.zero_le _) (by have:=(List.getElem?_eq_some_iff.1 b).1;omega)
  rw[t0a b]at l
  simp only[Nat.add_sub_cancel,a,Bool.or_eq_false_iff]at l
  have:=l.2
  simp only[show decide (0<i+1)=true by simp,Bool.true_and,decide_eq_false_iff_not]at this
  have e:i0e x y=D1 x y:=rfl
  omega
 ·rintro⟨m,c,d,k,o⟩
  obtain⟨r,n,es⟩:=g
  simp only at c d k o
  simp only[E1,inR,Bool.and_eq_true,decide_eq_true_eq]
  refine⟨⟨⟨d0q λi _ s=>?_,c⟩,d⟩,k⟩
  have a:=V5 (show i<es.length by omega)
  generalize es[i]=e at a
  rw[t0a a]
  have q:=m e (List.mem_of_getElem? a)
  simp only at q
  simp only[Bool.or_eq_false_iff,Bool.not_eq_false',B05,inR,Bool.and_eq_true,decide_eq_true_eq]
  rw[w64 (by omega) (by omega)]
  refine⟨⟨⟨⟨by omega,by omega⟩,by omega,by omega⟩,by omega,by omega⟩,?_⟩
  cases i with
  |zero=>rfl
  |succ j =>
   have b:=V5 (show j<es.length by omega)
   generalize es[j]=f at b
   have:=c0q o b a
   simp only[Nat.add_sub_cancel,b]
   have p:i0e f e=D1 f e:=rfl
   simp[p];omega
theorem I06{r:Int}{n:Int}{es:List M0}(d:1<=r/\r<=3)(c:1<=n/\n<=40)(f:es.length<=120)(b:inG (r,n,es)):E1 (r,n,F6 D1 [] es)=true:=by
 refine(a06 _).2 ⟨λe a=>b e ?_,d,c,?_,E06 H8 _ _ List.Pairwise.nil⟩
 ·rcases(z9 H8 e es []).1 a with h|h
  ·simp at h
  ·exact h
 ·have:=I03 es []
  simp only[List.length_nil]at this
  simp only;omega
def E0a(a b:M0):List (Int×Int) :=
 bif decide (a.2.1=b.2.1)then(bif decide (a.1=b.1)then [(if b.2.2<a.2.2 then b.2.2 else a.2.2,if b.2.2>a.2.2 then b.2.2 else a.2.2)]else [])++(bif decide (a.2.2=b.2.2)then [(if b.1<a.1 then b.1 else a.1,if b.1>a.1 then b.1 else a.1)]else [])else []
def H02(a:M0):List M0->List (Int×Int)
 | []=>[]
 |b::r=>E0a a b++H02 a r
def U8:List M0->List (Int×Int)
 | []=>[]
 |a::r=>H02 a r++U8 r
theorem w0o(a b:M0):(E0a a b).length<=2:=by
 unfold E0a
 cases decide (a.2.1=b.2.1)<;>cases decide (a.1=b.1)<;>cases decide (a.2.2=b.2.2)<;>simp
theorem S0b(a:M0):∀ l,(H02 a l).length<=2*l.length
 | []=>by simp[H02]
 |b::r=>by have:=w0o a b;have:=S0b a r;simp only[H02,List.length_append,List.length_cons];omega
def mvV(f:Int×Int)(v:Int):Int:=if v=f.2 then f.1 else if v>f.2 then v-1 else v
def mvE(f:Int×Int)(e:M0):M0:=(mvV f e.1,e.2.1,mvV f e.2.2)
def F01(g:j0)(f:Int×Int):j0:=(g.1,g.2.1-1,F6 D1 [] (g.2.2.map (mvE f)))
def okF(g:j0)(f:Int×Int):Prop:=0<=f.1/\f.1<f.2/\f.2<g.2.1
theorem r05{g:j0}{f:Int×Int}(k:E1 g=true)(hf:okF g f):E1 (F01 g f)=true:=by
 obtain⟨l,m,q,n,_⟩:=(a06 g).1 k
 obtain⟨o,f2,f3⟩:=hf
 refine I06 m ⟨by omega,by omega⟩ (by simpa using n) λe i=>?_
 obtain⟨h,j,rfl⟩:=List.mem_map.1 i
 obtain⟨b,c,d⟩:=l h j
 have a:∀ v:Int,0<=v/\v<g.2.1->0<=mvV f v/\mvV f v<g.2.1-1:=λv p=>by
  unfold mvV;split
  ·omega
  ·split<;>omega
 exact⟨a _ b,a _ c,d⟩
theorem Y0j{g:j0}(j:inG g){a:M0}(m:a∈g.2.2):∀ {l:List M0},(∀ b∈l,b∈g.2.2/\a≠b)->∀ f∈H02 a l,okF g f
 | [],_,f,hf=>by simp[H02]at hf
 |b::r,h,f,hf=>by
  rcases List.mem_append.1 (show f∈E0a a b++H02 a r from hf)with hf|hf
  ·have s:=j b (h b mS).1
   have q:=j a m
   have u:=(h b mS).2
   obtain⟨c,n,d⟩:=a
   obtain⟨e,p,i⟩:=b
   simp only at q s
   unfold E0a at hf
   simp only at hf
   by_cases c1:n=p
   ·have k : ¬ (c=e/\d=i):=λ⟨x,y⟩=>u (by rw[x,c1,y])
    simp only[c1,decide_true,cond_true,List.mem_append]at hf
    rcases hf with hf|hf
    ·by_cases c2:c=e
     ·simp only[c2,decide_true,cond_true,List.mem_singleton]at hf
      subst hf
      have:d≠i:=λy=>k ⟨c2,y⟩
      unfold okF
      simp only
      split<;>split<;>omega
     ·simp[c2]at hf
    ·by_cases c2:d=i
     ·simp only[c2,decide_true,cond_true,List.mem_singleton]at hf
      subst hf
      have:c≠e:=λy=>k ⟨y,c2⟩
      unfold okF
      simp only
      split<;>split<;>omega
     ·simp[c2]at hf
   ·simp[c1]at hf
  ·exact Y0j j m (λo t=>h o (mC _ t)) f hf
theorem Z0j{g:j0}(i:inG g):∀ {l:List M0},(∀ b∈l,b∈g.2.2)->Asc D1 l->∀ f∈U8 l,okF g f
 | [],_,_,f,hf=>by simp[U8]at hf
 |a::r,h,d,f,hf=>by
  rcases List.mem_append.1 (show f∈H02 a r++U8 r from hf)with hf|hf
  ·refine Y0j i (h a mS) (λb c=>⟨h b (mC _ c),λe=>?_⟩) f hf
   have:=(List.pairwise_cons.1 d).1 b c
   rw[e,H8.refl]at this;omega
  ·exact Z0j i (λb c=>h b (mC _ c)) (List.pairwise_cons.1 d).2 f hf
theorem Q04{g:j0}(a:E1 g=true):∀ f∈U8 g.2.2,okF g f:=by
 obtain⟨b,_,_,_,c⟩:=(a06 g).1 a
 exact Z0j b (λ_ h=>h) c
def G01:Nat->j0->j0×List (Int×Int)
 |0,g=>(g,[])
 |n+1,g=>match U8 g.2.2 with
  | []=>(g,[])
  |f::_=>((G01 n (F01 g f)).1,f::(G01 n (F01 g f)).2)
def T9(g:j0):j0×List (Int×Int):=bif E1 g then G01 40 g else(g,[])
theorem H0c:∀(n:Nat) {g:j0},E1 g=true->E1 (G01 n g).1=true
 |0,g,h=>h
 |n+1,g,h=>by
  unfold G01
  cases e:U8 g.2.2 with
  |nil=>exact h
  |cons f l=>exact H0c n (r05 h (Q04 h f (by rw[e];exact mS)))
theorem A09:∀(n:Nat) {g:j0},E1 g=true->g.2.1<=(n:Int)+1->U8 (G01 n g).1.2.2 = []
 |0,g,h,a=>by
  cases e:U8 g.2.2 with
  |nil=>exact e
  |cons f l =>
   have:=Q04 h f (by rw[e];exact mS)
   unfold okF at this
   omega
 |n+1,g,h,a=>by
  unfold G01
  cases e:U8 g.2.2 with
  |nil=>exact e
  |cons f l=>exact A09 n (r05 h (Q04 h f (by rw[e];exact mS))) (by show g.2.1-1<=_;omega)
theorem x0o(a b:M0):E0a a b = []↔N03 a b=false:=by
 unfold E0a N03
 cases decide (a.2.1=b.2.1)<;>cases decide (a.1=b.1)<;>cases decide (a.2.2=b.2.2)<;>simp
theorem P0g(a:M0):∀ l,H02 a l = []↔∀ b∈l,N03 a b=false
 | []=>by simp[H02]
 |b::r=>by
  rw[H02,List.append_eq_nil_iff,x0o,P0g a r]
  simp
theorem T0b:∀ l,U8 l = []↔l.Pairwise λa b=>N03 a b=false
 | []=>by simp[U8]
 |a::r=>by rw[U8,List.append_eq_nil_iff,P0g,T0b r,List.pairwise_cons]
theorem B09(g:j0):C0 g=true↔E1 g=true/\U8 g.2.2 = []:=by
 unfold C0
 rw[Bool.and_eq_true,q08,T0b]
theorem R04{g:j0}(h:E1 g=true):C0 (T9 g).1=true:=by
 have a:=(Z0 h).2.2.1
 unfold T9
 rw[h]
 exact(B09 _).2 ⟨H0c 40 h,A09 40 h (by omega)⟩
theorem Q0g(l:List M0)(a c e:Int)(s:l.length<=1000):∀(d k fuel:Nat) (acc:List H4),k+d=l.length->d<fuel->acc.length+2*d<=4000000 ->
  w5 l c a e fuel (k:Int) acc=some (acc++H02 (a,c,e) (l.drop k))
 |d,k,0,acc,m,hf,j=>by omega
 |0,k,fuel+1,acc,m,hf,j=>by
  rw[w5.eq_2,if_neg (by simp;omega),N1 (by omega)]
  simp[H02]
 |d+1,k,fuel+1,acc,m,hf,j=>by
  have n:k<l.length:=by omega
  have i:=V5 n
  generalize l[k]=b at i
  obtain⟨o,p,q⟩:=b
  have g:∀ f:List H4,f.length+2*d<=4000000->w5 l c a e fuel ((k+1:Nat):Int) f=some (f++H02 (a,c,e) (l.drop (k+1))):=λf h=>Q0g l a c e s d (k+1) fuel f (by omega) (by omega) h
  rw[w5.eq_2,if_pos (by simp;omega),T2 i,oB,G2 n (by omega),L1 i]
  simp only[H02,E0a]
  cases decide (c=p)
  ·simp only[Bool.not_false,if_true,cond_false,List.nil_append]
   exact g acc (by omega)
  ·cases decide (a=o)<;>cases decide (e=q)
   all_goals simp only[Bool.not_true,Bool.false_eq_true,if_false,if_true,cond_true,cond_false,List.nil_append,List.append_nil]
   ·exact g acc (by omega)
   ·rw[F0 (by simp;omega),oB,g _ (by simp;omega)];simp
   ·rw[F0 (by simp;omega),oB,g _ (by simp;omega)];simp
   ·rw[F0 (by simp;omega),oB,F0 (by simp;omega),oB,g _ (by simp;omega)];simp
theorem R0g(l:List M0)(m:l.length<=1000):∀(d k fuel:Nat) (acc:List H4),k+d=l.length->d<fuel->acc.length+2000*d<=3000000 ->
  l9 l fuel (k:Int) acc=some (acc++U8 (l.drop k))
 |d,k,0,acc,h,hf,g=>by omega
 |0,k,fuel+1,acc,h,hf,g=>by
  rw[l9.eq_2,if_neg (by simp;omega),N1 (by omega)]
  simp[U8]
 |d+1,k,fuel+1,acc,h,hf,g=>by
  have i:k<l.length:=by omega
  have a:=V5 i
  generalize l[k]=b at a
  obtain⟨c,e,f⟩:=b
  have h0:=Q0g (l.drop (k+1)) c e f (by simp;omega) (l.length-(k+1)) 0 U0 acc (by simp) (C1 (by omega)) (by omega)
  have j:=S0b (c,e,f) (l.drop (k+1))
  simp only[List.length_drop]at j
  rw[l9.eq_2,if_pos (by simp;omega),T2 a,oB]
  simp only[G2 i (show l.length<=9223372036854775807 by omega)]
  rw[P04 (by omega),oB,show(0:Int)=((0:Nat):Int) from rfl,h0,oB,R0g l m d (k+1) fuel _ (by omega) (by omega) (by simp only[List.length_append,List.drop_zero,List.length_drop]at j ⊢;omega),L1 a,U8]
  simp
theorem S0g(l:List M0)(u:l.length<=1000)(i:Nat)(a c e:Int)(o:l[i]?=some (a,c,e)):∀(d k fuel:Nat) (acc:List H4),k+d=l.length->d<fuel->acc.length+2*d<=4000000 ->
  L4 l (i:Int) fuel (k:Int) acc=some (acc++H02 (a,c,e) (l.drop k))
 |d,k,0,acc,n,hf,m=>by omega
 |0,k,fuel+1,acc,n,hf,m=>by
  rw[L4.eq_2,if_neg (by simp;omega),N1 (by omega)]
  simp[H02]
 |d+1,k,fuel+1,acc,n,hf,m=>by
  have p:k<l.length:=by omega
  have j:=V5 p
  generalize l[k]=b at j
  obtain⟨q,s,t⟩:=b
  have g:∀ f:List H4,f.length+2*d<=4000000->L4 l (i:Int) fuel ((k+1:Nat):Int) f=some (f++H02 (a,c,e) (l.drop (k+1))):=λf h=>S0g l u i a c e o d (k+1) fuel f (by omega) (by omega) h
  rw[L4.eq_2,if_pos (by simp;omega),T2 o,oB]
  simp only[]
  rw[T2 j,oB,G2 p (by omega),L1 j]
  simp only[H02,E0a]
  cases decide (c=s)
  ·simp only[Bool.false_eq_true,if_false,cond_false,List.nil_append]
   exact g acc (by omega)
  ·cases decide (a=q)<;>cases decide (e=t)
   all_goals simp only[Bool.not_true,Bool.false_eq_true,if_false,if_true,cond_true,cond_false,List.nil_append,List.append_nil]
   ·exact g acc (by omega)
   ·rw[F0 (by simp;omega),oB,g _ (by simp;omega)];simp
   ·rw[F0 (by simp;omega),oB,g _ (by simp;omega)];simp
   ·rw[F0 (by simp;omega),oB,F0 (by simp;omega),oB,g _ (by simp;omega)];simp
theorem T0g(l:List M0)(j:l.length<=1000):∀(d k fuel:Nat) (acc:List H4),k+d=l.length->d<fuel->acc.length+2000*d<=3000000 ->
  O7 l fuel (k:Int) acc=some (acc++U8 (l.drop k))
 |d,k,0,acc,h,hf,g=>by omega
 |0,k,fuel+1,acc,h,hf,g=>by
  rw[O7.eq_2,if_neg (by simp;omega),N1 (by omega)]
  simp[U8]
 |d+1,k,fuel+1,acc,h,hf,g=>by
  have i:k<l.length:=by omega
  have a:=V5 i
  generalize l[k]=b at a
  obtain⟨c,e,f⟩:=b
  have h0:=S0g l j k c e f a (l.length-(k+1)) (k+1) U0 acc (by omega) (C1 (by omega)) (by omega)
  have m:=S0b (c,e,f) (l.drop (k+1))
  simp only[List.length_drop]at m
  rw[O7.eq_2,if_pos (by simp;omega),G2 i (by omega),h0,oB,T0g l j d (k+1) fuel _ (by omega) (by omega) (by simp only[List.length_append,List.length_drop]at m ⊢;omega),L1 a,U8]
  simp
theorem a0k(g:j0)(a:g.2.2.length<=1000):U02 g=some (U8 g.2.2):=by
 obtain⟨r,n,es⟩:=g
 unfold U02
 simp only
 rw[show(0:Int)=((0:Nat):Int) from rfl,R0g es a es.length 0 U0 [] (by omega) (C1 (by simp only at a;omega)) (by simp only at a;simp;omega)]
 rfl
theorem b0k(g:j0)(a:g.2.2.length<=1000):P01 g=some (U8 g.2.2):=by
 obtain⟨r,n,es⟩:=g
 unfold P01
 simp only
 rw[show(0:Int)=((0:Nat):Int) from rfl,T0g es a es.length 0 U0 [] (by omega) (C1 (by simp only at a;omega)) (by simp only at a;simp;omega)]
 rfl
def I02(g:j0):H4×Bool:=bif E1 g then(match U8 g.2.2 with
 | []=>((0,0),false)
 |f::_=>(f,true))else((0,0),false)
theorem P0c(g:j0)(c:g.2.2.length<=140737488355328):V9 g=some (I02 g):=by
 have b:=q02 g c
 have a:=a0k g
 unfold I02
 cases hg:E1 g with
 |false =>
  obtain⟨r,n,es⟩:=g
  unfold V9
  simp only[b,hg,oB];rfl
 |true =>
  have a:=a (by have:=(Z0 hg).2.2.2;omega)
  obtain⟨r,n,es⟩:=g
  unfold V9
  simp only[b,hg,a,oB,cond_true]
  simp only at a
  cases U8 es with
  |nil=>rfl
  |cons f l =>
   rw[if_neg (by simp),if_neg (by simp;omega),x09 rfl]
   rfl
theorem Q0c(g:j0)(c:g.2.2.length<=140737488355328):U9 g=some (I02 g):=by
 have b:=P9 g c
 have a:=b0k g
 unfold I02
 cases hg:E1 g with
 |false =>
  obtain⟨r,n,es⟩:=g
  unfold U9
  simp only[b,hg,oB];rfl
 |true =>
  have a:=a (by have:=(Z0 hg).2.2.2;omega)
  obtain⟨r,n,es⟩:=g
  unfold U9
  simp only[b,hg,a,oB,cond_true]
  simp only at a
  cases U8 es with
  |nil=>rfl
  |cons f l =>
   rw[if_neg (by simp),if_neg (by simp;omega),x09 rfl]
   rfl
theorem a0n(v:Int)(f:H4)(d:0<=v/\v<1000)(hf:0<=f.1/\f.1<f.2):c02 v f=some (mvV f v):=by
 obtain⟨a,b⟩:=f
 simp only at hf
 unfold c02 mvV
 simp only
 by_cases c:v=b
 ·rw[if_pos (by simp[c]),if_neg (by simp;omega),if_pos c]
 ·rw[if_neg (by simp[c]),if_neg c]
  by_cases c2:v>b
  ·rw[if_pos (by simp[c2]),if_pos c2,w64 (by omega) (by omega)]
  ·rw[if_neg (by simp;omega),if_neg c2]
theorem c0k(v:Int)(f:H4)(d:0<=v/\v<1000):H6 v f=some (mvV f v):=by
 obtain⟨a,b⟩:=f
 unfold H6 mvV
 simp only
 by_cases c:v=b
 ·rw[if_pos (by simp[c]),if_pos c]
 ·rw[if_neg (by simp[c]),if_neg c]
  by_cases c2:v>b
  ·rw[if_pos (by simp[c2]),if_pos c2,w64 (by omega) (by omega)]
  ·rw[if_neg (by simp;omega),if_neg c2]
theorem n0i{f:H4}{v:Int}(a:0<=v/\v<1000)(hf:0<=f.1/\f.1<1000):I0 (mvV f v):=by
 unfold mvV
 split
 ·exact⟨by omega,by omega⟩
 ·split
  ·exact⟨by omega,by omega⟩
  ·exact⟨by omega,by omega⟩
theorem d0k(es:List M0)(f:H4)(r n:Int)(s:es.length<=1000)(o:∀ e∈es,(0<=e.1/\e.1<1000)/\(0<=e.2.2/\e.2.2<1000))(hf:0<=f.1/\f.1<f.2)(q:f.2<1000):∀(d k fuel:Nat) (acc:List M0),k+d=es.length->d<fuel->acc.length<=k ->
  P4 es f.1 f.2 fuel (k:Int) r n acc=some (r,n,F6 D1 acc ((es.drop k).map (mvE f)))
 |d,k,0,acc,l,m,j=>by omega
 |0,k,fuel+1,acc,l,m,j=>by
  rw[P4.eq_2,if_neg (by simp;omega),N1 (by omega)]
  rfl
 |d+1,k,fuel+1,acc,l,m,j=>by
  have c:k<es.length:=by omega
  have g:=V5 c
  have a:=o _ (List.getElem_mem c)
  generalize es[k]=b at g a
  obtain⟨h,p,i⟩:=b
  simp only at a
  have t:=j04 (mvE f (h,p,i)) acc
  rw[P4.eq_2,if_pos (by simp;omega),T2 g,oB]
  simp only[]
  rw[a0n h (f.1,f.2) a.1 hf,oB,F0 (n0i a.1 ⟨hf.1,by show f.1<1000;omega⟩),oB,a0n i (f.1,f.2) a.2 hf,oB,F0 (n0i a.2 ⟨hf.1,by show f.1<1000;omega⟩),oB,
   g0i acc _ (by omega),oB,G2 c (by omega),L1 g,List.map_cons]
  exact d0k es f r n s o hf q d (k+1) fuel _ (by omega) (by omega) (Nat.le_trans t (by omega))
theorem e0k{g:j0}{f:H4}(d:E1 g=true)(hf:okF g f):P7 g f=some (F01 g f,true):=by
 obtain⟨k,o,l,m⟩:=Z0 d
 have i:=P9 g (by omega)
 obtain⟨c,f2,f3⟩:=hf
 obtain⟨r,n,es⟩:=g
 obtain⟨a,b⟩:=f
 simp only at c f2 f3 l m
 have h:=d0k es (a,b) r (IntKind.i64.wrap (n-1)) (by omega) (λe j=>by
  have:=k e j
  simp only at this
  exact⟨⟨by omega,by omega⟩,by omega,by omega⟩) ⟨c,f2⟩ (by simp only;omega) es.length 0 U0 [] (by omega) (C1 (by omega)) (Nat.le_refl _)
 unfold P7
 simp only[i,d,oB]
 rw[if_neg (by simp;omega),show(0:Int)=((0:Nat):Int) from rfl,h,w64 (by omega) (by omega)]
 rfl
theorem f0k(es:List M0)(f:H4)(s:es.length<=1000)(n:∀ e∈es,(0<=e.1/\e.1<1000)/\(0<=e.2.2/\e.2.2<1000))(hf:0<=f.1/\f.1<1000):∀(d k fuel:Nat),k+d=es.length->d<fuel ->
  Q4 es f.1 f.2 fuel (k:Int) ((es.take k).map (mvE f)++es.drop k)=some (es.map (mvE f))
 |d,k,0,j,l=>by omega
 |0,k,fuel+1,j,l=>by
  rw[Q4.eq_2,if_neg (by simp;omega),N1 (by omega),List.append_nil,List.take_of_length_le (by omega)]
 |d+1,k,fuel+1,j,l=>by
  have g:k<es.length:=by omega
  have c:=V5 g
  have a:=n _ (List.getElem_mem g)
  generalize es[k]=b at c a
  have m:((es.take k).map (mvE f)).length=k:=by simp;omega
  have q:((es.take k).map (mvE f)++es.drop k)[k]?=some b:=by
   rw[List.getElem?_append_right (by omega),m,L1 c];simp
  have t:∀ y,((es.take k).map (mvE f)++es.drop k).set k y=(es.take k).map (mvE f)++y::es.drop (k+1):=λy=>by
   rw[List.set_append_right _ _ (by omega),m,L1 c];simp
  obtain⟨h,p,i⟩:=b
  simp only at a
  have e:(es.take (k+1)).map (mvE f)++es.drop (k+1)=(es.take k).map (mvE f)++mvE f (h,p,i)::es.drop (k+1):=by
   rw[H0s c];simp
  have o:=f0k es f s n hf d (k+1) fuel (by omega) (by omega)
  rw[e]at o
  rw[Q4.eq_2,if_pos (by simp;omega),T2 q,oB]
  simp only[]
  rw[c0k h (f.1,f.2) a.1,oB,F0 (n0i a.1 hf),oB,c0k i (f.1,f.2) a.2,oB,F0 (n0i a.2 hf),oB]
  simp only[oB]
  rw[show((k:Nat):Int).toNat=k from Int.toNat_natCast k,t,G2 g (by omega)]
  exact o
theorem g0k{g:j0}{f:H4}(d:E1 g=true)(hf:okF g f):Q7 g f=some (F01 g f,true):=by
 obtain⟨l,p,m,o⟩:=Z0 d
 have i:=q02 g (by omega)
 have j:=O01 g (by omega)
 obtain⟨c,f2,f3⟩:=hf
 obtain⟨r,n,es⟩:=g
 obtain⟨a,b⟩:=f
 simp only at c f2 f3 m o
 have h:=f0k es (a,b) (by omega) (λe k=>by
  have:=l e k
  simp only at this
  exact⟨⟨by omega,by omega⟩,by omega,by omega⟩) ⟨c,by simp only;omega⟩ es.length 0 U0 (by omega) (C1 (by omega))
 simp only[List.take_zero,List.map_nil,List.nil_append,List.drop_zero]at h
 unfold Q7
 simp only[i,j,d,oB]
 rw[if_neg (by simp;omega),show(0:Int)=((0:Nat):Int) from rfl,h,oB,B0a _ (by simp;omega),oB,w64 (by omega) (by omega)]
 rfl
def S01(g:j0):j0×H4×Bool:=bif E1 g then(match U8 g.2.2 with
 | []=>(g,(0,0),false)
 |f::_=>(F01 g f,f,true))else(g,(0,0),false)
theorem Q07(g:j0)(j:g.2.2.length<=1099511627776):o01 g=some (S01 g):=by
 have c:=Q0c g (by omega)
 have d:=q03 g j
 have i:∀ f,E1 g=true->okF g f->P7 g f=some (F01 g f,true):=λf a b=>e0k a b
 have h:E1 g=true->∀ f∈U8 g.2.2,okF g f:=Q04
 unfold I02 at c
 unfold S01
 obtain⟨r,n,es⟩:=g
 unfold o01
 simp only[c,oB]
 cases hg:E1 (r,n,es)with
 |false=>simp only[cond_false,Bool.not_false,if_true,d,oB]
 |true =>
  simp only[cond_true]
  simp only at h
  cases e:U8 es with
  |nil=>simp only[Bool.not_false,if_true,d,oB]
  |cons f l =>
   simp only[Bool.not_true,Bool.false_eq_true,if_false,i f hg (h hg f (by rw[e];exact mS)),oB]
theorem R07(g:j0)(j:g.2.2.length<=1099511627776):p01 g=some (S01 g):=by
 have c:=P0c g (by omega)
 have d:=O01 g j
 have i:∀ f,E1 g=true->okF g f->Q7 g f=some (F01 g f,true):=λf a b=>g0k a b
 have h:E1 g=true->∀ f∈U8 g.2.2,okF g f:=Q04
 unfold I02 at c
 unfold S01
 obtain⟨r,n,es⟩:=g
 unfold p01
 simp only[c,oB]
 cases hg:E1 (r,n,es)with
 |false=>simp only[cond_false,Bool.not_false,if_true,d,oB]
 |true =>
  simp only[cond_true]
  simp only at h
  cases e:U8 es with
  |nil=>simp only[Bool.not_false,if_true,d,oB]
  |cons f l =>
   simp only[Bool.not_true,Bool.false_eq_true,if_false,i f hg (h hg f (by rw[e];exact mS)),oB]
def u0t:(j0×b9) ⊕ (Int×Int×O0×(List H4))->Option (j0×b9):=λX=>I9 X (λS=>match S with
 |(a,b,c,e)=>some ((a,b,c),e))
theorem E0e:∀(d k fuel:Nat) (g:j0) (acc:List H4),k+d=40->d<fuel->E1 g=true->acc.length=k ->
  (G6 fuel (k:Int) g.1 g.2.1 g.2.2 acc).bind u0t=some ((G01 d g).1,acc++(G01 d g).2)
 |d,k,0,g,acc,h,hf,a,c=>by omega
 |0,k,fuel+1,g,acc,h,hf,a,c=>by
  rw[G6.eq_2,if_neg (by simp;omega)]
  simp[u0t,I9,G01]
 |d+1,k,fuel+1,g,acc,h,hf,a,c=>by
  have b:=Q07 g (by have:=(Z0 a).2.2.2;omega)
  have i:=Q04 a
  unfold S01 at b
  rw[a]at b
  simp only[cond_true]at b
  rw[G6.eq_2,if_pos (by simp;omega),show(g.1,g.2.1,g.2.2)=g from rfl,b]
  unfold G01
  cases e:U8 g.2.2 with
  |nil=>simp[u0t,I9]
  |cons f l =>
   have j:=E0e d (k+1) fuel (F01 g f) (acc ++ [f]) (by omega) (by omega) (r05 a (i f (by rw[e];exact mS))) (by simp[c])
   simp only[oB,Bool.not_true,Bool.false_eq_true,if_false]
   rw[F0 (by simp;omega),oB,G2 (show k<1000 by omega) (by omega)]
   refine j.trans ?_
   simp
theorem Z08(g:j0)(b:g.2.2.length<=1099511627776):Q01 g=some (T9 g):=by
 have a:=Q07 g b
 have c:=q03 g b
 have d:=E0e 40 0 U0 g [] rfl (C1 (by omega))
 unfold T9
 obtain⟨r,n,es⟩:=g
 unfold Q01
 simp only[c,oB]
 cases hg:E1 (r,n,es)with
 |false =>
  unfold S01 at a
  rw[hg]at a
  simp only[cond_false]at a
  rw[show U0=(U0-1)+1 from rfl,G6.eq_2,if_pos (by simp),a]
  rfl
 |true=>exact d hg rfl
theorem F0e:∀(d fuel:Nat) (g:j0) (acc:List H4),d<fuel->E1 g=true->U8 (G01 d g).1.2.2 = []->acc.length+d<=1000 ->
  R7 fuel g.1 g.2.1 g.2.2 acc=some (.inl ((G01 d g).1,acc++(G01 d g).2))
 |d,0,g,acc,hf,a,c,j=>by omega
 |d,fuel+1,g,acc,hf,a,c,j=>by
  have b:=R07 g (by have:=(Z0 a).2.2.2;omega)
  have i:=Q04 a
  unfold S01 at b
  rw[a]at b
  simp only[cond_true]at b
  rw[R7.eq_2,show(g.1,g.2.1,g.2.2)=g from rfl,b]
  cases e:U8 g.2.2 with
  |nil =>
   have h:G01 d g=(g,[]):=by
    cases d with
    |zero=>rfl
    |succ d=>unfold G01;rw[e]
   rw[h]
   simp
  |cons f l =>
   cases d with
   |zero=>exact absurd e (by rw[show U8 g.2.2 = [] from c];simp)
   |succ d =>
    have h:G01 (d+1) g=((G01 d (F01 g f)).1,f::(G01 d (F01 g f)).2):=by
     show(match U8 g.2.2 with | []=>(g,[])|f::_=>((G01 d (F01 g f)).1,f::(G01 d (F01 g f)).2))=_
     rw[e]
    rw[h]at c ⊢
    have k:=F0e d fuel (F01 g f) (acc ++ [f]) (by omega) (r05 a (i f (by rw[e];exact mS))) c (by simp;omega)
    simp only[oB,Bool.not_true,Bool.false_eq_true,if_false]
    rw[F0 (by simp;omega),oB]
    refine k.trans ?_
    simp
theorem a09(g:j0)(c:g.2.2.length<=1099511627776):R01 g=some (T9 g):=by
 have b:=R07 g c
 have d:=O01 g c
 have e:=F0e 40 U0 g [] (C1 (by omega))
 have f:E1 g=true->U8 (G01 40 g).1.2.2 = []:=λa=>A09 40 a (by have:=(Z0 a).2.2.1;omega)
 unfold T9
 obtain⟨r,n,es⟩:=g
 unfold R01
 simp only[d,oB]
 cases a:E1 (r,n,es)with
 |false =>
  unfold S01 at b
  rw[a]at b
  simp only[cond_false]at b
  rw[show U0=(U0-1)+1 from rfl,R7.eq_2,b]
  rfl
 |true =>
  have h:=e a (f a) (by simp)
  simp only at h
  rw[h]
  rfl
theorem s08{g:j0}(h:E1 g=true):Asc D1 g.2.2:=((a06 g).1 h).2.2.2.2
def stp(u x v:Int):M0:=if x<0 then(v,-x,u)else(u,x,v)
theorem e0q(u x v:Int)(a:O3 x):y00 u x v=some (stp u x v):=by
 unfold y00 stp
 by_cases c:x<0
 ·rw[if_pos (by simp[c]),if_pos c,B0g a.1 a.2]
 ·rw[if_neg (by simp;omega),if_neg c]
theorem V0t{g:j0}(a:E1 g=true){u:Int}(b:0<=u/\u<g.2.1):T3 g u=some true:=by
 obtain⟨d,e,c,f⟩:=Z0 a
 obtain⟨r,n,es⟩:=g
 simp only at c b
 unfold T3
 simp only[K07]
 rw[w64 (by omega) (by omega)]
 simp[inR];omega
theorem b0n(es:List M0)(e:M0)(o:es.length<=140737488355328):∀(d k fuel:Nat),k+d=es.length->d<fuel ->
  ∃ X,Z1 es e.1 e.2.1 e.2.2 fuel (k:Int)=some X/\((∃ i:Nat,X = .inl (i:Int)/\i<es.length/\e∈es.drop k)∨(X = .inr ()/\e ∉ es.drop k))
 |d,k,0,l,hf=>by omega
 |0,k,fuel+1,l,hf=>by
  rw[Z1.eq_2,if_neg (by simp;omega),N1 (by omega)]
  exact⟨_,rfl,.inr ⟨rfl,by simp⟩⟩
 |d+1,k,fuel+1,l,hf=>by
  have a:k<es.length:=by omega
  have f:=V5 a
  generalize es[k]=b at f
  rw[Z1.eq_2,if_pos (by simp;omega),T2 f,oB,L1 f]
  simp only[]
  by_cases c:eqE e b=true
  ·rw[if_pos c]
   refine⟨_,rfl,.inl ⟨k,rfl,a,?_⟩⟩
   rw[(h0d _ _).1 c]
   exact mS
  ·rw[if_neg c,G2 a (by omega)]
   obtain⟨X,m,n⟩:=b0n es e o d (k+1) fuel (by omega) (by omega)
   refine⟨X,m,?_⟩
   have p:e≠b:=λh=>c ((h0d _ _).2 h)
   rcases n with⟨i,g,j,q⟩|⟨g,j⟩
   ·exact .inl ⟨i,g,j,mC _ q⟩
   ·refine .inr ⟨g,λh=>?_⟩
    rcases List.mem_cons.1 h with h|h
    ·exact p h
    ·exact j h
theorem M0l(es:List M0)(e:M0)(b:es.length<=140737488355328):M3 es e=some (decide (e∈es)):=by
 obtain⟨X,d,a⟩:=b0n es e b es.length 0 U0 (by omega) (C1 b)
 obtain⟨g,h,j⟩:=e
 unfold M3 V4
 simp only
 simp only[List.drop_zero]at a
 rw[show(0:Int)=((0:Nat):Int) from rfl,d]
 rcases a with⟨i,rfl,c,f⟩|⟨rfl,c⟩
 ·simp only[oB,l4]
  rw[F0 (show I0 ((i:Nat):Int) from⟨by omega,by omega⟩)]
  simp[f]
 ·simp only[oB,W0]
  rw[F0 (show I0 (-1) from⟨by omega,by omega⟩)]
  simp[c]
theorem S07:∀(d i:Nat) (x:Int),x∈P1 d i->∃ j:Nat,i<=j/\j<i+d/\(x=(j:Int)∨x = -(j:Int))
 |0,i,x,h=>by simp[P1]at h
 |d+1,i,x,h=>by
  simp only[P1,List.mem_cons]at h
  rcases h with rfl|rfl|h
  ·exact⟨i,Nat.le_refl _,by omega,.inl rfl⟩
  ·exact⟨i,Nat.le_refl _,by omega,.inr rfl⟩
  ·obtain⟨j,b,c,a⟩:=S07 d (i+1) x h
   exact⟨j,by omega,by omega,a⟩
theorem N0l(g:Nat):∀(d k:Nat) (x:Int),x∈wo g d k->∃ j:Nat,x=(j:Int)/\k<=j/\j<k+d
 |0,k,x,h=>nomatch h
 |d+1,k,x,h=>by
  unfold wo at h
  split at h
  ·obtain⟨j,a,b,c⟩:=N0l g d (k+1) x h
   exact⟨j,a,by omega,by omega⟩
  ·rcases List.mem_cons.1 h with rfl|h
   ·exact⟨k,rfl,Nat.le_refl _,by omega⟩
   ·obtain⟨j,a,b,c⟩:=N0l g d (k+1) x h
    exact⟨j,a,by omega,by omega⟩
theorem S04(g:Nat):∀(d k:Nat),(wo g d k).Nodup
 |0,k=>List.nodup_nil
 |d+1,k=>by
  unfold wo
  split
  ·exact S04 g d (k+1)
  ·refine List.nodup_cons.2 ⟨λh=>?_,S04 g d (k+1)⟩
   obtain⟨j,a,b,c⟩:=N0l g d (k+1) _ h
   omega
theorem G0e(P:List Int):∀(es:List M0),∀ e∈pE P es,∃ a∈es,e=(getI P a.1,a.2.1,getI P a.2.2)/\0<=getI P a.1/\0<=getI P a.2.2
 | [],e,h=>nomatch h
 |b::r,e,h=>by
  unfold pE at h
  cases hb:decide (0<=getI P b.1)&&decide (0<=getI P b.2.2)
  ·rw[hb]at h
   obtain⟨a,c,d⟩:=G0e P r e h
   exact⟨a,mC _ c,d⟩
  ·rw[hb]at h
   simp only[Bool.and_eq_true,decide_eq_true_eq]at hb
   rcases List.mem_cons.1 h with rfl|h
   ·exact⟨b,mS,rfl,hb.1,hb.2⟩
   ·obtain⟨a,c,d⟩:=G0e P r e h
    exact⟨a,mC _ c,d⟩
theorem T04{g:j0}{o:List Int}(f:E1 g=true)(b:inV g.2.1.toNat o)(p:1<=o.length)(q:o.length<=40):E1 (L5 g o)=true:=by
 obtain⟨k,l,t,u⟩:=Z0 f
 have s:=i0i (plc g.2.1.toNat o) g.2.2
 refine I06 l ⟨by omega,by omega⟩ (by omega) λe d=>?_
 obtain⟨a,c,rfl,i,j⟩:=G0e _ _ e d
 have h:=k a c
 have m:=(k04 b (x:=a.1) (by omega)).2
 have n:=(k04 b (x:=a.2.2) (by omega)).2
 exact⟨⟨i,m⟩,⟨j,n⟩,h.2.2⟩
theorem H0e{n:Nat}:∀(o:List Int) (k:Nat) (A:List Int),A.length=n->inV n o->o.Nodup->(∀ x,0<=x->getI A x<(k:Int))->(∀ x y,0<=x->0<=y->0<=getI A x->getI A x=getI A y->x=y) ->
  ∀ x y,0<=x->0<=y->0<=getI (g01 A k o) x->getI (g01 A k o) x=getI (g01 A k o) y->x=y
 | [],k,A,h,e,i,c,d=>d
 |v::r,k,A,h,e,i,c,d=>by
  have f:=e v mS
  refine H0e r (k+1) (A.set v.toNat (k:Int)) (by simp[h]) (λw j=>e w (mC _ j)) (List.nodup_cons.1 i).2 (λx b=>?_) (λx y b g h0 a=>?_)
  ·rw[m01 f.1 (by omega) b]
   have:=c x b
   split<;>omega
  ·rw[m01 f.1 (by omega) b]at h0 a
   rw[m01 f.1 (by omega) g]at a
   have l:=c x b
   have m:=c y g
   by_cases c1:x=v
   ·by_cases c2:y=v
    ·rw[c1,c2]
    ·rw[if_pos c1,if_neg c2]at a;omega
   ·by_cases c2:y=v
    ·rw[if_neg c1,if_pos c2]at a;omega
    ·rw[if_neg c1]at h0;rw[if_neg c1,if_neg c2]at a
     exact d x y b g h0 a
theorem F0a{n:Nat}{o:List Int}(d:inV n o)(b:o.Nodup){x y:Int}(a:0<=x)(e:0<=y)(h0:0<=getI (plc n o) x)(c:getI (plc n o) x=getI (plc n o) y):x=y:=by
 refine H0e o 0 (List.replicate n (-1)) (by simp) d b (λx a=>by rw[M07];omega) (λx y _ _ h _=>by rw[M07]at h;omega) x y a e h0 c
theorem f0q{es:List M0}(h:es.Pairwise λa b=>N03 a b=false){a b:M0}(f:a∈es)(i:b∈es)(k:a≠b):N03 a b=false:=by
 induction es with
 |nil=>cases f
 |cons c r l =>
  obtain⟨e,j⟩:=List.pairwise_cons.1 h
  rcases List.mem_cons.1 f with rfl|g
  ·rcases List.mem_cons.1 i with rfl|d
   ·exact absurd rfl k
   ·exact e b d
  ·rcases List.mem_cons.1 i with rfl|d
   ·rw[J0b];exact e a g
   ·exact l j g d
theorem d0s{es:List M0}(i:Asc D1 es)(h:∀ a∈es,∀ b∈es,a≠b->N03 a b=false):es.Pairwise λa b=>N03 a b=false:=by
 induction es with
 |nil=>exact .nil
 |cons c r k =>
  obtain⟨f,g⟩:=List.pairwise_cons.1 i
  refine List.pairwise_cons.2 ⟨λb d=>h c mS b (mC _ d) λe=>?_,k g λa j b d=>h a (mC _ j) b (mC _ d)⟩
  have:=f b d
  rw[e,H8.refl]at this;omega
theorem U0b{g:j0}(c:E1 g=true):C0 g=true↔∀ a∈g.2.2,∀ b∈g.2.2,a≠b->N03 a b=false:=by
 rw[B09,T0b]
 exact⟨λh a d b e f=>f0q h.2 d e f,λh=>⟨c,d0s (graph_asc' c) h⟩⟩
where graph_asc' {g:j0} (h:E1 g=true):Asc D1 g.2.2:=((a06 g).1 h).2.2.2.2
theorem J02{g:j0}{o:List Int}(hf:C0 g=true)(j:inV g.2.1.toNat o)(m:o.Nodup)(s:1<=o.length)(t:o.length<=40):C0 (L5 g o)=true:=by
 have i:=K0 hf
 obtain⟨n,G,H,I⟩:=Z0 i
 refine(U0b (T04 i j s t)).2 λa u b v z=>?_
 have mem:∀ e∈(L5 g o).2.2,∃ a∈g.2.2,e=(getI (plc g.2.1.toNat o) a.1,a.2.1,getI (plc g.2.1.toNat o) a.2.2)/\0<=getI (plc g.2.1.toNat o) a.1/\0<=getI (plc g.2.1.toNat o) a.2.2:=λe y=>by
  rcases(z9 H8 e _ _).1 y with h|h
  ·cases h
  ·exact G0e _ _ e h
 obtain⟨d,k,rfl,C,D⟩:=mem a u
 obtain⟨f,l,rfl,E,F⟩:=mem b v
 have A:d≠f:=λe=>z (by rw[e])
 have c:=(U0b i).1 hf d k f l A
 have p:=n d k
 have q:=n f l
 unfold N03 at c ⊢
 simp only[Bool.and_eq_false_iff,Bool.or_eq_false_iff,decide_eq_false_iff_not]at c ⊢
 rcases c with c|⟨w,x⟩
 ·exact .inl c
 ·exact .inr ⟨λe=>w (F0a j m p.1.1 q.1.1 C e),λe=>x (F0a j m p.2.1.1 q.2.1.1 D e)⟩
def Q9:Nat->j0->j0
 |0,g=>g
 |d+1,g=>match w7 g with
  |none=>g
  |some k=>Q9 d (L5 g (wo k g.2.1.toNat 0))
theorem i0d{g:j0}{k:Nat}(h:w7 g=some k):1<=k/\k<g.2.1.toNat:=by
 have:=P07 _ _ _ h
 omega
theorem l04{g:j0}(b:E1 g=true){k:Nat}(h:w7 g=some k):inV g.2.1.toNat (wo k g.2.1.toNat 0)/\(wo k g.2.1.toNat 0).length=g.2.1.toNat-1/\1<=(wo k g.2.1.toNat 0).length/\(wo k g.2.1.toNat 0).length<=40:=by
 obtain⟨d,e,f,i⟩:=Z0 b
 have c:=i0d h
 have a:=Q0b k g.2.1.toNat 0
 rw[if_pos (by omega)]at a
 exact⟨O0g k _ _ 0 (by omega),a,by omega,by omega⟩
theorem L9:∀(d:Nat) {g:j0},C0 g=true->C0 (Q9 d g)=true
 |0,g,h=>h
 |d+1,g,h=>by
  unfold Q9
  cases e:w7 g with
  |none=>exact h
  |some k =>
   obtain⟨a,f,b,c⟩:=l04 (K0 h) e
   exact L9 d (J02 h a (S04 _ _ _) b c)
theorem I0e(n g:Nat)(i:n<=1000)(u:List Int)(j:u.length=n):∀(d k fuel:Nat) (acc a:List Int),k+d=n->d<fuel->acc.length<=k->a.length<=k ->
  ∃ v,M5 (n:Int) (g:Int) u fuel (k:Int) acc a=some (acc++wo g d k,v)/\v.length+acc.length=a.length+(acc++wo g d k).length
 |d,k,0,acc,a,h,hf,b,f=>by omega
 |0,k,fuel+1,acc,a,h,hf,b,f=>by
  rw[M5.eq_2,if_neg (by simp;omega)];exact⟨a,by simp[wo],by simp[wo]⟩
 |d+1,k,fuel+1,acc,a,h,hf,b,f=>by
  have l:=V5 (show k<u.length by omega)
  generalize u[k]=x at l
  rw[M5.eq_2,if_pos (by simp;omega),G2 (show k<10000 by omega) (by omega)]
  unfold wo
  by_cases c:k=g
  ·have e:decide ((k:Int)=(g:Int))=true:=decide_eq_true (by omega)
   rw[e,if_neg (by simp),if_pos c]
   exact I0e n g i u j d (k+1) fuel acc a (by omega) (by omega) (by omega) (by omega)
  ·have e:decide ((k:Int)=(g:Int))=false:=decide_eq_false (by omega)
   rw[e,if_pos (show(!false)=true from rfl),if_neg c,F0 (by simp;omega),oB,T2 l,oB,F0 (by simp;omega),oB]
   obtain⟨v,m,o⟩:=I0e n g i u j d (k+1) fuel (acc ++ [(k:Int)]) (a ++ [x]) (by omega) (by omega) (by simp;omega) (by simp;omega)
   refine⟨v,by rw[m];simp,?_⟩
   simp only[List.length_append,List.length_cons,List.length_nil]at o ⊢
   omega
theorem h0k(g:j0)(a:E1 g=true):∀(d k fuel:Nat) (acc:List Int),k+d=g.2.1.toNat->d<fuel->acc.length=k ->
  ∃ u,o6 g.2.1 g.1 g.2.2 fuel (k:Int) acc=some u/\u.length=g.2.1.toNat
 |d,k,0,acc,c,hf,b=>by omega
 |0,k,fuel+1,acc,c,hf,b=>by
  obtain⟨h,i,j,l⟩:=Z0 a
  rw[o6.eq_2,show decide (((k:Nat):Int)<g.2.1)=false by simp;omega]
  exact⟨acc,by simp[chk],by omega⟩
 |d+1,k,fuel+1,acc,c,hf,b=>by
  obtain⟨h,i,j,l⟩:=Z0 a
  obtain⟨u,e,f⟩:=h0k g a d (k+1) fuel (acc ++ [(k:Int)]) (by omega) (by omega) (by simp;omega)
  rw[o6.eq_2,show decide (((k:Nat):Int)<g.2.1)=true by simp;omega,Q2,show(g.1,g.2.1,g.2.2)=g from rfl,P9 g (by omega),oB,a]
  rw[if_pos (show(bif true then true else false)=true from rfl),F0 (by simp;omega),oB,G2 (show k<1000 by omega) (by omega),e]
  exact⟨u,rfl,f⟩
theorem i0k(f:j0)(n:E1 f=true):∀(d k fuel:Nat) (g:j0) (u:List Int),k+d=40->d<fuel->E1 g=true->u.length=g.2.1.toNat->g.2.1.toNat<=d+1 ->
  ∃ v,(l6 f.1 f.2.1 f.2.2 fuel u (k:Int) g.1 g.2.1 g.2.2).bind (λX=>I9 X (λx=>match x with|(a,b,c,e)=>some ((b,c,e),a)))=some (Q9 d g,v)
 |d,k,0,g,u,q,hf,h,w,s=>by omega
 |0,k,fuel+1,g,u,q,hf,h,w,s=>by
  rw[l6.eq_2,show decide (((k:Nat):Int)<40)=false by simp;omega]
  exact⟨u,by simp[chk,I9,Q9]⟩
 |d+1,k,fuel+1,g,u,q,hf,h,w,s=>by
  obtain⟨H,I,J,K⟩:=Z0 n
  obtain⟨L,M,O,P⟩:=Z0 h
  have C:=a0q g h
  rw[l6.eq_2,show decide (((k:Nat):Int)<40)=true by simp;omega,Q2,show(f.1,f.2.1,f.2.2)=f from rfl,P9 f (by omega),oB,n]
  rw[if_pos (show(bif true then true else false)=true from rfl),show(g.1,g.2.1,g.2.2)=g from rfl,C]
  unfold Q9
  cases e:w7 g with
  |none =>
   simp only[oB]
   rw[F0 (show I0 (-1) from⟨by omega,by omega⟩),oB,if_pos (by simp)]
   exact⟨u,rfl⟩
  |some j =>
   obtain⟨o,y,m,A⟩:=l04 h e
   have G:=i0d e
   obtain⟨N,l⟩:∃ N:Nat,g.2.1=(N:Int):=⟨g.2.1.toNat,by omega⟩
   have i:g.2.1.toNat=N:=by omega
   obtain⟨v,E,F⟩:=I0e N j (by omega) u (by omega) N 0 U0 [] [] (by omega) (C1 (by omega)) (Nat.le_refl _) (Nat.le_refl _)
   have t:=z09 g.1 N g.2.2 (wo j N 0) (by rw[←l];exact h) (by rw[←i];exact o) (S04 _ _ _) (by rw[←i];exact m) (by rw[←i];omega)
   rw[←l,show(g.1,g.2.1,g.2.2)=g from rfl]at t
   have p:=T04 h o m A
   rw[i]at p y m
   obtain⟨D,z⟩:=i0k f n d (k+1) fuel (L5 g (wo j N 0)) v (by omega) (by omega) p (by simp only[List.nil_append,List.length_nil]at F;show v.length=((wo j N 0).length:Int).toNat;omega) (by show((wo j N 0).length:Int).toNat<=d+1;omega)
   simp only[oB]
   rw[F0 (show I0 ((j:Nat):Int) from⟨by omega,by omega⟩),oB,if_neg (by simp),l,show(0:Int)=((0:Nat):Int) from rfl,E]
   simp only[oB,List.nil_append]
   rw[←l,t]
   simp only[oB]
   rw[G2 (show k<1000 by omega) (by omega),i]
   exact⟨D,z⟩
def O03(g:j0):j0:=Q9 40 g
theorem J0e{g:j0}(a:E1 g=true):∃ v,U00 g=some (O03 g,v):=by
 obtain⟨f,h,i,j⟩:=Z0 a
 have e:=q03 g (by omega)
 obtain⟨u,b,d⟩:=h0k g a g.2.1.toNat 0 U0 [] (by omega) (C1 (by omega)) rfl
 obtain⟨v,c⟩:=i0k g a 40 0 U0 g u rfl (C1 (by omega)) a d (by omega)
 refine⟨v,?_⟩
 obtain⟨r,n,es⟩:=g
 unfold U00
 simp only[e,oB]
 simp only at b c
 rw[show(0:Int)=((0:Nat):Int) from rfl,b,oB]
 exact c
theorem j0k:∀(n fuel d:Nat) (left:List Int) (r:Int) (es:List M0),1<=n->n<=40->inN n es->es.length<=120->left.length=n->n<fuel->n<=d+1 ->
  ∃ i,K5 fuel left r (n:Int) es=some (.inl (Q9 d (r,(n:Int),es),i))
 |n,0,d,left,r,es,j,l,b,C,D,hf,A=>by omega
 |n,fuel+1,d,left,r,es,j,l,b,C,D,hf,A=>by
  obtain⟨c,x,H,y⟩:=R0j r n es b (by omega) j (by omega)
  have t:=k0i r n es (by omega) c H l (n-1) 1 U0 (Nat.le_refl _) (by omega) (by omega) (C1 (by omega))
  have z:lf (λv=>decide (O8 (v:Int) es<2) || !S9 c (v:Int)) (n-1) 1=lf (H06 es) (n-1) 1:=D0e _ _ λk J K=>by
   unfold H06
   have:=y (k:Int) (by omega) (by omega)
   have m:=c04 es 0 (k:Int)
   congr 2
   cases hb:S9 c (k:Int)
   ·symm;exact decide_eq_false λh=>by rw[this.2 (m.1 h)]at hb;cases hb
   ·symm;exact decide_eq_true (m.2 (this.1 hb))
  rw[z]at t
  have o:w7 (r,(n:Int),es)=lf (H06 es) (n-1) 1:=by simp only[w7,Int.toNat_natCast]
  rw[K5.eq_2,x,oB,show(1:Int)=((1:Nat):Int) from rfl,t,oB]
  cases hlf:lf (H06 es) (n-1) 1 with
  |none =>
   have e:Q9 d (r,(n:Int),es)=(r,(n:Int),es):=by
    cases d with
    |zero=>rfl
    |succ d=>unfold Q9;rw[o,hlf]
   rw[e]
   exact⟨left,by rw[if_pos (by rfl)]⟩
  |some k =>
   have I:=P07 _ _ _ hlf
   have w:decide ((k:Int)=0)=false:=decide_eq_false (by omega)
   have p:=O0g k n n 0 (by omega)
   have g:=Q0b k n 0
   rw[if_pos (by omega)]at g
   have s:=l0i n k (by omega) n 0 U0 [] (by omega) (C1 (by omega)) (Nat.le_refl _)
   rw[show((0:Nat):Int)=0 from rfl,List.nil_append]at s
   have E:=j0i r n es (wo k n 0) b p (by omega) (by omega) (by omega)
   have F:=y09 (r,(n:Int),es) (wo k n 0)
   have q:=M0g (r:=r) p b
   have G:IntKind.i64.wrap ((k:Int)+((1:Nat):Int))=((k+1:Nat):Int):=by rw[w64 (by omega) (by omega)];rfl
   obtain⟨a,rfl⟩:∃ a,d=a+1:=⟨d-1,by omega⟩
   have f:L5 (r,(n:Int),es) (wo k n 0)=(r,((n-1:Nat):Int),(L5 (r,(n:Int),es) (wo k n 0)).2.2):=by rw[←g];rfl
   obtain⟨i,u⟩:=j0k (n-1) fuel a (left.take k++left.drop (k+1)) r (L5 (r,(n:Int),es) (wo k n 0)).2.2 (by omega) (by omega) (by rw[g]at q;exact q) (by simp only at F;omega) (by simp only[List.length_append,List.length_take,List.length_drop];omega) (by omega) (by omega)
   refine⟨i,?_⟩
   rw[←f]at u
   have e:Q9 (a+1) (r,(n:Int),es)=Q9 a (L5 (r,(n:Int),es) (wo k n 0)):=by
    show(match w7 (r,(n:Int),es)with|none=>(r,(n:Int),es)|some k=>Q9 a (L5 (r,(n:Int),es) (wo k ((n:Int)).toNat 0)))=_
    rw[o,hlf,Int.toNat_natCast]
   rw[e]
   simp only[w,Bool.false_eq_true,if_false,s,oB,E]
   generalize L5 (r,(n:Int),es) (wo k n 0)=gp at *
   rw[f]
   simp only[G]
   rw[W0j (by omega),oB,P04 (by omega),oB,F0 (by simp only[List.length_take,List.length_drop];omega),oB,u,←f]
theorem I0c{g:j0}(f:E1 g=true):∃ v,N7 g=some (O03 g,v):=by
 obtain⟨b,i,j,c⟩:=Z0 f
 have m:=q02 g (by omega)
 have k:=O01 g (by omega)
 obtain⟨r,n,es⟩:=g
 simp only at i j c
 obtain⟨N,rfl⟩:∃ N:Nat,n=(N:Int):=⟨n.toNat,by omega⟩
 have l:inN N es:=λe d=>⟨(b e d).1,(b e d).2.1⟩
 obtain⟨u,a,h⟩:=m0i N (by omega) N 0 U0 [] (by omega) (C1 (by omega)) rfl
 obtain⟨o,p⟩:=j0k N U0 40 u r es (by omega) (by omega) l c h (C1 (by omega)) (by omega)
 refine⟨o,?_⟩
 unfold N7
 rw[show((0:Nat):Int)=0 from rfl]at a
 simp only[k,oB,m,f,Bool.not_true,Bool.false_eq_true,if_false,a,p,I9]
 rfl
def J06(g:j0):j0:=L3 (O03 g)
theorem G0a{g:j0}(hf:C0 g=true):T9 g=(g,[]):=by
 obtain⟨a,b⟩:=(B09 g).1 hf
 unfold T9
 rw[a]
 show G01 40 g=_
 unfold G01
 rw[b]
theorem O0l{g:j0}(hf:C0 g=true):S7 g=some (J06 g):=by
 have b:=K0 hf
 obtain⟨e,f,h,i⟩:=Z0 b
 have a:=Z08 g (by omega)
 rw[G0a hf]at a
 obtain⟨v,c⟩:=J0e b
 have d:=O07 (O03 g) (L9 40 hf)
 obtain⟨r,n,es⟩:=g
 unfold S7 J06
 simp only[a,oB,c]
 simp only[d,oB]
theorem P0l{g:j0}(hf:C0 g=true):T7 g=some (J06 g):=by
 have b:=K0 hf
 obtain⟨e,f,h,i⟩:=Z0 b
 have a:=a09 g (by omega)
 rw[G0a hf]at a
 obtain⟨v,c⟩:=I0c b
 have d:=N07 (O03 g) (L9 40 hf)
 obtain⟨r,n,es⟩:=g
 unfold T7 J06
 simp only[a,oB,c]
 simp only[d,oB]
def ng(x:Int):Int:=IntKind.i64.wrap (0-x)
def inv(w:List Int):List Int:=(w.map ng).reverse
theorem r0i(w:List Int):(inv w).length=w.length:=by simp[inv]
def K0a(w:List Int):Prop:=∀ x∈w,I0 x
theorem k0q{w:List Int}{k:Nat}{x:Int}(a:w[k]?=some x):inv (w.drop k)=inv (w.drop (k+1)) ++ [ng x]:=by
 rw[L1 a]
 simp[inv]
theorem L03(w:List Int)(c:w.length<=1099511627776):∀(k fuel:Nat),k<=w.length->k<fuel ->
  S6 w fuel ((k:Int)-1) (inv (w.drop k))=some (inv w)
 |k,0,b,hf=>by omega
 |0,fuel+1,b,hf=>by
  rw[S6.eq_2,if_neg (by simp)]
  rfl
 |k+1,fuel+1,b,hf=>by
  have a:=V5 (show k<w.length by omega)
  have next:=L03 w c k fuel (by omega) (by omega)
  generalize w[k]=x at a
  rw[k0q a]at next
  have d:=r0i (w.drop (k+1))
  rw[List.length_drop]at d
  rw[show(((k+1:Nat):Int)-1)=(k:Int) by omega,S6.eq_2,if_pos (by simp),T2 a,oB,F0 (by simp only[List.length_singleton];omega),oB,
   w64 (by omega) (by omega)]
  exact next
theorem Z0b(w:List Int)(a:w.length<=1099511627776):V02 w=some (inv w):=by
 unfold V02
 have h:=L03 w a w.length U0 (Nat.le_refl _) (C1 (by omega))
 rw[List.drop_length]at h
 rw[w64 (by omega) (by omega),show([]:P0)=inv [] from rfl,h]
 rfl
theorem Y02(w:List Int):∀(fuel:Nat) (k:Int) (u:List Int),T6 w fuel k u=S6 w fuel k u
 |0,k,u=>rfl
 |fuel+1,k,u=>by
  rw[T6.eq_2,S6.eq_2]
  simp only[Y02 w fuel]
theorem a0c(w:List Int)(a:w.length<=1099511627776):z00 w=some (inv w):=by
 rw[←Z0b w a]
 unfold z00 V02
 rw[F0 (by omega),oB,Y02]
 rfl
def b06(l x:Int):Bool := !(l == 0) && !(l == -9223372036854775808)&&(x == ng l)
def H04(s:List Int)(x:Int):List Int:=match s with
 | []=>[x]
 |l::t=>bif b06 l x then t else x::l::t
def z02(s w:List Int):List Int:=w.foldl H04 s
def Red:List Int->Bool
 | []=>true
 | [_]=>true
 |x::l::t => !b06 l x&&Red (l::t)
theorem l0q{x:Int}{t:List Int}(h:Red (x::t)=true):Red t=true:=by
 cases t with
 |nil=>rfl
 |cons l t=>simp only[Red,Bool.and_eq_true]at h;exact h.2
theorem n0k(s a b:List Int):z02 s (a++b)=z02 (z02 s a) b:=List.foldl_append
theorem Z0g:∀(s:List Int),Red s=true->z02 [] s.reverse=s
 | [],h=>rfl
 |x::t,h=>by
  rw[List.reverse_cons,n0k,Z0g t (l0q h)]
  show H04 t x=_
  cases t with
  |nil=>rfl
  |cons l t =>
   simp only[Red,Bool.and_eq_true,Bool.not_eq_true']at h
   simp only[H04,h.1,cond_false]
theorem a0h(s:List Int)(x:Int):(H04 s x).length<=s.length+1:=by
 cases s with
 |nil=>simp[H04]
 |cons l t =>
  simp only[H04]
  cases b06 l x<;>simp<;>omega
theorem L0a:∀(w s:List Int),(z02 s w).length<=s.length+w.length
 | [],s=>by simp[z02]
 |x::w,s=>by
  have:=L0a w (H04 s x)
  have:=a0h s x
  simp only[z02,List.foldl_cons,List.length_cons]at *
  omega
theorem R0l{l:Int}{t:List Int}:(l::t).reverse[t.length]?=some l:=by
 rw[List.reverse_cons,List.getElem?_append_right (by simp)]
 simp
theorem A0o(l:Int)(t:List Int):(l::t).reverse.take t.length=t.reverse:=by
 rw[List.reverse_cons,List.take_append_of_le_length (by simp),List.take_of_length_le (by simp)]
theorem c0h{a b:List Int}(c:K0a a)(d:K0a b):K0a (a++b):=λx e=>by
 rcases List.mem_append.1 e with h|h
 ·exact c x h
 ·exact d x h
theorem S03(w:List Int)(hl:w.length<=1099511627776)(n0:Nat)(hn:n0<=1099511627776):∀(d k fuel:Nat) (s:List Int),k+d=w.length->d<fuel->s.length<=n0+k ->
  I6 w fuel (k:Int) s.reverse=some (z02 s (w.drop k)).reverse
 |d,k,0,s,hk,hf,hsl=>by omega
 |0,k,fuel+1,s,hk,hf,hsl=>by
  rw[I6.eq_2,if_neg (by simp;omega),N1 (by omega)]
  rfl
 |d+1,k,fuel+1,s,hk,hf,hsl=>by
  have hkl:k<w.length:=by omega
  have hx:=V5 hkl
  generalize w[k]=x at hx
  have next:=S03 w hl n0 hn d (k+1) fuel (H04 s x) (by omega) (by omega) (by have:=a0h s x;omega)
  rw[L1 hx]
  show _=some (z02 (H04 s x) (w.drop (k+1))).reverse
  rw[←next,I6.eq_2,if_pos (by simp;omega),T2 hx,oB,oB,F0 (by rw[List.length_reverse];omega),oB,oB,oB]
  rw[G2 hkl (by omega:w.length<=9223372036854775807)]
  cases s with
  |nil =>
   have hz:decide ((((([]:List Int).reverse).length:Nat):Int)>0)=false:=rfl
   simp only[hz,o5,oB,cond_false,Bool.false_eq_true,if_false]
   rw[F0 (by simp)]
   rfl
  |cons l t =>
   have hp:decide ((((l::t).reverse.length:Nat):Int)>0)=true:=by simp
   have hpr:IntKind.i64.wrap ((((l::t).reverse.length:Nat):Int)-1)=((t.length:Nat):Int):=by
    rw[M0j (by simp) (by simp only[List.length_cons]at hsl;simp only[List.length_reverse,List.length_cons];omega)];simp
   have hpush:(grd (((l::t).reverse.length + [x].length)*8<=140737488355328))=some ():=F0 (by simp only[List.length_cons]at hsl;simp only[List.length_reverse,List.length_cons,List.length_nil];omega)
   have hlen:(grd ((l::t).reverse.length<=9223372036854775807))=some ():=F0 (by rw[List.length_reverse];omega)
   simp only[hp,hpr,Q2,oB,cond_true,T2 R0l,d0i,H04]
   have hcc:(!(l == 0) && !(l == -9223372036854775808)&&(x == IntKind.i64.wrap (0-l)))=b06 l x:=rfl
   rw[hcc]
   cases hc:b06 l x with
   |true =>
    simp only[if_true,cond_true,hlen,oB]
    rw[F0 (by simp only[List.length_reverse,List.length_cons];omega),oB,Int.toNat_natCast,A0o]
   |false =>
    simp only[Bool.false_eq_true,if_false,cond_false,hpush,hlen,oB]
    exact congrArg _ (List.reverse_cons ..).symm
def C0o:List (List Int)->Nat
 | []=>0
 |w::r=>w.length+C0o r
def p0q(s:List Int):List (List Int)->List Int
 | []=>s
 |w::r=>p0q (z02 s w) r
theorem T03(a:List (List Int))(g:a.length<=1099511627776):∀(d k fuel:Nat) (s:List Int),k+d=a.length->d<fuel->s.length+C0o (a.drop k)<=1099511627776 ->
  U7 a fuel (k:Int) s.reverse=some (p0q s (a.drop k)).reverse
 |d,k,0,s,e,hf,b=>by omega
 |0,k,fuel+1,s,e,hf,b=>by
  rw[U7.eq_2,if_neg (by simp;omega),N1 (by omega)]
  rfl
 |d+1,k,fuel+1,s,e,hf,b=>by
  have f:k<a.length:=by omega
  have c:=V5 f
  generalize a[k]=w at c
  rw[L1 c]at b ⊢
  simp only[C0o]at b
  have h:=L0a w s
  have h0:=S03 w (by omega) s.length (by omega) w.length 0 U0 s (by omega) (C1 (by omega)) (by omega)
  rw[show((0:Nat):Int)=0 from rfl,List.drop_zero]at h0
  rw[U7.eq_2,if_pos (by simp;omega),T2 c,oB,h0,oB,G2 f (by omega:a.length<=9223372036854775807)]
  exact T03 a g d (k+1) fuel (z02 s w) (by omega) (by omega) (by omega)
theorem b09(a:List (List Int))(c:a.length<=1099511627776)(b:C0o a<=1099511627776):i00 a=some (p0q [] a).reverse:=by
 unfold i00
 have h:=T03 a c a.length 0 U0 [] (by omega) (C1 (by omega)) (by simpa using b)
 rw[show((0:Nat):Int)=0 from rfl,List.drop_zero,List.reverse_nil]at h
 rw[h]
 rfl
end Go.Proofs.YtkjhghloldgioaaGreat
