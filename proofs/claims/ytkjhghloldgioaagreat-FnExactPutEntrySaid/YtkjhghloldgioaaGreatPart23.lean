/- Texts of the claim, joined: Plain laws: words and presentations, as the spec and the cod and others. -/
import Derived.Test.YtkjhghloldgioaaGreatPart18
import Derived.Test.YtkjhghloldgioaaGreatH33
import Derived.Test.YtkjhghloldgioaaGreatH36
namespace Go.Proofs.YtkjhghloldgioaaGreat
open Go.H
set_option linter.unusedVariables false
set_option linter.unusedSimpArgs false
theorem E2{n:Nat}(h:n<=140737488355328):n<V0:=by unfold V0;omega
theorem P0{p:Prop}[Decidable p](h:p):grd p=some ():=by unfold grd;rw[if_pos h]
theorem j2{a:Type}(o:Option a)(d:a):chk true o d=o:=rfl
theorem Q1{a:Type}(o:Option a)(d:a):chk false o d=some d:=rfl
theorem T4{a:Type}{xs:List a}{k:Nat}{x:a}(h:xs[k]?=some x):gi xs (k:Int)=some x:=by rw[H05];exact h
theorem H0f{a:Type}{xs:List a}{x:a}(h:xs[0]?=some x):gi xs 0=some x:=T4 (k:=0) h
theorem t0h{x:Int}(h:Q0 x)(a:x ≠ -9223372036854775808):IntKind.i64.wrap (0-x) = -x:=by rw[w64 (by have:=h.1;have:=h.2;omega) (by have:=h.1;have:=h.2;omega)];omega
theorem l0d{n:Nat}(h:0<n)(a:n<=9223372036854775807):IntKind.i64.wrap ((n:Int)-1)=((n-1:Nat):Int):=by rw[w64 (by omega) (by omega)];omega
theorem t7{a:Type}{xs:List a}{k:Nat}(h:k<xs.length):xs[k]?=some xs[k]:=List.getElem?_eq_getElem h
def inR(b a x:Int):Bool:=decide (b<=x)&&decide (x<=a)
theorem Q02(a b c:Int):i5 a b c=some (inR b c a):=by
 unfold i5 inR
 by_cases h:b<=a<;>simp[h]
theorem R02(a b c:Int):U5 a b c=some (inR b c a):=Q02 a b c
def tot:List (List Int)->Nat
 | []=>0
 |w::r=>w.length+tot r
theorem T3{a:Type}{xs:List a}{k:Nat}{x:a}(h:xs[k]?=some x):xs.drop k=x::xs.drop (k+1):=by
 obtain⟨b,rfl⟩:=List.getElem?_eq_some_iff.1 h
 exact List.drop_eq_getElem_cons b
theorem V2{a:Type}{xs:List a}{k:Nat}(h:k=xs.length):xs.drop k = []:=by rw[h];exact List.drop_length
def c02(r a:Int)(e:C0):Bool:=inR 0 a e.1&&inR 0 a e.2.2&&inR 1 r e.2.1
def T09(e f:C0):Int:=P1 e f
theorem E07(e f:C0):T09 e f=if j6 e.1 f.1≠0 then j6 e.1 f.1 else if j6 e.2.1 f.2.1≠0 then j6 e.2.1 f.2.1 else j6 e.2.2 f.2.2:=rfl
theorem d02(a b:Int):(a<b/\j6 a b = -1)∨(a>b/\j6 a b=1)∨(a=b/\j6 a b=0):=by
 unfold j6
 split
 ·omega
 ·split<;>omega
theorem F06(e f:C0):Q0 (T09 e f):=by
 rw[E07]
 split
 ·exact S09 _ _
 ·split<;>exact S09 _ _
theorem I0f(g:j0)(e:C0):B8 g e=some (c02 g.1 (IntKind.i64.wrap (g.2.1-1)) e):=by
 obtain⟨r,n,es⟩:=g
 obtain⟨a,l,b⟩:=e
 unfold B8 c02
 simp only[Q02,oB]
 cases inR 0 (IntKind.i64.wrap (n-1)) a with
 |false=>rfl
 |true =>
  cases inR 0 (IntKind.i64.wrap (n-1)) b with
  |false=>rfl
  |true=>simp[chk]
theorem p06(g:j0)(e:C0):d6 g e=some (c02 g.1 (IntKind.i64.wrap (g.2.1-1)) e):=by
 obtain⟨r,n,es⟩:=g
 obtain⟨a,l,b⟩:=e
 unfold d6 j7 c02
 simp only[R02,oB]
 cases inR 0 (IntKind.i64.wrap (n-1)) a with
 |false=>rfl
 |true =>
  cases inR 0 (IntKind.i64.wrap (n-1)) b with
  |false=>rfl
  |true=>simp[chk]
theorem L8(e f:C0):J5 e f=some (T09 e f):=by
 obtain⟨a,l,b⟩:=e
 obtain⟨i,k,j⟩:=f
 unfold J5
 rw[show V0=(V0-4)+1+1+1+1 from rfl]
 have t:IntKind.i64.wrap (0+1)=1:=by decide
 have u:IntKind.i64.wrap (1+1)=2:=by decide
 have v:IntKind.i64.wrap (2+1)=3:=by decide
 have p:∀ x d z:Int,gi [x,d,z] 0=some x:=λ_ _ _=>rfl
 have q:∀ x d z:Int,gi [x,d,z] 1=some d:=λ_ _ _=>rfl
 have s:∀ x d z:Int,gi [x,d,z] 2=some z:=λ_ _ _=>rfl
 have d0:decide ((0:Int)<3)=true:=rfl
 have m:decide ((1:Int)<3)=true:=rfl
 have n:decide ((2:Int)<3)=true:=rfl
 have o:decide ((3:Int)<3)=false:=rfl
 simp only[P4.eq_2,t,u,v,p,q,s,d0,m,n,o,if_true,oB,Bool.false_eq_true,if_false]
 rw[E07]
 simp only
 rcases d02 a i with⟨h,e⟩|⟨h,e⟩|⟨h,e⟩
 ·simp[e,h,f8]
 ·have : ¬ a<i:=by omega
  simp[e,h,this,f8]
 ·subst h
  rcases d02 l k with⟨h,c⟩|⟨h,c⟩|⟨h,c⟩
  ·simp[e,c,h,f8]
  ·have : ¬ l<k:=by omega
   simp[e,c,h,this,f8]
  ·subst h
   rcases d02 b j with⟨h,g⟩|⟨h,g⟩|⟨h,g⟩
   ·simp[e,c,g,h,f8]
   ·have : ¬ b<j:=by omega
    simp[e,c,g,h,this,f8]
   ·subst h
    simp[e,c,g,f8]
theorem t0e(a b:Int):Y4 a b=some (j6 a b):=by
 unfold Y4 j6
 by_cases h:a<b
 ·simp[h]
 ·by_cases h2:a>b<;>simp[h,h2]
theorem C00(e f:C0):r6 e f=some (T09 e f):=by
 obtain⟨a,l,b⟩:=e
 obtain⟨c,d,g⟩:=f
 rw[E07]
 unfold r6
 simp only[t0e,oB,P0 (S09 _ _)]
 by_cases h1:j6 a c=0
 ·by_cases h2:j6 l d=0
  ·simp[h1,h2]
  ·simp[h1,h2]
 ·simp[h1]
def W0g(r a:Int)(es:List C0)(k:Nat):Bool:=match es[k]? with
 |none=>true
 |some e => !c02 r a e || (decide (0<k)&&match es[k-1]? with
  |none=>true
  |some f=>decide (T09 f e ≥ 0))
def okE(r a:Int)(es:List C0):Nat->Nat->Bool
 |0,_=>true
 |d+1,k => !W0g r a es k&&okE r a es d (k+1)
def K5(g:j0):Bool:=okE g.1 (IntKind.i64.wrap (g.2.1-1)) g.2.2 g.2.2.length 0&&inR 1 3 g.1&&inR 1 40 g.2.1&&decide (g.2.2.length<=120)
theorem U09{r a:Int}{es:List C0}{k:Nat}{e:C0}(b:es[k]?=some e):W0g r a es k=(!c02 r a e || (decide (0<k)&&match es[k-1]? with
  |none=>true
  |some f=>decide (T09 f e ≥ 0))):=by unfold W0g;rw[b]
theorem Y00(r n:Int)(es:List C0)(q:es.length<=140737488355328):∀(d k fuel:Nat),k+d=es.length->d<fuel ->
  j5 es r n fuel (k:Int)=some (bif okE r (IntKind.i64.wrap (n-1)) es d k then .inr ()else .inl false)
 |d,k,0,l,hf=>by omega
 |0,k,fuel+1,l,hf=>by
  rw[j5.eq_2,if_neg (by simp;omega)]
  simp[okE]
 |d+1,k,fuel+1,l,hf=>by
  have m:k<es.length:=by omega
  have a:=t7 m
  generalize es[k]=e at a
  obtain⟨h,i,j⟩:=e
  have next:=Y00 r n es q d (k+1) fuel (by omega) (by omega)
  rw[j5.eq_2,if_pos (by simp;omega),T4 a,oB]
  simp only[I0f,oB,Z2 m (by omega:es.length<=9223372036854775807),next,okE,U09 a]
  generalize IntKind.i64.wrap (n-1)=hi
  cases hin:c02 r hi (h,i,j)with
  |false=>simp[chk,grd,Q0]
  |true =>
   by_cases hk0:k=0
   ·have c:decide ((k:Int)>0)=false:=by simp;omega
    have b:decide (0<k)=false:=by simp;omega
    simp only[c,b,Q1,Bool.not_true,Bool.not_false,Bool.and_true,Bool.false_and,Bool.or_self,Bool.true_and,cond_true,cond_false,oB,Bool.or_false,Bool.false_eq_true,if_false,P0 (show Q0 0 by decide)]
   ·have g:=t7 (show k-1<es.length by omega)
    generalize es[k-1]=f at g
    obtain⟨o,p,f2⟩:=f
    have s:IntKind.i64.wrap ((k:Int)-1)=((k-1:Nat):Int):=l0d (by omega) (by omega)
    have c:decide ((k:Int)>0)=true:=by simp;omega
    have b:decide (0<k)=true:=by simp;omega
    simp only[c,b,s,g,T4 a,T4 g,j2,Bool.not_true,Bool.not_false,Bool.and_true,Bool.false_and,Bool.or_self,Bool.true_and,cond_true,cond_false,oB,Bool.or_false,Bool.false_or,L8,P0 (F06 _ _)]
    cases decide (T09 (o,p,f2) (h,i,j) ≥ 0)<;>rfl
theorem I9(g:j0)(a:g.2.2.length<=140737488355328):c6 g=some (K5 g):=by
 obtain⟨r,n,es⟩:=g
 unfold c6 K5
 simp only at a ⊢
 have h:=Y00 r n es a es.length 0 V0 (by omega) (E2 a)
 rw[show((0:Nat):Int)=0 from rfl]at h
 rw[h,oB]
 cases okE r (IntKind.i64.wrap (n-1)) es es.length 0 with
 |false=>simp[f8]
 |true =>
  rw[cond_true,j1,Q02,Q02,oB]
  cases inR 1 3 r with
  |false=>simp[chk]
  |true =>
   simp only[j2,oB,cond_true,Bool.true_and]
   cases inR 1 40 n with
   |false=>simp
   |true=>simp;omega
theorem Z00(r n:Int)(es:List C0)(q:es.length<=140737488355328):∀(d k fuel:Nat),k+d=es.length->d<fuel ->
  l5 es r n fuel (k:Int)=some (bif okE r (IntKind.i64.wrap (n-1)) es d k then .inr ()else .inl false)
 |d,k,0,l,hf=>by omega
 |0,k,fuel+1,l,hf=>by
  rw[l5.eq_2,if_neg (by simp;omega)]
  simp[okE]
 |d+1,k,fuel+1,l,hf=>by
  have m:k<es.length:=by omega
  have a:=t7 m
  generalize es[k]=e at a
  obtain⟨h,i,j⟩:=e
  have next:=Z00 r n es q d (k+1) fuel (by omega) (by omega)
  rw[l5.eq_2,if_pos (by simp;omega),T4 a,oB]
  simp only[p06,oB,Z2 m (by omega:es.length<=9223372036854775807),next,okE,U09 a]
  generalize IntKind.i64.wrap (n-1)=hi
  cases hin:c02 r hi (h,i,j)with
  |false=>simp[chk,grd,Q0]
  |true =>
   by_cases hk0:k=0
   ·have c:decide ((k:Int)>0)=false:=by simp;omega
    have b:decide (0<k)=false:=by simp;omega
    simp only[c,b,Q1,Bool.not_true,Bool.not_false,Bool.and_true,Bool.false_and,Bool.or_self,Bool.true_and,cond_true,cond_false,oB,Bool.or_false,Bool.false_eq_true,if_false,P0 (show Q0 0 by decide)]
   ·have g:=t7 (show k-1<es.length by omega)
    generalize es[k-1]=f at g
    obtain⟨o,p,f2⟩:=f
    have s:IntKind.i64.wrap ((k:Int)-1)=((k-1:Nat):Int):=l0d (by omega) (by omega)
    have c:decide ((k:Int)>0)=true:=by simp;omega
    have b:decide (0<k)=true:=by simp;omega
    simp only[c,b,s,g,T4 a,T4 g,j2,Bool.not_true,Bool.not_false,Bool.and_true,Bool.false_and,Bool.or_self,Bool.true_and,cond_true,cond_false,oB,Bool.or_false,Bool.false_or,C00,P0 (F06 _ _)]
    cases decide (T09 (o,p,f2) (h,i,j) ≥ 0)<;>rfl
theorem H03(g:j0)(c:g.2.2.length<=140737488355328):l7 g=some (K5 g):=by
 obtain⟨r,n,es⟩:=g
 unfold l7 K5
 simp only at c ⊢
 rw[R02,R02,oB]
 cases hr:inR 1 3 r with
 |false=>simp[chk]
 |true =>
  simp only[Bool.not_true,Bool.not_false,j2,oB,cond_false]
  cases hn:inR 1 40 n with
  |false=>simp
  |true =>
   by_cases h120:es.length<=120
   ·have h:=Z00 r n es c es.length 0 V0 (by omega) (E2 c)
    rw[show((0:Nat):Int)=0 from rfl]at h
    have a:decide (((es.length:Nat):Int)>120)=false:=by simp;omega
    have b:decide (es.length<=120)=true:=by simpa using h120
    simp only[a,b,Bool.not_true,cond_false,Bool.false_eq_true,if_false,h,oB]
    cases okE r (IntKind.i64.wrap (n-1)) es es.length 0<;>rfl
   ·have a:decide (((es.length:Nat):Int)>120)=true:=by simp;omega
    have b:decide (es.length<=120)=false:=by simpa using h120
    simp only[a,b,Bool.not_true,cond_false,if_true,Bool.and_false]
theorem J0f{r a:Int}{es:List C0}:∀ {d k:Nat},okE r a es d k=true->∀ i,k<=i->i<k+d->W0g r a es i=false
 |0,k,h,i,b,c=>by omega
 |d+1,k,h,i,b,c=>by
  simp only[okE,Bool.and_eq_true,Bool.not_eq_true']at h
  by_cases e:i=k
  ·subst e;exact h.1
  ·exact J0f h.2 i (by omega) (by omega)
theorem k0b{n:Nat}(h:n<=9223372036854775807):n<V0:=by unfold V0;omega
def goI(x:Int):List Int->Bool×List Int
 | []=>(false,[])
 |y::l=>if x<y then(true,x::y::l)else if y=x then(true,y::l)else((goI x l).1,y::(goI x l).2)
theorem m0d(x:Int):∀ l,J8 j6 x l=bif(goI x l).1 then(goI x l).2 else(goI x l).2 ++ [x]
 | []=>rfl
 |y::l=>by
  have a:=m0d x l
  unfold J8 goI
  rcases d02 x y with⟨h,e⟩|⟨h,e⟩|⟨h,e⟩
  ·rw[e,if_pos (by omega),if_pos h];rfl
  ·rw[e,if_neg (by omega),if_neg (by omega),if_neg (by omega),if_neg (by omega),a]
   cases (goI x l).1<;>rfl
  ·rw[e,if_neg (by omega),if_pos rfl,if_neg (by omega),if_pos h.symm];rfl
theorem F07(l:List Int)(w:Int)(h:l.length<=1099511627776):∀(d k fuel:Nat) (acc:List Int),k+d=l.length->d<fuel->acc.length<=k+1 ->
  j3 l w fuel true (k:Int) acc=some (true,acc++l.drop k)
 |d,k,0,acc,e,hf,b=>by omega
 |0,k,fuel+1,acc,e,hf,b=>by
  rw[j3.eq_2,if_neg (by simp;omega),V2 (by omega),List.append_nil]
 |d+1,k,fuel+1,acc,e,hf,b=>by
  have f:k<l.length:=by omega
  have a:=t7 f
  generalize l[k]=x at a
  have i:=F07 l w h d (k+1) fuel (acc ++ [x]) (by omega) (by omega) (by simp;omega)
  rw[j3.eq_2,if_pos (by simp;omega),T4 a,oB]
  have g:∀ c:Bool,(bif c then(!true)else false)=false:=λc=>by cases c<;>rfl
  simp only[g,Bool.false_eq_true,if_false,oB,Z2 f (show l.length<=9223372036854775807 by omega),i,P0 (show(acc.length + [x].length)*8<=140737488355328 by simp;omega)]
  rw[T3 a]
  split<;>simp
theorem S08(l:List Int)(w:Int)(b:l.length<=1099511627776):∀(d k fuel:Nat) (acc:List Int),k+d=l.length->d<fuel->acc.length=k ->
  j3 l w fuel false (k:Int) acc=some ((goI w (l.drop k)).1,acc++(goI w (l.drop k)).2)
 |d,k,0,acc,g,hf,f=>by omega
 |0,k,fuel+1,acc,g,hf,f=>by
  rw[j3.eq_2,if_neg (by simp;omega),V2 (by omega)]
  simp[goI]
 |d+1,k,fuel+1,acc,g,hf,f=>by
  have a:k<l.length:=by omega
  have e:=t7 a
  generalize l[k]=x at e
  have j:=S08 l w b d (k+1) fuel (acc ++ [x]) (by omega) (by omega) (by simp;omega)
  have m:=F07 l w b d (k+1) fuel (acc ++ [x]) (by omega) (by omega) (by simp;omega)
  have n:=F07 l w b d (k+1) fuel (acc ++ [w] ++ [x]) (by omega) (by omega) (by simp;omega)
  rw[j3.eq_2,if_pos (by simp;omega),T4 e,oB,T3 e]
  unfold goI
  have h:∀ c:Bool,(bif c then(!true)else false)=false:=λc=>by cases c<;>rfl
  have i:∀ c:Bool,(bif c then(!false)else false)=c:=λc=>by cases c<;>rfl
  by_cases h0:x=w
  ·rw[if_pos (by simpa using h0),oB,h,if_neg (by simp),oB,P0 (by simp;omega),oB,Z2 a (by omega),m,if_neg (by omega),if_pos h0]
   simp
  ·rw[if_neg (by simpa using h0),oB,i]
   by_cases h1:w<x
   ·rw[if_pos (by simpa using h1),P0 (by simp;omega),oB,oB,P0 (by simp;omega),oB,Z2 a (by omega),n,if_pos h1]
    simp
   ·rw[if_neg (by simpa using h1),oB,P0 (by simp;omega),oB,Z2 a (by omega),j,if_neg h1,if_neg h0]
    simp
theorem O04(l:List Int)(w:Int)(a:l.length<=1099511627776):V5 l w=some (J8 j6 w l):=by
 unfold V5
 have h:=S08 l w a l.length 0 V0 [] (by omega) (E2 (by omega)) rfl
 rw[show((0:Nat):Int)=0 from rfl,List.drop_zero,List.nil_append]at h
 rw[h,oB,m0d]
 have b:∀ l:List Int,(goI w l).2.length<=l.length+1:=λl=>by
  induction l with
  |nil=>simp[goI]
  |cons d l c =>
   unfold goI
   split
   ·simp
   ·split
    ·simp
    ·simp only[List.length_cons];omega
 have:=b l
 cases (goI w l).1 with
 |true=>rfl
 |false =>
  simp only[Bool.not_false,if_true,cond_false]
  rw[P0 (by simp;omega),oB]
def T08(v x:Int)(e:C0):List Int :=
 if 0<x/\e.2.1=x/\e.1=v then [e.2.2]else if x<0/\e.2.1 = -x/\e.2.2=v then [e.1]else []
def h8(v x:Int):List C0->List Int
 | []=>[]
 |e::es=>T08 v x e++h8 v x es
theorem u0e(v x:Int)(e:C0):(T08 v x e).length<=1:=by unfold T08;split<;>(try split)<;>simp
theorem G07(v x:Int):∀ es,(h8 v x es).length<=es.length
 | []=>by simp[h8]
 |e::es=>by
  have a:=u0e v x e
  have b:=G07 v x es
  simp only[h8,List.length_append,List.length_cons]
  omega
def i01(x:Int):Prop:=Q0 x/\x ≠ -9223372036854775808
theorem P04(es:List C0)(v x:Int)(f:i01 x)(t:es.length<=1099511627776):∀(d k fuel:Nat) (acc:List Int),k+d=es.length->d<fuel->acc.length<=k ->
  D3 es x v fuel (k:Int) acc=some (acc++h8 v x (es.drop k))
 |d,k,0,acc,p,hf,o=>by omega
 |0,k,fuel+1,acc,p,hf,o=>by
  rw[D3.eq_2,if_neg (by simp;omega),V2 (by omega)]
  simp[h8]
 |d+1,k,fuel+1,acc,p,hf,o=>by
  have q:k<es.length:=by omega
  have m:=t7 q
  generalize es[k]=e at m
  obtain⟨a,l,b⟩:=e
  have n:=λs h=>P04 es v x f t d (k+1) fuel s (by omega) (by omega) h
  have u:decide (x = -9223372036854775808)=false:=by simp;exact f.2
  rw[D3.eq_2,if_pos (by simp;omega),T4 m,oB,T3 m]
  simp only[h8,T08,t0h f.1 f.2,u,Bool.not_false,Z2 q (show es.length<=9223372036854775807 by omega)]
  by_cases c:0<x/\l=x/\a=v
  ·obtain⟨c,rfl,rfl⟩:=c
   rw[if_pos (by simp[c]),if_pos ⟨c,rfl,rfl⟩,P0 (by simp;omega),oB,n _ (by simp;omega)]
   simp
  ·rw[if_neg c,if_neg (by simp only[Bool.cond_eq_ite];simp;intro g i j;exact c ⟨g,i,j⟩)]
   by_cases c2:x<0/\l = -x/\b=v
   ·rw[if_pos c2,if_pos (by simp[c2.1,c2.2.1,c2.2.2]),P0 (by simp;omega),oB,n _ (by simp;omega)]
    simp
   ·rw[if_neg c2,if_neg (by simp only[Bool.cond_eq_ite];simp;intro g i j;exact c2 ⟨g,i,j⟩),n _ (by omega)]
    simp
theorem E01(w:Int):∀ l:List Int,(J8 j6 w l).length<=l.length+1
 | []=>by simp[J8]
 |y::l=>by
  have:=E01 w l
  unfold J8
  split
  ·simp
  ·split
   ·simp
   ·simp only[List.length_cons];omega
theorem Q04(es:List C0)(v x:Int)(m:i01 x)(s:es.length<=1099511627776):∀(d k fuel:Nat) (u:List Int),k+d=es.length->d<fuel->u.length<=k ->
  O2 es x v fuel u (k:Int)=some (K8 j6 u (h8 v x (es.drop k)))
 |d,k,0,u,p,hf,o=>by omega
 |0,k,fuel+1,u,p,hf,o=>by
  rw[O2.eq_2,if_neg (by simp;omega),V2 (by omega)]
  rfl
 |d+1,k,fuel+1,u,p,hf,o=>by
  have q:k<es.length:=by omega
  have j:=t7 q
  generalize es[k]=e at j
  obtain⟨a,l,b⟩:=e
  have n:=λw h=>Q04 es v x m s d (k+1) fuel w (by omega) (by omega) h
  rw[O2.eq_2,if_pos (by simp;omega),T4 j,oB,T3 j]
  simp only[h8,T08,t0h m.1 m.2,Z2 q (show es.length<=9223372036854775807 by omega)]
  by_cases c:0<x/\l=x/\a=v
  ·obtain⟨c,rfl,rfl⟩:=c
   have t:decide (l<0)=false:=by simp;omega
   have:=E01 b u
   rw[if_pos (by simp[c]),if_pos ⟨c,rfl,rfl⟩,O04 u b (by omega),oB,t,if_neg (by simp),n _ (by omega)]
   rfl
  ·rw[if_neg c,if_neg (by simp only[Bool.cond_eq_ite];simp;intro f g i;exact c ⟨f,g,i⟩)]
   by_cases c2:x<0/\l = -x/\b=v
   ·have:=E01 a u
    rw[if_pos c2,if_pos (by simp[c2.1,c2.2.1,c2.2.2]),O04 u a (by omega),oB,n _ (by omega)]
    rfl
   ·rw[if_neg c2,if_neg (by simp only[Bool.cond_eq_ite];simp;intro f g i;exact c2 ⟨f,g,i⟩),n _ (by omega)]
    rfl
def J9(g:j0)(v x:Int):List Int:=K8 j6 [] (h8 v x g.2.2)
theorem X0g(x y:Int):eqI x y=true↔x=y:=by simp[eqI]
theorem l0b(g:j0)(v x:Int)(b:i01 x)(a:g.2.2.length<=1099511627776):n7 g v x=some (J9 g v x):=by
 obtain⟨r,n,es⟩:=g
 unfold n7 J9
 have h:=Q04 es v x b a es.length 0 V0 [] (by omega) (k0b (by simp only at a;omega)) (by simp)
 rw[show((0:Nat):Int)=0 from rfl,List.drop_zero]at h
 simp only[h,oB]
theorem m0b(g:j0)(v x:Int)(b:i01 x)(a:g.2.2.length<=1099511627776):o7 g v x=some (J9 g v x):=by
 obtain⟨r,n,es⟩:=g
 unfold o7 J9
 have h:=P04 es v x b a es.length 0 V0 [] (by omega) (k0b (by simp only at a;omega)) (by simp)
 rw[show((0:Nat):Int)=0 from rfl,List.drop_zero,List.nil_append]at h
 have c:=G07 v x es
 simp only at a
 simp only[h,oB,P0 (show(h8 v x es).length<4611686018427387904 by omega)]
 rw[←j0b i9 X0g (h8 v x es) (h8 v x es) λ_=>Iff.rfl]
 rfl
def N6(g:j0)(v x:Int):Int:=match J9 g v x with
 | [] => -1
 |a::_=>a
theorem k0c(g:j0)(v x:Int)(c:i01 x)(b:g.2.2.length<=1099511627776):T6 g v x=some (N6 g v x):=by
 have h:=l0b g v x c b
 obtain⟨r,n,es⟩:=g
 unfold T6 N6
 simp only[h,oB]
 cases J9 (r,n,es) v x with
 |nil=>rfl
 |cons a l=>rfl
theorem l0c(g:j0)(v x:Int)(c:i01 x)(b:g.2.2.length<=1099511627776):U6 g v x=some (N6 g v x):=by
 have h:=m0b g v x c b
 obtain⟨r,n,es⟩:=g
 unfold U6 N6
 simp only[h,oB]
 cases J9 (r,n,es) v x with
 |nil=>rfl
 |cons a l=>rfl
theorem v0e{g:j0}{v x y:Int}(h:y∈J9 g v x):y∈h8 v x g.2.2:=by
 rcases(b02 i9 y _ []).1 h with h|h
 ·cases h
 ·exact h
theorem H07{v x f:Int}:∀ {es:List C0},f∈h8 v x es↔∃ e∈es,(0<x/\e.2.1=x/\e.1=v/\f=e.2.2)∨(x<0/\e.2.1 = -x/\e.2.2=v/\f=e.1)
 | []=>by simp[h8]
 |e::es=>by
  simp only[h8,List.mem_append,H07 (es:=es),List.mem_cons,exists_eq_or_imp]
  refine or_congr ?_ Iff.rfl
  unfold T08
  split
  ·rename_i h
   simp only[List.mem_singleton]
   constructor
   ·rintro rfl;exact .inl ⟨h.1,h.2.1,h.2.2,rfl⟩
   ·rintro(⟨_,_,_,a⟩|⟨g,_⟩)
    ·exact a
    ·omega
  ·rename_i h
   split
   ·rename_i b
    simp only[List.mem_singleton]
    constructor
    ·rintro rfl;exact .inr ⟨b.1,b.2.1,b.2.2,rfl⟩
    ·rintro(⟨g,_⟩|⟨_,_,_,a⟩)
     ·omega
     ·exact a
   ·rename_i b
    constructor
    ·intro h;cases h
    ·rintro(⟨c,a,d,_⟩|⟨c,a,d,_⟩)
     ·exact absurd ⟨c,a,d⟩ h
     ·exact absurd ⟨c,a,d⟩ b
def inG(g:j0):Prop:=∀ e∈g.2.2,(0<=e.1/\e.1<g.2.1)/\(0<=e.2.2/\e.2.2<g.2.1)/\1<=e.2.1/\e.2.1<=g.1
theorem S02{g:j0}(h:K5 g=true):inG g/\(1<=g.1/\g.1<=3)/\(1<=g.2.1/\g.2.1<=40)/\g.2.2.length<=120:=by
 obtain⟨r,n,es⟩:=g
 simp only[K5,inR,Bool.and_eq_true,decide_eq_true_eq]at h
 obtain⟨⟨⟨m,o⟩,p⟩,q⟩:=h
 refine⟨λe s=>?_,o,p,q⟩
 obtain⟨i,b⟩:=List.getElem?_of_mem s
 have a:=J0f m i (Nat.zero_le _) (by have:=(List.getElem?_eq_some_iff.1 b).1;simp only at this;omega)
 rw[U09 b]at a
 simp only[Bool.or_eq_false_iff,Bool.not_eq_false',c02,inR,Bool.and_eq_true,decide_eq_true_eq]at a
 obtain⟨⟨⟨⟨c,d⟩,f,j⟩,k,l⟩,_⟩:=a
 rw[w64 (by omega) (by omega)]at d j
 simp only
 exact⟨⟨c,by omega⟩,⟨f,by omega⟩,k,l⟩
theorem G06{g:j0}(d:inG g)(v x:Int):N6 g v x = -1∨(0<=N6 g v x/\N6 g v x<g.2.1):=by
 unfold N6
 cases hs:J9 g v x with
 |nil=>exact .inl rfl
 |cons a l =>
  right
  have b:a∈J9 g v x:=by rw[hs];exact mS
  obtain⟨e,c,h⟩:=H07.1 (v0e b)
  have:=d e c
  rcases h with⟨_,_,_,rfl⟩|⟨_,_,_,rfl⟩
  ·exact this.2.1
  ·exact this.1
theorem n0d{g:j0}(a:inG g)(b:g.2.1<=40)(v x:Int):Q0 (N6 g v x):=by
 rcases G06 a v x with h|h
 ·rw[h];decide
 ·constructor<;>omega
def q06(a b:C0):Bool:=decide (a.2.1=b.2.1)&&(decide (a.1=b.1) || decide (a.2.2=b.2.2))
theorem U08(a b:C0):q06 a b=q06 b a:=by
 unfold q06
 have h:∀ x y:Int,decide (x=y)=decide (y=x):=λx y=>decide_eq_decide.2 ⟨Eq.symm,Eq.symm⟩
 rw[h a.2.1,h a.1,h a.2.2]
def noC(a:C0):List C0->Bool
 | []=>true
 |b::l => !q06 a b&&noC a l
def I03:List C0->Bool
 | []=>true
 |a::l=>noC a l&&I03 l
theorem V09(a:C0):∀ l,noC a l=true↔∀ b∈l,q06 a b=false
 | []=>by simp[noC]
 |b::l=>by simp[noC,V09 a l]
theorem V08:∀ l,I03 l=true↔l.Pairwise λa b=>q06 a b=false
 | []=>by simp[I03]
 |a::l=>by simp[I03,V08 l,V09,List.pairwise_cons]
def I07:List C0->List C0->Bool
 |_,[]=>true
 |b,a::l=>noC a b&&I07 (b ++ [a]) l
theorem W08:∀(l f:List C0),I07 f l=true↔l.Pairwise (λa b=>q06 a b=false)/\∀ a∈l,∀ b∈f,q06 a b=false
 | [],f=>by simp[I07]
 |a::l,f=>by
  simp only[I07,Bool.and_eq_true,V09,W08 l,List.pairwise_cons]
  constructor
  ·rintro⟨g,h,e⟩
   refine⟨⟨λb c=>by rw[U08];exact e b c a (by simp),h⟩,λx d b c=>?_⟩
   rcases List.mem_cons.1 d with rfl|d
   ·exact g b c
   ·exact e x d b (by simp[c])
  ·rintro⟨⟨g,h⟩,e⟩
   refine⟨λb c=>e a mS b c,h,λx d b c=>?_⟩
   rcases List.mem_append.1 c with c|c
   ·exact e x (mC _ d) b c
   ·rw[List.mem_singleton.1 c,U08];exact g x d
theorem w0e(l:List C0):I07 [] l=I03 l:=by
 rw[Bool.eq_iff_iff,W08,V08]
 simp
def N3(g:j0):Bool:=K5 g&&I03 g.2.2
theorem u0h(a b e c d f:Int):(bif decide (b=d)then(bif decide (a=c)then true else decide (e=f))else false)=q06 (a,b,e) (c,d,f):=by
 unfold q06
 cases decide (b=d)<;>cases decide (a=c)<;>rfl
theorem R04(l:List C0)(a:C0)(n:l.length<=140737488355328):∀(d k fuel:Nat),k+d=l.length->d<fuel ->
  J4 l a.2.1 a.1 a.2.2 fuel (k:Int)=some (bif noC a (l.drop k)then .inr ()else .inl false)
 |d,k,0,g,hf=>by omega
 |0,k,fuel+1,g,hf=>by
  rw[J4.eq_2,if_neg (by simp;omega),V2 (by omega)]
  rfl
 |d+1,k,fuel+1,g,hf=>by
  have h:k<l.length:=by omega
  have b:=t7 h
  generalize l[k]=x at b
  obtain⟨c,e,f⟩:=a
  obtain⟨i,j,m⟩:=x
  rw[J4.eq_2,if_pos (by simp;omega),T4 b,oB,T3 b]
  simp only[u0h,noC]
  cases hc:q06 (c,e,f) (i,j,m)with
  |true=>rfl
  |false =>
   rw[if_neg (by simp),Z2 h (by omega),R04 l (c,e,f) n d (k+1) fuel (by omega) (by omega)]
   simp
theorem J07{a:Type}{xs:List a}{k:Nat}(h:k<=xs.length):M04 xs (k:Int) (xs.length:Int)=some (xs.drop k):=by
 unfold M04
 rw[if_pos ⟨by omega,by omega,by omega⟩]
 simp
theorem S04(l:List C0)(h:l.length<=140737488355328):∀(d k fuel:Nat),k+d=l.length->d<fuel ->
  K4 l fuel (k:Int)=some (bif I03 (l.drop k)then .inr ()else .inl false)
 |d,k,0,b,hf=>by omega
 |0,k,fuel+1,b,hf=>by
  rw[K4.eq_2,if_neg (by simp;omega),V2 (by omega)]
  rfl
 |d+1,k,fuel+1,b,hf=>by
  have c:k<l.length:=by omega
  have a:=t7 c
  generalize l[k]=x at a
  have h0:=R04 (l.drop (k+1)) x (by simp;omega) (l.drop (k+1)).length 0 V0 (by omega) (E2 (by simp;omega))
  rw[show((0:Nat):Int)=0 from rfl,List.drop_zero]at h0
  obtain⟨e,f,g⟩:=x
  rw[K4.eq_2,if_pos (by simp;omega),T4 a,oB,T3 a]
  simp only[Z2 c (show l.length<=9223372036854775807 by omega),J07 (show k+1<=l.length by omega),oB]
  simp only at h0
  rw[h0,oB]
  simp only[I03]
  cases noC (e,f,g) (l.drop (k+1))with
  |false=>rfl
  |true =>
   simp only[cond_true,o0e,Bool.true_and]
   exact S04 l h d (k+1) fuel (by omega) (by omega)
theorem D00(g:j0)(a:g.2.2.length<=140737488355328):o6 g=some (N3 g):=by
 have b:=H03 g a
 obtain⟨r,n,es⟩:=g
 unfold o6 N3
 simp only[b,oB]
 cases K5 (r,n,es)with
 |false=>rfl
 |true =>
  have h:=S04 es a es.length 0 V0 (by omega) (E2 a)
  rw[show((0:Nat):Int)=0 from rfl,List.drop_zero]at h
  rw[if_neg (by simp),h,oB]
  cases I03 es<;>rfl
theorem T04(l:List C0)(q:l.length<=140737488355328){i:Nat}{a:C0}(b:l[i]?=some a):∀(d k fuel:Nat),k+d=i->d<fuel ->
  I4 (i:Int) l fuel (k:Int)=some (bif noC a ((l.take i).drop k)then .inr ()else .inl false)
 |d,k,0,e,hf=>by omega
 |0,k,fuel+1,e,hf=>by
  have:=(List.getElem?_eq_some_iff.1 b).1
  rw[I4.eq_2,if_neg (by simp;omega),V2 (by simp;omega)]
  rfl
 |d+1,k,fuel+1,e,hf=>by
  have t:=(List.getElem?_eq_some_iff.1 b).1
  have f:k<l.length:=by omega
  have c:=t7 f
  have g:(l.take i)[k]?=some l[k]:=by rw[List.getElem?_take,if_pos (by omega)];exact c
  have s:=T04 l q b d (k+1) fuel (by omega) (by omega)
  generalize l[k]=x at c g
  obtain⟨h,j,m⟩:=a
  obtain⟨n,o,p⟩:=x
  rw[I4.eq_2,if_pos (by simp;omega),T4 b,oB,T3 g]
  simp only[T4 c,oB,u0h,noC]
  cases hc:q06 (h,j,m) (n,o,p)with
  |true=>rfl
  |false =>
   rw[if_neg (by simp),Z2 f (by omega),s]
   simp
theorem o0d{a:Type}{xs:List a}{k:Nat}{x:a}(h:xs[k]?=some x):xs.take (k+1)=xs.take k ++ [x]:=by
 obtain⟨b,rfl⟩:=List.getElem?_eq_some_iff.1 h
 exact List.take_succ_eq_append_getElem b
theorem U04(r n:Int)(l:List C0)(f:K5 (r,n,l)=true)(b:l.length<=140737488355328):∀(d k fuel:Nat),k+d=l.length->d<fuel ->
  P3 l r n fuel (k:Int)=some (bif I07 (l.take k) (l.drop k)then .inr ()else .inl false)
 |d,k,0,c,hf=>by omega
 |0,k,fuel+1,c,hf=>by
  have e:decide ((k:Int)<(l.length:Int))=false:=by simp;omega
  rw[P3.eq_2,e,Q1,oB,if_neg (by simp),V2 (by omega)]
  rfl
 |d+1,k,fuel+1,c,hf=>by
  have g:k<l.length:=by omega
  have a:=t7 g
  generalize l[k]=x at a
  have h0:=T04 l b a k 0 V0 (by omega) (E2 (by omega))
  rw[show((0:Nat):Int)=0 from rfl,List.drop_zero]at h0
  have e:decide ((k:Int)<(l.length:Int))=true:=by simp;omega
  rw[P3.eq_2,e,j2,I9 (r,n,l) b,oB,f,if_pos (show(bif true then true else false)=true from rfl),h0,oB,T3 a]
  simp only[I07]
  cases noC x (l.take k)with
  |false=>rfl
  |true =>
   simp only[cond_true,o0e,Bool.true_and]
   rw[Z2 g (by omega),←o0d a]
   exact U04 r n l f b d (k+1) fuel (by omega) (by omega)
theorem T02(g:j0)(a:g.2.2.length<=140737488355328):P6 g=some (N3 g):=by
 have b:=I9 g a
 obtain⟨r,n,es⟩:=g
 unfold P6 N3
 simp only[b,oB]
 cases hg:K5 (r,n,es)with
 |false =>
  have c:P3 es r n V0 0=some (.inr ()):=by
   rw[show V0=(V0-1)+1 from rfl,P3.eq_2]
   by_cases e:decide ((0:Int)<(es.length:Int))=true
   ·rw[e,j2,b,oB,hg,if_neg (by simp)]
   ·rw[Bool.not_eq_true]at e
    rw[e,Q1,oB,if_neg (by simp)]
  rw[c]
  rfl
 |true =>
  have h:=U04 r n es hg a es.length 0 V0 (by omega) (E2 a)
  rw[show((0:Nat):Int)=0 from rfl,List.drop_zero,List.take_zero,w0e]at h
  rw[h,oB]
  cases I03 es<;>rfl
theorem B9{g:j0}(h:N3 g=true):inG g/\(1<=g.1/\g.1<=3)/\(1<=g.2.1/\g.2.1<=40)/\g.2.2.length<=120:=by
 unfold N3 at h
 simp only[Bool.and_eq_true]at h
 exact S02 h.1
def Y0g(v:Int)(e:C0):Nat:=(if e.1=v then 1 else 0)+(if e.2.2=v then 1 else 0)
def e02(v:Int):List C0->Nat
 | []=>0
 |e::r=>Y0g v e+e02 v r
theorem Z0g(v:Int)(e:C0):Y0g v e<=2:=by unfold Y0g;split<;>split<;>omega
theorem W09(v:Int):∀ l,e02 v l<=2*l.length
 | []=>by simp[e02]
 |e::r=>by have:=Z0g v e;have:=W09 v r;simp only[e02,List.length_cons];omega
theorem K07(es:List C0)(v:Int)(o:es.length<=1099511627776):∀(d k fuel acc:Nat),k+d=es.length->d<fuel->acc<=2*k ->
  C2 es v fuel (acc:Int) (k:Int)=some ((acc+e02 v (es.drop k):Nat):Int)
 |d,k,0,acc,j,hf,i=>by omega
 |0,k,fuel+1,acc,j,hf,i=>by
  rw[C2.eq_2,if_neg (by simp;omega),V2 (by omega)];rfl
 |d+1,k,fuel+1,acc,j,hf,i=>by
  have m:k<es.length:=by omega
  have f:=t7 m
  generalize es[k]=e at f
  obtain⟨a,l,b⟩:=e
  have c:=λn h=>K07 es v o d (k+1) fuel n (by omega) (by omega) h
  have g:IntKind.i64.wrap ((acc:Int)+1)=((acc+1:Nat):Int):=by rw[w64 (by omega) (by omega)];rfl
  have p:IntKind.i64.wrap (((acc+1:Nat):Int)+1)=((acc+2:Nat):Int):=by rw[w64 (by omega) (by omega)];rfl
  rw[C2.eq_2,if_pos (by simp;omega),T4 f,T3 f]
  simp only[oB,e02,Y0g,Z2 m (show es.length<=9223372036854775807 by omega)]
  by_cases c1:a=v
  ·rw[if_pos (by simpa using c1),if_pos c1]
   by_cases c2:b=v
   ·rw[if_pos (by simpa using c2),if_pos c2,g,p,c _ (by omega)];congr 2;omega
   ·rw[if_neg (by simpa using c2),if_neg c2,g,c _ (by omega)];congr 2;omega
  ·rw[if_neg (by simpa using c1),if_neg c1]
   by_cases c2:b=v
   ·rw[if_pos (by simpa using c2),if_pos c2,g,c _ (by omega)];congr 2;omega
   ·rw[if_neg (by simpa using c2),if_neg c2,c _ (by omega)];congr 2;omega
theorem L07(es:List C0)(v:Int):∀(fuel:Nat) (x y:Int),Q3 es v fuel x y=C2 es v fuel x y
 |0,x,y=>rfl
 |fuel+1,x,y=>by
  rw[Q3.eq_2,C2.eq_2]
  simp only[L07 es v fuel]
  by_cases c:(decide (y<((es.length:Nat):Int)))=true
  ·rw[if_pos c,if_pos c]
   cases hg:gi es y with
   |none=>rfl
   |some e=>simp only[oB]
  ·rw[if_neg c,if_neg c]
theorem X08(g:j0)(v:Int)(a:g.2.2.length<=1099511627776):Q6 g v=some ((e02 v g.2.2:Nat):Int):=by
 obtain⟨r,n,es⟩:=g
 unfold Q6
 have h:=K07 es v a es.length 0 V0 0 (by omega) (E2 (by simp only at a;omega)) (Nat.zero_le _)
 rw[show((0:Nat):Int)=0 from rfl,List.drop_zero,Nat.zero_add]at h
 simp only[h,oB]
theorem x0e(g:j0)(v:Int)(a:g.2.2.length<=1099511627776):K7 g v=some ((e02 v g.2.2:Nat):Int):=by
 have h:=X08 g v a
 obtain⟨r,n,es⟩:=g
 unfold K7
 unfold Q6 at h
 simp only[L07]at h ⊢
 exact h
def n0b(g h:j0):Bool:=decide (g=h)
theorem p0d(x y:C0):eqE x y=true↔x=y:=by simp[eqE]
theorem k06(a b:List C0)(l:a.length=b.length)(j:a.length<=9223372036854775807):∀(d k fuel:Nat),k+d=a.length->d<fuel ->
  J0 a b fuel (k:Int)=some (if a.drop k=b.drop k then .inr ()else .inl false)
 |d,k,0,g,hf=>by omega
 |0,k,fuel+1,g,hf=>by
  rw[J0.eq_2,if_neg (by simp;omega),V2 (by omega),V2 (by omega)];rfl
 |d+1,k,fuel+1,g,hf=>by
  have i:k<a.length:=by omega
  have m:k<b.length:=by omega
  have e:=t7 i
  have f:=t7 m
  generalize a[k]=x at e
  generalize b[k]=y at f
  have o:=k06 a b l j d (k+1) fuel (by omega) (by omega)
  rw[J0.eq_2,if_pos (by simp;omega),T4 e,T4 f,T3 e,T3 f]
  simp only[oB,Z2 i j,o]
  by_cases c:x=y
  ·subst c
   rw[if_neg (by simp[eqE])]
   simp
  ·have n:eqE x y=false:=Bool.eq_false_iff.2 λh=>c ((p0d x y).1 h)
   rw[if_pos (show(!eqE x y)=true by rw[n];rfl),if_neg (by simp[c])]
theorem M07(a b:List C0)(d:a.length<=9223372036854775807):O1 a b=some (decide (a=b)):=by
 unfold O1
 by_cases hab:a.length=b.length
 ·have h:=k06 a b hab d a.length 0 V0 (by omega) (by unfold V0;omega)
  rw[if_neg (by simp;omega),show(0:Int)=((0:Nat):Int) from rfl,h,List.drop_zero,List.drop_zero]
  by_cases c:a=b
  ·rw[if_pos c];simp[f8,c]
  ·rw[if_neg c];simp[f8,c]
 ·rw[if_pos (by simp;omega)]
  congr 1
  symm
  simp
  intro h;exact hab (by rw[h])
theorem y0e(g h:j0)(b:g.2.2.length<=9223372036854775807):H6 g h=some (n0b g h):=by
 obtain⟨r,n,es⟩:=g
 obtain⟨d,c,a⟩:=h
 unfold H6 n0b
 simp only[Prod.mk.injEq]
 by_cases c1:r=d<;>by_cases c2:n=c<;>simp[c1,c2,j2,Q1,M07 es a b]
theorem Y08(a b:List C0):∀(fuel:Nat) (k:Int),w4 a b fuel k=J0 a b fuel k
 |0,k=>rfl
 |fuel+1,k=>by
  rw[w4.eq_2,J0.eq_2]
  simp only[Y08 a b fuel]
theorem z0e(g h:j0)(b:g.2.2.length<=9223372036854775807):F6 g h=some (n0b g h):=by
 have a:=M07 g.2.2 h.2.2 b
 obtain⟨r,n,es⟩:=g
 obtain⟨d,c,e⟩:=h
 unfold F6 n0b
 unfold O1 at a
 simp only[Y08,Prod.mk.injEq]at a ⊢
 by_cases c1:r=d
 ·by_cases c2:n=c
  ·simp only[c1,c2,decide_true,Bool.not_true,cond_false,true_and]
   rw[←a]
  ·simp[c1,c2]
 ·simp[c1]
def goE(x:C0):List C0->Bool×List C0
 | []=>(false,[])
 |y::l=>if P1 x y<0 then(true,x::y::l)else if P1 x y=0 then(true,y::l)else((goE x l).1,y::(goE x l).2)
theorem q0d(x:C0):∀ l,J8 P1 x l=bif(goE x l).1 then(goE x l).2 else(goE x l).2 ++ [x]
 | []=>rfl
 |y::l=>by
  have a:=q0d x l
  unfold J8 goE
  by_cases c1:P1 x y<0
  ·rw[if_pos c1,if_pos c1];rfl
  ·rw[if_neg c1,if_neg c1]
   by_cases c2:P1 x y=0
   ·rw[if_pos c2,if_pos c2];rfl
   ·rw[if_neg c2,if_neg c2,a];cases (goE x l).1<;>rfl
theorem K05(l:List C0)(w0 i j:Int)(n:l.length<=1099511627776):∀(d k fuel:Nat) (acc:List C0),k+d=l.length->d<fuel->acc.length<=k+1 ->
  l3 l w0 i j fuel true (k:Int) acc=some (true,acc++l.drop k)
 |d,k,0,acc,g,hf,f=>by omega
 |0,k,fuel+1,acc,g,hf,f=>by
  rw[l3.eq_2,if_neg (by simp;omega),V2 (by omega),List.append_nil]
 |d+1,k,fuel+1,acc,g,hf,f=>by
  have h:k<l.length:=by omega
  have c:=t7 h
  generalize l[k]=e at c
  obtain⟨a,x,b⟩:=e
  have o:=K05 l w0 i j n d (k+1) fuel (acc ++ [(a,x,b)]) (by omega) (by omega) (by simp;omega)
  rw[l3.eq_2,if_pos (by simp;omega),T3 c]
  simp only[T4 c,oB,L8,P0 (F06 _ _),Z2 h (show l.length<=9223372036854775807 by omega),Bool.not_true]
  have m:∀ b:Bool,(bif b then false else false)=false:=λb=>by cases b<;>rfl
  simp only[m,Bool.false_eq_true,if_false]
  rw[P0 (by simp;omega),oB,o]
  simp
theorem N07(l:List C0)(w0 c f:Int)(h:l.length<=1099511627776):∀(d k fuel:Nat) (acc:List C0),k+d=l.length->d<fuel->acc.length=k ->
  l3 l w0 c f fuel false (k:Int) acc=some ((goE (w0,c,f) (l.drop k)).1,acc++(goE (w0,c,f) (l.drop k)).2)
 |d,k,0,acc,j,hf,i=>by omega
 |0,k,fuel+1,acc,j,hf,i=>by
  rw[l3.eq_2,if_neg (by simp;omega),V2 (by omega)];simp[goE]
 |d+1,k,fuel+1,acc,j,hf,i=>by
  have m:k<l.length:=by omega
  have g:=t7 m
  generalize l[k]=e at g
  obtain⟨a,x,b⟩:=e
  have n:=N07 l w0 c f h d (k+1) fuel (acc ++ [(a,x,b)]) (by omega) (by omega) (by simp;omega)
  have o:=K05 l w0 c f h d (k+1) fuel (acc ++ [(a,x,b)]) (by omega) (by omega) (by simp;omega)
  have p:=K05 l w0 c f h d (k+1) fuel ((acc ++ [(w0,c,f)]) ++ [(a,x,b)]) (by omega) (by omega) (by simp;omega)
  rw[l3.eq_2,if_pos (by simp;omega),T3 g]
  simp only[T4 g,oB,L8,P0 (F06 _ _),Z2 m (show l.length<=9223372036854775807 by omega),Bool.not_true,Bool.not_false,goE]
  show _=_
  unfold T09
  by_cases c1:P1 (w0,c,f) (a,x,b)=0
  ·rw[if_pos (by simpa using c1),if_neg (by simp[c1]),if_neg (by omega),if_pos c1]
   rw[P0 (by simp;omega),oB,o];simp
  ·rw[if_neg (by simpa using c1)]
   by_cases c2:P1 (w0,c,f) (a,x,b)<0
   ·rw[if_pos (by simp[c2]),if_pos c2,P0 (by simp;omega),oB,P0 (by simp;omega),oB,p];simp
   ·rw[if_neg (by simp[c2]),if_neg c2,if_neg c1,P0 (by simp;omega),oB,n];simp
theorem a0h(l:List C0)(e:C0)(c:l.length<=1099511627776):j9 l e=some (J8 P1 e l):=by
 obtain⟨w0,a,b⟩:=e
 unfold j9
 have h:=N07 l w0 a b c l.length 0 V0 [] (by omega) (E2 (by omega)) rfl
 rw[show((0:Nat):Int)=0 from rfl,List.drop_zero,List.nil_append]at h
 simp only[h,oB,q0d]
 have d:∀ l:List C0,(goE (w0,a,b) l).2.length<=l.length+1:=λl=>by
  induction l with
  |nil=>simp[goE]
  |cons g l f =>
   unfold goE
   split
   ·simp
   ·split
    ·simp
    ·simp only[List.length_cons];omega
 have:=d l
 cases (goE (w0,a,b) l).1 with
 |true=>rfl
 |false =>
  simp only[Bool.not_false,if_true,cond_false]
  rw[P0 (by simp;omega),oB]
theorem L05(e:C0):∀ l:List C0,(J8 P1 e l).length<=l.length+1
 | []=>by simp[J8]
 |y::l=>by
  have:=L05 e l
  unfold J8
  split
  ·simp
  ·split
   ·simp
   ·simp only[List.length_cons];omega
theorem K0f(es:List C0)(a:es.length<=1099511627776):D8 es=some (K8 P1 [] es):=by
 unfold D8
 rw[P0 (by simp;omega),oB,P0 (by simp;omega),oB,List.nil_append]
 exact congrArg some (j0b A07 p0d es es λ_=>Iff.rfl)
theorem f02(g:j0)(a:g.2.2.length<=1099511627776):S4 g=some g:=by
 obtain⟨r,n,es⟩:=g
 unfold S4
 simp only
 rw[P0 (by simp only[List.length_nil,Nat.zero_add];simp only at a;omega)];rfl
theorem d04(g:j0)(a:g.2.2.length<=1099511627776):n5 g=some g:=by
 obtain⟨r,n,es⟩:=g
 unfold n5
 simp only
 rw[P0 (by simp only[List.length_nil,Nat.zero_add];simp only at a;omega)];rfl
inductive Rch (es:List C0) (v:Int):Int->Prop
 |base:Rch es v v
 |fwd {e:C0}:e∈es->Rch es v e.1->Rch es v e.2.2
 |bwd {e:C0}:e∈es->Rch es v e.2.2->Rch es v e.1
theorem Rch.closed{es:List C0}{v:Int}:∀ e∈es,Rch es v e.1↔Rch es v e.2.2:=λe a=>⟨.fwd a,.bwd a⟩
theorem Rch.sub{es:List C0}{v:Int}{P:Int->Prop}(c:P v)(a:∀ e∈es,P e.1↔P e.2.2):∀ {x},Rch es v x->P x
 |_,.base=>c
 |_,.fwd b h=>(a _ b).1 (Rch.sub c a h)
 |_,.bwd b h=>(a _ b).2 (Rch.sub c a h)
def L6(S:List Bool)(i:Int):Bool:=S.getD i.toNat false
def stJ(S:List Bool)(e:C0):List Bool:=(S.set e.1.toNat true).set e.2.2.toNat true
def pJ:List C0->Bool->List Bool->Bool×List Bool
 | [],c,S=>(c,S)
 |e::r,c,S=>bif L6 S e.1 == L6 S e.2.2 then pJ r c S else pJ r true (stJ S e)
def cF:List Bool->Nat
 | []=>0
 |b::r=>(bif b then 0 else 1)+cF r
theorem m0c:∀(S:List Bool) (i:Nat),cF (S.set i true)<=cF S
 | [],i=>by simp[cF]
 |b::r,0=>by simp[cF]
 |b::r,i+1=>by have:=m0c r i;simp only[List.set_cons_succ,cF];omega
theorem L0f:∀(S:List Bool) (i:Nat),S[i]?=some false->cF (S.set i true)<cF S
 | [],i,h=>by simp at h
 |b::r,0,h=>by simp at h;subst h;simp[cF]
 |b::r,i+1,h=>by have:=L0f r i (by simpa using h);simp only[List.set_cons_succ,cF];omega
theorem v0h:∀ S:List Bool,cF S<=S.length
 | []=>by simp[cF]
 |b::r=>by have:=v0h r;cases b<;>simp only[cF,List.length_cons,cond_true,cond_false]<;>omega
def inN(n:Nat)(es:List C0):Prop:=∀ e∈es,(0<=e.1/\e.1<(n:Int))/\(0<=e.2.2/\e.2.2<(n:Int))
theorem U02{S:List Bool}{i:Nat}(h:i<S.length)(x:Int):L6 (S.set i true) x=(decide (x.toNat=i) || L6 S x):=by
 unfold L6
 rw[List.getD_eq_getElem?_getD,List.getD_eq_getElem?_getD,List.getElem?_set]
 by_cases c:i=x.toNat
 ·rw[if_pos c,if_pos (by omega)];simp[c]
 ·rw[if_neg c]
  have:decide (x.toNat=i)=false:=by simp;exact λe=>c e.symm
  rw[this];rfl
theorem n0c:∀(es:List C0) (c:Bool) (S:List Bool),(pJ es c S).2.length=S.length
 | [],c,S=>rfl
 |e::r,c,S=>by
  unfold pJ
  cases L6 S e.1 == L6 S e.2.2
  ·simp only[cond_false];rw[n0c r];simp[stJ]
  ·simp only[cond_true];exact n0c r c S
theorem X09{n:Nat}:∀(es:List C0) (c:Bool) (a:List Bool),a.length=n->inN n es->∀ x,L6 a x=true->L6 (pJ es c a).2 x=true
 | [],c,a,b,d,x,h=>h
 |e::r,c,a,b,d,x,h=>by
  have f:=d e mS
  have g:inN n r:=λe f=>d e (mC _ f)
  unfold pJ
  cases L6 a e.1 == L6 a e.2.2
  ·simp only[cond_false]
   refine X09 r _ _ (by simp[stJ,b]) g x ?_
   rw[stJ,U02 (by rw[List.length_set];omega),U02 (by omega),h];simp
  ·simp only[cond_true];exact X09 r c a b g x h
theorem O07{n:Nat}{P:Int->Prop}:∀(es:List C0) (c:Bool) (a:List Bool),a.length=n->inN n es->(∀ e∈es,P e.1↔P e.2.2)->(∀ x,0<=x->L6 a x=true->P x)->∀ x,0<=x->L6 (pJ es c a).2 x=true->P x
 | [],c,a,g,i,f,d,x,h0,h=>d x h0 h
 |e::r,c,a,g,i,f,d,x,h0,h=>by
  have b:=i e mS
  have o:inN n r:=λe b=>i e (mC _ b)
  have k:=λe b=>f e (mC _ b)
  have l:=f e mS
  unfold pJ at h
  cases hb:L6 a e.1 == L6 a e.2.2
  ·rw[hb]at h
   refine O07 r true (stJ a e) (by simp[stJ,g]) o k (λj p h=>?_) x h0 h
   rw[stJ,U02 (by rw[List.length_set];omega),U02 (by omega)]at h
   simp only[Bool.or_eq_true,decide_eq_true_eq]at h
   have m:P e.1∨P e.2.2:=by
    cases h1:L6 a e.1
    ·cases h2:L6 a e.2.2
     ·rw[h1,h2]at hb;cases hb
     ·exact .inr (d _ b.2.1 h2)
    ·exact .inl (d _ b.1.1 h1)
   rcases h with h|h|h
   ·have:j=e.2.2:=by omega
    subst this;exact m.elim l.1 id
   ·have:j=e.1:=by omega
    subst this;exact m.elim id l.2
   ·exact d j p h
  ·rw[hb]at h
   exact O07 r c a g o k d x h0 h
theorem o0c{n:Nat}:∀(es:List C0) (c:Bool) (a:List Bool),a.length=n->inN n es->cF (pJ es c a).2<=cF a/\((pJ es c a).1=true->c=true∨cF (pJ es c a).2<cF a)/\((pJ es c a).1=false->c=false/\(pJ es c a).2=a/\∀ e∈es,L6 a e.1=L6 a e.2.2)
 | [],c,a,k,l=>⟨Nat.le_refl _,λh => .inl h,λh=>⟨h,rfl,λe b=>nomatch b⟩⟩
 |e::r,c,a,k,l=>by
  have b:=l e mS
  have s:inN n r:=λe b=>l e (mC _ b)
  unfold pJ
  cases hb:L6 a e.1 == L6 a e.2.2
  ·simp only[cond_false]
   obtain⟨m,o,d⟩:=o0c r true (stJ a e) (by simp[stJ,k]) s
   have v:cF (stJ a e)<cF a:=by
    have g:∀(x:Int),0<=x->x<n->L6 a x=false->a[x.toNat]?=some false:=λx w y j=>by
     have p:x.toNat<a.length:=by omega
     unfold L6 at j
     rw[List.getD_eq_getElem?_getD,List.getElem?_eq_getElem p]at j
     rw[List.getElem?_eq_getElem p];simpa using j
    cases g1:L6 a e.1
    ·have:=L0f a _ (g _ b.1.1 b.1.2 g1)
     have:=m0c (a.set e.1.toNat true) e.2.2.toNat
     unfold stJ;omega
    ·have f:L6 a e.2.2=false:=by
      cases f:L6 a e.2.2
      ·rfl
      ·rw[g1,f]at hb;cases hb
     have u:(a.set e.1.toNat true)[e.2.2.toNat]?=some false:=by
      rw[List.getElem?_set]
      by_cases q:e.1.toNat=e.2.2.toNat
      ·exfalso
       have:e.1=e.2.2:=by omega
       rw[this,f]at g1;cases g1
      ·rw[if_neg q];exact g _ b.2.1 b.2.2 f
     have:=L0f _ _ u
     have:=m0c a e.1.toNat
     unfold stJ;omega
   refine⟨by omega,λ_ => .inr (by omega),λh=>?_⟩
   have:=(d h).1;cases this
  ·simp only[cond_true]
   obtain⟨m,o,d⟩:=o0c r c a k s
   refine⟨m,o,λh=>⟨(d h).1,(d h).2.1,λt i=>?_⟩⟩
   rcases List.mem_cons.1 i with rfl|i
   ·simpa using hb
   ·exact(d h).2.2 t i
theorem giB{a:List Bool}{n:Nat}(f:a.length=n){x:Int}(h0:0<=x)(d:x<n):gi a x=some (L6 a x):=by
 have c:x.toNat<a.length:=by omega
 have e:x=((x.toNat:Nat):Int):=by omega
 have b:gi a ((x.toNat:Nat):Int)=some (L6 a x):=by
  rw[H05,List.getElem?_eq_getElem c]
  unfold L6
  rw[List.getD_eq_getElem?_getD,List.getElem?_eq_getElem c];rfl
 rw[←e]at b;exact b
theorem Z08(es:List C0){n:Nat}(q:inN n es)(p:es.length<=9223372036854775807):∀(d k fuel:Nat) (c:Bool) (f:List Bool),f.length=n->k+d=es.length->d<fuel ->
  U2 es fuel c (k:Int) f=some (pJ (es.drop k) c f)
 |d,k,0,c,f,g,m,hf=>by omega
 |0,k,fuel+1,c,f,g,m,hf=>by
  rw[U2.eq_2,if_neg (by simp;omega),V2 (by omega)];rfl
 |d+1,k,fuel+1,c,f,g,m,hf=>by
  have o:k<es.length:=by omega
  have j:=t7 o
  have i:=q _ (List.mem_of_getElem? j)
  generalize es[k]=e at j i
  obtain⟨a,l,b⟩:=e
  have s:=λu t h=>Z08 es q p d (k+1) fuel u t h (by omega) (by omega)
  rw[U2.eq_2,if_pos (by simp;omega),T3 j]
  simp only[T4 j,oB,giB g i.1.1 i.1.2,giB g i.2.1 i.2.2,Z2 o p,giB (show(f.set a.toNat true).length=n by simp[g]) i.2.1 i.2.2,pJ]
  cases hb:L6 f a == L6 f b
  ·simp only[Bool.not_false,if_true,cond_false]
   exact s _ _ (by simp[g])
  ·simp only[Bool.not_true,Bool.false_eq_true,if_false,cond_true]
   exact s _ _ g
theorem a09(es:List C0){n:Nat}(f:inN n es)(z:es.length<=9223372036854775806):∀(m fuel:Nat) (a:List Bool),a.length=n->cF a<=m->m+1<fuel ->
  ∃ b,I3 es fuel true a=some b/\b.length=n/\(∀ x,L6 a x=true->L6 b x=true)/\(∀ e∈es,L6 b e.1=L6 b e.2.2) /\
   ∀ P:Int->Prop,(∀ e∈es,P e.1↔P e.2.2)->(∀ x,0<=x->L6 a x=true->P x)->∀ x,0<=x->L6 b x=true->P x
 |m,0,a,d,B,hf=>by omega
 |m,fuel+1,a,d,B,hf=>by
  have h0:=Z08 es f (by omega) es.length 0 V0 false a d (by omega) (by unfold V0;omega)
  rw[show((0:Nat):Int)=0 from rfl,List.drop_zero]at h0
  obtain⟨p,i,j⟩:=o0c es false a d f
  have A:=n0c es false a
  rw[I3.eq_2,if_pos rfl,h0,oB]
  have l:=X09 es false a d f
  have o:=λP=>O07 (P:=P) es false a d f
  generalize pJ es false a=q at *
  obtain⟨c,b⟩:=q
  simp only at p i j A l o ⊢
  cases c with
  |true =>
   rcases i rfl with h|h
   ·cases h
   ·obtain⟨S2,s,t,u,v,w⟩:=a09 es f z (m-1) fuel b (by omega) (by omega) (by omega)
    exact⟨S2,s,t,λx C=>u x (l x C),v,λP k g=>w P k (o P k g)⟩
  |false =>
   obtain⟨_,e,y⟩:=j rfl
   subst e
   obtain _|fuel:=fuel
   ·omega
   ·rw[I3.eq_2,if_neg (by simp)]
    exact⟨_,rfl,d,λx h=>h,y,λP _ g=>g⟩
theorem M0f(r:Int)(n:Nat)(es:List C0)(p:inN n es)(o:es.length<=9223372036854775806)(t:1<=n)(u:n<=140737488355328):
  ∃ a,s6 (r,(n:Int),es) 0=some a/\a.length=n/\∀ x,0<=x->x<(n:Int)->(L6 a x=true↔Rch es 0 x):=by
 unfold s6
 simp only[Int.toNat_natCast]
 have m:gi (List.replicate n (false:Bool)) 0=some false:=by
  rw[H0f (x:=false)];rw[List.getElem?_replicate,if_pos (by omega)]
 rw[P0 (by omega),oB,m,oB]
 have k:((List.replicate n (false:Bool)).set (0:Int).toNat true).length=n:=by simp
 obtain⟨b,d,f,g,i,j⟩:=a09 es p o n V0 _ k (by have:=v0h ((List.replicate n (false:Bool)).set (0:Int).toNat true);omega) (by unfold V0;omega)
 rw[d]
 have c:∀ x,L6 ((List.replicate n (false:Bool)).set (0:Int).toNat true) x=decide (x.toNat=0):=λx=>by
  rw[U02 (by simp;omega)]
  have:L6 (List.replicate n false) x=false:=by
   unfold L6
   rw[List.getD_eq_getElem?_getD,List.getElem?_replicate]
   split<;>rfl
  rw[this];simp
 refine⟨b,rfl,f,λx h0 s=>⟨λh=>?_,λh=>?_⟩⟩
 ·refine j (Rch es 0) Rch.closed (λq v h=>?_) x h0 h
  rw[c]at h
  have:q=0:=by simp at h;omega
  subst this;exact .base
 ·exact Rch.sub (P:=λx=>L6 b x=true) (g 0 (by rw[c];rfl)) (λe l=>by rw[i e l]) h
theorem w0h(l:List Int)(w:Int)(g:l.length<=9223372036854775807):∀(d k fuel:Nat),k+d=l.length->d<fuel ->
  g6 l w fuel (k:Int)=some (if w∈l.drop k then .inl true else .inr ())
 |d,k,0,b,hf=>by omega
 |0,k,fuel+1,b,hf=>by
  rw[g6.eq_2,if_neg (by simp;omega),V2 (by omega)];simp
 |d+1,k,fuel+1,b,hf=>by
  have f:k<l.length:=by omega
  have a:=t7 f
  generalize l[k]=x at a
  have i:=w0h l w g d (k+1) fuel (by omega) (by omega)
  rw[g6.eq_2,if_pos (by simp;omega),T3 a]
  simp only[T4 a,oB,Z2 f g,i,List.mem_cons]
  by_cases c:x=w
  ·rw[if_pos (by simpa using c),if_pos (.inl c.symm)]
  ·rw[if_neg (by simpa using c)]
   by_cases c2:w∈l.drop (k+1)
   ·rw[if_pos c2,if_pos (.inr c2)]
   ·rw[if_neg c2,if_neg (λh=>h.elim (λe=>c e.symm) c2)]
theorem H06(l:List Int)(w:Int)(a:l.length<=9223372036854775807):A6 l w=some (decide (w∈l)):=by
 unfold A6
 have h:=w0h l w a l.length 0 V0 (by omega) (by unfold V0;omega)
 rw[show((0:Nat):Int)=0 from rfl,List.drop_zero]at h
 rw[h,oB]
 by_cases c:w∈l
 ·rw[if_pos c];simp[f8,c]
 ·rw[if_neg c];simp[f8,c]
def s1(u:List Int)(e:C0):List Int:=if e.1∈u then J8 j6 e.2.2 u else u
def s2(u:List Int)(e:C0):List Int:=if e.2.2∈u then J8 j6 e.1 u else u
def pS:List C0->List Int->List Int
 | [],u=>u
 |e::r,u=>pS r (s2 (s1 u e) e)
theorem M05{u:List Int}{e:C0}{x:Int}:x∈s1 u e↔x∈u∨(e.1∈u/\x=e.2.2):=by
 unfold s1
 split
 ·rename_i h;rw[P02 i9];constructor
  ·rintro(a|a)
   ·exact .inr ⟨h,a⟩
   ·exact .inl a
  ·rintro(a|⟨_,a⟩)
   ·exact .inr a
   ·exact .inl a
 ·rename_i h;constructor
  ·exact .inl
  ·rintro(a|⟨a,_⟩)
   ·exact a
   ·exact absurd a h
theorem N05{u:List Int}{e:C0}{x:Int}:x∈s2 u e↔x∈u∨(e.2.2∈u/\x=e.1):=by
 unfold s2
 split
 ·rename_i h;rw[P02 i9];constructor
  ·rintro(a|a)
   ·exact .inr ⟨h,a⟩
   ·exact .inl a
  ·rintro(a|⟨_,a⟩)
   ·exact .inr a
   ·exact .inl a
 ·rename_i h;constructor
  ·exact .inl
  ·rintro(a|⟨a,_⟩)
   ·exact a
   ·exact absurd a h
theorem N0f(u:List Int)(e:C0):(s1 u e).length<=u.length+1:=by
 unfold s1;split
 ·exact E01 _ _
 ·omega
theorem O0f(u:List Int)(e:C0):(s2 u e).length<=u.length+1:=by
 unfold s2;split
 ·exact E01 _ _
 ·omega
theorem p0c:∀(es:List C0) (u:List Int),(pS es u).length<=u.length+2*es.length
 | [],u=>by simp[pS]
 |e::r,u=>by
  have:=p0c r (s2 (s1 u e) e)
  have:=O0f (s1 u e) e
  have:=N0f u e
  simp only[pS,List.length_cons];omega
theorem g02:∀(es:List C0) (u:List Int) (x:Int),x∈u->x∈pS es u
 | [],u,x,h=>h
 |e::r,u,x,h=>g02 r _ x (N05.2 (.inl (M05.2 (.inl h))))
theorem P07{P:Int->Prop}:∀(es:List C0) (u:List Int),(∀ e∈es,P e.1↔P e.2.2)->(∀ x∈u,P x)->∀ x∈pS es u,P x
 | [],u,b,a=>a
 |e::r,u,b,a=>P07 r _ (λe g=>b e (mC _ g)) λx i=>by
  have f:=b e mS
  have d:∀ c∈s1 u e,P c:=λc j=>by
   rcases M05.1 j with h|⟨h,rfl⟩
   ·exact a c h
   ·exact f.1 (a _ h)
  rcases N05.1 i with h|⟨h,rfl⟩
  ·exact d x h
  ·exact f.2 (d _ h)
theorem o0b:∀(es:List C0) (u:List Int) (e:C0),e∈es->e.1∈u∨e.2.2∈u->e.1∈pS es u/\e.2.2∈pS es u
 |c::r,u,e,a,h=>by
  simp only[pS]
  rcases List.mem_cons.1 a with rfl|a
  ·have b:e.2.2∈s1 u e:=by
    rcases h with h|h
    ·exact M05.2 (.inr ⟨h,rfl⟩)
    ·exact M05.2 (.inl h)
   exact⟨g02 r _ _ (N05.2 (.inr ⟨b,rfl⟩)),g02 r _ _ (N05.2 (.inl b))⟩
  ·exact o0b r _ e a (h.imp (λh=>N05.2 (.inl (M05.2 (.inl h)))) λh=>N05.2 (.inl (M05.2 (.inl h))))
def act(es:List C0)(u:List Int):Nat:=es.countP λe=>decide (e.1∈u)&&decide (e.2.2∈u)
def clo(es:List C0)(u:List Int):Prop:=∀ e∈es,e.1∈u↔e.2.2∈u
theorem Y0h(es:List C0)(u:List Int):act es u<=es.length:=List.countP_le_length
theorem b09{f:Type}{p q:f->Bool}:∀ {l:List f},(∀ x∈l,p x=true->q x=true)->(∃ x∈l,p x=false/\q x=true)->l.countP p<l.countP q
 | [],_,⟨x,a,_⟩=>nomatch a
 |c::l,h,⟨x,a,d,e⟩=>by
  have g:l.countP p<=l.countP q:=List.countP_mono_left λz b=>h z (mC _ b)
  rcases List.mem_cons.1 a with rfl|a
  ·rw[List.countP_cons_of_neg (by simp[d]),List.countP_cons_of_pos e];omega
  ·have i:=b09 (l:=l) (λz b=>h z (mC _ b)) ⟨x,a,d,e⟩
   cases hp:p c
   ·rw[List.countP_cons_of_neg (by simp[hp])]
    have:l.countP q<=(c::l).countP q:=by rw[List.countP_cons];omega
    omega
   ·rw[List.countP_cons_of_pos hp,List.countP_cons_of_pos (h c mS hp)];omega
theorem V04{es:List C0}{u:List Int}(h:clo es u)(x:Int):x∈pS es u↔x∈u :=
 ⟨P07 (P:=λx=>x∈u) es u h (λ_ h=>h) x,g02 es u x⟩
theorem P0f{es:List C0}{u:List Int}:clo es (pS es u)∨act es u<act es (pS es u):=by
 by_cases h:clo es u
 ·left
  intro e a
  rw[V04 h,V04 h];exact h e a
 ·right
  have:∃ e∈es,¬ (e.1∈u↔e.2.2∈u):=by
   refine Classical.byContradiction λb=>h λe a=>?_
   exact Classical.byContradiction λd=>b ⟨e,a,d⟩
  obtain⟨e,a,c⟩:=this
  refine b09 (λx g h=>?_) ⟨e,a,?_,?_⟩
  ·simp only[Bool.and_eq_true,decide_eq_true_eq]at h ⊢
   exact⟨g02 _ _ _ h.1,g02 _ _ _ h.2⟩
  ·rw[Bool.eq_false_iff]
   intro h
   simp only[Bool.and_eq_true,decide_eq_true_eq]at h
   exact c ⟨λ_=>h.2,λ_=>h.1⟩
  ·have f:e.1∈u∨e.2.2∈u:=by
    refine Classical.byContradiction λb=>c ⟨λh=>absurd (.inl h) b,λh=>absurd (.inr h) b⟩
   have:=o0b es u e a f
   simp only[Bool.and_eq_true,decide_eq_true_eq];exact this
def itS(es:List C0):Nat->List Int->List Int
 |0,u=>u
 |j+1,u=>itS es j (pS es u)
theorem r0d(es:List C0):∀(j:Nat) (u:List Int),(itS es j u).length<=u.length+j*(2*es.length)
 |0,u=>by simp[itS]
 |j+1,u=>by have:=r0d es j (pS es u);have:=p0c es u;simp only[itS,Nat.add_mul,Nat.one_mul];omega
theorem s0d(es:List C0):∀(j:Nat) (u:List Int),clo es u->clo es (itS es j u)
 |0,u,h=>h
 |j+1,u,h=>s0d es j _ λe a=>by rw[V04 h,V04 h];exact h e a
theorem t0d(es:List C0):∀(j:Nat) (u:List Int),clo es (itS es j u)∨act es u+j<=act es (itS es j u)
 |0,u => .inr (Nat.le_refl _)
 |j+1,u=>by
  rcases P0f (es:=es) (u:=u)with h|h
  ·exact .inl (s0d es j _ h)
  ·rcases t0d es j (pS es u)with a|a
   ·exact .inl a
   ·right;simp only[itS];omega
theorem p0b(es:List C0):∀(j:Nat) (u:List Int) (x:Int),x∈u->x∈itS es j u
 |0,u,x,h=>h
 |j+1,u,x,h=>p0b es j _ x (g02 es u x h)
theorem c09{P:Int->Prop}(es:List C0)(b:∀ e∈es,P e.1↔P e.2.2):∀(j:Nat) (u:List Int),(∀ x∈u,P x)->∀ x∈itS es j u,P x
 |0,u,a=>a
 |j+1,u,a=>c09 es b j _ (P07 es u b a)
theorem b0h(es:List C0)(v x:Int):x∈itS es (es.length+1) [v]↔Rch es v x:=by
 constructor
 ·exact c09 (P:=Rch es v) es Rch.closed _ _ (λc a=>by simp at a;subst a;exact .base) x
 ·have b:clo es (itS es (es.length+1) [v]):=by
   rcases t0d es (es.length+1) [v]with h|h
   ·exact h
   ·have:=Y0h es (itS es (es.length+1) [v]);omega
  exact Rch.sub (P:=λx=>x∈itS es (es.length+1) [v]) (p0b _ _ _ _ (by simp)) b
theorem Q07(es:List C0)(p:es.length<=9223372036854775807):∀(d k fuel:Nat) (u:List Int),k+d=es.length->d<fuel->u.length+2*d<=1099511627776 ->
  Z1 es fuel u (k:Int)=some (pS (es.drop k) u)
 |d,k,0,u,n,hf,q=>by omega
 |0,k,fuel+1,u,n,hf,q=>by
  rw[Z1.eq_2,if_neg (by simp;omega),V2 (by omega)];rfl
 |d+1,k,fuel+1,u,n,hf,q=>by
  have o:k<es.length:=by omega
  have m:=t7 o
  generalize es[k]=e at m
  obtain⟨a,l,b⟩:=e
  have i:=λt h=>Q07 es p d (k+1) fuel t (by omega) (by omega) h
  have s:=N0f u (a,l,b)
  have g:=O0f (s1 u (a,l,b)) (a,l,b)
  rw[Z1.eq_2,if_pos (by simp;omega),T3 m]
  simp only[T4 m,oB,H06 u _ (by omega),Z2 o p,pS]
  by_cases c:a∈u
  ·rw[if_pos (by simpa using c),O04 _ _ (by omega),oB]
   have j:s1 u (a,l,b)=J8 j6 b u:=if_pos c
   rw[j]at s g ⊢
   rw[H06 _ _ (by omega),oB]
   by_cases c2:b∈J8 j6 b u
   ·rw[if_pos (by simpa using c2),O04 _ _ (by omega),oB]
    have f:s2 (J8 j6 b u) (a,l,b)=J8 j6 a (J8 j6 b u):=if_pos c2
    rw[f]at g ⊢
    exact i _ (by omega)
   ·rw[if_neg (by simpa using c2)]
    have f:s2 (J8 j6 b u) (a,l,b)=J8 j6 b u:=if_neg c2
    rw[f]
    exact i _ (by omega)
  ·rw[if_neg (by simpa using c)]
   have j:s1 u (a,l,b)=u:=if_neg c
   rw[j]at g ⊢
   by_cases c2:b∈u
   ·rw[if_pos (by simpa using c2),O04 _ _ (by omega),oB]
    have f:s2 u (a,l,b)=J8 j6 a u:=if_pos c2
    rw[f]at g ⊢
    exact i _ (by omega)
   ·rw[if_neg (by simpa using c2)]
    have f:s2 u (a,l,b)=u:=if_neg c2
    rw[f]
    exact i _ (by omega)
theorem R07(es:List C0)(c:es.length<=120):∀(d k fuel:Nat) (u:List Int),k+d=es.length+1->d<fuel->u.length<=1+k*240 ->
  S3 es fuel u (k:Int)=some (itS es d u)
 |d,k,0,u,a,hf,b=>by omega
 |0,k,fuel+1,u,a,hf,b=>by
  rw[S3.eq_2,if_neg (by rw[w64 (by omega) (by omega)];simp;omega)];rfl
 |d+1,k,fuel+1,u,a,hf,b=>by
  have h0:=Q07 es (by omega) es.length 0 V0 u (by omega) (E2 (by omega)) (by omega)
  rw[show((0:Nat):Int)=0 from rfl,List.drop_zero]at h0
  have e:=R07 es c d (k+1) fuel (pS es u) (by omega) (by omega) (by have:=p0c es u;omega)
  rw[S3.eq_2,if_pos (by rw[w64 (by omega) (by omega)];simp;omega),h0,oB,Z2 (show k<1000 by omega) (by omega),e]
  rfl
def getI(P:List Int)(v:Int):Int:=P.getD v.toNat (-1)
def E00:List Int->Nat->List Int->List Int
 |A,k,[]=>A
 |A,k,v::r=>E00 (A.set v.toNat (k:Int)) (k+1) r
def plc(n:Nat)(o:List Int):List Int:=E00 (List.replicate n (-1)) 0 o
theorem S07:∀(o:List Int) (k:Nat) (A:List Int),(E00 A k o).length=A.length
 | [],k,A=>rfl
 |v::r,k,A=>by rw[E00,S07 r];simp
def inV(n:Nat)(o:List Int):Prop:=∀ v∈o,0<=v/\v<(n:Int)
theorem giI{P:List Int}{n:Nat}(d:P.length=n){x:Int}(h0:0<=x)(c:x<n):gi P x=some (getI P x):=by
 have b:x.toNat<P.length:=by omega
 have e:x=((x.toNat:Nat):Int):=by omega
 have a:gi P ((x.toNat:Nat):Int)=some (getI P x):=by
  rw[H05,List.getElem?_eq_getElem b]
  unfold getI
  rw[List.getD_eq_getElem?_getD,List.getElem?_eq_getElem b];rfl
 rw[←e]at a;exact a
theorem T07{A:List Int}{v x:Int}{a:Int}(h0:0<=v)(b:v.toNat<A.length)(d:0<=x):getI (A.set v.toNat a) x=if x=v then a else getI A x:=by
 unfold getI
 rw[List.getD_eq_getElem?_getD,List.getD_eq_getElem?_getD,List.getElem?_set]
 by_cases c:x=v
 ·rw[if_pos c,if_pos (by rw[c]),if_pos b];rfl
 ·rw[if_neg c,if_neg (by omega)]
theorem W04{n:Nat}:∀(o:List Int) (k:Nat) (A:List Int),A.length=n->inV n o->(∀ x,0<=x -> -1<=getI A x/\getI A x<(k:Int))->∀ x,0<=x -> -1<=getI (E00 A k o) x/\getI (E00 A k o) x<((k+o.length:Nat):Int)
 | [],k,A,c,a,h,x,b=>h x b
 |v::r,k,A,c,a,h,x,b=>by
  have e:=a v mS
  have:=W04 r (k+1) (A.set v.toNat (k:Int)) (by simp[c]) (λw f=>a w (mC _ f)) (λg d=>by
   rw[T07 e.1 (by omega) d]
   have:=h g d
   split<;>omega) x b
  rw[E00,List.length_cons,show k+(r.length+1)=k+1+r.length by omega];exact this
theorem U07(n:Nat)(x:Int):getI (List.replicate n (-1)) x = -1:=by
 unfold getI
 rw[List.getD_eq_getElem?_getD,List.getElem?_replicate]
 split<;>rfl
theorem O05{n:Nat}{o:List Int}(b:inV n o){x:Int}(a:0<=x): -1<=getI (plc n o) x/\getI (plc n o) x<(o.length:Int):=by
 have:=W04 o 0 (List.replicate n (-1)) (by simp) b (λx a=>by rw[U07];omega) x a
 rw[Nat.zero_add]at this;exact this
theorem u0d(n:Nat)(o:List Int):(plc n o).length=n:=by unfold plc;rw[S07];simp
def pE(P:List Int):List C0->List C0
 | []=>[]
 |e::r=>bif decide (0<=getI P e.1)&&decide (0<=getI P e.2.2)then(getI P e.1,e.2.1,getI P e.2.2)::pE P r else pE P r
theorem q0c(P:List Int):∀ es,(pE P es).length<=es.length
 | []=>by simp[pE]
 |e::r=>by
  have:=q0c P r
  unfold pE
  cases decide (0<=getI P e.1)&&decide (0<=getI P e.2.2)<;>simp only[cond_true,cond_false,List.length_cons]<;>omega
theorem x0h{n:Nat}{o:List Int}(d:inV n o):∀(es:List C0),inN n es->inN o.length (pE (plc n o) es)
 | [],c=>λe a=>nomatch a
 |e::r,c=>by
  have f:=x0h d r λe a=>c e (mC _ a)
  have a:=c e mS
  unfold pE
  cases hb:decide (0<=getI (plc n o) e.1)&&decide (0<=getI (plc n o) e.2.2)
  ·simpa only[cond_false] using f
  ·simp only[cond_true]
   simp only[Bool.and_eq_true,decide_eq_true_eq]at hb
   intro g b
   rcases List.mem_cons.1 b with rfl|b
   ·exact⟨⟨hb.1,(O05 d a.1.1).2⟩,hb.2,(O05 d a.2.1).2⟩
   ·exact f g b
def j01(g:j0)(o:List Int):j0:=(g.1,(o.length:Int),K8 P1 [] (pE (plc g.2.1.toNat o) g.2.2))
theorem l06:∀(r l:List C0),(K8 P1 l r).length<=l.length+r.length
 | [],l=>by simp[K8]
 |e::r,l=>by have:=l06 r (J8 P1 e l);have:=L05 e l;simp only[K8,List.length_cons];omega
theorem V07(g:j0)(o:List Int):(j01 g o).2.2.length<=g.2.2.length:=by
 have:=l06 (pE (plc g.2.1.toNat o) g.2.2) []
 have:=q0c (plc g.2.1.toNat o) g.2.2
 simp only[j01,List.length_nil]at *;omega
theorem A0e{n:Nat}{r:Int}{es:List C0}{o:List Int}(c:inV n o)(b:inN n es):inN o.length (j01 (r,(n:Int),es) o).2.2:=by
 intro e a
 simp only[j01,Int.toNat_natCast]at a
 rcases(b02 A07 e _ _).1 a with h|h
 ·cases h
 ·exact x0h c es b e h
theorem v0d(n:Nat)(c:n<=140737488355328):∀(d k fuel:Nat),k+d=n->d<fuel ->
  C6 n fuel (k:Int) (List.replicate k (-1)++List.replicate d 0)=some (List.replicate n (-1))
 |d,k,0,a,hf=>by omega
 |0,k,fuel+1,a,hf=>by
  rw[C6.eq_2,if_neg (by simp;omega),show k=n by omega];simp
 |d+1,k,fuel+1,a,hf=>by
  have b:gi (List.replicate k (-1)++List.replicate (d+1) (0:Int)) (k:Int)=some 0:=by
   rw[H05,List.getElem?_append_right (by simp)];simp
  have f:=v0d n c d (k+1) fuel (by omega) (by omega)
  rw[C6.eq_2,if_pos (by simp;omega),b,oB,Z2 (show k<n by omega) (by omega),Int.toNat_natCast]
  have e:(List.replicate k (-1)++List.replicate (d+1) (0:Int)).set k (-1)=List.replicate (k+1) (-1)++List.replicate d 0:=by
   rw[List.set_append_right _ _ (by simp),List.length_replicate,Nat.sub_self,List.replicate_succ,List.set_cons_zero,List.replicate_succ']
   simp
  rw[e,f]
theorem w0d(o:List Int){n:Nat}(h:inV n o)(g:o.length<=9223372036854775807):∀(d k fuel:Nat) (A:List Int),A.length=n->k+d=o.length->d<fuel ->
  B6 o fuel (k:Int) A=some (E00 A k (o.drop k))
 |d,k,0,A,a,e,hf=>by omega
 |0,k,fuel+1,A,a,e,hf=>by
  rw[B6.eq_2,if_neg (by simp;omega),V2 (by omega)];rfl
 |d+1,k,fuel+1,A,a,e,hf=>by
  have f:k<o.length:=by omega
  have b:=t7 f
  have c:=h _ (List.mem_of_getElem? b)
  generalize o[k]=v at b c
  have i:=w0d o h g d (k+1) fuel (A.set v.toNat (k:Int)) (by simp[a]) (by omega) (by omega)
  rw[B6.eq_2,if_pos (by simp;omega),T3 b,T4 b,oB,giI a c.1 c.2,oB,Z2 f g,i]
  rfl
theorem x0d(es:List C0){n:Nat}(q:inN n es)(t:es.length<=1099511627776)(P:List Int)(g:P.length=n)(r m:Int):∀(d k fuel:Nat) (acc:List C0),k+d=es.length->d<fuel->acc.length<=k ->
  W5 es P fuel (k:Int) r m acc=some (r,m,acc++pE P (es.drop k))
 |d,k,0,acc,o,hf,j=>by omega
 |0,k,fuel+1,acc,o,hf,j=>by
  rw[W5.eq_2,if_neg (by simp;omega),V2 (by omega)];simp[pE]
 |d+1,k,fuel+1,acc,o,hf,j=>by
  have p:k<es.length:=by omega
  have f:=t7 p
  have c:=q _ (List.mem_of_getElem? f)
  generalize es[k]=e at f c
  obtain⟨a,l,b⟩:=e
  have i:=λs h=>x0d es q t P g r m d (k+1) fuel s (by omega) (by omega) h
  rw[W5.eq_2,if_pos (by simp;omega),T3 f]
  simp only[T4 f,oB,giI g c.1.1 c.1.2,giI g c.2.1 c.2.2,Z2 p (show es.length<=9223372036854775807 by omega),pE]
  by_cases c1:0<=getI P a
  ·simp only[show decide (getI P a ≥ 0)=true by simpa using c1,j2,oB,cond_true,show decide (0<=getI P a)=true by simpa using c1,Bool.true_and]
   by_cases c2:0<=getI P b
   ·rw[if_pos (by simpa using c2),P0 (by simp;omega),oB,i _ (by simp;omega)]
    simp[c2]
   ·rw[if_neg (by simpa using c2),i _ (by omega)]
    simp[c2]
  ·simp only[show decide (getI P a ≥ 0)=false by simpa using c1,Q1,oB,cond_false,show decide (0<=getI P a)=false by simpa using c1,Bool.false_and]
   rw[if_neg (by simp),i _ (by omega)]
theorem Q0f(r:Int)(n:Nat)(es:List C0)(o:List Int)(d:inN n es)(e:inV n o)(g:n<=1000000)(c:es.length<=1099511627776)(f:o.length<=1099511627776):
  V8 (r,(n:Int),es) o=some (j01 (r,(n:Int),es) o):=by
 unfold V8
 have b:=v0d n (by omega) n 0 V0 (by omega) (E2 (by omega))
 have a:=w0d o e (by omega) o.length 0 V0 (List.replicate n (-1)) (by simp) (by omega) (E2 (by omega))
 have h0:=x0d es d c (plc n o) (u0d n o) r ((o.length:Nat):Int) es.length 0 V0 [] (by omega) (E2 (by omega)) (Nat.le_refl _)
 rw[show((0:Nat):Int)=0 from rfl]at h0 a b
 rw[List.replicate_zero,List.nil_append]at b
 rw[List.drop_zero]at a
 rw[List.drop_zero,List.nil_append]at h0
 simp only[Int.toNat_natCast]
 rw[P0 (by omega),oB,oB,List.length_replicate,P0 (by omega),oB,b,oB,a,oB]
 rw[show E00 (List.replicate n (-1)) 0 o=plc n o from rfl,h0]
 simp only[oB]
 rw[K0f _ (by have:=q0c (plc n o) es;omega),oB]
 rfl
theorem R0f(A:List Int)(i k:Nat):(A.map (·+1)).set i (((k+1:Nat):Int))=(A.set i (k:Int)).map (·+1):=by
 rw[List.map_set];rfl
theorem W07{A:List Int}{n:Nat}(d:A.length=n){x:Int}(h0:0<=x)(c:x<n):gi (A.map (·+1)) x=some (getI A x+1):=by
 have b:x.toNat<A.length:=by omega
 have e:x=((x.toNat:Nat):Int):=by omega
 have a:gi (A.map (·+1)) ((x.toNat:Nat):Int)=some (getI A x+1):=by
  rw[H05,List.getElem?_map,List.getElem?_eq_getElem b]
  unfold getI
  rw[List.getD_eq_getElem?_getD,List.getElem?_eq_getElem b];rfl
 rw[←e]at a;exact a
theorem S0f(r:Int)(n:Nat)(es:List C0)(o:List Int)(h:inV n o)(l:o.Nodup)(t:1<=n/\n<=1000000)(s:o.length<=1099511627776):∀(d k fuel:Nat) (A:List Int),A.length=n->(∀ x,0<=x -> -1<=getI A x/\getI A x<=1099511627776)->(∀ x∈o.drop k,getI A x = -1)->k+d=o.length->d<fuel ->
  A3 o (n:Int) r es fuel (k:Int) (A.map (·+1))=some (.inr ((E00 A k (o.drop k)).map (·+1)))
 |d,k,0,A,f,i,c,j,hf=>by omega
 |0,k,fuel+1,A,f,i,c,j,hf=>by
  rw[A3.eq_2,if_neg (by simp;omega),V2 (by omega)];rfl
 |d+1,k,fuel+1,A,f,i,c,j,hf=>by
  have m:k<o.length:=by omega
  have a:=t7 m
  have b:=h _ (List.mem_of_getElem? a)
  have g:=T3 a
  generalize o[k]=v at a b g
  have p:(o.drop k).Nodup:=l.sublist (List.drop_sublist _ _)
  rw[g]at p c
  have q:=c v mS
  have w:=S0f r n es o h l t s d (k+1) fuel (A.set v.toNat (k:Int)) (by simp[f]) (λx a=>by
   rw[T07 b.1 (by omega) a];have:=i x a;split<;>omega) (λx a=>by
   have u:=h x (List.mem_of_mem_drop a)
   rw[T07 b.1 (by omega) u.1,if_neg (λe=>(List.nodup_cons.1 p).1 (by rw[←e];exact a))]
   exact c x (mC _ a)) (by omega) (by omega)
  rw[A3.eq_2,if_pos (by simp;omega),g,T4 a]
  simp only[oB,Q02,w64 (show -9223372036854775808<=(n:Int)-1 by omega) (show(n:Int)-1<=9223372036854775807 by omega),inR,show decide (0<=v)=true by simpa using b.1,show decide (v<=(n:Int)-1)=true by simp;omega,Bool.and_self,Bool.not_true,Bool.not_false,j2,W07 f b.1 b.2,q,cond_false]
  rw[if_neg (by decide),Z2 m (by omega),R0f,w]
  rfl
theorem T0f(es:List C0){n:Nat}(s:inN n es)(u:es.length<=1099511627776)(P:List Int)(g:P.length=n)(i:∀ x,0<=x -> -1<=getI P x/\getI P x<=1099511627776)(r m:Int):∀(d k fuel:Nat) (acc:List C0),k+d=es.length->d<fuel->acc.length<=k ->
  I2 es (P.map (·+1)) fuel (k:Int) r m acc=some (r,m,K8 P1 acc (pE P (es.drop k)))
 |d,k,0,acc,p,hf,o=>by omega
 |0,k,fuel+1,acc,p,hf,o=>by
  rw[I2.eq_2,if_neg (by simp;omega),V2 (by omega)];rfl
 |d+1,k,fuel+1,acc,p,hf,o=>by
  have q:k<es.length:=by omega
  have f:=t7 q
  have c:=s _ (List.mem_of_getElem? f)
  generalize es[k]=e at f c
  obtain⟨a,l,b⟩:=e
  have j:=λt h=>T0f es s u P g i r m d (k+1) fuel t (by omega) (by omega) h
  have v:=i a c.1.1
  have w:=i b c.2.1
  rw[I2.eq_2,if_pos (by simp;omega),T3 f]
  simp only[T4 f,oB,W07 g c.1.1 c.1.2,W07 g c.2.1 c.2.2,Z2 q (show es.length<=9223372036854775807 by omega),pE]
  by_cases c1:0<=getI P a
  ·simp only[show decide (getI P a+1>0)=true by simp;omega,j2,oB,cond_true,show decide (0<=getI P a)=true by simpa using c1,Bool.true_and]
   by_cases c2:0<=getI P b
   ·rw[if_pos (by simp;omega),w64 (by omega) (by omega),w64 (by omega) (by omega),show getI P a+1-1=getI P a by omega,show getI P b+1-1=getI P b by omega]
    rw[a0h _ _ (by omega),oB,j _ (by have:=L05 (getI P a,l,getI P b) acc;omega)]
    simp[c2,K8]
   ·rw[if_neg (by simp;omega),j _ (by omega)]
    simp[c2]
  ·simp only[show decide (getI P a+1>0)=false by simp;omega,Q1,oB,cond_false,show decide (0<=getI P a)=false by simpa using c1,Bool.false_and]
   rw[if_neg (by simp),j _ (by omega)]
theorem r0c(r:Int)(n:Nat)(es:List C0)(o:List Int)(f:K5 (r,(n:Int),es)=true)(g:inV n o)(l:o.Nodup)(t:1<=o.length)(u:o.length<=n):
  i6 (r,(n:Int),es) o=some (j01 (r,(n:Int),es) o,true):=by
 obtain⟨h,p,q,s⟩:=S02 f
 simp only at p q s
 have m:inN n es:=λe d=>⟨(h e d).1,(h e d).2.1⟩
 have k:=I9 (r,(n:Int),es) (by simp only;omega)
 unfold i6
 have a:=S0f r n es o g l (by omega) (by omega) o.length 0 V0 (List.replicate n (-1)) (by simp) (λx b=>by rw[U07];omega) (λx b=>U07 n x) (by omega) (E2 (by omega))
 have c:=T0f es m (by omega) (plc n o) (u0d n o) (λx b=>by have:=O05 g b;omega) r ((o.length:Nat):Int) es.length 0 V0 [] (by omega) (E2 (by omega)) (Nat.le_refl _)
 rw[show((0:Nat):Int)=0 from rfl,List.drop_zero]at c a
 rw[show(List.replicate n (-1:Int)).map (·+1)=List.replicate n 0 by simp]at a
 rw[show E00 (List.replicate n (-1)) 0 o=plc n o from rfl]at a
 have i:decide (((o.length:Nat):Int)=0)=false:=decide_eq_false (by omega)
 have j:decide (((o.length:Nat):Int)>(n:Int))=false:=decide_eq_false (by omega)
 simp only[k,f,oB,Bool.not_true,cond_false,Int.toNat_natCast,i,j]
 rw[if_neg (by simp),P0 (by omega),oB,a]
 simp only[oB,f8,c]
 rfl
theorem h02:∀(n:Nat) (o:List Int),o.Nodup->inV n o->o.length<=n
 |0,[],_,_=>Nat.le_refl _
 |0,x::r,_,h=>by have:=h x mS;omega
 |n+1,o,c,h=>by
  have d:inV n (o.erase (n:Int)):=λx e=>by
   obtain⟨f,a⟩:=(List.Nodup.mem_erase_iff c).1 e
   have:=h x a;omega
  have b:=h02 n _ (c.erase _) d
  by_cases a:(n:Int)∈o
  ·rw[List.length_erase_of_mem a]at b;omega
  ·rw[List.erase_of_not_mem a]at b;omega
def i02:Nat->Nat->List Int
 |0,_=>[]
 |d+1,i=>(i:Int) :: -(i:Int)::i02 d (i+1)
theorem X04:∀ d i,(i02 d i).length=2*d
 |0,i=>rfl
 |d+1,i=>by simp only[i02,List.length_cons,X04 d];omega
theorem Y09:∀(d i:Nat),i+d<=1000->∀ x∈i02 d i,i01 x
 |0,i,h,x,a=>nomatch a
 |d+1,i,h,x,a=>by
  simp only[i02,List.mem_cons]at a
  rcases a with rfl|rfl|a
  ·exact⟨⟨by omega,by omega⟩,by omega⟩
  ·exact⟨⟨by omega,by omega⟩,by omega⟩
  ·exact Y09 d (i+1) (by omega) x a
theorem U0f(R:Nat)(c:R<=900):∀(d i fuel:Nat) (acc:List Int),i+d=R+1->d<fuel->acc.length+2*d<=10000 ->
  o5 (R:Int) fuel (i:Int) acc=some (acc++i02 d i)
 |d,i,0,acc,b,hf,a=>by omega
 |0,i,fuel+1,acc,b,hf,a=>by
  rw[o5.eq_2,if_neg (by simp;omega)];simp[i02]
 |d+1,i,fuel+1,acc,b,hf,a=>by
  have e:=U0f R c d (i+1) fuel (acc ++ [(i:Int),-(i:Int)]) (by omega) (by omega) (by simp;omega)
  have f:IntKind.i64.wrap (0-(i:Int)) = -(i:Int):=by rw[w64 (by omega) (by omega)];omega
  rw[o5.eq_2,if_pos (by simp;omega),f,P0 (by simp;omega),oB,Z2 (show i<1000 by omega) (by omega),e]
  simp[i02]
theorem V0f(R:Nat)(c:R<=900):∀(d i fuel:Nat) (acc:List Int),i+d=R+1->d<fuel->acc.length+2*d<=10000 ->
  A4 (R:Int) fuel (i:Int) acc=some (acc++i02 d i)
 |d,i,0,acc,b,hf,a=>by omega
 |0,i,fuel+1,acc,b,hf,a=>by
  rw[A4.eq_2,if_neg (by simp;omega)];simp[i02]
 |d+1,i,fuel+1,acc,b,hf,a=>by
  have e:=V0f R c d (i+1) fuel ((acc ++ [(i:Int)]) ++ [-(i:Int)]) (by omega) (by omega) (by simp;omega)
  have f:IntKind.i64.wrap (0-(i:Int)) = -(i:Int):=by rw[w64 (by omega) (by omega)];omega
  rw[A4.eq_2,if_pos (by simp;omega),f,P0 (by simp;omega),oB,P0 (by simp;omega),oB,Z2 (show i<1000 by omega) (by omega),e]
  simp[i02]
theorem Z0h(R:Nat)(a:R<=900):g8 (R:Int)=some (i02 R 1):=by
 unfold g8
 rw[show(1:Int)=((1:Nat):Int) from rfl,U0f R a R 1 V0 [] (by omega) (E2 (by omega)) (by simp;omega)];rfl
theorem a0i(R:Nat)(a:R<=900):p7 (R:Int)=some (i02 R 1):=by
 unfold p7
 rw[show(1:Int)=((1:Nat):Int) from rfl,V0f R a R 1 V0 [] (by omega) (E2 (by omega)) (by simp;omega)];rfl
def X07(u:List Int)(x:Int):List Int:=if 0<=x/\x ∉ u then u ++ [x]else u
def l02(g:j0)(v:Int):List Int->List Int->List Int
 | [],u=>u
 |x::r,u=>l02 g v r (X07 u (N6 g v x))
def W9(g:j0)(a:List Int):Nat->Nat->List Int->List Int
 |0,i,u=>u
 |f+1,i,u=>match u[i]? with
  |some v=>W9 g a f (i+1) (l02 g v a u)
  |none=>u
def gud(n:Nat)(u:List Int):Prop:=u.Nodup/\inV n u
theorem W0f{n:Nat}{u:List Int}{x:Int}(h:gud n u)(j:x = -1∨(0<=x/\x<(n:Int))):gud n (X07 u x):=by
 unfold X07
 split
 ·rename_i g
  refine⟨List.nodup_append.2 ⟨h.1,by simp,λa f b d=>?_⟩,λi c=>?_⟩
  ·simp at d;subst d;exact λe=>g.2 (e▸f)
  ·rcases List.mem_append.1 c with c|c
   ·exact h.2 i c
   ·simp at c;subst c;omega
 ·exact h
theorem q0b(u:List Int)(x:Int):∃ t,X07 u x=u++t:=by
 unfold X07;split
 ·exact⟨_,rfl⟩
 ·exact⟨[],by simp⟩
theorem l03(g:j0)(v:Int):∀(c u:List Int),∃ t,l02 g v c u=u++t
 | [],u=>⟨[],by simp[l02]⟩
 |x::r,u=>by
  obtain⟨d,a⟩:=q0b u (N6 g v x)
  obtain⟨e,b⟩:=l03 g v r (X07 u (N6 g v x))
  exact⟨d++e,by rw[l02,b,a,List.append_assoc]⟩
theorem m03{r:Int}{n:Nat}{es:List C0}(a:inG (r,(n:Int),es))(v:Int):∀(b u:List Int),gud n u->gud n (l02 (r,(n:Int),es) v b u)
 | [],u,h=>h
 |x::l,u,h=>m03 a v l _ (W0f h (G06 a v x))
theorem Y07{r:Int}{n:Nat}{es:List C0}(a:inG (r,(n:Int),es))(b:List Int):∀(f i:Nat) (u:List Int),gud n u->gud n (W9 (r,(n:Int),es) b f i u)
 |0,i,u,h=>h
 |f+1,i,u,h=>by
  unfold W9
  split
  ·exact Y07 a b f _ _ (m03 a _ _ _ h)
  ·exact h
theorem Z07(g:j0)(a:List Int):∀(f i:Nat) (u:List Int),u.length<=(W9 g a f i u).length
 |0,i,u=>Nat.le_refl _
 |f+1,i,u=>by
  unfold W9
  split
  ·rename_i v _
   obtain⟨t,e⟩:=l03 g v a u
   have:=Z07 g a f (i+1) (l02 g v a u)
   rw[e]at this ⊢;simp only[List.length_append]at this;omega
  ·exact Nat.le_refl _
theorem y0d(r:Int)(n:Nat)(es:List C0)(g:inG (r,(n:Int),es))(A:n<=40)(m:es.length<=1099511627776)(a:List Int)(p:∀ x∈a,i01 x)(z:a.length<=1000000)(i:Nat)(v:Int):∀(d k fuel:Nat) (u:List Int),gud n u->u[i]?=some v->k+d=a.length->d<fuel ->
  D2 a (i:Int) r (n:Int) es fuel (k:Int) u=some (l02 (r,(n:Int),es) v (a.drop k) u)
 |d,k,0,u,c,b,j,hf=>by omega
 |0,k,fuel+1,u,c,b,j,hf=>by
  rw[D2.eq_2,if_neg (by simp;omega),V2 (by omega)];rfl
 |d+1,k,fuel+1,u,c,b,j,hf=>by
  have o:k<a.length:=by omega
  have f:=t7 o
  have q:=p _ (List.mem_of_getElem? f)
  have l:=T3 f
  generalize a[k]=x at f q l
  have D:=h02 n u c.1 c.2
  have B:N6 (r,(n:Int),es) v x = -1∨(0<=N6 (r,(n:Int),es) v x/\N6 (r,(n:Int),es) v x<(n:Int)):=G06 g v x
  have s:=W0f c B
  have w:(X07 u (N6 (r,(n:Int),es) v x))[i]?=some v:=by
   obtain⟨t,e⟩:=q0b u (N6 (r,(n:Int),es) v x)
   rw[e,List.getElem?_append_left (List.getElem?_eq_some_iff.1 b).1];exact b
  have C:=y0d r n es g A m a p z i v d (k+1) fuel _ s w (by omega) (by omega)
  rw[D2.eq_2,if_pos (by simp;omega),l]
  simp only[T4 b,T4 f,oB,k0c (r,(n:Int),es) v x q m,P0 (n0d g (show(n:Int)<=40 by omega) v x),Z2 o (show a.length<=9223372036854775807 by omega),l02]
  rw[←C]
  generalize N6 (r,(n:Int),es) v x=y at *
  unfold X07
  by_cases c1:0<=y
  ·simp only[show decide (y ≥ 0)=true by simpa using c1,j2,H06 u y (by omega),oB,cond_true]
   by_cases c2:y∈u
   ·rw[if_neg (by simp[c2]),if_neg (by simp[c2])]
   ·rw[if_pos (by simp[c2]),if_pos ⟨c1,c2⟩,P0 (by simp;omega),oB]
  ·simp only[show decide (y ≥ 0)=false by simpa using c1,Q1,oB,cond_false]
   rw[if_neg (by simp),if_neg (λh=>c1 h.1)]
theorem z0d(r:Int)(n:Nat)(es:List C0)(d:inG (r,(n:Int),es))(m:n<=40)(h:es.length<=1099511627776)(a:List Int)(l:∀ x∈a,i01 x)(k:a.length<=1000000):∀(f i fuel:Nat) (u:List Int),gud n u->i<=u.length->n+1<=i+f->f<fuel ->
  M3 a r (n:Int) es fuel (i:Int) u=some (W9 (r,(n:Int),es) a f i u)
 |f,i,0,u,b,j,g,hf=>by omega
 |0,i,fuel+1,u,b,j,g,hf=>by have:=h02 n u b.1 b.2;omega
 |f+1,i,fuel+1,u,b,j,g,hf=>by
  have p:=h02 n u b.1 b.2
  rw[M3.eq_2,oB,P0 (by omega),oB]
  by_cases hk:i<u.length
  ·have c:=t7 hk
   generalize u[i]=v at c
   have h0:=y0d r n es d m h a l k i v a.length 0 V0 u b c (by omega) (E2 (by omega))
   rw[show((0:Nat):Int)=0 from rfl,List.drop_zero]at h0
   obtain⟨t,e⟩:=l03 (r,(n:Int),es) v a u
   have o:=z0d r n es d m h a l k f (i+1) fuel _ (m03 d v a u b) (by rw[e,List.length_append];omega) (by omega) (by omega)
   rw[if_pos (by simpa using hk),h0,oB,Z2 hk (by omega),o]
   simp only[W9,c]
  ·have c:u[i]?=none:=List.getElem?_eq_none (by omega)
   rw[if_neg (by simpa using hk)]
   simp only[W9,c]
def a01(g:j0):List Int:=W9 g (i02 g.1.toNat 1) (g.2.1.toNat+1) 0 [0]
theorem d09{g:j0}(hf:N3 g=true):gud g.2.1.toNat (a01 g)/\1<=(a01 g).length:=by
 obtain⟨c,d,e,f⟩:=B9 hf
 obtain⟨r,n,es⟩:=g
 simp only at d e f
 obtain⟨a,rfl⟩:∃ a:Nat,n=(a:Int):=⟨n.toNat,by omega⟩
 refine⟨?_,?_⟩
 ·exact Y07 c _ _ _ _ ⟨by simp,λx b=>by simp at b;subst b;show(0:Int)<=0/\(0:Int)<(((a:Int).toNat:Nat):Int);omega⟩
 ·exact Z07 _ _ _ _ [0]
theorem r0b(g:j0)(hf:N3 g=true):P5 g=some (a01 g):=by
 obtain⟨c,d,e,f⟩:=B9 hf
 have h:=T02 g (by omega)
 obtain⟨r,n,es⟩:=g
 simp only at d e f
 obtain⟨a,rfl⟩:∃ a:Nat,n=(a:Int):=⟨n.toNat,by omega⟩
 obtain⟨R,rfl⟩:∃ R:Nat,r=(R:Int):=⟨r.toNat,by omega⟩
 unfold P5
 have h0:=z0d (R:Int) a es c (by omega) (by omega) (i02 R 1) (Y09 R 1 (by omega)) (by rw[X04];omega) (a+1) 0 V0 [0] ⟨by simp,λx b=>by simp at b;subst b;omega⟩ (by simp) (by omega) (E2 (by omega))
 simp only[h,hf,oB,Bool.not_true,a0i R (by omega)]
 rw[show((0:Nat):Int)=0 from rfl]at h0
 rw[if_neg (by simp),h0]
 rfl
theorem c0h{a:List Int}(la:a.length<=1099511627776):L7 a=some a:=by
 unfold L7
 rw[P0 (by simp;omega)];rfl
def F01(W:List (Option (List Int)))(x:Int):Option (List Int):=W.getD x.toNat none
theorem giO{a:List (Option (List Int))}{n:Nat}(f:a.length=n){x:Int}(h0:0<=x)(d:x<n):gi a x=some (F01 a x):=by
 have c:x.toNat<a.length:=by omega
 have e:x=((x.toNat:Nat):Int):=by omega
 have b:gi a ((x.toNat:Nat):Int)=some (F01 a x):=by
  rw[H05,List.getElem?_eq_getElem c]
  unfold F01
  rw[List.getD_eq_getElem?_getD,List.getElem?_eq_getElem c];rfl
 rw[←e]at b;exact b
theorem G01{A:List (Option (List Int))}{v x:Int}{a:Option (List Int)}(h0:0<=v)(b:v.toNat<A.length)(d:0<=x):F01 (A.set v.toNat a) x=if x=v then a else F01 A x:=by
 unfold F01
 rw[List.getD_eq_getElem?_getD,List.getD_eq_getElem?_getD,List.getElem?_set]
 by_cases c:x=v
 ·rw[if_pos c,if_pos (by rw[c]),if_pos b];rfl
 ·rw[if_neg c,if_neg (by omega)]
structure WOk (n:Nat) (W:List (Option (List Int))) (u:List Int):Prop where
 len:W.length=n
 iff:∀ x,0<=x->x<(n:Int)->((F01 W x).isNone=true↔x ∉ u)
 short:∀ x,((F01 W x).getD []).length<=u.length
theorem A0d(r:Int)(n:Nat)(es:List C0)(m:inG (r,(n:Int),es))(G:n<=40)(t:es.length<=1099511627776)(f:List Int)(A:∀ x∈f,i01 x)(F:f.length<=1000000)(v:Int)(o:0<=v/\v<(n:Int)):∀(d k fuel:Nat) (b:List (Option (List Int))) (u:List Int),gud n u->WOk n b u->k+d=f.length->d<fuel ->
  ∃ j,K3 f r (n:Int) es v fuel (k:Int) b u=some (j,l02 (r,(n:Int),es) v (f.drop k) u)/\WOk n j (l02 (r,(n:Int),es) v (f.drop k) u)
 |d,k,0,b,u,i,a,q,hf=>by omega
 |0,k,fuel+1,b,u,i,a,q,hf=>by
  rw[K3.eq_2,if_neg (by simp;omega),V2 (by omega)];exact⟨b,rfl,a⟩
 |d+1,k,fuel+1,b,u,i,a,q,hf=>by
  have w:k<f.length:=by omega
  have l:=t7 w
  have C:=A _ (List.mem_of_getElem? l)
  have s:=T3 l
  generalize f[k]=x at l C s
  have J:=h02 n u i.1 i.2
  have H:N6 (r,(n:Int),es) v x = -1∨(0<=N6 (r,(n:Int),es) v x/\N6 (r,(n:Int),es) v x<(n:Int)):=G06 m v x
  have E:=W0f i H
  have g:=λj h=>A0d r n es m G t f A F v o d (k+1) fuel j _ E h (by omega) (by omega)
  rw[K3.eq_2,if_pos (by simp;omega),s]
  simp only[T4 l,oB,l0c (r,(n:Int),es) v x C t,P0 (n0d m (show(n:Int)<=40 by omega) v x),Z2 w (show f.length<=9223372036854775807 by omega),l02]
  generalize N6 (r,(n:Int),es) v x=y at *
  by_cases c1:0<=y
  ·have p:y<(n:Int):=by omega
   simp only[show decide (y ≥ 0)=true by simpa using c1,j2,giO a.len c1 p,oB,cond_true]
   by_cases c2:y∈u
   ·have : ¬ ((F01 b y).isNone=true):=λh=>(a.iff y c1 p).1 h c2
    have e:X07 u y=u:=if_neg λh=>h.2 c2
    rw[if_neg this]
    rw[e]at g ⊢
    exact g b a
   ·have:(F01 b y).isNone=true:=(a.iff y c1 p).2 c2
    have e:X07 u y=u ++ [y]:=if_pos ⟨c1,c2⟩
    have B:=a.short v
    rw[if_pos this,giO a.len o.1 o.2,oB,c0h (by omega),oB,P0 (by simp;omega),oB,P0 (by simp;omega),oB]
    rw[e]at g ⊢
    refine g _ ⟨by simp[a.len],λz h0 D=>?_,λz=>?_⟩
    ·rw[G01 c1 (by have:=a.len;omega) h0]
     by_cases c:z=y
     ·rw[if_pos c];simp[c]
     ·rw[if_neg c,a.iff z h0 D];simp[c]
    ·by_cases hz:0<=z
     ·rw[G01 c1 (by have:=a.len;omega) hz]
      by_cases c:z=y
      ·rw[if_pos c];simp;exact B
      ·rw[if_neg c];have:=a.short z;simp only[List.length_append];omega
     ·have I:F01 (b.set y.toNat (some ((F01 b v).getD [] ++ [x]))) z=F01 (b.set y.toNat (some ((F01 b v).getD [] ++ [x]))) 0:=by
       unfold F01;rw[show z.toNat=(0:Int).toNat by omega]
      rw[I,G01 c1 (by have:=a.len;omega) (iR 0)]
      by_cases c:(0:Int)=y
      ·rw[if_pos c];simp;exact B
      ·rw[if_neg c];have:=a.short 0;simp only[List.length_append];omega
  ·have e:X07 u y=u:=if_neg λh=>c1 h.1
   simp only[show decide (y ≥ 0)=false by simpa using c1,Q1,oB,cond_false]
   rw[if_neg (by simp)]
   rw[e]at g ⊢
   exact g b a
theorem B0d(R n:Nat)(h:R<=900)(es:List C0)(d:inG ((R:Int),(n:Int),es))(m:n<=40)(k:es.length<=1099511627776):∀(f i fuel:Nat) (b:List (Option (List Int))) (u:List Int),gud n u->WOk n b u->i<=u.length->n+1<=i+f->f<fuel ->
  ∃ q,H4 (R:Int) (n:Int) es fuel (i:Int) b u=some (q,W9 ((R:Int),(n:Int),es) (i02 R 1) f i u)
 |f,i,0,b,u,a,g,l,j,hf=>by omega
 |0,i,fuel+1,b,u,a,g,l,j,hf=>by have:=h02 n u a.1 a.2;omega
 |f+1,i,fuel+1,b,u,a,g,l,j,hf=>by
  have y:=h02 n u a.1 a.2
  rw[H4.eq_2,oB,P0 (by omega),oB]
  by_cases hk:i<u.length
  ·have c:=t7 hk
   have o:=a.2 _ (List.mem_of_getElem? c)
   generalize u[i]=v at c o
   obtain⟨s,h0,p⟩:=A0d (R:Int) n es d m k (i02 R 1) (Y09 R 1 (by omega)) (by rw[X04];omega) v o (i02 R 1).length 0 V0 b u a g (by omega) (E2 (by rw[X04];omega))
   rw[show((0:Nat):Int)=0 from rfl,List.drop_zero]at h0
   rw[List.drop_zero]at p
   obtain⟨t,e⟩:=l03 ((R:Int),(n:Int),es) v (i02 R 1) u
   obtain⟨x,w⟩:=B0d R n h es d m k f (i+1) fuel s _ (m03 d v _ u a) p (by rw[e,List.length_append];omega) (by omega) (by omega)
   rw[if_pos (by simpa using hk),T4 c,oB,Z0h R h,oB,h0,oB]
   simp only[Z2 hk (show u.length<=9223372036854775807 by omega),w,W9,c]
   exact⟨_,rfl⟩
  ·have c:u[i]?=none:=List.getElem?_eq_none (by omega)
   rw[if_neg (by simpa using hk)]
   simp only[W9,c]
   exact⟨_,rfl⟩
theorem s0b(g:j0)(hf:N3 g=true):R5 g=some (a01 g):=by
 obtain⟨b,f,h,i⟩:=B9 hf
 have j:=D00 g (by omega)
 obtain⟨r,n,es⟩:=g
 simp only at f h i
 obtain⟨a,rfl⟩:∃ a:Nat,n=(a:Int):=⟨n.toNat,by omega⟩
 obtain⟨R,rfl⟩:∃ R:Nat,r=(R:Int):=⟨r.toNat,by omega⟩
 unfold R5
 have d:∀ x,F01 (List.replicate a (none:Option (List Int))) x=none:=λx=>by
  unfold F01
  rw[List.getD_eq_getElem?_getD,List.getElem?_replicate];split<;>rfl
 have k:WOk a ((List.replicate a (none:Option (List Int))).set (0:Int).toNat (some [])) [0]:=by
  refine⟨by simp,λx h0 b=>?_,λx=>?_⟩
  ·rw[G01 (iR 0) (by simp;omega) h0]
   by_cases c:x=0
   ·rw[if_pos c];simp[c]
   ·rw[if_neg c,d];simp[c]
  ·by_cases hz:0<=x
   ·rw[G01 (iR 0) (by simp;omega) hz]
    split
    ·simp
    ·rw[d];simp
   ·have:F01 ((List.replicate a (none:Option (List Int))).set (0:Int).toNat (some [])) x=F01 ((List.replicate a (none:Option (List Int))).set (0:Int).toNat (some [])) 0:=by
     unfold F01;rw[show x.toNat=(0:Int).toNat by omega]
    rw[this,G01 (iR 0) (by simp;omega) (iR 0),if_pos rfl];simp
 obtain⟨m,h0⟩:=B0d R a (by omega) es b (by omega) (by omega) (a+1) 0 V0 _ [0] ⟨by simp,λx e=>by simp at e;subst e;omega⟩ k (by simp) (by omega) (E2 (by omega))
 have l:gi (List.replicate a (none:Option (List Int))) 0=some none:=by
  rw[H0f (x:=none)];rw[List.getElem?_replicate,if_pos (by omega)]
 simp only[j,hf,oB,Bool.not_true,S7,Int.toNat_natCast]
 rw[if_neg (by simp),P0 (by omega),oB,l,oB]
 rw[show((0:Nat):Int)=0 from rfl]at h0
 rw[h0]
 rfl
def f00(g:j0):j0:=j01 g (a01 g)
theorem t0b(g:j0)(hf:N3 g=true):S5 g=some (f00 g):=by
 obtain⟨c,f,h,i⟩:=B9 hf
 have j:=D00 g (by omega)
 have k:=s0b g hf
 obtain⟨b,o⟩:=d09 hf
 have l:=h02 _ _ b.1 b.2
 obtain⟨r,n,es⟩:=g
 simp only at f h i
 obtain⟨a,rfl⟩:∃ a:Nat,n=(a:Int):=⟨n.toNat,by omega⟩
 simp only[Int.toNat_natCast]at b l
 have m:=Q0f r a es (a01 (r,(a:Int),es)) (λe d=>⟨(c e d).1,(c e d).2.1⟩) b.2 (by omega) (by omega) (by omega)
 unfold S5
 simp only[j,hf,oB,Bool.not_true,k,m]
 rfl
theorem u0b(g:j0)(hf:N3 g=true):Q5 g=some (f00 g):=by
 obtain⟨m,e,f,i⟩:=B9 hf
 have j:K5 g=true:=by
  unfold N3 at hf;exact(Bool.and_eq_true _ _▸hf).1
 have k:=r0b g hf
 obtain⟨a,c⟩:=d09 hf
 have d:=h02 _ _ a.1 a.2
 obtain⟨r,n,es⟩:=g
 simp only at e f i
 obtain⟨b,rfl⟩:∃ b:Nat,n=(b:Int):=⟨n.toNat,by omega⟩
 simp only[Int.toNat_natCast]at a d
 have l:=r0c r b es (a01 (r,(b:Int),es)) j a.2 a.1 c d
 unfold Q5
 simp only[oB,k,l]
 rw[if_neg (by simp;intro h;rw[h]at c;simp at c)]
 rfl
def lf(a:Nat->Bool):Nat->Nat->Option Nat
 |0,v=>none
 |d+1,v=>bif a v then some v else lf a d (v+1)
theorem a08{a:Nat->Bool}:∀(d v k:Nat),lf a d v=some k->v<=k/\k<v+d
 |0,v,k,h=>by cases h
 |d+1,v,k,h=>by
  unfold lf at h
  cases hb:a v
  ·rw[hb]at h;have:=a08 d (v+1) k h;omega
  ·rw[hb]at h;cases h;omega
theorem v0b{a b:Nat->Bool}:∀(d v:Nat),(∀ k,v<=k->k<v+d->a k=b k)->lf a d v=lf b d v
 |0,v,h=>rfl
 |d+1,v,h=>by unfold lf;rw[h v (Nat.le_refl _) (by omega),v0b d (v+1) λk c e=>h k (by omega) (by omega)]
def B0e(es:List C0):List Int:=itS es (es.length+1) [0]
def s0c(es:List C0)(v:Nat):Bool:=decide (e02 (v:Int) es<2) || !decide ((v:Int)∈B0e es)
def V02(g:j0):Option Nat:=lf (s0c g.2.2) (g.2.1.toNat-1) 1
theorem t0c(g:j0)(b:K5 g=true):G6 g 0=some (B0e g.2.2)/\(B0e g.2.2).length<=100000:=by
 obtain⟨i,d,e,a⟩:=S02 b
 have h:=I9 g (by omega)
 obtain⟨r,n,es⟩:=g
 simp only at d e a
 unfold G6 B0e
 have c:=R07 es a (es.length+1) 0 V0 [0] (by omega) (E2 (by omega)) (by simp)
 have f:=r0d es (es.length+1) [0]
 refine⟨?_,?_⟩
 ·rw[show((0:Nat):Int)=0 from rfl]at c
  simp only[h,b,oB,Bool.not_true,Bool.not_false,j2,Q02,inR,w64 (show -9223372036854775808<=n-1 by omega) (show n-1<=9223372036854775807 by omega)]
  rw[if_neg (by simp;omega),c];rfl
 ·have:(es.length+1)*(2*es.length)<=121*240:=Nat.mul_le_mul (by omega) (by omega)
  simp only[List.length_singleton]at f
  simp only
  omega
theorem X0f(r:Int)(n:Nat)(es:List C0)(e:es.length<=1000)(u:List Int)(g:u.length<=100000)(f:n<=40):∀(d v fuel:Nat),v+d=n∨(d=0/\n<=v)->v<=1000->d<fuel ->
  M5 (n:Int) r es u fuel (v:Int)=some (match lf (λv=>decide (e02 (v:Int) es<2) || !decide ((v:Int)∈u)) d v with|some k => .inl (k:Int)|none => .inr ())
 |d,v,0,b,c,hf=>by omega
 |0,v,fuel+1,b,c,hf=>by
  rw[M5.eq_2,if_neg (by simp;omega)];rfl
 |d+1,v,fuel+1,b,c,hf=>by
  have h:=X0f r n es e u g f d (v+1) fuel (by omega) (by omega) (by omega)
  have i:=W09 (v:Int) es
  rw[M5.eq_2,if_pos (by simp;omega),X08 (r,(n:Int),es) _ (by simp only;omega),oB,P0 (c64 (by simp only;omega) (by simp only;omega)),oB,Z2 (show v<10000 by omega) (by omega)]
  unfold lf
  by_cases c1:e02 (v:Int) es<2
  ·have a:decide (((e02 (v:Int) es:Nat):Int)<2)=true:=decide_eq_true (by omega)
   simp only[a,Bool.not_true,Q1,oB,cond_true,if_true,decide_eq_true c1,Bool.true_or]
  ·have a:decide (((e02 (v:Int) es:Nat):Int)<2)=false:=decide_eq_false (by omega)
   simp only[a,Bool.not_false,j2,H06 u _ (show u.length<=9223372036854775807 by omega),oB,cond_false,decide_eq_false c1,Bool.false_or]
   by_cases c2:(v:Int)∈u
   ·simp only[decide_eq_true c2,Bool.not_true,Bool.false_eq_true,if_false,cond_false];exact h
   ·simp only[decide_eq_false c2,Bool.not_false,if_true,cond_true]
theorem b0i(g:j0)(d:K5 g=true):C8 g=some (match V02 g with|some k=>(k:Int)|none => -1):=by
 obtain⟨b,c⟩:=t0c g d
 obtain⟨j,e,f,h⟩:=S02 d
 obtain⟨r,n,es⟩:=g
 simp only at e f h b c
 obtain⟨a,rfl⟩:∃ a:Nat,n=(a:Int):=⟨n.toNat,by omega⟩
 unfold C8 V02
 have i:=X0f r a es (by omega) (B0e es) c (by omega) (a-1) 1 V0 (by omega) (by omega) (E2 (by omega))
 simp only[b,oB,Int.toNat_natCast]
 rw[show(1:Int)=((1:Nat):Int) from rfl,i]
 rw[show(λv:Nat=>decide (e02 (v:Int) es<2) || !decide ((v:Int)∈B0e es))=s0c es from rfl]
 cases lf (s0c es) (a-1) 1<;>rfl
theorem C0d(r:Int)(n:Nat)(es:List C0)(o:es.length<=1000)(a:List Bool)(g:a.length=n)(p:n<=40):∀(d v fuel:Nat),1<=v->v+d=n∨(d=0/\n<=v)->v<=1000->d+1<fuel ->
  P2 (n:Int) r es a fuel 0 (v:Int)=some (match lf (λv=>decide (e02 (v:Int) es<2) || !L6 a (v:Int)) d v with|some k=>(k:Int)|none=>0)
 |d,v,0,f,h,j,hf=>by omega
 |0,v,fuel+1,f,h,j,hf=>by
  have e:decide ((v:Int)<(n:Int))=false:=decide_eq_false (by omega)
  rw[P2.eq_2,if_neg (by rw[e];simp)];rfl
 |d+1,v,fuel+1,f,h,j,hf=>by
  have q:=C0d r n es o a g p d (v+1) fuel (by omega) (by omega) (by omega) (by omega)
  have s:=W09 (v:Int) es
  have e:decide ((v:Int)<(n:Int))=true:=decide_eq_true (by omega)
  have i:∀ w:Int,P2 (n:Int) r es a fuel (v:Int) w=some (v:Int):=λw=>by
   obtain _|fuel:=fuel
   ·omega
   ·have l:decide ((v:Int)=0)=false:=decide_eq_false (by omega)
    have m:∀ b:Bool,(bif b then false else false)=false:=λb=>by cases b<;>rfl
    rw[P2.eq_2,if_neg (by rw[l,m];simp)]
  rw[P2.eq_2,if_pos (by rw[e];rfl),x0e (r,(n:Int),es) _ (by simp only;omega),oB,P0 (c64 (by simp only;omega) (by simp only;omega)),oB,Z2 (show v<10000 by omega) (by omega)]
  unfold lf
  by_cases c1:e02 (v:Int) es<2
  ·have c:decide (((e02 (v:Int) es:Nat):Int)<2)=true:=decide_eq_true (by omega)
   simp only[c,Bool.not_true,Q1,oB,cond_true,if_true,decide_eq_true c1,Bool.true_or,i]
  ·have c:decide (((e02 (v:Int) es:Nat):Int)<2)=false:=decide_eq_false (by omega)
   simp only[c,Bool.not_false,j2,giB g (show(0:Int)<=(v:Int) by omega) (show(v:Int)<(n:Int) by omega),oB,cond_false,decide_eq_false c1,Bool.false_or]
   cases hb:L6 a (v:Int)
   ·simp only[Bool.not_false,if_true,cond_true,i]
   ·simp only[Bool.not_true,Bool.false_eq_true,if_false,cond_false];exact q
def wo(g:Nat):Nat->Nat->List Int
 |0,k=>[]
 |d+1,k=>if k=g then wo g d (k+1)else(k:Int)::wo g d (k+1)
theorem Y0f(g:Nat):∀(d k:Nat),(wo g d k).length=d-(if k<=g/\g<k+d then 1 else 0)
 |0,k=>by simp[wo]
 |d+1,k=>by
  have a:=Y0f g d (k+1)
  unfold wo
  by_cases c:k=g
  ·rw[if_pos c,a,if_neg (by omega),if_pos (by omega)];omega
  ·rw[if_neg c,List.length_cons,a]
   by_cases c2:k+1<=g/\g<k+1+d
   ·rw[if_pos c2,if_pos (by omega)];omega
   ·rw[if_neg c2,if_neg (by omega)];omega
theorem y0h(g n:Nat):∀(d k:Nat),k+d<=n->inV n (wo g d k)
 |0,k,h=>λx a=>nomatch a
 |d+1,k,h=>by
  have b:=y0h g n d (k+1) (by omega)
  unfold wo
  split
  ·exact b
  ·intro x a
   rcases List.mem_cons.1 a with rfl|a
   ·omega
   ·exact b x a
theorem D0d(n g:Nat)(j:n<=1000):∀(d k fuel:Nat) (acc:List Int),k+d=n->d<fuel->acc.length<=k ->
  V3 (n:Int) (g:Int) fuel (k:Int) acc=some (acc++wo g d k)
 |d,k,0,acc,b,hf,a=>by omega
 |0,k,fuel+1,acc,b,hf,a=>by
  rw[V3.eq_2,if_neg (by simp;omega)];simp[wo]
 |d+1,k,fuel+1,acc,b,hf,a=>by
  have f:=λi h=>D0d n g j d (k+1) fuel i (by omega) (by omega) h
  rw[V3.eq_2,if_pos (by simp;omega),Z2 (show k<10000 by omega) (by omega)]
  unfold wo
  by_cases c:k=g
  ·have e:decide ((k:Int)=(g:Int))=true:=decide_eq_true (by omega)
   rw[e,if_neg (by simp),if_pos c,f _ (by omega)]
  ·have e:decide ((k:Int)=(g:Int))=false:=decide_eq_false (by omega)
   rw[e,if_pos (show(!false)=true from rfl),if_neg c,P0 (by simp;omega),oB,f _ (by simp;omega)]
   simp
theorem E0d(n:Nat)(f:n<=1000):∀(d k fuel:Nat) (acc:List Int),k+d=n->d<fuel->acc.length=k ->
  ∃ u,C4 (n:Int) fuel (k:Int) acc=some u/\u.length=n
 |d,k,0,acc,b,hf,a=>by omega
 |0,k,fuel+1,acc,b,hf,a=>by
  rw[C4.eq_2,if_neg (by simp;omega)];exact⟨_,rfl,by omega⟩
 |d+1,k,fuel+1,acc,b,hf,a=>by
  obtain⟨u,c,e⟩:=E0d n f d (k+1) fuel (acc ++ [(k:Int)]) (by omega) (by omega) (by simp;omega)
  rw[C4.eq_2,if_pos (by simp;omega),Z2 (show k<10000 by omega) (by omega),P0 (by simp;omega),oB,c]
  exact⟨u,rfl,e⟩
theorem Z0f{a:Type}{xs:List a}{k:Nat}(h:k<=xs.length):M04 xs 0 (k:Int)=some (xs.take k):=by
 unfold M04
 rw[if_pos (by omega)];rfl
theorem F0d:∀(n fuel:Nat) (left:List Int) (r:Int) (es:List C0),1<=n->n<=40->inN n es->es.length<=120->left.length=n->n<fuel ->
  ∃(a:j0) (e:List Int),Z4 fuel left r (n:Int) es=some (.inl (a,e))/\a.2.1<=(n:Int)/\(a.2.1=(n:Int)↔lf (s0c es) (n-1) 1=none)
 |n,0,left,r,es,f,g,b,u,w,hf=>by omega
 |n,fuel+1,left,r,es,f,g,b,u,w,hf=>by
  obtain⟨c,q,A,s⟩:=M0f r n es b (by omega) f (by omega)
  have o:=C0d r n es (by omega) c A g (n-1) 1 V0 (Nat.le_refl _) (by omega) (by omega) (E2 (by omega))
  have t:lf (λv=>decide (e02 (v:Int) es<2) || !L6 c (v:Int)) (n-1) 1=lf (s0c es) (n-1) 1:=v0b _ _ λk D E=>by
   unfold s0c
   have:=s (k:Int) (by omega) (by omega)
   have i:=b0h es 0 (k:Int)
   congr 2
   cases hb:L6 c (k:Int)
   ·symm;exact decide_eq_false λh=>by rw[this.2 (i.1 h)]at hb;cases hb
   ·symm;exact decide_eq_true (i.2 (this.1 hb))
  rw[t]at o
  rw[Z4.eq_2,q,oB,show(1:Int)=((1:Nat):Int) from rfl,o,oB]
  cases hlf:lf (s0c es) (n-1) 1 with
  |none =>
   exact⟨(r,(n:Int),es),left,by rw[if_pos (by rfl)],iR _,by simp⟩
  |some k =>
   have C:=a08 _ _ _ hlf
   have p:decide ((k:Int)=0)=false:=decide_eq_false (by omega)
   have j:=y0h k n n 0 (by omega)
   have d:=Y0f k n 0
   rw[if_pos (by omega)]at d
   have m:=D0d n k (by omega) n 0 V0 [] (by omega) (E2 (by omega)) (Nat.le_refl _)
   rw[show((0:Nat):Int)=0 from rfl,List.nil_append]at m
   have x:=Q0f r n es (wo k n 0) b j (by omega) (by omega) (by omega)
   have y:=V07 (r,(n:Int),es) (wo k n 0)
   have l:=A0e (r:=r) j b
   have z:IntKind.i64.wrap ((k:Int)+((1:Nat):Int))=((k+1:Nat):Int):=by rw[w64 (by omega) (by omega)];rfl
   obtain⟨a,e,B,F,G⟩:=F0d (n-1) fuel (left.take k++left.drop (k+1)) r (j01 (r,(n:Int),es) (wo k n 0)).2.2 (by omega) (by omega) (by rw[d]at l;exact l) (by simp only at y;omega) (by simp only[List.length_append,List.length_take,List.length_drop];omega) (by omega)
   refine⟨a,e,?_,by omega,?_⟩
   ·simp only[p,Bool.false_eq_true,if_false,m,oB,x]
    rw[show j01 (r,(n:Int),es) (wo k n 0)=(r,((n-1:Nat):Int),(j01 (r,(n:Int),es) (wo k n 0)).2.2) by rw[←d];rfl]
    simp only[z]
    rw[Z0f (by omega),oB,J07 (by omega),oB,P0 (by simp only[List.length_take,List.length_drop];omega),oB,B]
   ·constructor
    ·intro h;omega
    ·intro h;cases h
theorem u0c(g:j0)(j:K5 g=true):∃(b:j0) (c:List Int),w7 g=some (b,c)/\(b.2.1=g.2.1↔V02 g=none):=by
 obtain⟨f,l,m,h⟩:=S02 j
 have q:=H03 g (by omega)
 have o:=d04 g (by omega)
 obtain⟨r,n,es⟩:=g
 simp only at l m h
 obtain⟨a,rfl⟩:∃ a:Nat,n=(a:Int):=⟨n.toNat,by omega⟩
 have p:inN a es:=λe i=>⟨(f e i).1,(f e i).2.1⟩
 obtain⟨u,d,k⟩:=E0d a (by omega) a 0 V0 [] (by omega) (E2 (by omega)) rfl
 obtain⟨b,c,s,v,t⟩:=F0d a V0 u r es (by omega) (by omega) p h k (E2 (by omega))
 refine⟨b,c,?_,?_⟩
 ·unfold w7
  rw[show((0:Nat):Int)=0 from rfl]at d
  simp only[o,oB,q,j,Bool.not_true,Bool.false_eq_true,if_false,d,s,f8]
 ·simp only[V02,Int.toNat_natCast];exact t
def G5(g:j0):Bool:=N3 g&&((V02 g).isNone&&n0b (f00 g) g)
theorem Y04{g:j0}(h:N3 g=true):K5 g=true:=by
 unfold N3 at h;exact(Bool.and_eq_true _ _▸h).1
theorem e09{g:j0}(hf:N3 g=true):(f00 g).2.2.length<=120:=by
 have:=V07 g (a01 g)
 have:=(B9 hf).2.2.2
 unfold f00;omega
theorem Z04(g:j0)(j:g.2.2.length<=140737488355328):a7 g=some (G5 g):=by
 have b:=D00 g j
 unfold G5
 by_cases hf:N3 g=true
 ·obtain⟨e,t,d,a⟩:=u0c g (Y04 hf)
  have f:=t0b g hf
  have h:=y0e (f00 g) g (by have:=e09 hf;omega)
  obtain⟨r,n,es⟩:=g
  obtain⟨u,m,s⟩:=e
  unfold a7
  simp only at a
  generalize f00 (r,n,es)=C at *
  obtain⟨o,p,q⟩:=C
  simp only[b,hf,oB,Bool.not_true,Bool.false_eq_true,if_false,d,f]
  by_cases c:m=n
  ·have:=a.1 c
   simp only[decide_eq_true c,j2,oB,h,cond_true,this,Option.isNone_none,Bool.true_and]
  ·have l:(V02 (r,n,es)).isNone=false:=by
    cases hq:V02 (r,n,es)with
    |none=>exact absurd (a.2 hq) c
    |some k=>rfl
   simp only[decide_eq_false c,Q1,oB,cond_false,l,Bool.false_and,Bool.and_false]
 ·have i:N3 g=false:=Bool.eq_false_iff.2 hf
  obtain⟨r,n,es⟩:=g
  unfold a7
  simp only[b,i,oB,Bool.not_false,if_true,Bool.false_and]
theorem a05(g:j0)(j:g.2.2.length<=140737488355328):N7 g=some (G5 g):=by
 have a:=T02 g j
 unfold G5
 by_cases hf:N3 g=true
 ·have f:=b0i g (Y04 hf)
  have d:=u0b g hf
  have e:=z0e (f00 g) g (by have:=e09 hf;omega)
  obtain⟨p,q,c,s⟩:=B9 hf
  obtain⟨r,n,es⟩:=g
  unfold N7
  generalize f00 (r,n,es)=C at *
  obtain⟨l,m,o⟩:=C
  simp only[a,hf,oB,j2,f,cond_true]
  cases hq:V02 (r,n,es)with
  |none =>
   simp only[P0 (show Q0 (-1) by decide),oB,show decide ((-1:Int)<0)=true from rfl,j2,d,e,cond_true,Option.isNone_none,Bool.true_and]
  |some k =>
   have i:=a08 _ _ _ hq
   simp only at c
   simp only at i
   have b:decide ((k:Int)<0)=false:=decide_eq_false (by omega)
   simp only[P0 (show Q0 (k:Int) from c64 (by omega) (by omega)),oB,b,Q1,cond_false,Option.isNone_some,Bool.false_and,Bool.and_false]
 ·have h:N3 g=false:=Bool.eq_false_iff.2 hf
  obtain⟨r,n,es⟩:=g
  unfold N7
  simp only[a,h,oB,Q1,P0 (show Q0 0 by decide),cond_false,Bool.false_and]
theorem G0d{s:ByteArray}{k:Nat}(h:k<s.size):∃ c,sgi s (k:Int)=some c:=by
 unfold sgi
 rw[if_pos (by omega),Int.toNat_natCast]
 exact⟨_,getElem?_pos s k h⟩
def chB(s:ByteArray)(k:Nat):Nat:=match sgi s (k:Int)with
 |some c=>c.toNat
 |none=>0
def c0i(c k:Nat):Bool := !(decide (97<=c)&&decide (c<=122))&&(decide (k=0) || !(decide (48<=c)&&decide (c<=57)))
def okN(s:ByteArray):Nat->Nat->Bool
 |0,k=>true
 |d+1,k=>bif c0i (chB s k) k then false else okN s d (k+1)
def A7(s:ByteArray):Bool:=inR 1 8 ((s.size:Nat):Int)&&okN s s.size 0
theorem H0d(s:ByteArray)(hl:s.size<=9223372036854775807):∀(d k fuel:Nat),k+d=s.size->d<fuel ->
  N5 s fuel (k:Int)=some (bif okN s d k then .inr ()else .inl false)
 |d,k,0,hd,hf=>by omega
 |0,k,fuel+1,hd,hf=>by
  rw[N5.eq_2,if_neg (by simp;omega)];rfl
 |d+1,k,fuel+1,hd,hf=>by
  have hk:k<s.size:=by omega
  obtain⟨c,hc⟩:=G0d hk
  have ih:=H0d s hl d (k+1) fuel (by omega) (by omega)
  have hb:chB s k=c.toNat:=by unfold chB;rw[hc]
  rw[N5.eq_2,if_pos (by simp;omega),hc]
  simp only[oB,okN,hb,c0i,Z2 hk hl,ih]
  have nd:∀(p q:Prop) [Decidable p] [Decidable q],(p ↔ ¬ q)->decide p = !decide q:=λp q _ _ h=>by
   by_cases c:q
   ·rw[decide_eq_true c,decide_eq_false (λhp=>h.1 hp c)];rfl
   ·rw[decide_eq_false c,decide_eq_true (h.2 c)];rfl
  have t1:decide (((c.toNat:Nat):Int)<97) = !decide (97<=c.toNat):=nd _ _ (by omega)
  have t2:decide (((c.toNat:Nat):Int)>122) = !decide (c.toNat<=122):=nd _ _ (by omega)
  have t3:decide (((c.toNat:Nat):Int)<48) = !decide (48<=c.toNat):=nd _ _ (by omega)
  have t4:decide (((c.toNat:Nat):Int)>57) = !decide (c.toNat<=57):=nd _ _ (by omega)
  have t5:decide ((k:Int)=0)=decide (k=0):=by congr 1;simp
  have fin:∀(b:Bool) (x y:Option (Bool ⊕ Unit)),(if b=true then x else y)=bif b then x else y:=λb x y=>by cases b<;>rfl
  have hz:decide (((0:UInt8).toNat:Int)>122)=false:=rfl
  rw[t1,t5]
  cases h1:decide (97<=c.toNat)<;>cases h2:decide (c.toNat<=122)<;>cases h3:decide (48<=c.toNat)<;>cases h4:decide (c.toNat<=57) <;>
   simp only[j2,Q1,oB,t2,t3,t4,h2,h3,h4,cond_true,cond_false,Bool.not_true,Bool.not_false,Bool.false_and,Bool.true_and,Bool.and_true,Bool.and_false,Bool.and_self,Bool.true_or,Bool.false_or,Bool.or_true,Bool.or_false,fin] <;>
   cases decide (k=0)<;>cases okN s d (k+1)<;>rfl
theorem I0d(a:ByteArray)(i:a.size<=9223372036854775807):∀(d k fuel:Nat),k+d=a.size->d<fuel ->
  O5 a fuel (k:Int)=some (bif okN a d k then .inr ()else .inl false)
 |d,k,0,g,hf=>by omega
 |0,k,fuel+1,g,hf=>by
  rw[O5.eq_2,if_neg (by simp;omega)];rfl
 |d+1,k,fuel+1,g,hf=>by
  have h:k<a.size:=by omega
  obtain⟨c,f⟩:=G0d h
  have l:=I0d a i d (k+1) fuel (by omega) (by omega)
  have j:chB a k=c.toNat:=by unfold chB;rw[f]
  rw[O5.eq_2,if_pos (by simp;omega),f]
  simp only[oB,okN,j,c0i,Z2 h i,l]
  have m:decide (((c.toNat:Nat):Int) ≥ 97)=decide (97<=c.toNat):=by congr 1;simp;omega
  have n:decide (((c.toNat:Nat):Int)<=122)=decide (c.toNat<=122):=by congr 1;simp;omega
  have o:decide (((c.toNat:Nat):Int) ≥ 48)=decide (48<=c.toNat):=by congr 1;simp;omega
  have p:decide (((c.toNat:Nat):Int)<=57)=decide (c.toNat<=57):=by congr 1;simp;omega
  have q:decide ((k:Int)=0)=decide (k=0):=by congr 1;simp
  rw[m,o,q]
  have fin:∀(b:Bool) (x e:Option (Bool ⊕ Unit)),(if b=true then x else e)=bif b then x else e:=λb x e=>by cases b<;>rfl
  cases h1:decide (97<=c.toNat)<;>cases h3:decide (48<=c.toNat)<;>cases h5:decide (k=0) <;>
   simp only[j2,Q1,oB,n,p,cond_true,cond_false,Bool.not_true,Bool.not_false,Bool.false_and,Bool.true_and,Bool.true_or,Bool.false_or,Bool.and_true,fin] <;>
   cases decide (c.toNat<=122)<;>cases decide (c.toNat<=57)<;>cases okN a d (k+1)<;>rfl
theorem b05(a:ByteArray)(b:a.size<=9223372036854775807):O7 a=some (A7 a):=by
 unfold O7 A7
 have h:=H0d a b a.size 0 V0 (by omega) (by unfold V0;omega)
 rw[show((0:Nat):Int)=0 from rfl]at h
 rw[h,oB]
 cases okN a a.size 0
 ·simp[f8]
 ·simp[f8,Q02]
theorem c05(a:ByteArray)(b:a.size<=9223372036854775807):P7 a=some (A7 a):=by
 unfold P7 A7
 have h:=I0d a b a.size 0 V0 (by omega) (by unfold V0;omega)
 rw[show((0:Nat):Int)=0 from rfl]at h
 rw[R02,oB]
 cases inR 1 8 ((a.size:Nat):Int)
 ·rfl
 ·rw[if_neg (by simp),h,oB]
  cases okN a a.size 0<;>simp[f8]
def d0h(r:Int)(l:N0)(k:Nat):Bool:=match l[k]? with
 |some e=>bif A7 e.1 then(bif G5 e.2 then(bif decide (e.2.1=r)then(bif decide (0<k)then(match l[k-1]? with
  |some a => !r8 a.1 e.1
  |none=>false)else false)else true)else true)else true
 |none=>false
def okL(r:Int)(l:N0):Nat->Nat->Bool
 |0,k=>true
 |d+1,k=>bif d0h r l k then false else okL r l d (k+1)
def M4(x:T0):Bool:=inR 1 3 x.1&&(decide (x.2.length<=16)&&okL x.1 x.2 x.2.length 0)
def b08(l:N0):Prop:=l.length<=140737488355328/\∀ e∈l,e.1.size<=140737488355328/\e.2.2.2.length<=140737488355328
theorem Z09{r:Int}{l:N0}{k:Nat}{e:l4}(b:l[k]?=some e):d0h r l k=bif A7 e.1 then(bif G5 e.2 then(bif decide (e.2.1=r)then(bif decide (0<k)then(match l[k-1]? with
  |some a => !r8 a.1 e.1
  |none=>false)else false)else true)else true)else true:=by unfold d0h;rw[b]
theorem a0g(r:Int)(l:N0)(j:b08 l):∀(d k fuel:Nat),k+d=l.length->d<fuel ->
  D4 l r fuel (k:Int)=some (bif okL r l d k then .inr ()else .inl false)
 |d,k,0,q,hf=>by omega
 |0,k,fuel+1,q,hf=>by
  rw[D4.eq_2,if_neg (by simp;omega)];rfl
 |d+1,k,fuel+1,q,hf=>by
  have s:k<l.length:=by omega
  have c:=t7 s
  have i:=j.2 _ (List.mem_of_getElem? c)
  have z:=j.1
  generalize l[k]=e at c i
  obtain⟨m,a,n,es⟩:=e
  simp only at i
  have u:=a0g r l j d (k+1) fuel (by omega) (by omega)
  rw[D4.eq_2,if_pos (by simp;omega)]
  simp only[T4 c,oB,c05 m (by omega),Z2 s (show l.length<=9223372036854775807 by omega),u,okL,Z09 c]
  have p:=Z04 (a,n,es) i.2
  have fin:∀(b:Bool) (x o:Option (Bool ⊕ Unit)),(if b=true then x else o)=bif b then x else o:=λb x o=>by cases b<;>rfl
  have y:∀ b:Bool,(b || true)=true:=λb=>by cases b<;>rfl
  cases hN:A7 m
  ·simp only[Bool.not_false,Bool.not_true,Bool.and_false,Q1,oB,cond_true,cond_false,if_true]
  ·by_cases hk0:k=0
   ·subst hk0
    have f:decide (((0:Nat):Int)>0)=false:=rfl
    have g:decide (0<0)=false:=rfl
    simp only[f,g,Bool.not_true,Bool.not_false,Bool.false_and,Q1,oB,cond_true,cond_false,fin]
    cases hR:decide (a=r)
    ·simp only[Bool.not_false,Q1,Bool.not_true,oB,cond_true,cond_false]
     cases G5 (a,n,es)<;>rfl
    ·simp only[Bool.not_true,Bool.not_false,j2,p,oB,cond_true,cond_false]
     cases G5 (a,n,es)<;>cases okL r l d (0+1)<;>rfl
   ·have t:k-1<l.length:=by omega
    have h:=t7 t
    generalize l[k-1]=e' at h
    obtain⟨v,B,A,w⟩:=e'
    have f:decide ((k:Int)>0)=true:=decide_eq_true (by omega)
    have g:decide (0<k)=true:=decide_eq_true (by omega)
    simp only[f,g,Bool.not_true,Bool.not_false,Bool.true_and,j2,l0d (show 0<k by omega) (show k<=9223372036854775807 by omega),T4 h,h,oB,cond_true,cond_false,fin]
    cases hS:r8 v m
    ·simp only[Bool.not_false,Q1,Bool.not_true,oB,cond_true,cond_false]
     cases G5 (a,n,es)<;>cases decide (a=r)<;>rfl
    ·cases hR:decide (a=r)
     ·simp only[Bool.not_false,Q1,Bool.not_true,oB,cond_true,cond_false]
      cases G5 (a,n,es)<;>rfl
     ·simp only[Bool.not_true,Bool.not_false,j2,p,oB,cond_true,cond_false]
      cases G5 (a,n,es)<;>cases okL r l d (k+1)<;>rfl
theorem b0g(r:Int)(l:N0)(j:b08 l):∀(d k fuel:Nat),k+d=l.length->d<fuel ->
  B4 l r fuel (k:Int)=some (bif okL r l d k then .inr ()else .inl false)
 |d,k,0,p,hf=>by omega
 |0,k,fuel+1,p,hf=>by
  rw[B4.eq_2,if_neg (by simp;omega)];rfl
 |d+1,k,fuel+1,p,hf=>by
  have q:k<l.length:=by omega
  have c:=t7 q
  have i:=j.2 _ (List.mem_of_getElem? c)
  have y:=j.1
  generalize l[k]=e at c i
  obtain⟨m,a,n,es⟩:=e
  simp only at i
  have u:=b0g r l j d (k+1) fuel (by omega) (by omega)
  have s:L4 (a,n,es)=some (G5 (a,n,es)):=by
   unfold L4
   simp only[a05 (a,n,es) i.2,oB]
  rw[B4.eq_2,if_pos (by simp;omega)]
  simp only[T4 c,oB,b05 m (by omega),Z2 q (show l.length<=9223372036854775807 by omega),u,okL,Z09 c]
  have fin:∀(b:Bool) (x o:Option (Bool ⊕ Unit)),(if b=true then x else o)=bif b then x else o:=λb x o=>by cases b<;>rfl
  cases hN:A7 m
  ·simp only[Bool.not_false,Bool.not_true,Bool.and_false,Q1,oB,cond_true,cond_false,if_true]
  ·simp only[Bool.not_true,Bool.not_false,j2,s,oB,cond_false,cond_true]
   cases hQ:G5 (a,n,es)
   ·simp only[Bool.not_false,Bool.not_true,Bool.and_false,Q1,oB,cond_true,cond_false,if_true]
   ·cases hR:decide (a=r)
    ·simp only[Bool.not_false,Bool.not_true,Bool.and_false,Q1,oB,cond_true,cond_false,if_true]
    ·by_cases hk0:k=0
     ·subst hk0
      have f:decide (((0:Nat):Int)>0)=false:=rfl
      have g:decide (0<0)=false:=rfl
      simp only[f,g,Bool.not_true,Bool.not_false,Bool.false_and,Q1,oB,cond_true,cond_false,fin]
      try (cases okL r l d (0+1)<;>rfl)
     ·have t:k-1<l.length:=by omega
      have h:=t7 t
      generalize l[k-1]=e' at h
      obtain⟨v,A,z,w⟩:=e'
      have f:decide ((k:Int)>0)=true:=decide_eq_true (by omega)
      have g:decide (0<k)=true:=decide_eq_true (by omega)
      simp only[f,g,Bool.not_true,Bool.not_false,Bool.and_true,Bool.true_and,j2,l0d (show 0<k by omega) (show k<=9223372036854775807 by omega),T4 h,h,oB,cond_true,cond_false,fin]
      cases r8 v m<;>cases okL r l d (k+1)<;>rfl
theorem r06(x:T0)(a:b08 x.2):z7 x=some (M4 x):=by
 obtain⟨r,l⟩:=x
 have h:=a0g r l a l.length 0 V0 (by omega) (E2 a.1)
 rw[show((0:Nat):Int)=0 from rfl]at h
 unfold z7 M4
 simp only[R02,oB]
 have b:decide (((l.length:Nat):Int)>16) = !decide (l.length<=16):=by
  by_cases c:l.length<=16
  ·rw[decide_eq_true c,decide_eq_false (by omega)];rfl
  ·rw[decide_eq_false c,decide_eq_true (by omega)];rfl
 rw[b]
 cases inR 1 3 r
 ·rfl
 ·cases decide (l.length<=16)
  ·rfl
  ·simp only[Bool.not_true,cond_false,Bool.false_eq_true,if_false,h,oB,Bool.true_and]
   cases okL r l l.length 0<;>rfl
theorem s06(x:T0)(a:b08 x.2):r7 x=some (M4 x):=by
 obtain⟨r,l⟩:=x
 have h:=b0g r l a l.length 0 V0 (by omega) (E2 a.1)
 rw[show((0:Nat):Int)=0 from rfl]at h
 unfold r7 M4
 simp only[Q02,h,oB]
 have b:decide (((l.length:Nat):Int)<=16)=decide (l.length<=16):=by
  by_cases c:l.length<=16
  ·rw[decide_eq_true c,decide_eq_true (by omega)]
  ·rw[decide_eq_false c,decide_eq_false (by omega)]
 rw[b]
 cases okL r l l.length 0
 ·cases inR 1 3 r<;>cases decide (l.length<=16)<;>rfl
 ·cases inR 1 3 r<;>cases decide (l.length<=16)<;>rfl
theorem c0g:∀ x:List UInt8,Go.Op.bytesLess x x=false
 | []=>rfl
 |a::x=>by simp[Go.Op.bytesLess,c0g x]
theorem w0b:∀(x f z:List UInt8),Go.Op.bytesLess x f=true->Go.Op.bytesLess f z=true->Go.Op.bytesLess x z=true
 |_,[],_,h,_=>by simp[Go.Op.bytesLess]at h
 |_,_::_,[],_,h=>by simp[Go.Op.bytesLess]at h
 | [],_::_,_::_,_,_=>rfl
 |a::x,b::f,c::z,e,d=>by
  have g:=w0b x f z
  simp only[Go.Op.bytesLess,Bool.or_eq_true,Bool.and_eq_true,decide_eq_true_eq,beq_iff_eq]at e d ⊢
  rcases e with e|⟨rfl,e⟩
  ·rcases d with d|⟨rfl,d⟩
   ·exact .inl (UInt8.lt_trans e d)
   ·exact .inl e
  ·rcases d with d|⟨rfl,d⟩
   ·exact .inl d
   ·exact .inr ⟨rfl,g e d⟩
theorem a0a(x:ByteArray):r8 x x=false:=c0g _
theorem f09{x a z:ByteArray}(b:r8 x a=true)(c:r8 a z=true):r8 x z=true:=w0b _ _ _ b c
theorem J0d{r:Int}{l:N0}:∀(d k:Nat),k+d=l.length->okL r l d k=true->∀ i,k<=i->0<i->∀ e a,l[i-1]?=some e->l[i]?=some a->r8 e.1 a.1=true
 |0,k,m,h,i,n,h0,e,a,f,b=>by have:=(List.getElem?_eq_some_iff.1 b).1;omega
 |d+1,k,m,h,i,n,h0,e,a,f,b=>by
  unfold okL at h
  cases hb:d0h r l k
  ·rw[hb]at h
   by_cases c:i=k
   ·subst c
    rw[Z09 b]at hb
    have g:decide (0<i)=true:=decide_eq_true h0
    rw[g,f]at hb
    have j:A7 a.1=true/\G5 a.2=true/\a.2.1=r/\r8 e.1 a.1=true:=by simpa [Bool.cond_eq_ite] using hb
    exact j.2.2.2
   ·exact J0d d (k+1) (by omega) h i (by omega) h0 e a f b
  ·rw[hb]at h;cases h
theorem b0a{x:T0}(h:M4 x=true):∀(j i:Nat) (e a:l4),i<j->x.2[i]?=some e->x.2[j]?=some a->r8 e.1 a.1=true
 |0,i,e,a,k,b,d=>by omega
 |j+1,i,e,a,k,b,d=>by
  have m:okL x.1 x.2 x.2.length 0=true:=by
   unfold M4 at h
   simp only[Bool.and_eq_true]at h;exact h.2.2
  have l:j<x.2.length:=by have:=(List.getElem?_eq_some_iff.1 d).1;omega
  have f:=t7 l
  have g:=J0d x.2.length 0 (by omega) m (j+1) (Nat.zero_le _) (by omega) _ _ f d
  by_cases c:i=j
  ·subst c;rw[f]at b;cases b;exact g
  ·exact f09 (b0a h j i _ _ (by omega) b f) g
def F00(l:N0):Prop:=l.length<=1048576/\∀ e∈l,e.1.size<=1048576/\e.2.2.2.length<=1048576
theorem F00.ok{l:N0}(h:F00 l):b08 l:=⟨by have:=h.1;omega,λe a=>by have:=h.2 e a;omega⟩
theorem K0d(l:N0)(b:F00 l)(r:Int):∀(d k fuel:Nat),k+d=l.length->d<fuel ->
  U3 l fuel (k:Int) r (l.take k)=some (r,l)
 |d,k,0,c,hf=>by omega
 |0,k,fuel+1,c,hf=>by
  rw[U3.eq_2,if_neg (by simp;omega),List.take_of_length_le (by omega)]
 |d+1,k,fuel+1,c,hf=>by
  have g:k<l.length:=by omega
  have a:=t7 g
  have f:=b.2 _ (List.mem_of_getElem? a)
  have h:=o0d a
  generalize l[k]=e at a f h
  obtain⟨o,j,n,es⟩:=e
  simp only at f
  have m:=b.1
  have i:=K0d l b r d (k+1) fuel (by omega) (by omega)
  rw[U3.eq_2,if_pos (by simp;omega)]
  simp only[T4 a,oB,d04 (j,n,es) (by simp only;omega)]
  rw[P0 (by simp only[List.length_take,List.length_singleton];omega),oB,Z2 g (by omega),←h,i]
theorem e0h(x:T0)(a:F00 x.2):J6 x=some x:=by
 obtain⟨r,l⟩:=x
 have h:=K0d l a r l.length 0 V0 (by omega) (E2 (by have:=a.1;simp only at this;omega))
 rw[show((0:Nat):Int)=0 from rfl,List.take_zero]at h
 unfold J6
 simp only[h,oB]
theorem L0d(l:N0)(b:F00 l)(r:Int):∀(d k fuel:Nat),k+d=l.length->d<fuel ->
  p5 l fuel (k:Int) r (l.take k)=some (r,l)
 |d,k,0,c,hf=>by omega
 |0,k,fuel+1,c,hf=>by
  rw[p5.eq_2,if_neg (by simp;omega),List.take_of_length_le (by omega)]
 |d+1,k,fuel+1,c,hf=>by
  have g:k<l.length:=by omega
  have a:=t7 g
  have f:=b.2 _ (List.mem_of_getElem? a)
  have h:=o0d a
  generalize l[k]=e at a f h
  obtain⟨o,j,n,es⟩:=e
  simp only at f
  have m:=b.1
  have i:=L0d l b r d (k+1) fuel (by omega) (by omega)
  rw[p5.eq_2,if_pos (by simp;omega)]
  simp only[T4 a,oB,f02 (j,n,es) (by simp only;omega)]
  rw[P0 (by simp only[List.length_take,List.length_singleton];omega),oB,Z2 g (by omega),←h,i]
theorem f0h(x:T0)(a:F00 x.2):I6 x=some x:=by
 obtain⟨r,l⟩:=x
 have h:=L0d l a r l.length 0 V0 (by omega) (E2 (by have:=a.1;simp only at this;omega))
 rw[show((0:Nat):Int)=0 from rfl,List.take_zero]at h
 unfold I6
 simp only[h,oB]
def fnd(s:ByteArray)(l:N0):Nat->Nat->Option Nat
 |0,k=>none
 |d+1,k=>match l[k]? with
  |some e=>bif V9 e.1 s then some k else fnd s l d (k+1)
  |none=>none
def P05(x:T0)(s:ByteArray):Option Nat:=fnd s x.2 x.2.length 0
theorem c08{a:ByteArray}{l:N0}:∀(d k i:Nat),fnd a l d k=some i->k<=i/\(∃ e,l[i]?=some e/\e.1=a)/\∀ j,k<=j->j<i->∀ e,l[j]?=some e->e.1≠a
 |0,k,i,h=>by cases h
 |d+1,k,i,h=>by
  unfold fnd at h
  cases he:l[k]? with
  |none=>rw[he]at h;cases h
  |some e =>
   rw[he]at h
   simp only at h
   cases hb:V9 e.1 a
   ·rw[hb]at h
    obtain⟨m,f,n⟩:=c08 d (k+1) i h
    refine⟨by omega,f,λj p o g b=>?_⟩
    by_cases c:j=k
    ·subst c;rw[he]at b;cases b
     intro h;rw[M7.2 h]at hb;cases hb
    ·exact n j (by omega) o g b
   ·rw[hb]at h;cases h
    exact⟨Nat.le_refl _,⟨e,he,M7.1 hb⟩,λj m f=>by omega⟩
theorem x0b{f:ByteArray}{l:N0}:∀(d k:Nat),k+d=l.length->fnd f l d k=none->∀ j,k<=j->∀ e,l[j]?=some e->e.1≠f
 |0,k,g,h,j,i,e,a=>by have:=(List.getElem?_eq_some_iff.1 a).1;omega
 |d+1,k,g,h,j,i,e,a=>by
  unfold fnd at h
  have b:=t7 (show k<l.length by omega)
  generalize l[k]=x at b
  rw[b]at h
  simp only at h
  cases hb:V9 x.1 f
  ·rw[hb]at h
   by_cases c:j=k
   ·subst c;rw[b]at a;cases a
    intro h;rw[M7.2 h]at hb;cases hb
   ·exact x0b d (k+1) (by omega) h j (by omega) e a
  ·rw[hb]at h;cases h
theorem d0g(l:N0)(a:ByteArray)(g:l.length<=9223372036854775807):∀(d k fuel:Nat),k+d=l.length->d<fuel ->
  J3 l a fuel (k:Int)=some (match fnd a l d k with|some i => .inl (i:Int)|none => .inr ())
 |d,k,0,c,hf=>by omega
 |0,k,fuel+1,c,hf=>by
  rw[J3.eq_2,if_neg (by simp;omega)];rfl
 |d+1,k,fuel+1,c,hf=>by
  have f:k<l.length:=by omega
  have b:=t7 f
  generalize l[k]=e at b
  obtain⟨j,m,n,es⟩:=e
  have h:=d0g l a g d (k+1) fuel (by omega) (by omega)
  rw[J3.eq_2,if_pos (by simp;omega)]
  simp only[T4 b,oB,Z2 f g,h,fnd,b]
  cases V9 j a<;>rfl
theorem d0i(x:T0)(a:ByteArray)(b:x.2.length<=9223372036854775807):t6 x a=some (match P05 x a with|some i=>(i:Int)|none => -1):=by
 obtain⟨r,l⟩:=x
 have h:=d0g l a b l.length 0 V0 (by omega) (by unfold V0;simp only at b;omega)
 rw[show((0:Nat):Int)=0 from rfl]at h
 unfold t6 P05
 simp only[h,oB]
 cases fnd a l l.length 0<;>rfl
theorem M0d{x:T0}{b:ByteArray}{i:Nat}(h:P05 x b=some i):i<x.2.length:=by
 obtain⟨_,⟨e,a,_⟩,_⟩:=c08 _ _ _ h
 exact(List.getElem?_eq_some_iff.1 a).1
def I00(e:l4):N0->N0
 | []=>[e]
 |x::r=>bif r8 x.1 e.1 then x::I00 e r else(bif V9 x.1 e.1 then e::r else e::x::r)
def I1(x:T0)(s:ByteArray)(g:j0):T0×Bool :=
 bif M4 x&&(A7 s&&(decide (g.1=x.1)&&G5 g))then
  (bif decide (16<(I00 (s,g) x.2).length)then(x,false)else((x.1,I00 (s,g) x.2),true))else(x,false)
theorem y0b(e:l4):∀ l:N0,(I00 e l).length<=l.length+1
 | []=>by simp[I00]
 |x::r=>by
  have:=y0b e r
  unfold I00
  cases r8 x.1 e.1
  ·cases V9 x.1 e.1<;>simp[cond_true,cond_false]
  ·simp only[cond_true,List.length_cons];omega
def c0a(e:l4)(p:Bool)(x:l4):Bool:=bif !p then(r8 e.1 x.1 || V9 e.1 x.1)else false
def Q05(e:l4):Bool->N0->N0
 |_,[]=>[]
 |p,x::r=>bif c0a e p x then e::(bif V9 x.1 e.1 then Q05 e true r else x::Q05 e true r)else(bif V9 x.1 e.1 then Q05 e p r else x::Q05 e p r)
def m08(e:l4):Bool->N0->Bool
 |p,[]=>p
 |p,x::r=>m08 e (bif c0a e p x then true else p) r
theorem e0g(l:N0)(o:F00 l)(a:ByteArray)(g:j0)(v:g.2.2.length<=1048576)(s:Int):∀(d k fuel:Nat) (p:Bool) (acc:N0),k+d=l.length->d<fuel->acc.length<=2*k ->
  B3 l a g.1 g.2.1 g.2.2 fuel p (k:Int) s acc=some (m08 (a,g) p (l.drop k),s,acc++Q05 (a,g) p (l.drop k))
 |d,k,0,p,acc,u,hf,t=>by omega
 |0,k,fuel+1,p,acc,u,hf,t=>by
  rw[B3.eq_2,if_neg (by simp;omega),V2 (by omega)];simp[Q05,m08]
 |d+1,k,fuel+1,p,acc,u,hf,t=>by
  have x:k<l.length:=by omega
  have f:=t7 x
  have w:=o.2 _ (List.mem_of_getElem? f)
  generalize l[k]=e at f w
  obtain⟨b,q,n,es⟩:=e
  simp only at w
  have C:=o.1
  have c:=λB y h=>e0g l o a g v s d (k+1) fuel B y (by omega) (by omega) h
  obtain⟨i,j,m⟩:=g
  simp only at v c
  have z:=f02 (i,j,m) (by simp only;omega)
  rw[B3.eq_2,if_pos (by simp;omega),T3 f]
  simp only[T4 f,oB,f02 (q,n,es) (by simp only;omega),Z2 x (show l.length<=9223372036854775807 by omega),Q05,m08]
  have A:(bif(!p)then(r8 a b || V9 a b)else false)=c0a (a,(i,j,m)) p (b,(q,n,es)):=rfl
  rw[A]
  cases c0a (a,(i,j,m)) p (b,(q,n,es))
  ·rw[if_neg (by simp)]
   cases V9 b a
   ·rw[if_pos (by rfl),P0 (by simp only[List.length_singleton];omega),oB,c _ _ (by simp;omega)];simp
   ·rw[if_neg (by simp),c _ _ (by omega)];simp
  ·rw[if_pos rfl]
   simp only[z,oB]
   rw[P0 (by simp only[List.length_singleton];omega),oB]
   cases V9 b a
   ·rw[if_pos (by rfl),P0 (by simp only[List.length_append,List.length_singleton];omega),oB,c _ _ (by simp;omega)];simp
   ·rw[if_neg (by simp),c _ _ (by simp;omega)];simp
def e0i(l:N0):Prop:=l.Pairwise λa b=>r8 a.1 b.1=true
theorem f0g{x:T0}(h:M4 x=true):e0i x.2:=by
 rw[e0i,List.pairwise_iff_getElem]
 intro i j a c b
 exact b0a h j i _ _ b (List.getElem?_eq_getElem a) (List.getElem?_eq_getElem c)
theorem z0b(e:l4):∀ l:N0,(∀ x∈l,x.1≠e.1)->Q05 e true l=l/\m08 e true l=true
 | [],_=>⟨rfl,rfl⟩
 |x::r,h=>by
  have a:=z0b e r λd c=>h d (mC _ c)
  have:V9 x.1 e.1=false:=Bool.eq_false_iff.2 λb=>h x mS (M7.1 b)
  simp only[Q05,m08,c0a,Bool.not_true,cond_false,this]
  exact⟨by rw[a.1],a.2⟩
theorem g0g{a b:ByteArray}(h:r8 a b=true):a≠b:=λe=>by rw[e,a0a]at h;cases h
theorem N0d(e:l4)(j:∀ a b:ByteArray,r8 a b=false->r8 b a=false->a=b):∀ l:N0,e0i l->Q05 e false l++(bif m08 e false l then []else [e])=I00 e l
 | [],_=>rfl
 |x::r,h=>by
  obtain⟨m,n⟩:=List.pairwise_cons.1 h
  have q:=N0d e j r n
  unfold I00
  cases hs:r8 x.1 e.1
  ·rw[cond_false]
   have k:∀ g∈r,g.1≠e.1:=λg p o=>by
    have:=m g p
    rw[o]at this;rw[this]at hs;cases hs
   have i:=z0b e r k
   have d:c0a e false x=true:=by
    simp only[c0a,Bool.not_false,cond_true,Bool.or_eq_true]
    cases f:r8 e.1 x.1
    ·exact .inr (M7.2 (j _ _ f hs))
    ·exact .inl rfl
   simp only[Q05,m08,d,cond_true,i.1,i.2,List.append_nil]
   cases V9 x.1 e.1<;>rfl
  ·rw[cond_true]
   have f:V9 x.1 e.1=false:=Bool.eq_false_iff.2 λc=>g0g hs (M7.1 c)
   have d:c0a e false x=false:=by
    simp only[c0a,Bool.not_false,cond_true,Bool.or_eq_false_iff]
    refine⟨Bool.eq_false_iff.2 λc=>?_,Bool.eq_false_iff.2 λc=>g0g hs (M7.1 c).symm⟩
    have:=f09 hs c
    rw[a0a]at this;cases this
   simp only[Q05,m08,d,cond_false,f,List.cons_append,q]
def t06(s:ByteArray):N0->Nat
 | []=>0
 |x::r=>bif r8 x.1 s then t06 s r+1 else 0
theorem i0g(s:ByteArray):∀ l:N0,t06 s l<=l.length
 | []=>Nat.le_refl _
 |x::r=>by have:=i0g s r;unfold t06;cases r8 x.1 s<;>simp only[cond_true,cond_false,List.length_cons]<;>omega
theorem j0g(l:N0)(g:F00 l)(b:ByteArray):∀(d k fuel:Nat),k+d=l.length->d<fuel ->
  N4 l b fuel (k:Int)=some ((k+t06 b (l.drop k):Nat):Int)
 |d,k,0,f,hf=>by omega
 |0,k,fuel+1,f,hf=>by
  have a:decide ((k:Int)<((l.length:Nat):Int))=false:=decide_eq_false (by omega)
  rw[N4.eq_2,a,V2 (by omega)]
  rfl
 |d+1,k,fuel+1,f,hf=>by
  have a:k<l.length:=by omega
  have c:=t7 a
  have m:=g.1
  have i:=j0g l g b d (k+1) fuel (by omega) (by omega)
  generalize l[k]=e at c
  obtain⟨j,o,n,es⟩:=e
  have h:decide ((k:Int)<((l.length:Nat):Int))=true:=decide_eq_true (by omega)
  rw[N4.eq_2,h,T3 c]
  simp only[chk,T4 c,cond_true,oB,Z2 a (show l.length<=9223372036854775807 by omega),t06,if_true]
  cases r8 j b
  ·rfl
  ·simp only[if_true,i,cond_true]
   congr 2;omega
theorem swp(a c:N0)(y e:l4):((a++y::e::c).set (a.length+1) y).set a.length e=a++e::y::c:=by
 simp[List.set_append_right]
theorem k0g(l:N0)(o:l.length<=1048576)(e:l4)(b:Nat):∀(d fuel:Nat),b+d<=l.length->d<fuel ->
  C3 (b:Int) fuel ((b+d:Nat):Int) (l.take (b+d)++e::l.drop (b+d))=some (l.take b++e::l.drop b)
 |d,0,i,hf=>by omega
 |0,fuel+1,i,hf=>by
  rw[C3.eq_2,if_neg (by simp)];rfl
 |d+1,fuel+1,i,hf=>by
  have g:=k0g l o e b d fuel (by omega) (by omega)
  have n:b+d<l.length:=by omega
  have h:=t7 n
  generalize l[b+d]=y at h
  have k:l.take (b+(d+1))=l.take (b+d) ++ [y]:=by rw[←Nat.add_assoc,o0d h]
  have m:l.drop (b+d)=y::l.drop (b+(d+1)):=by rw[T3 h,←Nat.add_assoc]
  have f:(l.take (b+d)).length=b+d:=by rw[List.length_take];omega
  have p:IntKind.i64.wrap (((b+(d+1):Nat):Int)-1)=((b+d:Nat):Int):=by
   rw[show((b+(d+1):Nat):Int)-1=((b+d:Nat):Int) by omega]
   exact w64 (by omega) (by omega)
  rw[k,List.append_assoc,List.singleton_append]
  rw[m]at g
  generalize l.take (b+d)=a at f g
  generalize l.drop (b+(d+1))=c at g
  have q:gi (a++y::e::c) ((b+d:Nat):Int)=some y:=T4 (by rw[←f];simp)
  have s:gi (a++y::e::c) ((b+(d+1):Nat):Int)=some e:=T4 (by rw[←Nat.add_assoc,←f,List.getElem?_append_right (by omega)];simp)
  have j:=swp a c y e
  rw[f]at j
  obtain⟨t,u,v,w⟩:=y
  obtain⟨x,z,A,B⟩:=e
  rw[C3.eq_2,if_pos (by simp;omega)]
  simp only[p,q,s,oB,Int.toNat_natCast]
  rw[show b+(d+1)=b+d+1 from rfl,j]
  exact g
theorem l0g(e:l4):∀ l:N0,(∀ x∈l,x.1≠e.1)->l.take (t06 e.1 l)++e::l.drop (t06 e.1 l)=I00 e l
 | [],_=>rfl
 |x::r,h=>by
  have c:=l0g e r λd b=>h d (mC _ b)
  unfold t06 I00
  cases r8 x.1 e.1
  ·have:V9 x.1 e.1=false:=Bool.eq_false_iff.2 λa=>h x mS (M7.1 a)
   simp[this]
  ·simp only[cond_true,List.take_succ_cons,List.drop_succ_cons,List.cons_append,c]
theorem O0d(e x:l4)(d:x.1=e.1)(b:N0):∀ a:N0,(∀ c∈a,r8 c.1 e.1=true)->I00 e (a++x::b)=a++e::b
 | [],_=>by
  rw[List.nil_append,List.nil_append,I00,d,a0a,cond_false,M7.2 rfl,cond_true]
 |c::a,h=>by
  rw[List.cons_append,I00,h c mS,cond_true,O0d e x d b a λz f=>h z (mC _ f)];rfl
theorem C0e{x:T0}{a:ByteArray}{g:j0}(k:M4 x=true){i:Nat}(f:P05 x a=some i):I00 (a,g) x.2=x.2.set i (a,g):=by
 obtain⟨_,⟨e,c,d⟩,p⟩:=c08 _ _ _ f
 have m:=M0d f
 have h:x.2=x.2.take i++(e::x.2.drop (i+1)):=by rw[←T3 c,List.take_append_drop]
 rw[List.set_eq_take_append_cons_drop,if_pos m]
 conv=>lhs;rw[h]
 refine O0d (a,g) e d _ _ λo n=>?_
 obtain⟨j,b⟩:=List.getElem?_of_mem n
 have l:=(List.getElem?_eq_some_iff.1 b).1
 rw[List.length_take]at l
 rw[List.getElem?_take_of_lt (by omega)]at b
 have:=b0a k i j o e (by omega) b c
 rw[d]at this;exact this
theorem m0g:∀ x c:List UInt8,Go.Op.bytesLess x c=false->Go.Op.bytesLess c x=false->x=c
 | [],[],_,_=>rfl
 | [],b::c,h,_=>by simp[Go.Op.bytesLess]at h
 |a::x,[],_,h=>by simp[Go.Op.bytesLess]at h
 |a::x,b::c,e,f=>by
  simp only[Go.Op.bytesLess,Bool.or_eq_false_iff,Bool.and_eq_false_iff,decide_eq_false_iff_not,beq_eq_false_iff_ne]at e f
  have g:a=b:=by
   have i:=e.1;have j:=f.1
   rw[UInt8.lt_iff_toNat_lt]at i j
   exact UInt8.toNat_inj.1 (by omega)
  subst g
  rcases e.2 with h|h
  ·exact absurd rfl h
  rcases f.2 with d|d
  ·exact absurd rfl d
  rw[m0g x c h d]
theorem g0h(a b:ByteArray)(c:r8 a b=false)(d:r8 b a=false):a=b:=by
 have:=m0g _ _ c d
 exact M7.1 (by unfold V9;rw[this];exact beq_self_eq_true _)
theorem D0e{x:T0}(a:M4 x=true):x.2.length<=16:=by
 unfold M4 at a
 simp only[Bool.and_eq_true,decide_eq_true_eq]at a;exact a.2.1
theorem E0e(x:T0)(a:ByteArray)(g:j0)(f:F00 x.2)(u:a.size<=1048576)(p:g.2.2.length<=1048576):F8 x a g=some (I1 x a g):=by
 have o:=f0h x f
 have n:=f.1
 have q:=s06 x f.ok
 have t:=b05 a (by omega)
 have j:L4 g=some (G5 g):=by
  unfold L4
  simp only[a05 g (by omega),oB]
 have k:=f02 g (by omega)
 have i:=e0g x.2 f a g p x.1 x.2.length 0 V0 false [] (by omega) (E2 (by omega)) (Nat.le_refl _)
 rw[show((0:Nat):Int)=0 from rfl,List.drop_zero,List.nil_append]at i
 have b:=λh=>N0d (a,g) g0h x.2 (@f0g x h)
 have m:=y0b (a,g) x.2
 obtain⟨r,l⟩:=x
 obtain⟨c,d,e⟩:=g
 unfold F8 I1
 simp only at n j k i b m
 simp only[o,q,t,j,i,k,oB]
 cases hL:M4 (r,l)
 ·simp[j2,Q1]
 cases hN:A7 a
 ·simp[j2,Q1]
 cases hQ:G5 (c,d,e)
 ·simp[j2,Q1]
 cases hR:decide (c=r)
 ·simp[j2,Q1,hR]
 have b:=b hL
 simp only[Bool.not_true,Bool.not_false,j2,cond_false,cond_true,Bool.and_self,oB,Bool.false_eq_true,if_false,hR]
 cases hp:m08 (a,(c,d,e)) false l
 ·rw[hp,cond_false]at b
  have s:(Q05 (a,(c,d,e)) false l ++ [(a,(c,d,e))]).length<=l.length+1:=by rw[b];exact m
  simp only[Bool.not_false,if_true]
  rw[P0 (by simp only[List.length_append,List.length_singleton]at s ⊢;omega),oB,P0 (by omega),oB,b]
  cases hd:decide (16<(I00 (a,(c,d,e)) l).length)
  ·rw[if_neg (by have:=of_decide_eq_false hd;simp;omega)];rfl
  ·rw[if_pos (by have:=of_decide_eq_true hd;simp;omega)];rfl
 ·rw[hp,cond_true,List.append_nil]at b
  simp only[Bool.not_true,Bool.false_eq_true,if_false]
  rw[b,P0 (by omega),oB]
  cases hd:decide (16<(I00 (a,(c,d,e)) l).length)
  ·rw[if_neg (by have:=of_decide_eq_false hd;simp;omega)];rfl
  ·rw[if_pos (by have:=of_decide_eq_true hd;simp;omega)];rfl
theorem F0e(x:T0)(a:ByteArray)(g:j0)(m:F00 x.2)(I:a.size<=1048576)(H:g.2.2.length<=1048576):G8 x a g=some (I1 x a g):=by
 have w:=e0h x m
 have v:=m.1
 have B:=r06 x m.ok
 have F:=c05 a (by omega)
 have q:=Z04 g (by omega)
 have t:=d04 g (by omega)
 have hf:=d0i x a (by omega)
 have u:=λi => @M0d x a i
 have k:=λh i => @C0e x a g h i
 have p:=λh => @D0e x h
 have s:P05 x a=none->∀ e∈x.2,e.1≠a:=λh e A=>by
  obtain⟨j,D⟩:=List.getElem?_of_mem A
  exact x0b _ _ (by omega) h j (Nat.zero_le _) e D
 have o:=j0g x.2 m a x.2.length 0 V0 (by omega) (E2 (by omega))
 rw[show((0:Nat):Int)=0 from rfl,List.drop_zero,Nat.zero_add]at o
 have y:=i0g a x.2
 have n:=k0g x.2 (by omega) (a,g) (t06 a x.2) (x.2.length-t06 a x.2) V0 (by omega) (E2 (by omega))
 rw[show t06 a x.2+(x.2.length-t06 a x.2)=x.2.length by omega,List.take_of_length_le (Nat.le_refl _),V2 rfl]at n
 have c:=λh=>l0g (a,g) x.2 h
 obtain⟨r,l⟩:=x
 obtain⟨b,d,f⟩:=g
 unfold G8 I1
 simp only at v q t o s u k p y n c
 simp only[w,B,F,q,t,hf,oB]
 cases hL:M4 (r,l)
 ·simp[j2,Q1]
 cases hN:A7 a
 ·simp[j2,Q1]
 cases hR:decide (b=r)
 ·simp[j2,Q1,hR]
 cases hQ:G5 (b,d,f)
 ·simp[j2,Q1,hR]
 have p:=p hL
 simp only[Bool.not_true,Bool.not_false,j2,cond_false,cond_true,Bool.and_self,oB,Bool.false_eq_true,if_false,hR]
 cases hq:P05 (r,l) a with
 |some i =>
  have C:=u i hq
  have k:=k hL i hq
  simp only
  rw[P0 (show Q0 (i:Int) from c64 (by omega) (by omega)),oB,if_pos (by simp),T4 (t7 C),oB,Int.toNat_natCast,k]
  have z:decide (16<(l.set i (a,(b,d,f))).length)=false:=decide_eq_false (by rw[List.length_set];omega)
  rw[z,cond_false]
 |none =>
  have c:=c (s hq)
  have E:(I00 (a,(b,d,f)) l).length=l.length+1:=by
   rw[←c];simp only[List.length_append,List.length_take,List.length_cons,List.length_drop];omega
  simp only
  rw[P0 (show Q0 (-1) by decide),oB,if_neg (by decide),E]
  by_cases h16:l.length=16
  ·rw[if_pos (by simp[h16]),show decide (16<l.length+1)=true from decide_eq_true (by omega),cond_true]
  ·rw[if_neg (by simp;omega),show decide (16<l.length+1)=false from decide_eq_false (by omega),cond_false]
   have G:IntKind.i64.wrap ((((l ++ [(a,(b,d,f))]).length:Nat):Int)-1)=((l.length:Nat):Int):=by
    rw[List.length_append,List.length_singleton,show(((l.length+1:Nat):Int))-1=((l.length:Nat):Int) by omega]
    exact w64 (by omega) (by omega)
   rw[o,oB,P0 (by simp only[List.length_singleton];omega),oB,G,n,oB,c]
end Go.Proofs.YtkjhghloldgioaaGreat
