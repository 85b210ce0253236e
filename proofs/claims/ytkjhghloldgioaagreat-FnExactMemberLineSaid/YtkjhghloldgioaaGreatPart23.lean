/- Texts of the claim, joined: Plain laws: words and presentations, as the spec and the cod and others. -/
import Derived.Test.YtkjhghloldgioaaGreatPart18
import Derived.Test.YtkjhghloldgioaaGreatH33
import Derived.Test.YtkjhghloldgioaaGreatH36
import Derived.Test.YtkjhghloldgioaaGreatPart17
namespace Go.Proofs.YtkjhghloldgioaaGreat
open Go.H
set_option linter.unusedVariables false
set_option linter.unusedSimpArgs false
theorem j1{n:Nat}(h:n<=140737488355328):n<P0:=by unfold P0;omega
theorem B0{p:Prop}[Decidable p](h:p):grd p=some ():=by unfold grd;rw[if_pos h]
theorem L1{a:Type}(o:Option a)(d:a):chk true o d=o:=rfl
theorem J2{a:Type}(o:Option a)(d:a):chk false o d=some d:=rfl
theorem U1{a:Type}{xs:List a}{k:Nat}{x:a}(h:xs[k]?=some x):gi xs (k:Int)=some x:=by rw[n0a];exact h
theorem p0a{a:Type}{xs:List a}{x:a}(h:xs[0]?=some x):gi xs 0=some x:=U1 (k:=0) h
theorem U07{x:Int}(h:J0 x)(a:x ≠ -9223372036854775808):IntKind.i64.wrap (0-x) = -x:=by rw[w64 (by have:=h.1;have:=h.2;omega) (by have:=h.1;have:=h.2;omega)];omega
theorem j09{n:Nat}(h:0<n)(a:n<=9223372036854775807):IntKind.i64.wrap ((n:Int)-1)=((n-1:Nat):Int):=by rw[w64 (by omega) (by omega)];omega
theorem a5{a:Type}{xs:List a}{k:Nat}(h:k<xs.length):xs[k]?=some xs[k]:=List.getElem?_eq_getElem h
def inR(b a x:Int):Bool:=decide (b<=x)&&decide (x<=a)
def g03(b a:Int)(w:List Int)(i:Nat):Bool :=
 match w[i]? with
 |none=>true
 |some x=>x == 0 || !inR b a x || (decide (0<i)&&match w[i-1]? with
  |none=>true
  |some y=>x == IntKind.i64.wrap (0-y))
def P01(b a:Int)(w:List Int):Nat->Nat->Bool
 |0,_=>true
 |d+1,k => !g03 b a w k&&P01 b a w d (k+1)
def Q2(r:Int)(w:List Int):Bool:=inR 1 3 r&&decide (w.length<=24)&&P01 (-r) r w w.length 0
theorem U03(a b c:Int):Y4 a b c=some (inR b c a):=by
 unfold Y4 inR
 by_cases h:b<=a<;>simp[h]
theorem X04(a b c:Int):W7 a b c=some (inR b c a):=U03 a b c
theorem Y04(r:Int)(w:List Int)(n:w.length<=140737488355328):∀(d k fuel:Nat),k+d=w.length->d<fuel ->
  G7 w r fuel (k:Int)=some (bif P01 (IntKind.i64.wrap (0-r)) r w d k then .inr ()else .inl false)
 |d,k,0,j,hf=>by omega
 |0,k,fuel+1,j,hf=>by
  rw[G7.eq_2,if_neg (by simp;omega)]
  simp[P01]
 |d+1,k,fuel+1,j,hf=>by
  have l:k<w.length:=by omega
  have a:=a5 l
  generalize w[k]=x at a
  have next:=Y04 r w n d (k+1) fuel (by omega) (by omega)
  rw[G7.eq_2,if_pos (by simp;omega)]
  generalize IntKind.i64.wrap (0-r)=lo at next ⊢
  simp only[U1 a,oB,U03,V1 l (by omega:w.length<=9223372036854775807),next]
  have m:g03 lo r w k=(x == 0 || !inR lo r x || (decide (0<k)&&match w[k-1]? with
   |none=>true
   |some y=>x == IntKind.i64.wrap (0-y))):=by unfold g03;rw[a]
  simp only[P01,m]
  by_cases h0:x=0
  ·simp[h0,chk]
  have f:decide (x=0)=false:=by simpa using h0
  have b:(x == 0)=false:=by simpa using h0
  cases hin:inR lo r x with
  |false=>simp[f,b,hin,chk]
  |true =>
   by_cases hk0:k=0
   ·have h:decide ((k:Int)>0)=false:=by simp;omega
    have e:decide (0<k)=false:=by simp;omega
    simp only[f,b,hin,h,e,L1,J2,Bool.not_true,Bool.not_false,Bool.and_true,Bool.false_and,Bool.or_self,Bool.true_and,cond_true,cond_false,oB,Bool.or_false,Bool.and_false,Bool.false_eq_true,if_false,cond_true,cond_false]
   ·have i:=a5 (show k-1<w.length by omega)
    generalize w[k-1]=y at i
    have o:IntKind.i64.wrap ((k:Int)-1)=((k-1:Nat):Int):=j09 (by omega) (by omega)
    have h:decide ((k:Int)>0)=true:=by simp;omega
    have e:decide (0<k)=true:=by simp;omega
    simp only[f,b,hin,h,e,o,i,U1 a,U1 i,L1,J2,Bool.not_true,Bool.not_false,Bool.and_true,Bool.false_and,Bool.or_self,Bool.true_and,cond_true,cond_false,oB,Bool.or_false,Bool.and_false,Bool.false_or]
    by_cases hxy:x=IntKind.i64.wrap (0-y)
    ·have g:decide (x=IntKind.i64.wrap (0-y))=true:=by simpa using hxy
     have c:(x == IntKind.i64.wrap (0-y))=true:=by simpa using hxy
     simp only[g,c,if_true,Bool.not_true,Bool.false_and,Bool.false_eq_true,if_false,cond_true,cond_false]
    ·have g:decide (x=IntKind.i64.wrap (0-y))=false:=by simpa using hxy
     have c:(x == IntKind.i64.wrap (0-y))=false:=by simpa using hxy
     simp only[g,c,Bool.false_eq_true,if_false,Bool.not_false,Bool.true_and]
theorem r03(r:Int)(w:List Int)(a:w.length<=140737488355328):N8 r w=some (Q2 r w):=by
 unfold N8
 have h:=Y04 r w a w.length 0 P0 (by omega) (j1 a)
 rw[show((0:Nat):Int)=0 from rfl]at h
 rw[h,U03]
 unfold Q2
 by_cases hr:inR 1 3 r=true
 ·have:IntKind.i64.wrap (0-r) = -r:=by
   simp only[inR,Bool.and_eq_true,decide_eq_true_eq]at hr
   rw[w64 (by omega) (by omega)];omega
  rw[this,hr]
  cases P01 (-r) r w w.length 0<;>simp[V7]<;>omega
 ·simp only[Bool.not_eq_true]at hr
  rw[hr]
  cases P01 (IntKind.i64.wrap (0-r)) r w w.length 0<;>simp[V7]
theorem o0j(r x:Int)(b:inR 1 3 r=true):x00 r x=some (!(x == 0)&&inR (-r) r x):=by
 have a:IntKind.i64.wrap (0-r) = -r:=by
  simp only[inR,Bool.and_eq_true,decide_eq_true_eq]at b
  rw[w64 (by omega) (by omega)];omega
 unfold x00
 rw[a,X04]
 by_cases h0:x=0
 ·simp[h0,chk]
 ·simp[h0,chk]
theorem F05(y x:Int):z7 y x=some (!(y == 0) && !(y == -9223372036854775808)&&(x == IntKind.i64.wrap (0-y))):=by
 unfold z7
 by_cases h0:y=0
 ·simp[h0]
 ·by_cases h1:y = -9223372036854775808
  ·simp[h1]
  ·simp only[h0,h1,decide_false,Bool.not_false,cond_true,Option.some.injEq]
   have a:(y == 0)=false:=by simpa using h0
   have b:(y == -9223372036854775808)=false:=by simpa using h1
   rw[a,b]
   rfl
theorem Z04(r:Int)(w:List Int)(hr:inR 1 3 r=true)(hl:w.length<=140737488355328):∀(d k fuel:Nat),k+d=w.length->d<fuel ->
  (∀ i,i<k->g03 (-r) r w i=false) ->
  H7 w r fuel (k:Int)=some (bif P01 (-r) r w d k then .inr ()else .inl false)
 |d,k,0,hk,hf,hp=>by omega
 |0,k,fuel+1,hk,hf,hp=>by
  rw[H7.eq_2,if_neg (by simp;omega)]
  simp[P01]
 |d+1,k,fuel+1,hk,hf,hp=>by
  have hkl:k<w.length:=by omega
  have hx:=a5 hkl
  generalize w[k]=x at hx
  have next:=λ(hb:g03 (-r) r w k=false)=>Z04 r w hr hl d (k+1) fuel (by omega) (by omega) (λi hi=>by
   by_cases e:i=k
   ·subst e;exact hb
   ·exact hp i (by omega))
  rw[H7.eq_2,if_pos (by simp;omega)]
  rw[U1 hx,oB,o0j r x hr,V1 hkl (by omega:w.length<=9223372036854775807)]
  have hbad:g03 (-r) r w k=(x == 0 || !inR (-r) r x || (decide (0<k)&&match w[k-1]? with
   |none=>true
   |some y=>x == IntKind.i64.wrap (0-y))):=by unfold g03;rw[hx]
  simp only[P01]
  by_cases h0:x=0
  ·simp[h0,chk,hbad]
  have b0:(x == 0)=false:=by simpa using h0
  cases hin:inR (-r) r x with
  |false=>simp[b0,hin,chk,hbad]
  |true =>
   by_cases hk0:k=0
   ·have hb:g03 (-r) r w k=false:=by rw[hbad];simp[h0,hin,hk0]
    rw[next hb,hb]
    have ek:decide ((k:Int)>0)=false:=by simp;omega
    simp only[b0,ek,L1,J2,Bool.not_true,Bool.not_false,Bool.and_true,Bool.false_and,Bool.or_self,Bool.true_and,cond_true,cond_false,oB,Bool.or_false,Bool.and_false,Bool.false_eq_true,if_false,cond_true,cond_false]
   ·have hy:=a5 (show k-1<w.length by omega)
    have hpy:=hp (k-1) (by omega)
    generalize w[k-1]=y at hy
    have hy0:y≠0/\y ≠ -9223372036854775808:=by
     unfold g03 at hpy
     rw[hy]at hpy
     simp only[Bool.or_eq_false_iff,Bool.not_eq_false']at hpy
     have h1:=hpy.1.2
     simp only[inR,Bool.and_eq_true,decide_eq_true_eq]at h1 hr
     exact⟨by simpa using hpy.1.1,by omega⟩
    have b2:(y == 0)=false:=by simpa using hy0.1
    have b3:(y == -9223372036854775808)=false:=by simpa using hy0.2
    have hpr:IntKind.i64.wrap ((k:Int)-1)=((k-1:Nat):Int):=j09 (by omega) (by omega)
    have ek:decide ((k:Int)>0)=true:=by simp;omega
    have bk:decide (0<k)=true:=by simp;omega
    simp only[b0,ek,hpr,U1 hy,F05,b2,b3,L1,J2,Bool.not_true,Bool.not_false,Bool.and_true,Bool.false_and,Bool.or_self,Bool.true_and,cond_true,cond_false,oB,Bool.or_false,Bool.and_false,Bool.false_or]
    cases b1:(x == IntKind.i64.wrap (0-y))with
    |true =>
     have hb:g03 (-r) r w k=true:=by rw[hbad,hy,bk,b0,hin];exact b1
     simp only[hb,if_true,Bool.not_true,Bool.false_and,Bool.false_eq_true,if_false,cond_true,cond_false]
    |false =>
     have hb:g03 (-r) r w k=false:=by rw[hbad,hy,bk,b0,hin];exact b1
     simp only[hb,next hb,Bool.false_eq_true,if_false,Bool.not_false,Bool.true_and]
theorem s03(r:Int)(w:List Int)(b:w.length<=140737488355328):O8 r w=some (Q2 r w):=by
 unfold O8
 rw[X04]
 unfold Q2
 cases hr:inR 1 3 r with
 |false=>simp
 |true =>
  by_cases h24:w.length<=24
  ·have h:=Z04 r w hr b w.length 0 P0 (by omega) (j1 b) (λi c=>by omega)
   rw[show((0:Nat):Int)=0 from rfl]at h
   have a : ¬ (24:Int)<(w.length:Int):=by omega
   simp only[oB,h,a]
   cases P01 (-r) r w w.length 0<;>simp[V7,h24]
  ·have a:(24:Int)<(w.length:Int):=by omega
   simp[h24,a]
def tot:List (List Int)->Nat
 | []=>0
 |w::r=>w.length+tot r
theorem J1{a:Type}{xs:List a}{k:Nat}{x:a}(h:xs[k]?=some x):xs.drop k=x::xs.drop (k+1):=by
 obtain⟨b,rfl⟩:=List.getElem?_eq_some_iff.1 h
 exact List.drop_eq_getElem_cons b
theorem H1{a:Type}{xs:List a}{k:Nat}(h:k=xs.length):xs.drop k = []:=by rw[h];exact List.drop_length
theorem n07{b a:Int}{w:List Int}:∀ {d k:Nat},P01 b a w d k=true->∀ i,k<=i->i<k+d->g03 b a w i=false
 |0,k,h,i,c,f=>by omega
 |d+1,k,h,i,c,f=>by
  simp only[P01,Bool.and_eq_true,Bool.not_eq_true']at h
  by_cases e:i=k
  ·subst e;exact h.1
  ·exact n07 h.2 i (by omega) (by omega)
theorem E0h{r:Int}{w:List Int}(h:Q2 r w=true){i:Nat}{x:Int}(d:w[i]?=some x):(1<=r/\r<=3)/\w.length<=24/\x≠0 /\ -r<=x/\x<=r:=by
 simp only[Q2,Bool.and_eq_true,decide_eq_true_eq]at h
 have c:=h.1.1
 simp only[inR,Bool.and_eq_true,decide_eq_true_eq]at c
 have a:=n07 h.2 i (Nat.zero_le _) (by have:=(List.getElem?_eq_some_iff.1 d).1;omega)
 unfold g03 at a
 rw[d]at a
 simp only[Bool.or_eq_false_iff,Bool.not_eq_false']at a
 have b:=a.1.2
 simp only[inR,Bool.and_eq_true,decide_eq_true_eq]at b
 exact⟨c,h.1.2,by simpa using a.1.1,b⟩
def D04(r a:Int)(e:D0):Bool:=inR 0 a e.1&&inR 0 a e.2.2&&inR 1 r e.2.1
def N0c(e f:D0):Int:=N0 e f
theorem O0c(e f:D0):N0c e f=if A8 e.1 f.1≠0 then A8 e.1 f.1 else if A8 e.2.1 f.2.1≠0 then A8 e.2.1 f.2.1 else A8 e.2.2 f.2.2:=rfl
theorem G05(a b:Int):(a<b/\A8 a b = -1)∨(a>b/\A8 a b=1)∨(a=b/\A8 a b=0):=by
 unfold A8
 split
 ·omega
 ·split<;>omega
theorem O0b(e f:D0):J0 (N0c e f):=by
 rw[O0c]
 split
 ·exact b0g _ _
 ·split<;>exact b0g _ _
theorem p0n(g:j0)(e:D0):y01 g e=some (D04 g.1 (IntKind.i64.wrap (g.2.1-1)) e):=by
 obtain⟨r,n,es⟩:=g
 obtain⟨a,l,b⟩:=e
 unfold y01 D04
 simp only[U03,oB]
 cases inR 0 (IntKind.i64.wrap (n-1)) a with
 |false=>rfl
 |true =>
  cases inR 0 (IntKind.i64.wrap (n-1)) b with
  |false=>rfl
  |true=>simp[chk]
theorem w0b(g:j0)(e:D0):i8 g e=some (D04 g.1 (IntKind.i64.wrap (g.2.1-1)) e):=by
 obtain⟨r,n,es⟩:=g
 obtain⟨a,l,b⟩:=e
 unfold i8 W5 D04
 simp only[X04,oB]
 cases inR 0 (IntKind.i64.wrap (n-1)) a with
 |false=>rfl
 |true =>
  cases inR 0 (IntKind.i64.wrap (n-1)) b with
  |false=>rfl
  |true=>simp[chk]
theorem Q01(e f:D0):D7 e f=some (N0c e f):=by
 obtain⟨a,l,b⟩:=e
 obtain⟨g,j,i⟩:=f
 unfold D7
 rw[show P0=(P0-4)+1+1+1+1 from rfl]
 have s:IntKind.i64.wrap (0+1)=1:=by decide
 have t:IntKind.i64.wrap (1+1)=2:=by decide
 have u:IntKind.i64.wrap (2+1)=3:=by decide
 have o:∀ x y z:Int,gi [x,y,z] 0=some x:=λ_ _ _=>rfl
 have p:∀ x y z:Int,gi [x,y,z] 1=some y:=λ_ _ _=>rfl
 have q:∀ x y z:Int,gi [x,y,z] 2=some z:=λ_ _ _=>rfl
 have d0:decide ((0:Int)<3)=true:=rfl
 have k:decide ((1:Int)<3)=true:=rfl
 have m:decide ((2:Int)<3)=true:=rfl
 have n:decide ((3:Int)<3)=false:=rfl
 simp only[G6.eq_2,s,t,u,o,p,q,d0,k,m,n,if_true,oB,Bool.false_eq_true,if_false]
 rw[O0c]
 simp only
 rcases G05 a g with⟨h,e⟩|⟨h,e⟩|⟨h,e⟩
 ·simp[e,h,V7]
 ·have : ¬ a<g:=by omega
  simp[e,h,this,V7]
 ·subst h
  rcases G05 l j with⟨h,c⟩|⟨h,c⟩|⟨h,c⟩
  ·simp[e,c,h,V7]
  ·have : ¬ l<j:=by omega
   simp[e,c,h,this,V7]
  ·subst h
   rcases G05 b i with⟨h,d⟩|⟨h,d⟩|⟨h,d⟩
   ·simp[e,c,d,h,V7]
   ·have : ¬ b<i:=by omega
    simp[e,c,d,h,this,V7]
   ·subst h
    simp[e,c,d,V7]
theorem O0l(a b:Int):N6 a b=some (A8 a b):=by
 unfold N6 A8
 by_cases h:a<b
 ·simp[h]
 ·by_cases h2:a>b<;>simp[h,h2]
theorem V03(e f:D0):H8 e f=some (N0c e f):=by
 obtain⟨a,l,b⟩:=e
 obtain⟨c,d,g⟩:=f
 rw[O0c]
 unfold H8
 simp only[O0l,oB,B0 (b0g _ _)]
 by_cases h1:A8 a c=0
 ·by_cases h2:A8 l d=0
  ·simp[h1,h2]
  ·simp[h1,h2]
 ·simp[h1]
def q0n(r a:Int)(es:List D0)(k:Nat):Bool:=match es[k]? with
 |none=>true
 |some e => !D04 r a e || (decide (0<k)&&match es[k-1]? with
  |none=>true
  |some f=>decide (N0c f e ≥ 0))
def okE(r a:Int)(es:List D0):Nat->Nat->Bool
 |0,_=>true
 |d+1,k => !q0n r a es k&&okE r a es d (k+1)
def V0(g:j0):Bool:=okE g.1 (IntKind.i64.wrap (g.2.1-1)) g.2.2 g.2.2.length 0&&inR 1 3 g.1&&inR 1 40 g.2.1&&decide (g.2.2.length<=120)
theorem k09{r a:Int}{es:List D0}{k:Nat}{e:D0}(b:es[k]?=some e):q0n r a es k=(!D04 r a e || (decide (0<k)&&match es[k-1]? with
  |none=>true
  |some f=>decide (N0c f e ≥ 0))):=by unfold q0n;rw[b]
theorem p04(r n:Int)(es:List D0)(q:es.length<=140737488355328):∀(d k fuel:Nat),k+d=es.length->d<fuel ->
  Q6 es r n fuel (k:Int)=some (bif okE r (IntKind.i64.wrap (n-1)) es d k then .inr ()else .inl false)
 |d,k,0,l,hf=>by omega
 |0,k,fuel+1,l,hf=>by
  rw[Q6.eq_2,if_neg (by simp;omega)]
  simp[okE]
 |d+1,k,fuel+1,l,hf=>by
  have m:k<es.length:=by omega
  have a:=a5 m
  generalize es[k]=e at a
  obtain⟨h,i,j⟩:=e
  have next:=p04 r n es q d (k+1) fuel (by omega) (by omega)
  rw[Q6.eq_2,if_pos (by simp;omega),U1 a,oB]
  simp only[p0n,oB,V1 m (by omega:es.length<=9223372036854775807),next,okE,k09 a]
  generalize IntKind.i64.wrap (n-1)=hi
  cases hin:D04 r hi (h,i,j)with
  |false=>simp[chk,grd,J0]
  |true =>
   by_cases hk0:k=0
   ·have c:decide ((k:Int)>0)=false:=by simp;omega
    have b:decide (0<k)=false:=by simp;omega
    simp only[c,b,J2,Bool.not_true,Bool.not_false,Bool.and_true,Bool.false_and,Bool.or_self,Bool.true_and,cond_true,cond_false,oB,Bool.or_false,Bool.false_eq_true,if_false,B0 (show J0 0 by decide)]
   ·have g:=a5 (show k-1<es.length by omega)
    generalize es[k-1]=f at g
    obtain⟨o,p,f2⟩:=f
    have s:IntKind.i64.wrap ((k:Int)-1)=((k-1:Nat):Int):=j09 (by omega) (by omega)
    have c:decide ((k:Int)>0)=true:=by simp;omega
    have b:decide (0<k)=true:=by simp;omega
    simp only[c,b,s,g,U1 a,U1 g,L1,Bool.not_true,Bool.not_false,Bool.and_true,Bool.false_and,Bool.or_self,Bool.true_and,cond_true,cond_false,oB,Bool.or_false,Bool.false_or,Q01,B0 (O0b _ _)]
    cases decide (N0c (o,p,f2) (h,i,j) ≥ 0)<;>rfl
theorem p7(g:j0)(a:g.2.2.length<=140737488355328):Z3 g=some (V0 g):=by
 obtain⟨r,n,es⟩:=g
 unfold Z3 V0
 simp only at a ⊢
 have h:=p04 r n es a es.length 0 P0 (by omega) (j1 a)
 rw[show((0:Nat):Int)=0 from rfl]at h
 rw[h,oB]
 cases okE r (IntKind.i64.wrap (n-1)) es es.length 0 with
 |false=>simp[V7]
 |true =>
  rw[cond_true,S0,U03,U03,oB]
  cases inR 1 3 r with
  |false=>simp[chk]
  |true =>
   simp only[L1,oB,cond_true,Bool.true_and]
   cases inR 1 40 n with
   |false=>simp
   |true=>simp;omega
theorem q04(r n:Int)(es:List D0)(q:es.length<=140737488355328):∀(d k fuel:Nat),k+d=es.length->d<fuel ->
  R6 es r n fuel (k:Int)=some (bif okE r (IntKind.i64.wrap (n-1)) es d k then .inr ()else .inl false)
 |d,k,0,l,hf=>by omega
 |0,k,fuel+1,l,hf=>by
  rw[R6.eq_2,if_neg (by simp;omega)]
  simp[okE]
 |d+1,k,fuel+1,l,hf=>by
  have m:k<es.length:=by omega
  have a:=a5 m
  generalize es[k]=e at a
  obtain⟨h,i,j⟩:=e
  have next:=q04 r n es q d (k+1) fuel (by omega) (by omega)
  rw[R6.eq_2,if_pos (by simp;omega),U1 a,oB]
  simp only[w0b,oB,V1 m (by omega:es.length<=9223372036854775807),next,okE,k09 a]
  generalize IntKind.i64.wrap (n-1)=hi
  cases hin:D04 r hi (h,i,j)with
  |false=>simp[chk,grd,J0]
  |true =>
   by_cases hk0:k=0
   ·have c:decide ((k:Int)>0)=false:=by simp;omega
    have b:decide (0<k)=false:=by simp;omega
    simp only[c,b,J2,Bool.not_true,Bool.not_false,Bool.and_true,Bool.false_and,Bool.or_self,Bool.true_and,cond_true,cond_false,oB,Bool.or_false,Bool.false_eq_true,if_false,B0 (show J0 0 by decide)]
   ·have g:=a5 (show k-1<es.length by omega)
    generalize es[k-1]=f at g
    obtain⟨o,p,f2⟩:=f
    have s:IntKind.i64.wrap ((k:Int)-1)=((k-1:Nat):Int):=j09 (by omega) (by omega)
    have c:decide ((k:Int)>0)=true:=by simp;omega
    have b:decide (0<k)=true:=by simp;omega
    simp only[c,b,s,g,U1 a,U1 g,L1,Bool.not_true,Bool.not_false,Bool.and_true,Bool.false_and,Bool.or_self,Bool.true_and,cond_true,cond_false,oB,Bool.or_false,Bool.false_or,V03,B0 (O0b _ _)]
    cases decide (N0c (o,p,f2) (h,i,j) ≥ 0)<;>rfl
theorem K9(g:j0)(c:g.2.2.length<=140737488355328):K6 g=some (V0 g):=by
 obtain⟨r,n,es⟩:=g
 unfold K6 V0
 simp only at c ⊢
 rw[X04,X04,oB]
 cases hr:inR 1 3 r with
 |false=>simp[chk]
 |true =>
  simp only[Bool.not_true,Bool.not_false,L1,oB,cond_false]
  cases hn:inR 1 40 n with
  |false=>simp
  |true =>
   by_cases h120:es.length<=120
   ·have h:=q04 r n es c es.length 0 P0 (by omega) (j1 c)
    rw[show((0:Nat):Int)=0 from rfl]at h
    have a:decide (((es.length:Nat):Int)>120)=false:=by simp;omega
    have b:decide (es.length<=120)=true:=by simpa using h120
    simp only[a,b,Bool.not_true,cond_false,Bool.false_eq_true,if_false,h,oB]
    cases okE r (IntKind.i64.wrap (n-1)) es es.length 0<;>rfl
   ·have a:decide (((es.length:Nat):Int)>120)=true:=by simp;omega
    have b:decide (es.length<=120)=false:=by simpa using h120
    simp only[a,b,Bool.not_true,cond_false,if_true,Bool.and_false]
theorem p0j{r a:Int}{es:List D0}:∀ {d k:Nat},okE r a es d k=true->∀ i,k<=i->i<k+d->q0n r a es i=false
 |0,k,h,i,b,c=>by omega
 |d+1,k,h,i,b,c=>by
  simp only[okE,Bool.and_eq_true,Bool.not_eq_true']at h
  by_cases e:i=k
  ·subst e;exact h.1
  ·exact p0j h.2 i (by omega) (by omega)
theorem F0h{n:Nat}(h:n<=9223372036854775807):n<P0:=by unfold P0;omega
def goI(x:Int):List Int->Bool×List Int
 | []=>(false,[])
 |y::l=>if x<y then(true,x::y::l)else if y=x then(true,y::l)else((goI x l).1,y::(goI x l).2)
theorem z0k(x:Int):∀ l,b9 A8 x l=bif(goI x l).1 then(goI x l).2 else(goI x l).2 ++ [x]
 | []=>rfl
 |y::l=>by
  have a:=z0k x l
  unfold b9 goI
  rcases G05 x y with⟨h,e⟩|⟨h,e⟩|⟨h,e⟩
  ·rw[e,if_pos (by omega),if_pos h];rfl
  ·rw[e,if_neg (by omega),if_neg (by omega),if_neg (by omega),if_neg (by omega),a]
   cases (goI x l).1<;>rfl
  ·rw[e,if_neg (by omega),if_pos rfl,if_neg (by omega),if_pos h.symm];rfl
theorem P0c(l:List Int)(w:Int)(h:l.length<=1099511627776):∀(d k fuel:Nat) (acc:List Int),k+d=l.length->d<fuel->acc.length<=k+1 ->
  c4 l w fuel true (k:Int) acc=some (true,acc++l.drop k)
 |d,k,0,acc,e,hf,b=>by omega
 |0,k,fuel+1,acc,e,hf,b=>by
  rw[c4.eq_2,if_neg (by simp;omega),H1 (by omega),List.append_nil]
 |d+1,k,fuel+1,acc,e,hf,b=>by
  have f:k<l.length:=by omega
  have a:=a5 f
  generalize l[k]=x at a
  have i:=P0c l w h d (k+1) fuel (acc ++ [x]) (by omega) (by omega) (by simp;omega)
  rw[c4.eq_2,if_pos (by simp;omega),U1 a,oB]
  have g:∀ c:Bool,(bif c then(!true)else false)=false:=λc=>by cases c<;>rfl
  simp only[g,Bool.false_eq_true,if_false,oB,V1 f (show l.length<=9223372036854775807 by omega),i,B0 (show(acc.length + [x].length)*8<=140737488355328 by simp;omega)]
  rw[J1 a]
  split<;>simp
theorem N0e(l:List Int)(w:Int)(b:l.length<=1099511627776):∀(d k fuel:Nat) (acc:List Int),k+d=l.length->d<fuel->acc.length=k ->
  c4 l w fuel false (k:Int) acc=some ((goI w (l.drop k)).1,acc++(goI w (l.drop k)).2)
 |d,k,0,acc,g,hf,f=>by omega
 |0,k,fuel+1,acc,g,hf,f=>by
  rw[c4.eq_2,if_neg (by simp;omega),H1 (by omega)]
  simp[goI]
 |d+1,k,fuel+1,acc,g,hf,f=>by
  have a:k<l.length:=by omega
  have e:=a5 a
  generalize l[k]=x at e
  have j:=N0e l w b d (k+1) fuel (acc ++ [x]) (by omega) (by omega) (by simp;omega)
  have m:=P0c l w b d (k+1) fuel (acc ++ [x]) (by omega) (by omega) (by simp;omega)
  have n:=P0c l w b d (k+1) fuel (acc ++ [w] ++ [x]) (by omega) (by omega) (by simp;omega)
  rw[c4.eq_2,if_pos (by simp;omega),U1 e,oB,J1 e]
  unfold goI
  have h:∀ c:Bool,(bif c then(!true)else false)=false:=λc=>by cases c<;>rfl
  have i:∀ c:Bool,(bif c then(!false)else false)=c:=λc=>by cases c<;>rfl
  by_cases h0:x=w
  ·rw[if_pos (by simpa using h0),oB,h,if_neg (by simp),oB,B0 (by simp;omega),oB,V1 a (by omega),m,if_neg (by omega),if_pos h0]
   simp
  ·rw[if_neg (by simpa using h0),oB,i]
   by_cases h1:w<x
   ·rw[if_pos (by simpa using h1),B0 (by simp;omega),oB,oB,B0 (by simp;omega),oB,V1 a (by omega),n,if_pos h1]
    simp
   ·rw[if_neg (by simpa using h1),oB,B0 (by simp;omega),oB,V1 a (by omega),j,if_neg h1,if_neg h0]
    simp
theorem l09(l:List Int)(w:Int)(a:l.length<=1099511627776):Y7 l w=some (b9 A8 w l):=by
 unfold Y7
 have h:=N0e l w a l.length 0 P0 [] (by omega) (j1 (by omega)) rfl
 rw[show((0:Nat):Int)=0 from rfl,List.drop_zero,List.nil_append]at h
 rw[h,oB,z0k]
 have b:∀ l:List Int,(goI w l).2.length<=l.length+1:=λl=>by
  induction l with
  |nil=>simp[goI]
  |cons y l c =>
   unfold goI
   split
   ·simp
   ·split
    ·simp
    ·simp only[List.length_cons];omega
 have:=b l
 cases (goI w l).1 with
 |true=>rfl
 |false =>
  simp only[Bool.not_false,if_true,cond_false]
  rw[B0 (by simp;omega),oB]
def O0e(v x:Int)(e:D0):List Int :=
 if 0<x/\e.2.1=x/\e.1=v then [e.2.2]else if x<0/\e.2.1 = -x/\e.2.2=v then [e.1]else []
def F8(v x:Int):List D0->List Int
 | []=>[]
 |e::es=>O0e v x e++F8 v x es
theorem P0l(v x:Int)(e:D0):(O0e v x e).length<=1:=by unfold O0e;split<;>(try split)<;>simp
theorem Q0c(v x:Int):∀ es,(F8 v x es).length<=es.length
 | []=>by simp[F8]
 |e::es=>by
  have a:=P0l v x e
  have b:=Q0c v x es
  simp only[F8,List.length_append,List.length_cons]
  omega
def L5(x:Int):Prop:=J0 x/\x ≠ -9223372036854775808
theorem m09(es:List D0)(v x:Int)(f:L5 x)(t:es.length<=1099511627776):∀(d k fuel:Nat) (acc:List Int),k+d=es.length->d<fuel->acc.length<=k ->
  H4 es x v fuel (k:Int) acc=some (acc++F8 v x (es.drop k))
 |d,k,0,acc,p,hf,o=>by omega
 |0,k,fuel+1,acc,p,hf,o=>by
  rw[H4.eq_2,if_neg (by simp;omega),H1 (by omega)]
  simp[F8]
 |d+1,k,fuel+1,acc,p,hf,o=>by
  have q:k<es.length:=by omega
  have m:=a5 q
  generalize es[k]=e at m
  obtain⟨a,l,b⟩:=e
  have n:=λs h=>m09 es v x f t d (k+1) fuel s (by omega) (by omega) h
  have u:decide (x = -9223372036854775808)=false:=by simp;exact f.2
  rw[H4.eq_2,if_pos (by simp;omega),U1 m,oB,J1 m]
  simp only[F8,O0e,U07 f.1 f.2,u,Bool.not_false,V1 q (show es.length<=9223372036854775807 by omega)]
  by_cases c:0<x/\l=x/\a=v
  ·obtain⟨c,rfl,rfl⟩:=c
   rw[if_pos (by simp[c]),if_pos ⟨c,rfl,rfl⟩,B0 (by simp;omega),oB,n _ (by simp;omega)]
   simp
  ·rw[if_neg c,if_neg (by simp only[Bool.cond_eq_ite];simp;intro g i j;exact c ⟨g,i,j⟩)]
   by_cases c2:x<0/\l = -x/\b=v
   ·rw[if_pos c2,if_pos (by simp[c2.1,c2.2.1,c2.2.2]),B0 (by simp;omega),oB,n _ (by simp;omega)]
    simp
   ·rw[if_neg c2,if_neg (by simp only[Bool.cond_eq_ite];simp;intro g i j;exact c2 ⟨g,i,j⟩),n _ (by omega)]
    simp
theorem a05(w:Int):∀ l:List Int,(b9 A8 w l).length<=l.length+1
 | []=>by simp[b9]
 |y::l=>by
  have:=a05 w l
  unfold b9
  split
  ·simp
  ·split
   ·simp
   ·simp only[List.length_cons];omega
theorem n09(es:List D0)(v x:Int)(m:L5 x)(s:es.length<=1099511627776):∀(d k fuel:Nat) (u:List Int),k+d=es.length->d<fuel->u.length<=k ->
  Q3 es x v fuel u (k:Int)=some (G3 A8 u (F8 v x (es.drop k)))
 |d,k,0,u,p,hf,o=>by omega
 |0,k,fuel+1,u,p,hf,o=>by
  rw[Q3.eq_2,if_neg (by simp;omega),H1 (by omega)]
  rfl
 |d+1,k,fuel+1,u,p,hf,o=>by
  have q:k<es.length:=by omega
  have j:=a5 q
  generalize es[k]=e at j
  obtain⟨a,l,b⟩:=e
  have n:=λw h=>n09 es v x m s d (k+1) fuel w (by omega) (by omega) h
  rw[Q3.eq_2,if_pos (by simp;omega),U1 j,oB,J1 j]
  simp only[F8,O0e,U07 m.1 m.2,V1 q (show es.length<=9223372036854775807 by omega)]
  by_cases c:0<x/\l=x/\a=v
  ·obtain⟨c,rfl,rfl⟩:=c
   have t:decide (l<0)=false:=by simp;omega
   have:=a05 b u
   rw[if_pos (by simp[c]),if_pos ⟨c,rfl,rfl⟩,l09 u b (by omega),oB,t,if_neg (by simp),n _ (by omega)]
   rfl
  ·rw[if_neg c,if_neg (by simp only[Bool.cond_eq_ite];simp;intro f g i;exact c ⟨f,g,i⟩)]
   by_cases c2:x<0/\l = -x/\b=v
   ·have:=a05 a u
    rw[if_pos c2,if_pos (by simp[c2.1,c2.2.1,c2.2.2]),l09 u a (by omega),oB,n _ (by omega)]
    rfl
   ·rw[if_neg c2,if_neg (by simp only[Bool.cond_eq_ite];simp;intro f g i;exact c2 ⟨f,g,i⟩),n _ (by omega)]
    rfl
def J01(g:j0)(v x:Int):List Int:=G3 A8 [] (F8 v x g.2.2)
theorem L0o(x y:Int):eqI x y=true↔x=y:=by simp[eqI]
theorem G0h(g:j0)(v x:Int)(b:L5 x)(a:g.2.2.length<=1099511627776):Q9 g v x=some (J01 g v x):=by
 obtain⟨r,n,es⟩:=g
 unfold Q9 J01
 have h:=n09 es v x b a es.length 0 P0 [] (by omega) (F0h (by simp only at a;omega)) (by simp)
 rw[show((0:Nat):Int)=0 from rfl,List.drop_zero]at h
 simp only[h,oB]
theorem H0h(g:j0)(v x:Int)(b:L5 x)(a:g.2.2.length<=1099511627776):R9 g v x=some (J01 g v x):=by
 obtain⟨r,n,es⟩:=g
 unfold R9 J01
 have h:=m09 es v x b a es.length 0 P0 [] (by omega) (F0h (by simp only at a;omega)) (by simp)
 rw[show((0:Nat):Int)=0 from rfl,List.drop_zero,List.nil_append]at h
 have c:=Q0c v x es
 simp only at a
 simp only[h,oB,B0 (show(F8 v x es).length<4611686018427387904 by omega)]
 rw[←D0h x01 L0o (F8 v x es) (F8 v x es) λ_=>Iff.rfl]
 rfl
def O0(g:j0)(v x:Int):Int:=match J01 g v x with
 | [] => -1
 |a::_=>a
theorem R01(g:j0)(v x:Int)(c:L5 x)(b:g.2.2.length<=1099511627776):O3 g v x=some (O0 g v x):=by
 have h:=G0h g v x c b
 obtain⟨r,n,es⟩:=g
 unfold O3 O0
 simp only[h,oB]
 cases J01 (r,n,es) v x with
 |nil=>rfl
 |cons a l=>rfl
theorem V00(g:j0)(v x:Int)(c:L5 x)(b:g.2.2.length<=1099511627776):P3 g v x=some (O0 g v x):=by
 have h:=H0h g v x c b
 obtain⟨r,n,es⟩:=g
 unfold P3 O0
 simp only[h,oB]
 cases J01 (r,n,es) v x with
 |nil=>rfl
 |cons a l=>rfl
theorem P0e{g:j0}{v x y:Int}(h:y∈J01 g v x):y∈F8 v x g.2.2:=by
 rcases(Q7 x01 y _ []).1 h with h|h
 ·cases h
 ·exact h
theorem n3{v x y:Int}:∀ {es:List D0},y∈F8 v x es↔∃ e∈es,(0<x/\e.2.1=x/\e.1=v/\y=e.2.2)∨(x<0/\e.2.1 = -x/\e.2.2=v/\y=e.1)
 | []=>by simp[F8]
 |e::es=>by
  simp only[F8,List.mem_append,n3 (es:=es),List.mem_cons,exists_eq_or_imp]
  refine or_congr ?_ Iff.rfl
  unfold O0e
  split
  ·rename_i h
   simp only[List.mem_singleton]
   constructor
   ·rintro rfl;exact .inl ⟨h.1,h.2.1,h.2.2,rfl⟩
   ·rintro(⟨_,_,_,a⟩|⟨f,_⟩)
    ·exact a
    ·omega
  ·rename_i h
   split
   ·rename_i b
    simp only[List.mem_singleton]
    constructor
    ·rintro rfl;exact .inr ⟨b.1,b.2.1,b.2.2,rfl⟩
    ·rintro(⟨f,_⟩|⟨_,_,_,a⟩)
     ·omega
     ·exact a
   ·rename_i b
    constructor
    ·intro h;cases h
    ·rintro(⟨c,a,d,_⟩|⟨c,a,d,_⟩)
     ·exact absurd ⟨c,a,d⟩ h
     ·exact absurd ⟨c,a,d⟩ b
def inG(g:j0):Prop:=∀ e∈g.2.2,(0<=e.1/\e.1<g.2.1)/\(0<=e.2.2/\e.2.2<g.2.1)/\1<=e.2.1/\e.2.1<=g.1
theorem Y2{g:j0}(h:V0 g=true):inG g/\(1<=g.1/\g.1<=3)/\(1<=g.2.1/\g.2.1<=40)/\g.2.2.length<=120:=by
 obtain⟨r,n,es⟩:=g
 simp only[V0,inR,Bool.and_eq_true,decide_eq_true_eq]at h
 obtain⟨⟨⟨m,o⟩,p⟩,q⟩:=h
 refine⟨λe s=>?_,o,p,q⟩
 obtain⟨i,b⟩:=List.getElem?_of_mem s
 have a:=p0j m i (Nat.zero_le _) (by have:=(List.getElem?_eq_some_iff.1 b).1;simp only at this;omega)
 rw[k09 b]at a
 simp only[Bool.or_eq_false_iff,Bool.not_eq_false',D04,inR,Bool.and_eq_true,decide_eq_true_eq]at a
 obtain⟨⟨⟨⟨c,d⟩,f,j⟩,k,l⟩,_⟩:=a
 rw[w64 (by omega) (by omega)]at d j
 simp only
 exact⟨⟨c,by omega⟩,⟨f,by omega⟩,k,l⟩
theorem q02{g:j0}(d:inG g)(v x:Int):O0 g v x = -1∨(0<=O0 g v x/\O0 g v x<g.2.1):=by
 unfold O0
 cases hs:J01 g v x with
 |nil=>exact .inl rfl
 |cons a l =>
  right
  have b:a∈J01 g v x:=by rw[hs];exact mS
  obtain⟨e,c,h⟩:=n3.1 (P0e b)
  have:=d e c
  rcases h with⟨_,_,_,rfl⟩|⟨_,_,_,rfl⟩
  ·exact this.2.1
  ·exact this.1
theorem M9{g:j0}(a:inG g)(b:g.2.1<=40)(v x:Int):J0 (O0 g v x):=by
 rcases q02 a v x with h|h
 ·rw[h];decide
 ·constructor<;>omega
def t03(a b:D0):Bool:=decide (a.2.1=b.2.1)&&(decide (a.1=b.1) || decide (a.2.2=b.2.2))
theorem q0a(a b:D0):t03 a b=t03 b a:=by
 unfold t03
 have h:∀ x y:Int,decide (x=y)=decide (y=x):=λx y=>decide_eq_decide.2 ⟨Eq.symm,Eq.symm⟩
 rw[h a.2.1,h a.1,h a.2.2]
def noC(a:D0):List D0->Bool
 | []=>true
 |b::l => !t03 a b&&noC a l
def V07:List D0->Bool
 | []=>true
 |a::l=>noC a l&&V07 l
theorem c0g(a:D0):∀ l,noC a l=true↔∀ b∈l,t03 a b=false
 | []=>by simp[noC]
 |b::l=>by simp[noC,c0g a l]
theorem r0a:∀ l,V07 l=true↔l.Pairwise λa b=>t03 a b=false
 | []=>by simp[V07]
 |a::l=>by simp[V07,r0a l,c0g,List.pairwise_cons]
def R0c:List D0->List D0->Bool
 |_,[]=>true
 |b,a::l=>noC a b&&R0c (b ++ [a]) l
theorem Q0e:∀(l f:List D0),R0c f l=true↔l.Pairwise (λa b=>t03 a b=false)/\∀ a∈l,∀ b∈f,t03 a b=false
 | [],f=>by simp[R0c]
 |a::l,f=>by
  simp only[R0c,Bool.and_eq_true,c0g,Q0e l,List.pairwise_cons]
  constructor
  ·rintro⟨g,h,e⟩
   refine⟨⟨λb c=>by rw[q0a];exact e b c a (by simp),h⟩,λx d b c=>?_⟩
   rcases List.mem_cons.1 d with rfl|d
   ·exact g b c
   ·exact e x d b (by simp[c])
  ·rintro⟨⟨g,h⟩,e⟩
   refine⟨λb c=>e a mS b c,h,λx d b c=>?_⟩
   rcases List.mem_append.1 c with c|c
   ·exact e x (mC _ d) b c
   ·rw[List.mem_singleton.1 c,q0a];exact g x d
theorem Q0l(l:List D0):R0c [] l=V07 l:=by
 rw[Bool.eq_iff_iff,Q0e,r0a]
 simp
def H0(g:j0):Bool:=V0 g&&V07 g.2.2
theorem h0p(a b e c d f:Int):(bif decide (b=d)then(bif decide (a=c)then true else decide (e=f))else false)=t03 (a,b,e) (c,d,f):=by
 unfold t03
 cases decide (b=d)<;>cases decide (a=c)<;>rfl
theorem o09(l:List D0)(a:D0)(n:l.length<=140737488355328):∀(d k fuel:Nat),k+d=l.length->d<fuel ->
  A6 l a.2.1 a.1 a.2.2 fuel (k:Int)=some (bif noC a (l.drop k)then .inr ()else .inl false)
 |d,k,0,g,hf=>by omega
 |0,k,fuel+1,g,hf=>by
  rw[A6.eq_2,if_neg (by simp;omega),H1 (by omega)]
  rfl
 |d+1,k,fuel+1,g,hf=>by
  have h:k<l.length:=by omega
  have b:=a5 h
  generalize l[k]=x at b
  obtain⟨c,e,f⟩:=a
  obtain⟨i,j,m⟩:=x
  rw[A6.eq_2,if_pos (by simp;omega),U1 b,oB,J1 b]
  simp only[h0p,noC]
  cases hc:t03 (c,e,f) (i,j,m)with
  |true=>rfl
  |false =>
   rw[if_neg (by simp),V1 h (by omega),o09 l (c,e,f) n d (k+1) fuel (by omega) (by omega)]
   simp
theorem S01{a:Type}{xs:List a}{k:Nat}(h:k<=xs.length):x02 xs (k:Int) (xs.length:Int)=some (xs.drop k):=by
 unfold x02
 rw[if_pos ⟨by omega,by omega,by omega⟩]
 simp
theorem p09(l:List D0)(h:l.length<=140737488355328):∀(d k fuel:Nat),k+d=l.length->d<fuel ->
  B6 l fuel (k:Int)=some (bif V07 (l.drop k)then .inr ()else .inl false)
 |d,k,0,b,hf=>by omega
 |0,k,fuel+1,b,hf=>by
  rw[B6.eq_2,if_neg (by simp;omega),H1 (by omega)]
  rfl
 |d+1,k,fuel+1,b,hf=>by
  have c:k<l.length:=by omega
  have a:=a5 c
  generalize l[k]=x at a
  have h0:=o09 (l.drop (k+1)) x (by simp;omega) (l.drop (k+1)).length 0 P0 (by omega) (j1 (by simp;omega))
  rw[show((0:Nat):Int)=0 from rfl,List.drop_zero]at h0
  obtain⟨e,f,g⟩:=x
  rw[B6.eq_2,if_pos (by simp;omega),U1 a,oB,J1 a]
  simp only[V1 c (show l.length<=9223372036854775807 by omega),S01 (show k+1<=l.length by omega),oB]
  simp only at h0
  rw[h0,oB]
  simp only[V07]
  cases noC (e,f,g) (l.drop (k+1))with
  |false=>rfl
  |true =>
   simp only[cond_true,K0l,Bool.true_and]
   exact p09 l h d (k+1) fuel (by omega) (by omega)
theorem S9(g:j0)(a:g.2.2.length<=140737488355328):T5 g=some (H0 g):=by
 have b:=K9 g a
 obtain⟨r,n,es⟩:=g
 unfold T5 H0
 simp only[b,oB]
 cases V0 (r,n,es)with
 |false=>rfl
 |true =>
  have h:=p09 es a es.length 0 P0 (by omega) (j1 a)
  rw[show((0:Nat):Int)=0 from rfl,List.drop_zero]at h
  rw[if_neg (by simp),h,oB]
  cases V07 es<;>rfl
theorem q09(l:List D0)(q:l.length<=140737488355328){i:Nat}{a:D0}(b:l[i]?=some a):∀(d k fuel:Nat),k+d=i->d<fuel ->
  t6 (i:Int) l fuel (k:Int)=some (bif noC a ((l.take i).drop k)then .inr ()else .inl false)
 |d,k,0,e,hf=>by omega
 |0,k,fuel+1,e,hf=>by
  have:=(List.getElem?_eq_some_iff.1 b).1
  rw[t6.eq_2,if_neg (by simp;omega),H1 (by simp;omega)]
  rfl
 |d+1,k,fuel+1,e,hf=>by
  have t:=(List.getElem?_eq_some_iff.1 b).1
  have f:k<l.length:=by omega
  have c:=a5 f
  have g:(l.take i)[k]?=some l[k]:=by rw[List.getElem?_take,if_pos (by omega)];exact c
  have s:=q09 l q b d (k+1) fuel (by omega) (by omega)
  generalize l[k]=x at c g
  obtain⟨h,j,m⟩:=a
  obtain⟨n,o,p⟩:=x
  rw[t6.eq_2,if_pos (by simp;omega),U1 b,oB,J1 g]
  simp only[U1 c,oB,h0p,noC]
  cases hc:t03 (h,j,m) (n,o,p)with
  |true=>rfl
  |false =>
   rw[if_neg (by simp),V1 f (by omega),s]
   simp
theorem I0h{a:Type}{xs:List a}{k:Nat}{x:a}(h:xs[k]?=some x):xs.take (k+1)=xs.take k ++ [x]:=by
 obtain⟨b,rfl⟩:=List.getElem?_eq_some_iff.1 h
 exact List.take_succ_eq_append_getElem b
theorem r09(r n:Int)(l:List D0)(f:V0 (r,n,l)=true)(b:l.length<=140737488355328):∀(d k fuel:Nat),k+d=l.length->d<fuel ->
  U4 l r n fuel (k:Int)=some (bif R0c (l.take k) (l.drop k)then .inr ()else .inl false)
 |d,k,0,c,hf=>by omega
 |0,k,fuel+1,c,hf=>by
  have e:decide ((k:Int)<(l.length:Int))=false:=by simp;omega
  rw[U4.eq_2,e,J2,oB,if_neg (by simp),H1 (by omega)]
  rfl
 |d+1,k,fuel+1,c,hf=>by
  have g:k<l.length:=by omega
  have a:=a5 g
  generalize l[k]=x at a
  have h0:=q09 l b a k 0 P0 (by omega) (j1 (by omega))
  rw[show((0:Nat):Int)=0 from rfl,List.drop_zero]at h0
  have e:decide ((k:Int)<(l.length:Int))=true:=by simp;omega
  rw[U4.eq_2,e,L1,p7 (r,n,l) b,oB,f,if_pos (show(bif true then true else false)=true from rfl),h0,oB,J1 a]
  simp only[R0c]
  cases noC x (l.take k)with
  |false=>rfl
  |true =>
   simp only[cond_true,K0l,Bool.true_and]
   rw[V1 g (by omega),←I0h a]
   exact r09 r n l f b d (k+1) fuel (by omega) (by omega)
theorem i9(g:j0)(a:g.2.2.length<=140737488355328):n5 g=some (H0 g):=by
 have b:=p7 g a
 obtain⟨r,n,es⟩:=g
 unfold n5 H0
 simp only[b,oB]
 cases hg:V0 (r,n,es)with
 |false =>
  have c:U4 es r n P0 0=some (.inr ()):=by
   rw[show P0=(P0-1)+1 from rfl,U4.eq_2]
   by_cases e:decide ((0:Int)<(es.length:Int))=true
   ·rw[e,L1,b,oB,hg,if_neg (by simp)]
   ·rw[Bool.not_eq_true]at e
    rw[e,J2,oB,if_neg (by simp)]
  rw[c]
  rfl
 |true =>
  have h:=r09 r n es hg a es.length 0 P0 (by omega) (j1 a)
  rw[show((0:Nat):Int)=0 from rfl,List.drop_zero,List.take_zero,Q0l]at h
  rw[h,oB]
  cases V07 es<;>rfl
def P1(g:j0):Int->List Int->Int×Nat
 |v,[]=>(v,0)
 |v,x::w=>if O0 g v x<0 then(v,0)else((P1 g (O0 g v x) w).1,(P1 g (O0 g v x) w).2+1)
theorem z01(g:j0):∀(w:List Int) (v:Int),(P1 g v w).2<=w.length
 | [],v=>by simp[P1]
 |x::w,v=>by
  have:=z01 g w (O0 g v x)
  unfold P1
  split
  ·simp
  ·simp only[List.length_cons];omega
theorem A01{g:j0}(a:inG g)(b:g.2.1<=40):∀(w:List Int) (v:Int),J0 v->J0 (P1 g v w).1
 | [],v,h=>h
 |x::w,v,h=>by
  unfold P1
  split
  ·exact h
  ·exact A01 a b w _ (M9 a b v x)
def M0o(q:Int×Nat)(n:Nat)(k:Nat):(Int×Int) ⊕ Int:=bif decide (q.2<n)then .inl (q.1,((k+q.2:Nat):Int))else .inr q.1
theorem l0b(r n:Int)(es:List D0)(f:inG (r,n,es))(g:n<=40)(e:es.length<=1099511627776)(w:List Int)(i:∀ x∈w,L5 x)(l:w.length<=140737488355328):∀(d k fuel:Nat) (v:Int),k+d=w.length->d<fuel ->
  C5 w r n es fuel v (k:Int)=some (M0o (P1 (r,n,es) v (w.drop k)) d k)
 |d,k,0,v,c,hf=>by omega
 |0,k,fuel+1,v,c,hf=>by
  rw[C5.eq_2,if_neg (by simp;omega),H1 (by omega)]
  rfl
 |d+1,k,fuel+1,v,c,hf=>by
  have a:k<w.length:=by omega
  have b:=a5 a
  have j:=i _ (List.getElem_mem a)
  generalize w[k]=x at b j
  rw[C5.eq_2,if_pos (by simp;omega),U1 b,oB,V00 (r,n,es) v x j e,oB,B0 (M9 f g v x),oB,J1 b]
  unfold P1
  by_cases h:O0 (r,n,es) v x<0
  ·rw[if_pos (by simpa using h),if_pos h]
   simp[M0o]
  ·rw[if_neg (by simpa using h),if_neg h,V1 a (by omega),l0b r n es f g e w i l d (k+1) fuel _ (by omega) (by omega)]
   unfold M0o
   simp only[Nat.add_lt_add_iff_right]
   congr 2
   simp only[Nat.add_assoc,Nat.add_comm 1]
theorem S0c(g:j0)(c:inG g)(d:g.2.1<=40)(b:g.2.2.length<=1099511627776)(v:Int)(w:List Int)(e:∀ x∈w,L5 x)(a:w.length<=140737488355328):C6 g v w=some ((P1 g v w).1,(((P1 g v w).2:Nat):Int)):=by
 obtain⟨r,n,es⟩:=g
 unfold C6
 have h:=l0b r n es c d b w e a w.length 0 P0 v (by omega) (j1 a)
 rw[show((0:Nat):Int)=0 from rfl,List.drop_zero]at h
 have f:=z01 (r,n,es) w v
 simp only[h,oB,M0o]
 by_cases hc:(P1 (r,n,es) v w).2<w.length
 ·simp[hc,V7]
 ·have:(P1 (r,n,es) v w).2=w.length:=by omega
  simp[this,V7]
theorem m0b(r n:Int)(es:List D0)(f:inG (r,n,es))(g:n<=40)(e:es.length<=1099511627776)(w:List Int)(i:∀ x∈w,L5 x)(l:w.length<=140737488355328):∀(d k fuel:Nat) (v:Int),k+d=w.length->d<fuel ->
  w6 w r n es fuel v (k:Int)=some (bif decide ((P1 (r,n,es) v (w.drop k)).2<d)then .inl (-1,false)else .inr (P1 (r,n,es) v (w.drop k)).1)
 |d,k,0,v,c,hf=>by omega
 |0,k,fuel+1,v,c,hf=>by
  rw[w6.eq_2,if_neg (by simp;omega),H1 (by omega)]
  rfl
 |d+1,k,fuel+1,v,c,hf=>by
  have a:k<w.length:=by omega
  have b:=a5 a
  have j:=i _ (List.getElem_mem a)
  generalize w[k]=x at b j
  rw[w6.eq_2,if_pos (by simp;omega),U1 b,oB,R01 (r,n,es) v x j e,oB,B0 (M9 f g v x),oB,J1 b]
  unfold P1
  by_cases h:O0 (r,n,es) v x<0
  ·rw[if_pos (by simpa using h),if_pos h]
   simp
  ·rw[if_neg (by simpa using h),if_neg h,V1 a (by omega),m0b r n es f g e w i l d (k+1) fuel _ (by omega) (by omega)]
   simp only[Nat.add_lt_add_iff_right]
theorem d0g(g:j0)(hf:H0 g=true)(v:Int)(j:0<=v/\v<g.2.1)(w:List Int)(k:∀ x∈w,L5 x)(a:w.length<=140737488355328):
  I7 g v w=some (bif decide ((P1 g v w).2<w.length)then(-1,false)else((P1 g v w).1,true)):=by
 have f:V0 g=true:=by unfold H0 at hf;simp only[Bool.and_eq_true]at hf;exact hf.1
 obtain⟨e,_,b,d⟩:=Y2 f
 have c:=i9 g (by omega)
 obtain⟨r,n,es⟩:=g
 simp only at j b d
 unfold I7
 have h:=m0b r n es e b.2 (by omega) w k a w.length 0 P0 v (by omega) (j1 a)
 rw[show((0:Nat):Int)=0 from rfl,List.drop_zero]at h
 have i:inR 0 (n-1) v=true:=by simp only[inR,Bool.and_eq_true,decide_eq_true_eq];omega
 simp only[c,hf,oB,Bool.not_true,Bool.not_false,L1,U03,w64 (show -9223372036854775808<=n-1 by omega) (show n-1<=9223372036854775807 by omega),i,cond_false,Bool.false_eq_true,if_false,h]
 cases decide ((P1 (r,n,es) v w).2<w.length)<;>rfl
theorem W0{g:j0}(h:H0 g=true):inG g/\(1<=g.1/\g.1<=3)/\(1<=g.2.1/\g.2.1<=40)/\g.2.2.length<=120:=by
 unfold H0 at h
 simp only[Bool.and_eq_true]at h
 exact Y2 h.1
def R0l(v:Int)(e:D0):Nat:=(if e.1=v then 1 else 0)+(if e.2.2=v then 1 else 0)
def B01(v:Int):List D0->Nat
 | []=>0
 |e::r=>R0l v e+B01 v r
theorem N0o(v:Int)(e:D0):R0l v e<=2:=by unfold R0l;split<;>split<;>omega
theorem e0g(v:Int):∀ l,B01 v l<=2*l.length
 | []=>by simp[B01]
 |e::r=>by have:=N0o v e;have:=e0g v r;simp only[B01,List.length_cons];omega
theorem T0c(es:List D0)(v:Int)(o:es.length<=1099511627776):∀(d k fuel acc:Nat),k+d=es.length->d<fuel->acc<=2*k ->
  Z2 es v fuel (acc:Int) (k:Int)=some ((acc+B01 v (es.drop k):Nat):Int)
 |d,k,0,acc,j,hf,i=>by omega
 |0,k,fuel+1,acc,j,hf,i=>by
  rw[Z2.eq_2,if_neg (by simp;omega),H1 (by omega)];rfl
 |d+1,k,fuel+1,acc,j,hf,i=>by
  have m:k<es.length:=by omega
  have f:=a5 m
  generalize es[k]=e at f
  obtain⟨a,l,b⟩:=e
  have c:=λn h=>T0c es v o d (k+1) fuel n (by omega) (by omega) h
  have g:IntKind.i64.wrap ((acc:Int)+1)=((acc+1:Nat):Int):=by rw[w64 (by omega) (by omega)];rfl
  have p:IntKind.i64.wrap (((acc+1:Nat):Int)+1)=((acc+2:Nat):Int):=by rw[w64 (by omega) (by omega)];rfl
  rw[Z2.eq_2,if_pos (by simp;omega),U1 f,J1 f]
  simp only[oB,B01,R0l,V1 m (show es.length<=9223372036854775807 by omega)]
  by_cases c1:a=v
  ·rw[if_pos (by simpa using c1),if_pos c1]
   by_cases c2:b=v
   ·rw[if_pos (by simpa using c2),if_pos c2,g,p,c _ (by omega)];congr 2;omega
   ·rw[if_neg (by simpa using c2),if_neg c2,g,c _ (by omega)];congr 2;omega
  ·rw[if_neg (by simpa using c1),if_neg c1]
   by_cases c2:b=v
   ·rw[if_pos (by simpa using c2),if_pos c2,g,c _ (by omega)];congr 2;omega
   ·rw[if_neg (by simpa using c2),if_neg c2,c _ (by omega)];congr 2;omega
theorem U0c(es:List D0)(v:Int):∀(fuel:Nat) (x y:Int),W4 es v fuel x y=Z2 es v fuel x y
 |0,x,y=>rfl
 |fuel+1,x,y=>by
  rw[W4.eq_2,Z2.eq_2]
  simp only[U0c es v fuel]
  by_cases c:(decide (y<((es.length:Nat):Int)))=true
  ·rw[if_pos c,if_pos c]
   cases hg:gi es y with
   |none=>rfl
   |some e=>simp only[oB]
  ·rw[if_neg c,if_neg c]
theorem R0e(g:j0)(v:Int)(a:g.2.2.length<=1099511627776):r9 g v=some ((B01 v g.2.2:Nat):Int):=by
 obtain⟨r,n,es⟩:=g
 unfold r9
 have h:=T0c es v a es.length 0 P0 0 (by omega) (j1 (by simp only at a;omega)) (Nat.zero_le _)
 rw[show((0:Nat):Int)=0 from rfl,List.drop_zero,Nat.zero_add]at h
 simp only[h,oB]
theorem S0l(g:j0)(v:Int)(a:g.2.2.length<=1099511627776):y00 g v=some ((B01 v g.2.2:Nat):Int):=by
 have h:=R0e g v a
 obtain⟨r,n,es⟩:=g
 unfold y00
 unfold r9 at h
 simp only[U0c]at h ⊢
 exact h
def S0e(g h:j0):Bool:=decide (g=h)
theorem K02(x y:D0):eqE x y=true↔x=y:=by simp[eqE]
theorem n0b(a b:List D0)(l:a.length=b.length)(j:a.length<=9223372036854775807):∀(d k fuel:Nat),k+d=a.length->d<fuel ->
  F1 a b fuel (k:Int)=some (if a.drop k=b.drop k then .inr ()else .inl false)
 |d,k,0,g,hf=>by omega
 |0,k,fuel+1,g,hf=>by
  rw[F1.eq_2,if_neg (by simp;omega),H1 (by omega),H1 (by omega)];rfl
 |d+1,k,fuel+1,g,hf=>by
  have i:k<a.length:=by omega
  have m:k<b.length:=by omega
  have e:=a5 i
  have f:=a5 m
  generalize a[k]=x at e
  generalize b[k]=y at f
  have o:=n0b a b l j d (k+1) fuel (by omega) (by omega)
  rw[F1.eq_2,if_pos (by simp;omega),U1 e,U1 f,J1 e,J1 f]
  simp only[oB,V1 i j,o]
  by_cases c:x=y
  ·subst c
   rw[if_neg (by simp[eqE])]
   simp
  ·have n:eqE x y=false:=Bool.eq_false_iff.2 λh=>c ((K02 x y).1 h)
   rw[if_pos (show(!eqE x y)=true by rw[n];rfl),if_neg (by simp[c])]
theorem V0c(a b:List D0)(d:a.length<=9223372036854775807):A2 a b=some (decide (a=b)):=by
 unfold A2
 by_cases hab:a.length=b.length
 ·have h:=n0b a b hab d a.length 0 P0 (by omega) (by unfold P0;omega)
  rw[if_neg (by simp;omega),show(0:Int)=((0:Nat):Int) from rfl,h,List.drop_zero,List.drop_zero]
  by_cases c:a=b
  ·rw[if_pos c];simp[V7,c]
  ·rw[if_neg c];simp[V7,c]
 ·rw[if_pos (by simp;omega)]
  congr 1
  symm
  simp
  intro h;exact hab (by rw[h])
theorem T0l(g h:j0)(b:g.2.2.length<=9223372036854775807):g9 g h=some (S0e g h):=by
 obtain⟨r,n,es⟩:=g
 obtain⟨d,c,a⟩:=h
 unfold g9 S0e
 simp only[Prod.mk.injEq]
 by_cases c1:r=d<;>by_cases c2:n=c<;>simp[c1,c2,L1,J2,V0c es a b]
theorem T0e(a b:List D0):∀(fuel:Nat) (k:Int),J5 a b fuel k=F1 a b fuel k
 |0,k=>rfl
 |fuel+1,k=>by
  rw[J5.eq_2,F1.eq_2]
  simp only[T0e a b fuel]
theorem U0l(g h:j0)(b:g.2.2.length<=9223372036854775807):c9 g h=some (S0e g h):=by
 have a:=V0c g.2.2 h.2.2 b
 obtain⟨r,n,es⟩:=g
 obtain⟨d,c,e⟩:=h
 unfold c9 S0e
 unfold A2 at a
 simp only[T0e,Prod.mk.injEq]at a ⊢
 by_cases c1:r=d
 ·by_cases c2:n=c
  ·simp only[c1,c2,decide_true,Bool.not_true,cond_false,true_and]
   rw[←a]
  ·simp[c1,c2]
 ·simp[c1]
def goE(x:D0):List D0->Bool×List D0
 | []=>(false,[])
 |y::l=>if N0 x y<0 then(true,x::y::l)else if N0 x y=0 then(true,y::l)else((goE x l).1,y::(goE x l).2)
theorem A0k(x:D0):∀ l,b9 N0 x l=bif(goE x l).1 then(goE x l).2 else(goE x l).2 ++ [x]
 | []=>rfl
 |y::l=>by
  have a:=A0k x l
  unfold b9 goE
  by_cases c1:N0 x y<0
  ·rw[if_pos c1,if_pos c1];rfl
  ·rw[if_neg c1,if_neg c1]
   by_cases c2:N0 x y=0
   ·rw[if_pos c2,if_pos c2];rfl
   ·rw[if_neg c2,if_neg c2,a];cases (goE x l).1<;>rfl
theorem s0a(l:List D0)(w0 i j:Int)(n:l.length<=1099511627776):∀(d k fuel:Nat) (acc:List D0),k+d=l.length->d<fuel->acc.length<=k+1 ->
  d4 l w0 i j fuel true (k:Int) acc=some (true,acc++l.drop k)
 |d,k,0,acc,g,hf,f=>by omega
 |0,k,fuel+1,acc,g,hf,f=>by
  rw[d4.eq_2,if_neg (by simp;omega),H1 (by omega),List.append_nil]
 |d+1,k,fuel+1,acc,g,hf,f=>by
  have h:k<l.length:=by omega
  have c:=a5 h
  generalize l[k]=e at c
  obtain⟨a,x,b⟩:=e
  have o:=s0a l w0 i j n d (k+1) fuel (acc ++ [(a,x,b)]) (by omega) (by omega) (by simp;omega)
  rw[d4.eq_2,if_pos (by simp;omega),J1 c]
  simp only[U1 c,oB,Q01,B0 (O0b _ _),V1 h (show l.length<=9223372036854775807 by omega),Bool.not_true]
  have m:∀ b:Bool,(bif b then false else false)=false:=λb=>by cases b<;>rfl
  simp only[m,Bool.false_eq_true,if_false]
  rw[B0 (by simp;omega),oB,o]
  simp
theorem W0c(l:List D0)(w0 c f:Int)(h:l.length<=1099511627776):∀(d k fuel:Nat) (acc:List D0),k+d=l.length->d<fuel->acc.length=k ->
  d4 l w0 c f fuel false (k:Int) acc=some ((goE (w0,c,f) (l.drop k)).1,acc++(goE (w0,c,f) (l.drop k)).2)
 |d,k,0,acc,j,hf,i=>by omega
 |0,k,fuel+1,acc,j,hf,i=>by
  rw[d4.eq_2,if_neg (by simp;omega),H1 (by omega)];simp[goE]
 |d+1,k,fuel+1,acc,j,hf,i=>by
  have m:k<l.length:=by omega
  have g:=a5 m
  generalize l[k]=e at g
  obtain⟨a,x,b⟩:=e
  have n:=W0c l w0 c f h d (k+1) fuel (acc ++ [(a,x,b)]) (by omega) (by omega) (by simp;omega)
  have o:=s0a l w0 c f h d (k+1) fuel (acc ++ [(a,x,b)]) (by omega) (by omega) (by simp;omega)
  have p:=s0a l w0 c f h d (k+1) fuel ((acc ++ [(w0,c,f)]) ++ [(a,x,b)]) (by omega) (by omega) (by simp;omega)
  rw[d4.eq_2,if_pos (by simp;omega),J1 g]
  simp only[U1 g,oB,Q01,B0 (O0b _ _),V1 m (show l.length<=9223372036854775807 by omega),Bool.not_true,Bool.not_false,goE]
  show _=_
  unfold N0c
  by_cases c1:N0 (w0,c,f) (a,x,b)=0
  ·rw[if_pos (by simpa using c1),if_neg (by simp[c1]),if_neg (by omega),if_pos c1]
   rw[B0 (by simp;omega),oB,o];simp
  ·rw[if_neg (by simpa using c1)]
   by_cases c2:N0 (w0,c,f) (a,x,b)<0
   ·rw[if_pos (by simp[c2]),if_pos c2,B0 (by simp;omega),oB,B0 (by simp;omega),oB,p];simp
   ·rw[if_neg (by simp[c2]),if_neg c2,if_neg c1,B0 (by simp;omega),oB,n];simp
theorem u03(l:List D0)(e:D0)(c:l.length<=1099511627776):Y5 l e=some (b9 N0 e l):=by
 obtain⟨w0,a,b⟩:=e
 unfold Y5
 have h:=W0c l w0 a b c l.length 0 P0 [] (by omega) (j1 (by omega)) rfl
 rw[show((0:Nat):Int)=0 from rfl,List.drop_zero,List.nil_append]at h
 simp only[h,oB,A0k]
 have d:∀ l:List D0,(goE (w0,a,b) l).2.length<=l.length+1:=λl=>by
  induction l with
  |nil=>simp[goE]
  |cons y l f =>
   unfold goE
   split
   ·simp
   ·split
    ·simp
    ·simp only[List.length_cons];omega
 have:=d l
 cases (goE (w0,a,b) l).1 with
 |true=>rfl
 |false =>
  simp only[Bool.not_false,if_true,cond_false]
  rw[B0 (by simp;omega),oB]
theorem b05(e:D0):∀ l:List D0,(b9 N0 e l).length<=l.length+1
 | []=>by simp[b9]
 |y::l=>by
  have:=b05 e l
  unfold b9
  split
  ·simp
  ·split
   ·simp
   ·simp only[List.length_cons];omega
theorem z06(es:List D0)(a:es.length<=1099511627776):a8 es=some (G3 N0 [] es):=by
 unfold a8
 rw[B0 (by simp;omega),oB,B0 (by simp;omega),oB,List.nil_append]
 exact congrArg some (D0h I5 K02 es es λ_=>Iff.rfl)
theorem W00(g:j0)(a:g.2.2.length<=1099511627776):U3 g=some g:=by
 obtain⟨r,n,es⟩:=g
 unfold U3
 simp only
 rw[B0 (by simp only[List.length_nil,Nat.zero_add];simp only at a;omega)];rfl
theorem X00(g:j0)(a:g.2.2.length<=1099511627776):W3 g=some g:=by
 obtain⟨r,n,es⟩:=g
 unfold W3
 simp only
 rw[B0 (by simp only[List.length_nil,Nat.zero_add];simp only at a;omega)];rfl
inductive Rch (es:List D0) (v:Int):Int->Prop
 |base:Rch es v v
 |fwd {e:D0}:e∈es->Rch es v e.1->Rch es v e.2.2
 |bwd {e:D0}:e∈es->Rch es v e.2.2->Rch es v e.1
theorem Rch.closed{es:List D0}{v:Int}:∀ e∈es,Rch es v e.1↔Rch es v e.2.2:=λe a=>⟨.fwd a,.bwd a⟩
theorem Rch.sub{es:List D0}{v:Int}{P:Int->Prop}(c:P v)(a:∀ e∈es,P e.1↔P e.2.2):∀ {x},Rch es v x->P x
 |_,.base=>c
 |_,.fwd b h=>(a _ b).1 (Rch.sub c a h)
 |_,.bwd b h=>(a _ b).2 (Rch.sub c a h)
def S8(S:List Bool)(i:Int):Bool:=S.getD i.toNat false
def stJ(S:List Bool)(e:D0):List Bool:=(S.set e.1.toNat true).set e.2.2.toNat true
def pJ:List D0->Bool->List Bool->Bool×List Bool
 | [],c,S=>(c,S)
 |e::r,c,S=>bif S8 S e.1 == S8 S e.2.2 then pJ r c S else pJ r true (stJ S e)
def cF:List Bool->Nat
 | []=>0
 |b::r=>(bif b then 0 else 1)+cF r
theorem q0j:∀(S:List Bool) (i:Nat),cF (S.set i true)<=cF S
 | [],i=>by simp[cF]
 |b::r,0=>by simp[cF]
 |b::r,i+1=>by have:=q0j r i;simp only[List.set_cons_succ,cF];omega
theorem r0n:∀(S:List Bool) (i:Nat),S[i]?=some false->cF (S.set i true)<cF S
 | [],i,h=>by simp at h
 |b::r,0,h=>by simp at h;subst h;simp[cF]
 |b::r,i+1,h=>by have:=r0n r i (by simpa using h);simp only[List.set_cons_succ,cF];omega
theorem i0p:∀ S:List Bool,cF S<=S.length
 | []=>by simp[cF]
 |b::r=>by have:=i0p r;cases b<;>simp only[cF,List.length_cons,cond_true,cond_false]<;>omega
def inN(n:Nat)(es:List D0):Prop:=∀ e∈es,(0<=e.1/\e.1<(n:Int))/\(0<=e.2.2/\e.2.2<(n:Int))
theorem A06{S:List Bool}{i:Nat}(h:i<S.length)(x:Int):S8 (S.set i true) x=(decide (x.toNat=i) || S8 S x):=by
 unfold S8
 rw[List.getD_eq_getElem?_getD,List.getD_eq_getElem?_getD,List.getElem?_set]
 by_cases c:i=x.toNat
 ·rw[if_pos c,if_pos (by omega)];simp[c]
 ·rw[if_neg c]
  have:decide (x.toNat=i)=false:=by simp;exact λe=>c e.symm
  rw[this];rfl
theorem r0j:∀(es:List D0) (c:Bool) (S:List Bool),(pJ es c S).2.length=S.length
 | [],c,S=>rfl
 |e::r,c,S=>by
  unfold pJ
  cases S8 S e.1 == S8 S e.2.2
  ·simp only[cond_false];rw[r0j r];simp[stJ]
  ·simp only[cond_true];exact r0j r c S
theorem f0g{n:Nat}:∀(es:List D0) (c:Bool) (a:List Bool),a.length=n->inN n es->∀ x,S8 a x=true->S8 (pJ es c a).2 x=true
 | [],c,a,b,d,x,h=>h
 |e::r,c,a,b,d,x,h=>by
  have f:=d e mS
  have g:inN n r:=λe f=>d e (mC _ f)
  unfold pJ
  cases S8 a e.1 == S8 a e.2.2
  ·simp only[cond_false]
   refine f0g r _ _ (by simp[stJ,b]) g x ?_
   rw[stJ,A06 (by rw[List.length_set];omega),A06 (by omega),h];simp
  ·simp only[cond_true];exact f0g r c a b g x h
theorem X0c{n:Nat}{P:Int->Prop}:∀(es:List D0) (c:Bool) (a:List Bool),a.length=n->inN n es->(∀ e∈es,P e.1↔P e.2.2)->(∀ x,0<=x->S8 a x=true->P x)->∀ x,0<=x->S8 (pJ es c a).2 x=true->P x
 | [],c,a,g,i,f,d,x,h0,h=>d x h0 h
 |e::r,c,a,g,i,f,d,x,h0,h=>by
  have b:=i e mS
  have m:inN n r:=λe b=>i e (mC _ b)
  have j:=λe b=>f e (mC _ b)
  have k:=f e mS
  unfold pJ at h
  cases hb:S8 a e.1 == S8 a e.2.2
  ·rw[hb]at h
   refine X0c r true (stJ a e) (by simp[stJ,g]) m j (λy o h=>?_) x h0 h
   rw[stJ,A06 (by rw[List.length_set];omega),A06 (by omega)]at h
   simp only[Bool.or_eq_true,decide_eq_true_eq]at h
   have l:P e.1∨P e.2.2:=by
    cases h1:S8 a e.1
    ·cases h2:S8 a e.2.2
     ·rw[h1,h2]at hb;cases hb
     ·exact .inr (d _ b.2.1 h2)
    ·exact .inl (d _ b.1.1 h1)
   rcases h with h|h|h
   ·have:y=e.2.2:=by omega
    subst this;exact l.elim k.1 id
   ·have:y=e.1:=by omega
    subst this;exact l.elim id k.2
   ·exact d y o h
  ·rw[hb]at h
   exact X0c r c a g m j d x h0 h
theorem s0j{n:Nat}:∀(es:List D0) (c:Bool) (a:List Bool),a.length=n->inN n es->cF (pJ es c a).2<=cF a/\((pJ es c a).1=true->c=true∨cF (pJ es c a).2<cF a)/\((pJ es c a).1=false->c=false/\(pJ es c a).2=a/\∀ e∈es,S8 a e.1=S8 a e.2.2)
 | [],c,a,k,l=>⟨Nat.le_refl _,λh => .inl h,λh=>⟨h,rfl,λe b=>nomatch b⟩⟩
 |e::r,c,a,k,l=>by
  have b:=l e mS
  have s:inN n r:=λe b=>l e (mC _ b)
  unfold pJ
  cases hb:S8 a e.1 == S8 a e.2.2
  ·simp only[cond_false]
   obtain⟨m,o,d⟩:=s0j r true (stJ a e) (by simp[stJ,k]) s
   have v:cF (stJ a e)<cF a:=by
    have g:∀(x:Int),0<=x->x<n->S8 a x=false->a[x.toNat]?=some false:=λx w y j=>by
     have p:x.toNat<a.length:=by omega
     unfold S8 at j
     rw[List.getD_eq_getElem?_getD,List.getElem?_eq_getElem p]at j
     rw[List.getElem?_eq_getElem p];simpa using j
    cases g1:S8 a e.1
    ·have:=r0n a _ (g _ b.1.1 b.1.2 g1)
     have:=q0j (a.set e.1.toNat true) e.2.2.toNat
     unfold stJ;omega
    ·have f:S8 a e.2.2=false:=by
      cases f:S8 a e.2.2
      ·rfl
      ·rw[g1,f]at hb;cases hb
     have u:(a.set e.1.toNat true)[e.2.2.toNat]?=some false:=by
      rw[List.getElem?_set]
      by_cases q:e.1.toNat=e.2.2.toNat
      ·exfalso
       have:e.1=e.2.2:=by omega
       rw[this,f]at g1;cases g1
      ·rw[if_neg q];exact g _ b.2.1 b.2.2 f
     have:=r0n _ _ u
     have:=q0j a e.1.toNat
     unfold stJ;omega
   refine⟨by omega,λ_ => .inr (by omega),λh=>?_⟩
   have:=(d h).1;cases this
  ·simp only[cond_true]
   obtain⟨m,o,d⟩:=s0j r c a k s
   refine⟨m,o,λh=>⟨(d h).1,(d h).2.1,λt i=>?_⟩⟩
   rcases List.mem_cons.1 i with rfl|i
   ·simpa using hb
   ·exact(d h).2.2 t i
theorem giB{a:List Bool}{n:Nat}(f:a.length=n){x:Int}(h0:0<=x)(d:x<n):gi a x=some (S8 a x):=by
 have c:x.toNat<a.length:=by omega
 have e:x=((x.toNat:Nat):Int):=by omega
 have b:gi a ((x.toNat:Nat):Int)=some (S8 a x):=by
  rw[n0a,List.getElem?_eq_getElem c]
  unfold S8
  rw[List.getD_eq_getElem?_getD,List.getElem?_eq_getElem c];rfl
 rw[←e]at b;exact b
theorem U0e(es:List D0){n:Nat}(q:inN n es)(p:es.length<=9223372036854775807):∀(d k fuel:Nat) (c:Bool) (f:List Bool),f.length=n->k+d=es.length->d<fuel ->
  T3 es fuel c (k:Int) f=some (pJ (es.drop k) c f)
 |d,k,0,c,f,g,m,hf=>by omega
 |0,k,fuel+1,c,f,g,m,hf=>by
  rw[T3.eq_2,if_neg (by simp;omega),H1 (by omega)];rfl
 |d+1,k,fuel+1,c,f,g,m,hf=>by
  have o:k<es.length:=by omega
  have j:=a5 o
  have i:=q _ (List.mem_of_getElem? j)
  generalize es[k]=e at j i
  obtain⟨a,l,b⟩:=e
  have s:=λu t h=>U0e es q p d (k+1) fuel u t h (by omega) (by omega)
  rw[T3.eq_2,if_pos (by simp;omega),J1 j]
  simp only[U1 j,oB,giB g i.1.1 i.1.2,giB g i.2.1 i.2.2,V1 o p,giB (show(f.set a.toNat true).length=n by simp[g]) i.2.1 i.2.2,pJ]
  cases hb:S8 f a == S8 f b
  ·simp only[Bool.not_false,if_true,cond_false]
   exact s _ _ (by simp[g])
  ·simp only[Bool.not_true,Bool.false_eq_true,if_false,cond_true]
   exact s _ _ g
theorem V0e(es:List D0){n:Nat}(f:inN n es)(z:es.length<=9223372036854775806):∀(m fuel:Nat) (a:List Bool),a.length=n->cF a<=m->m+1<fuel ->
  ∃ b,L4 es fuel true a=some b/\b.length=n/\(∀ x,S8 a x=true->S8 b x=true)/\(∀ e∈es,S8 b e.1=S8 b e.2.2) /\
   ∀ P:Int->Prop,(∀ e∈es,P e.1↔P e.2.2)->(∀ x,0<=x->S8 a x=true->P x)->∀ x,0<=x->S8 b x=true->P x
 |m,0,a,d,C,hf=>by omega
 |m,fuel+1,a,d,C,hf=>by
  have h0:=U0e es f (by omega) es.length 0 P0 false a d (by omega) (by unfold P0;omega)
  rw[show((0:Nat):Int)=0 from rfl,List.drop_zero]at h0
  obtain⟨p,i,j⟩:=s0j es false a d f
  have A:=r0j es false a
  rw[L4.eq_2,if_pos rfl,h0,oB]
  have l:=f0g es false a d f
  have o:=λP=>X0c (P:=P) es false a d f
  generalize pJ es false a=q at *
  obtain⟨c,b⟩:=q
  simp only at p i j A l o ⊢
  cases c with
  |true =>
   rcases i rfl with h|h
   ·cases h
   ·obtain⟨S2,s,t,u,v,w⟩:=V0e es f z (m-1) fuel b (by omega) (by omega) (by omega)
    exact⟨S2,s,t,λx D=>u x (l x D),v,λP k g=>w P k (o P k g)⟩
  |false =>
   obtain⟨_,e,y⟩:=j rfl
   subst e
   obtain _|fuel:=fuel
   ·omega
   ·rw[L4.eq_2,if_neg (by simp)]
    exact⟨_,rfl,d,λx h=>h,y,λP _ g=>g⟩
theorem J0h(r:Int)(n:Nat)(es:List D0)(p:inN n es)(o:es.length<=9223372036854775806)(s:1<=n)(t:n<=140737488355328):
  ∃ a,I8 (r,(n:Int),es) 0=some a/\a.length=n/\∀ x,0<=x->x<(n:Int)->(S8 a x=true↔Rch es 0 x):=by
 unfold I8
 simp only[Int.toNat_natCast]
 have m:gi (List.replicate n (false:Bool)) 0=some false:=by
  rw[p0a (x:=false)];rw[List.getElem?_replicate,if_pos (by omega)]
 rw[B0 (by omega),oB,m,oB]
 have k:((List.replicate n (false:Bool)).set (0:Int).toNat true).length=n:=by simp
 obtain⟨b,d,f,g,i,j⟩:=V0e es p o n P0 _ k (by have:=i0p ((List.replicate n (false:Bool)).set (0:Int).toNat true);omega) (by unfold P0;omega)
 rw[d]
 have c:∀ x,S8 ((List.replicate n (false:Bool)).set (0:Int).toNat true) x=decide (x.toNat=0):=λx=>by
  rw[A06 (by simp;omega)]
  have:S8 (List.replicate n false) x=false:=by
   unfold S8
   rw[List.getD_eq_getElem?_getD,List.getElem?_replicate]
   split<;>rfl
  rw[this];simp
 refine⟨b,rfl,f,λx h0 q=>⟨λh=>?_,λh=>?_⟩⟩
 ·refine j (Rch es 0) Rch.closed (λy u h=>?_) x h0 h
  rw[c]at h
  have:y=0:=by simp at h;omega
  subst this;exact .base
 ·exact Rch.sub (P:=λx=>S8 b x=true) (g 0 (by rw[c];rfl)) (λe l=>by rw[i e l]) h
theorem j0p(l:List Int)(w:Int)(g:l.length<=9223372036854775807):∀(d k fuel:Nat),k+d=l.length->d<fuel ->
  j8 l w fuel (k:Int)=some (if w∈l.drop k then .inl true else .inr ())
 |d,k,0,b,hf=>by omega
 |0,k,fuel+1,b,hf=>by
  rw[j8.eq_2,if_neg (by simp;omega),H1 (by omega)];simp
 |d+1,k,fuel+1,b,hf=>by
  have f:k<l.length:=by omega
  have a:=a5 f
  generalize l[k]=x at a
  have i:=j0p l w g d (k+1) fuel (by omega) (by omega)
  rw[j8.eq_2,if_pos (by simp;omega),J1 a]
  simp only[U1 a,oB,V1 f g,i,List.mem_cons]
  by_cases c:x=w
  ·rw[if_pos (by simpa using c),if_pos (.inl c.symm)]
  ·rw[if_neg (by simpa using c)]
   by_cases c2:w∈l.drop (k+1)
   ·rw[if_pos c2,if_pos (.inr c2)]
   ·rw[if_neg c2,if_neg (λh=>h.elim (λe=>c e.symm) c2)]
theorem o07(l:List Int)(w:Int)(a:l.length<=9223372036854775807):Z7 l w=some (decide (w∈l)):=by
 unfold Z7
 have h:=j0p l w a l.length 0 P0 (by omega) (by unfold P0;omega)
 rw[show((0:Nat):Int)=0 from rfl,List.drop_zero]at h
 rw[h,oB]
 by_cases c:w∈l
 ·rw[if_pos c];simp[V7,c]
 ·rw[if_neg c];simp[V7,c]
def s1(u:List Int)(e:D0):List Int:=if e.1∈u then b9 A8 e.2.2 u else u
def s2(u:List Int)(e:D0):List Int:=if e.2.2∈u then b9 A8 e.1 u else u
def pS:List D0->List Int->List Int
 | [],u=>u
 |e::r,u=>pS r (s2 (s1 u e) e)
theorem t0a{u:List Int}{e:D0}{x:Int}:x∈s1 u e↔x∈u∨(e.1∈u/\x=e.2.2):=by
 unfold s1
 split
 ·rename_i h;rw[y06 x01];constructor
  ·rintro(a|a)
   ·exact .inr ⟨h,a⟩
   ·exact .inl a
  ·rintro(a|⟨_,a⟩)
   ·exact .inr a
   ·exact .inl a
 ·rename_i h;constructor
  ·exact .inl
  ·rintro(a|⟨a,_⟩)
   ·exact a
   ·exact absurd a h
theorem u0a{u:List Int}{e:D0}{x:Int}:x∈s2 u e↔x∈u∨(e.2.2∈u/\x=e.1):=by
 unfold s2
 split
 ·rename_i h;rw[y06 x01];constructor
  ·rintro(a|a)
   ·exact .inr ⟨h,a⟩
   ·exact .inl a
  ·rintro(a|⟨_,a⟩)
   ·exact .inr a
   ·exact .inl a
 ·rename_i h;constructor
  ·exact .inl
  ·rintro(a|⟨a,_⟩)
   ·exact a
   ·exact absurd a h
theorem s0n(u:List Int)(e:D0):(s1 u e).length<=u.length+1:=by
 unfold s1;split
 ·exact a05 _ _
 ·omega
theorem t0n(u:List Int)(e:D0):(s2 u e).length<=u.length+1:=by
 unfold s2;split
 ·exact a05 _ _
 ·omega
theorem t0j:∀(es:List D0) (u:List Int),(pS es u).length<=u.length+2*es.length
 | [],u=>by simp[pS]
 |e::r,u=>by
  have:=t0j r (s2 (s1 u e) e)
  have:=t0n (s1 u e) e
  have:=s0n u e
  simp only[pS,List.length_cons];omega
theorem H05:∀(es:List D0) (u:List Int) (x:Int),x∈u->x∈pS es u
 | [],u,x,h=>h
 |e::r,u,x,h=>H05 r _ x (u0a.2 (.inl (t0a.2 (.inl h))))
theorem Y0c{P:Int->Prop}:∀(es:List D0) (u:List Int),(∀ e∈es,P e.1↔P e.2.2)->(∀ x∈u,P x)->∀ x∈pS es u,P x
 | [],u,b,a=>a
 |e::r,u,b,a=>Y0c r _ (λe f=>b e (mC _ f)) λx g=>by
  have d:=b e mS
  have c:∀ y∈s1 u e,P y:=λy i=>by
   rcases t0a.1 i with h|⟨h,rfl⟩
   ·exact a y h
   ·exact d.1 (a _ h)
  rcases u0a.1 g with h|⟨h,rfl⟩
  ·exact c x h
  ·exact d.2 (c _ h)
theorem K0h:∀(es:List D0) (u:List Int) (e:D0),e∈es->e.1∈u∨e.2.2∈u->e.1∈pS es u/\e.2.2∈pS es u
 |c::r,u,e,a,h=>by
  simp only[pS]
  rcases List.mem_cons.1 a with rfl|a
  ·have b:e.2.2∈s1 u e:=by
    rcases h with h|h
    ·exact t0a.2 (.inr ⟨h,rfl⟩)
    ·exact t0a.2 (.inl h)
   exact⟨H05 r _ _ (u0a.2 (.inr ⟨b,rfl⟩)),H05 r _ _ (u0a.2 (.inl b))⟩
  ·exact K0h r _ e a (h.imp (λh=>u0a.2 (.inl (t0a.2 (.inl h)))) λh=>u0a.2 (.inl (t0a.2 (.inl h))))
def act(es:List D0)(u:List Int):Nat:=es.countP λe=>decide (e.1∈u)&&decide (e.2.2∈u)
def clo(es:List D0)(u:List Int):Prop:=∀ e∈es,e.1∈u↔e.2.2∈u
theorem a0q(es:List D0)(u:List Int):act es u<=es.length:=List.countP_le_length
theorem W0e{e:Type}{p q:e->Bool}:∀ {l:List e},(∀ x∈l,p x=true->q x=true)->(∃ x∈l,p x=false/\q x=true)->l.countP p<l.countP q
 | [],_,⟨x,a,_⟩=>nomatch a
 |y::l,h,⟨x,a,c,d⟩=>by
  have f:l.countP p<=l.countP q:=List.countP_mono_left λz b=>h z (mC _ b)
  rcases List.mem_cons.1 a with rfl|a
  ·rw[List.countP_cons_of_neg (by simp[c]),List.countP_cons_of_pos d];omega
  ·have g:=W0e (l:=l) (λz b=>h z (mC _ b)) ⟨x,a,c,d⟩
   cases hp:p y
   ·rw[List.countP_cons_of_neg (by simp[hp])]
    have:l.countP q<=(y::l).countP q:=by rw[List.countP_cons];omega
    omega
   ·rw[List.countP_cons_of_pos hp,List.countP_cons_of_pos (h y mS hp)];omega
theorem s09{es:List D0}{u:List Int}(h:clo es u)(x:Int):x∈pS es u↔x∈u :=
 ⟨Y0c (P:=λx=>x∈u) es u h (λ_ h=>h) x,H05 es u x⟩
theorem u0n{es:List D0}{u:List Int}:clo es (pS es u)∨act es u<act es (pS es u):=by
 by_cases h:clo es u
 ·left
  intro e a
  rw[s09 h,s09 h];exact h e a
 ·right
  have:∃ e∈es,¬ (e.1∈u↔e.2.2∈u):=by
   refine Classical.byContradiction λb=>h λe a=>?_
   exact Classical.byContradiction λd=>b ⟨e,a,d⟩
  obtain⟨e,a,c⟩:=this
  refine W0e (λx g h=>?_) ⟨e,a,?_,?_⟩
  ·simp only[Bool.and_eq_true,decide_eq_true_eq]at h ⊢
   exact⟨H05 _ _ _ h.1,H05 _ _ _ h.2⟩
  ·rw[Bool.eq_false_iff]
   intro h
   simp only[Bool.and_eq_true,decide_eq_true_eq]at h
   exact c ⟨λ_=>h.2,λ_=>h.1⟩
  ·have f:e.1∈u∨e.2.2∈u:=by
    refine Classical.byContradiction λb=>c ⟨λh=>absurd (.inl h) b,λh=>absurd (.inr h) b⟩
   have:=K0h es u e a f
   simp only[Bool.and_eq_true,decide_eq_true_eq];exact this
def itS(es:List D0):Nat->List Int->List Int
 |0,u=>u
 |j+1,u=>itS es j (pS es u)
theorem B0k(es:List D0):∀(j:Nat) (u:List Int),(itS es j u).length<=u.length+j*(2*es.length)
 |0,u=>by simp[itS]
 |j+1,u=>by have:=B0k es j (pS es u);have:=t0j es u;simp only[itS,Nat.add_mul,Nat.one_mul];omega
theorem C0k(es:List D0):∀(j:Nat) (u:List Int),clo es u->clo es (itS es j u)
 |0,u,h=>h
 |j+1,u,h=>C0k es j _ λe a=>by rw[s09 h,s09 h];exact h e a
theorem D0k(es:List D0):∀(j:Nat) (u:List Int),clo es (itS es j u)∨act es u+j<=act es (itS es j u)
 |0,u => .inr (Nat.le_refl _)
 |j+1,u=>by
  rcases u0n (es:=es) (u:=u)with h|h
  ·exact .inl (C0k es j _ h)
  ·rcases D0k es j (pS es u)with a|a
   ·exact .inl a
   ·right;simp only[itS];omega
theorem L0h(es:List D0):∀(j:Nat) (u:List Int) (x:Int),x∈u->x∈itS es j u
 |0,u,x,h=>h
 |j+1,u,x,h=>L0h es j _ x (H05 es u x h)
theorem X0e{P:Int->Prop}(es:List D0)(b:∀ e∈es,P e.1↔P e.2.2):∀(j:Nat) (u:List Int),(∀ x∈u,P x)->∀ x∈itS es j u,P x
 |0,u,a=>a
 |j+1,u,a=>X0e es b j _ (Y0c es u b a)
theorem I05(es:List D0)(v x:Int):x∈itS es (es.length+1) [v]↔Rch es v x:=by
 constructor
 ·exact X0e (P:=Rch es v) es Rch.closed _ _ (λy a=>by simp at a;subst a;exact .base) x
 ·have b:clo es (itS es (es.length+1) [v]):=by
   rcases D0k es (es.length+1) [v]with h|h
   ·exact h
   ·have:=a0q es (itS es (es.length+1) [v]);omega
  exact Rch.sub (P:=λx=>x∈itS es (es.length+1) [v]) (L0h _ _ _ _ (by simp)) b
theorem Z0c(es:List D0)(p:es.length<=9223372036854775807):∀(d k fuel:Nat) (u:List Int),k+d=es.length->d<fuel->u.length+2*d<=1099511627776 ->
  V2 es fuel u (k:Int)=some (pS (es.drop k) u)
 |d,k,0,u,n,hf,q=>by omega
 |0,k,fuel+1,u,n,hf,q=>by
  rw[V2.eq_2,if_neg (by simp;omega),H1 (by omega)];rfl
 |d+1,k,fuel+1,u,n,hf,q=>by
  have o:k<es.length:=by omega
  have m:=a5 o
  generalize es[k]=e at m
  obtain⟨a,l,b⟩:=e
  have i:=λt h=>Z0c es p d (k+1) fuel t (by omega) (by omega) h
  have s:=s0n u (a,l,b)
  have g:=t0n (s1 u (a,l,b)) (a,l,b)
  rw[V2.eq_2,if_pos (by simp;omega),J1 m]
  simp only[U1 m,oB,o07 u _ (by omega),V1 o p,pS]
  by_cases c:a∈u
  ·rw[if_pos (by simpa using c),l09 _ _ (by omega),oB]
   have j:s1 u (a,l,b)=b9 A8 b u:=if_pos c
   rw[j]at s g ⊢
   rw[o07 _ _ (by omega),oB]
   by_cases c2:b∈b9 A8 b u
   ·rw[if_pos (by simpa using c2),l09 _ _ (by omega),oB]
    have f:s2 (b9 A8 b u) (a,l,b)=b9 A8 a (b9 A8 b u):=if_pos c2
    rw[f]at g ⊢
    exact i _ (by omega)
   ·rw[if_neg (by simpa using c2)]
    have f:s2 (b9 A8 b u) (a,l,b)=b9 A8 b u:=if_neg c2
    rw[f]
    exact i _ (by omega)
  ·rw[if_neg (by simpa using c)]
   have j:s1 u (a,l,b)=u:=if_neg c
   rw[j]at g ⊢
   by_cases c2:b∈u
   ·rw[if_pos (by simpa using c2),l09 _ _ (by omega),oB]
    have f:s2 u (a,l,b)=b9 A8 a u:=if_pos c2
    rw[f]at g ⊢
    exact i _ (by omega)
   ·rw[if_neg (by simpa using c2)]
    have f:s2 u (a,l,b)=u:=if_neg c2
    rw[f]
    exact i _ (by omega)
theorem a0d(es:List D0)(c:es.length<=120):∀(d k fuel:Nat) (u:List Int),k+d=es.length+1->d<fuel->u.length<=1+k*240 ->
  Z4 es fuel u (k:Int)=some (itS es d u)
 |d,k,0,u,a,hf,b=>by omega
 |0,k,fuel+1,u,a,hf,b=>by
  rw[Z4.eq_2,if_neg (by rw[w64 (by omega) (by omega)];simp;omega)];rfl
 |d+1,k,fuel+1,u,a,hf,b=>by
  have h0:=Z0c es (by omega) es.length 0 P0 u (by omega) (j1 (by omega)) (by omega)
  rw[show((0:Nat):Int)=0 from rfl,List.drop_zero]at h0
  have e:=a0d es c d (k+1) fuel (pS es u) (by omega) (by omega) (by have:=t0j es u;omega)
  rw[Z4.eq_2,if_pos (by rw[w64 (by omega) (by omega)];simp;omega),h0,oB,V1 (show k<1000 by omega) (by omega),e]
  rfl
def getI(P:List Int)(v:Int):Int:=P.getD v.toNat (-1)
def s00:List Int->Nat->List Int->List Int
 |A,k,[]=>A
 |A,k,v::r=>s00 (A.set v.toNat (k:Int)) (k+1) r
def plc(n:Nat)(o:List Int):List Int:=s00 (List.replicate n (-1)) 0 o
theorem b0d:∀(o:List Int) (k:Nat) (A:List Int),(s00 A k o).length=A.length
 | [],k,A=>rfl
 |v::r,k,A=>by rw[s00,b0d r];simp
def inV(n:Nat)(o:List Int):Prop:=∀ v∈o,0<=v/\v<(n:Int)
theorem giI{P:List Int}{n:Nat}(d:P.length=n){x:Int}(h0:0<=x)(c:x<n):gi P x=some (getI P x):=by
 have b:x.toNat<P.length:=by omega
 have e:x=((x.toNat:Nat):Int):=by omega
 have a:gi P ((x.toNat:Nat):Int)=some (getI P x):=by
  rw[n0a,List.getElem?_eq_getElem b]
  unfold getI
  rw[List.getD_eq_getElem?_getD,List.getElem?_eq_getElem b];rfl
 rw[←e]at a;exact a
theorem W02{A:List Int}{v x:Int}{y:Int}(h0:0<=v)(a:v.toNat<A.length)(b:0<=x):getI (A.set v.toNat y) x=if x=v then y else getI A x:=by
 unfold getI
 rw[List.getD_eq_getElem?_getD,List.getD_eq_getElem?_getD,List.getElem?_set]
 by_cases c:x=v
 ·rw[if_pos c,if_pos (by rw[c]),if_pos a];rfl
 ·rw[if_neg c,if_neg (by omega)]
theorem t09{n:Nat}:∀(o:List Int) (k:Nat) (A:List Int),A.length=n->inV n o->(∀ x,0<=x -> -1<=getI A x/\getI A x<(k:Int))->∀ x,0<=x -> -1<=getI (s00 A k o) x/\getI (s00 A k o) x<((k+o.length:Nat):Int)
 | [],k,A,c,a,h,x,b=>h x b
 |v::r,k,A,c,a,h,x,b=>by
  have e:=a v mS
  have:=t09 r (k+1) (A.set v.toNat (k:Int)) (by simp[c]) (λw f=>a w (mC _ f)) (λy d=>by
   rw[W02 e.1 (by omega) d]
   have:=h y d
   split<;>omega) x b
  rw[s00,List.length_cons,show k+(r.length+1)=k+1+r.length by omega];exact this
theorem B06(n:Nat)(x:Int):getI (List.replicate n (-1)) x = -1:=by
 unfold getI
 rw[List.getD_eq_getElem?_getD,List.getElem?_replicate]
 split<;>rfl
theorem c05{n:Nat}{o:List Int}(b:inV n o){x:Int}(a:0<=x): -1<=getI (plc n o) x/\getI (plc n o) x<(o.length:Int):=by
 have:=t09 o 0 (List.replicate n (-1)) (by simp) b (λx a=>by rw[B06];omega) x a
 rw[Nat.zero_add]at this;exact this
theorem E0k(n:Nat)(o:List Int):(plc n o).length=n:=by unfold plc;rw[b0d];simp
def pE(P:List Int):List D0->List D0
 | []=>[]
 |e::r=>bif decide (0<=getI P e.1)&&decide (0<=getI P e.2.2)then(getI P e.1,e.2.1,getI P e.2.2)::pE P r else pE P r
theorem g0g(P:List Int):∀ es,(pE P es).length<=es.length
 | []=>by simp[pE]
 |e::r=>by
  have:=g0g P r
  unfold pE
  cases decide (0<=getI P e.1)&&decide (0<=getI P e.2.2)<;>simp only[cond_true,cond_false,List.length_cons]<;>omega
theorem k0p{n:Nat}{o:List Int}(d:inV n o):∀(es:List D0),inN n es->inN o.length (pE (plc n o) es)
 | [],c=>λe a=>nomatch a
 |e::r,c=>by
  have f:=k0p d r λe a=>c e (mC _ a)
  have a:=c e mS
  unfold pE
  cases hb:decide (0<=getI (plc n o) e.1)&&decide (0<=getI (plc n o) e.2.2)
  ·simpa only[cond_false] using f
  ·simp only[cond_true]
   simp only[Bool.and_eq_true,decide_eq_true_eq]at hb
   intro g b
   rcases List.mem_cons.1 b with rfl|b
   ·exact⟨⟨hb.1,(c05 d a.1.1).2⟩,hb.2,(c05 d a.2.1).2⟩
   ·exact f g b
def K7(g:j0)(o:List Int):j0:=(g.1,(o.length:Int),G3 N0 [] (pE (plc g.2.1.toNat o) g.2.2))
theorem n00:∀(r l:List D0),(G3 N0 l r).length<=l.length+r.length
 | [],l=>by simp[G3]
 |e::r,l=>by have:=n00 r (b9 N0 e l);have:=b05 e l;simp only[G3,List.length_cons];omega
theorem o08(g:j0)(o:List Int):(K7 g o).2.2.length<=g.2.2.length:=by
 have:=n00 (pE (plc g.2.1.toNat o) g.2.2) []
 have:=g0g (plc g.2.1.toNat o) g.2.2
 simp only[K7,List.length_nil]at *;omega
theorem Y0e{n:Nat}{r:Int}{es:List D0}{o:List Int}(c:inV n o)(b:inN n es):inN o.length (K7 (r,(n:Int),es) o).2.2:=by
 intro e a
 simp only[K7,Int.toNat_natCast]at a
 rcases(Q7 I5 e _ _).1 a with h|h
 ·cases h
 ·exact k0p c es b e h
theorem F0k(n:Nat)(c:n<=140737488355328):∀(d k fuel:Nat),k+d=n->d<fuel ->
  Q8 n fuel (k:Int) (List.replicate k (-1)++List.replicate d 0)=some (List.replicate n (-1))
 |d,k,0,a,hf=>by omega
 |0,k,fuel+1,a,hf=>by
  rw[Q8.eq_2,if_neg (by simp;omega),show k=n by omega];simp
 |d+1,k,fuel+1,a,hf=>by
  have b:gi (List.replicate k (-1)++List.replicate (d+1) (0:Int)) (k:Int)=some 0:=by
   rw[n0a,List.getElem?_append_right (by simp)];simp
  have f:=F0k n c d (k+1) fuel (by omega) (by omega)
  rw[Q8.eq_2,if_pos (by simp;omega),b,oB,V1 (show k<n by omega) (by omega),Int.toNat_natCast]
  have e:(List.replicate k (-1)++List.replicate (d+1) (0:Int)).set k (-1)=List.replicate (k+1) (-1)++List.replicate d 0:=by
   rw[List.set_append_right _ _ (by simp),List.length_replicate,Nat.sub_self,List.replicate_succ,List.set_cons_zero,List.replicate_succ']
   simp
  rw[e,f]
theorem G0k(o:List Int){n:Nat}(h:inV n o)(g:o.length<=9223372036854775807):∀(d k fuel:Nat) (A:List Int),A.length=n->k+d=o.length->d<fuel ->
  P8 o fuel (k:Int) A=some (s00 A k (o.drop k))
 |d,k,0,A,a,e,hf=>by omega
 |0,k,fuel+1,A,a,e,hf=>by
  rw[P8.eq_2,if_neg (by simp;omega),H1 (by omega)];rfl
 |d+1,k,fuel+1,A,a,e,hf=>by
  have f:k<o.length:=by omega
  have b:=a5 f
  have c:=h _ (List.mem_of_getElem? b)
  generalize o[k]=v at b c
  have i:=G0k o h g d (k+1) fuel (A.set v.toNat (k:Int)) (by simp[a]) (by omega) (by omega)
  rw[P8.eq_2,if_pos (by simp;omega),J1 b,U1 b,oB,giI a c.1 c.2,oB,V1 f g,i]
  rfl
theorem H0k(es:List D0){n:Nat}(q:inN n es)(t:es.length<=1099511627776)(P:List Int)(g:P.length=n)(r m:Int):∀(d k fuel:Nat) (acc:List D0),k+d=es.length->d<fuel->acc.length<=k ->
  c8 es P fuel (k:Int) r m acc=some (r,m,acc++pE P (es.drop k))
 |d,k,0,acc,o,hf,j=>by omega
 |0,k,fuel+1,acc,o,hf,j=>by
  rw[c8.eq_2,if_neg (by simp;omega),H1 (by omega)];simp[pE]
 |d+1,k,fuel+1,acc,o,hf,j=>by
  have p:k<es.length:=by omega
  have f:=a5 p
  have c:=q _ (List.mem_of_getElem? f)
  generalize es[k]=e at f c
  obtain⟨a,l,b⟩:=e
  have i:=λs h=>H0k es q t P g r m d (k+1) fuel s (by omega) (by omega) h
  rw[c8.eq_2,if_pos (by simp;omega),J1 f]
  simp only[U1 f,oB,giI g c.1.1 c.1.2,giI g c.2.1 c.2.2,V1 p (show es.length<=9223372036854775807 by omega),pE]
  by_cases c1:0<=getI P a
  ·simp only[show decide (getI P a ≥ 0)=true by simpa using c1,L1,oB,cond_true,show decide (0<=getI P a)=true by simpa using c1,Bool.true_and]
   by_cases c2:0<=getI P b
   ·rw[if_pos (by simpa using c2),B0 (by simp;omega),oB,i _ (by simp;omega)]
    simp[c2]
   ·rw[if_neg (by simpa using c2),i _ (by omega)]
    simp[c2]
  ·simp only[show decide (getI P a ≥ 0)=false by simpa using c1,J2,oB,cond_false,show decide (0<=getI P a)=false by simpa using c1,Bool.false_and]
   rw[if_neg (by simp),i _ (by omega)]
theorem u0j(r:Int)(n:Nat)(es:List D0)(o:List Int)(d:inN n es)(e:inV n o)(g:n<=1000000)(c:es.length<=1099511627776)(f:o.length<=1099511627776):
  Y01 (r,(n:Int),es) o=some (K7 (r,(n:Int),es) o):=by
 unfold Y01
 have b:=F0k n (by omega) n 0 P0 (by omega) (j1 (by omega))
 have a:=G0k o e (by omega) o.length 0 P0 (List.replicate n (-1)) (by simp) (by omega) (j1 (by omega))
 have h0:=H0k es d c (plc n o) (E0k n o) r ((o.length:Nat):Int) es.length 0 P0 [] (by omega) (j1 (by omega)) (Nat.le_refl _)
 rw[show((0:Nat):Int)=0 from rfl]at h0 a b
 rw[List.replicate_zero,List.nil_append]at b
 rw[List.drop_zero]at a
 rw[List.drop_zero,List.nil_append]at h0
 simp only[Int.toNat_natCast]
 rw[B0 (by omega),oB,oB,List.length_replicate,B0 (by omega),oB,b,oB,a,oB]
 rw[show s00 (List.replicate n (-1)) 0 o=plc n o from rfl,h0]
 simp only[oB]
 rw[z06 _ (by have:=g0g (plc n o) es;omega),oB]
 rfl
theorem v0n(A:List Int)(i k:Nat):(A.map (·+1)).set i (((k+1:Nat):Int))=(A.set i (k:Int)).map (·+1):=by
 rw[List.map_set];rfl
theorem c0d{A:List Int}{n:Nat}(d:A.length=n){x:Int}(h0:0<=x)(c:x<n):gi (A.map (·+1)) x=some (getI A x+1):=by
 have b:x.toNat<A.length:=by omega
 have e:x=((x.toNat:Nat):Int):=by omega
 have a:gi (A.map (·+1)) ((x.toNat:Nat):Int)=some (getI A x+1):=by
  rw[n0a,List.getElem?_map,List.getElem?_eq_getElem b]
  unfold getI
  rw[List.getD_eq_getElem?_getD,List.getElem?_eq_getElem b];rfl
 rw[←e]at a;exact a
theorem d0d{n:Nat}:∀(o:List Int) (k:Nat) (A:List Int) (x:Int),A.length=n->inV n o->0<=x->x ∉ o->getI (s00 A k o) x=getI A x
 | [],k,A,x,c,a,b,h=>rfl
 |v::r,k,A,x,c,a,b,h=>by
  have f:=a v mS
  rw[s00,d0d r _ _ x (by simp[c]) (λw g=>a w (mC _ g)) b (λd=>h (mC _ d)),W02 f.1 (by omega) b,if_neg (λe=>h (by rw[e];exact mS))]
theorem w0n(r:Int)(n:Nat)(es:List D0)(o:List Int)(h:inV n o)(l:o.Nodup)(t:1<=n/\n<=1000000)(s:o.length<=1099511627776):∀(d k fuel:Nat) (A:List Int),A.length=n->(∀ x,0<=x -> -1<=getI A x/\getI A x<=1099511627776)->(∀ x∈o.drop k,getI A x = -1)->k+d=o.length->d<fuel ->
  i4 o (n:Int) r es fuel (k:Int) (A.map (·+1))=some (.inr ((s00 A k (o.drop k)).map (·+1)))
 |d,k,0,A,f,i,c,j,hf=>by omega
 |0,k,fuel+1,A,f,i,c,j,hf=>by
  rw[i4.eq_2,if_neg (by simp;omega),H1 (by omega)];rfl
 |d+1,k,fuel+1,A,f,i,c,j,hf=>by
  have m:k<o.length:=by omega
  have a:=a5 m
  have b:=h _ (List.mem_of_getElem? a)
  have g:=J1 a
  generalize o[k]=v at a b g
  have p:(o.drop k).Nodup:=l.sublist (List.drop_sublist _ _)
  rw[g]at p c
  have q:=c v mS
  have w:=w0n r n es o h l t s d (k+1) fuel (A.set v.toNat (k:Int)) (by simp[f]) (λx a=>by
   rw[W02 b.1 (by omega) a];have:=i x a;split<;>omega) (λx a=>by
   have u:=h x (List.mem_of_mem_drop a)
   rw[W02 b.1 (by omega) u.1,if_neg (λe=>(List.nodup_cons.1 p).1 (by rw[←e];exact a))]
   exact c x (mC _ a)) (by omega) (by omega)
  rw[i4.eq_2,if_pos (by simp;omega),g,U1 a]
  simp only[oB,U03,w64 (show -9223372036854775808<=(n:Int)-1 by omega) (show(n:Int)-1<=9223372036854775807 by omega),inR,show decide (0<=v)=true by simpa using b.1,show decide (v<=(n:Int)-1)=true by simp;omega,Bool.and_self,Bool.not_true,Bool.not_false,L1,c0d f b.1 b.2,q,cond_false]
  rw[if_neg (by decide),V1 m (by omega),v0n,w]
  rfl
theorem x0n(es:List D0){n:Nat}(s:inN n es)(u:es.length<=1099511627776)(P:List Int)(g:P.length=n)(i:∀ x,0<=x -> -1<=getI P x/\getI P x<=1099511627776)(r m:Int):∀(d k fuel:Nat) (acc:List D0),k+d=es.length->d<fuel->acc.length<=k ->
  I3 es (P.map (·+1)) fuel (k:Int) r m acc=some (r,m,G3 N0 acc (pE P (es.drop k)))
 |d,k,0,acc,p,hf,o=>by omega
 |0,k,fuel+1,acc,p,hf,o=>by
  rw[I3.eq_2,if_neg (by simp;omega),H1 (by omega)];rfl
 |d+1,k,fuel+1,acc,p,hf,o=>by
  have q:k<es.length:=by omega
  have f:=a5 q
  have c:=s _ (List.mem_of_getElem? f)
  generalize es[k]=e at f c
  obtain⟨a,l,b⟩:=e
  have j:=λt h=>x0n es s u P g i r m d (k+1) fuel t (by omega) (by omega) h
  have v:=i a c.1.1
  have w:=i b c.2.1
  rw[I3.eq_2,if_pos (by simp;omega),J1 f]
  simp only[U1 f,oB,c0d g c.1.1 c.1.2,c0d g c.2.1 c.2.2,V1 q (show es.length<=9223372036854775807 by omega),pE]
  by_cases c1:0<=getI P a
  ·simp only[show decide (getI P a+1>0)=true by simp;omega,L1,oB,cond_true,show decide (0<=getI P a)=true by simpa using c1,Bool.true_and]
   by_cases c2:0<=getI P b
   ·rw[if_pos (by simp;omega),w64 (by omega) (by omega),w64 (by omega) (by omega),show getI P a+1-1=getI P a by omega,show getI P b+1-1=getI P b by omega]
    rw[u03 _ _ (by omega),oB,j _ (by have:=b05 (getI P a,l,getI P b) acc;omega)]
    simp[c2,G3]
   ·rw[if_neg (by simp;omega),j _ (by omega)]
    simp[c2]
  ·simp only[show decide (getI P a+1>0)=false by simp;omega,J2,oB,cond_false,show decide (0<=getI P a)=false by simpa using c1,Bool.false_and]
   rw[if_neg (by simp),j _ (by omega)]
theorem e0d(r:Int)(n:Nat)(es:List D0)(o:List Int)(f:V0 (r,(n:Int),es)=true)(g:inV n o)(l:o.Nodup)(t:1<=o.length)(u:o.length<=n):
  S6 (r,(n:Int),es) o=some (K7 (r,(n:Int),es) o,true):=by
 obtain⟨h,p,q,s⟩:=Y2 f
 simp only at p q s
 have m:inN n es:=λe d=>⟨(h e d).1,(h e d).2.1⟩
 have k:=p7 (r,(n:Int),es) (by simp only;omega)
 unfold S6
 have a:=w0n r n es o g l (by omega) (by omega) o.length 0 P0 (List.replicate n (-1)) (by simp) (λx b=>by rw[B06];omega) (λx b=>B06 n x) (by omega) (j1 (by omega))
 have c:=x0n es m (by omega) (plc n o) (E0k n o) (λx b=>by have:=c05 g b;omega) r ((o.length:Nat):Int) es.length 0 P0 [] (by omega) (j1 (by omega)) (Nat.le_refl _)
 rw[show((0:Nat):Int)=0 from rfl,List.drop_zero]at c a
 rw[show(List.replicate n (-1:Int)).map (·+1)=List.replicate n 0 by simp]at a
 rw[show s00 (List.replicate n (-1)) 0 o=plc n o from rfl]at a
 have i:decide (((o.length:Nat):Int)=0)=false:=decide_eq_false (by omega)
 have j:decide (((o.length:Nat):Int)>(n:Int))=false:=decide_eq_false (by omega)
 simp only[k,f,oB,Bool.not_true,cond_false,Int.toNat_natCast,i,j]
 rw[if_neg (by simp),B0 (by omega),oB,a]
 simp only[oB,V7,c]
 rfl
theorem o9:∀(n:Nat) (o:List Int),o.Nodup->inV n o->o.length<=n
 |0,[],_,_=>Nat.le_refl _
 |0,x::r,_,h=>by have:=h x mS;omega
 |n+1,o,c,h=>by
  have d:inV n (o.erase (n:Int)):=λx e=>by
   obtain⟨f,a⟩:=(List.Nodup.mem_erase_iff c).1 e
   have:=h x a;omega
  have b:=o9 n _ (c.erase _) d
  by_cases a:(n:Int)∈o
  ·rw[List.length_erase_of_mem a]at b;omega
  ·rw[List.erase_of_not_mem a]at b;omega
def j6:Nat->Nat->List Int
 |0,_=>[]
 |d+1,i=>(i:Int) :: -(i:Int)::j6 d (i+1)
theorem C01:∀ d i,(j6 d i).length=2*d
 |0,i=>rfl
 |d+1,i=>by simp only[j6,List.length_cons,C01 d];omega
theorem i0g:∀(d i:Nat),i+d<=1000->∀ x∈j6 d i,L5 x
 |0,i,h,x,a=>nomatch a
 |d+1,i,h,x,a=>by
  simp only[j6,List.mem_cons]at a
  rcases a with rfl|rfl|a
  ·exact⟨⟨by omega,by omega⟩,by omega⟩
  ·exact⟨⟨by omega,by omega⟩,by omega⟩
  ·exact i0g d (i+1) (by omega) x a
theorem y0n(R:Nat)(c:R<=900):∀(d i fuel:Nat) (acc:List Int),i+d=R+1->d<fuel->acc.length+2*d<=10000 ->
  T6 (R:Int) fuel (i:Int) acc=some (acc++j6 d i)
 |d,i,0,acc,b,hf,a=>by omega
 |0,i,fuel+1,acc,b,hf,a=>by
  rw[T6.eq_2,if_neg (by simp;omega)];simp[j6]
 |d+1,i,fuel+1,acc,b,hf,a=>by
  have e:=y0n R c d (i+1) fuel (acc ++ [(i:Int),-(i:Int)]) (by omega) (by omega) (by simp;omega)
  have f:IntKind.i64.wrap (0-(i:Int)) = -(i:Int):=by rw[w64 (by omega) (by omega)];omega
  rw[T6.eq_2,if_pos (by simp;omega),f,B0 (by simp;omega),oB,V1 (show i<1000 by omega) (by omega),e]
  simp[j6]
theorem z0n(R:Nat)(c:R<=900):∀(d i fuel:Nat) (acc:List Int),i+d=R+1->d<fuel->acc.length+2*d<=10000 ->
  K5 (R:Int) fuel (i:Int) acc=some (acc++j6 d i)
 |d,i,0,acc,b,hf,a=>by omega
 |0,i,fuel+1,acc,b,hf,a=>by
  rw[K5.eq_2,if_neg (by simp;omega)];simp[j6]
 |d+1,i,fuel+1,acc,b,hf,a=>by
  have e:=z0n R c d (i+1) fuel ((acc ++ [(i:Int)]) ++ [-(i:Int)]) (by omega) (by omega) (by simp;omega)
  have f:IntKind.i64.wrap (0-(i:Int)) = -(i:Int):=by rw[w64 (by omega) (by omega)];omega
  rw[K5.eq_2,if_pos (by simp;omega),f,B0 (by simp;omega),oB,B0 (by simp;omega),oB,V1 (show i<1000 by omega) (by omega),e]
  simp[j6]
theorem v0j(R:Nat)(a:R<=900):l8 (R:Int)=some (j6 R 1):=by
 unfold l8
 rw[show(1:Int)=((1:Nat):Int) from rfl,y0n R a R 1 P0 [] (by omega) (j1 (by omega)) (by simp;omega)];rfl
theorem A0n(R:Nat)(a:R<=900):R8 (R:Int)=some (j6 R 1):=by
 unfold R8
 rw[show(1:Int)=((1:Nat):Int) from rfl,z0n R a R 1 P0 [] (by omega) (j1 (by omega)) (by simp;omega)];rfl
def U05(u:List Int)(x:Int):List Int:=if 0<=x/\x ∉ u then u ++ [x]else u
def D01(g:j0)(v:Int):List Int->List Int->List Int
 | [],u=>u
 |x::r,u=>D01 g v r (U05 u (O0 g v x))
def n8(g:j0)(a:List Int):Nat->Nat->List Int->List Int
 |0,i,u=>u
 |f+1,i,u=>match u[i]? with
  |some v=>n8 g a f (i+1) (D01 g v a u)
  |none=>u
def gud(n:Nat)(u:List Int):Prop:=u.Nodup/\inV n u
theorem I0k{n:Nat}{u:List Int}{x:Int}(h:gud n u)(i:x = -1∨(0<=x/\x<(n:Int))):gud n (U05 u x):=by
 unfold U05
 split
 ·rename_i g
  refine⟨List.nodup_append.2 ⟨h.1,by simp,λa f b d=>?_⟩,λy c=>?_⟩
  ·simp at d;subst d;exact λe=>g.2 (e▸f)
  ·rcases List.mem_append.1 c with c|c
   ·exact h.2 y c
   ·simp at c;subst c;omega
 ·exact h
theorem f0d(u:List Int)(x:Int):∃ t,U05 u x=u++t:=by
 unfold U05;split
 ·exact⟨_,rfl⟩
 ·exact⟨[],by simp⟩
theorem Z01(g:j0)(v:Int):∀(c u:List Int),∃ t,D01 g v c u=u++t
 | [],u=>⟨[],by simp[D01]⟩
 |x::r,u=>by
  obtain⟨d,a⟩:=f0d u (O0 g v x)
  obtain⟨e,b⟩:=Z01 g v r (U05 u (O0 g v x))
  exact⟨d++e,by rw[D01,b,a,List.append_assoc]⟩
theorem y03{r:Int}{n:Nat}{es:List D0}(a:inG (r,(n:Int),es))(v:Int):∀(b u:List Int),gud n u->gud n (D01 (r,(n:Int),es) v b u)
 | [],u,h=>h
 |x::l,u,h=>y03 a v l _ (I0k h (q02 a v x))
theorem g0d{r:Int}{n:Nat}{es:List D0}(a:inG (r,(n:Int),es))(b:List Int):∀(f i:Nat) (u:List Int),gud n u->gud n (n8 (r,(n:Int),es) b f i u)
 |0,i,u,h=>h
 |f+1,i,u,h=>by
  unfold n8
  split
  ·exact g0d a b f _ _ (y03 a _ _ _ h)
  ·exact h
theorem h0d(g:j0)(a:List Int):∀(f i:Nat) (u:List Int),u.length<=(n8 g a f i u).length
 |0,i,u=>Nat.le_refl _
 |f+1,i,u=>by
  unfold n8
  split
  ·rename_i v _
   obtain⟨t,e⟩:=Z01 g v a u
   have:=h0d g a f (i+1) (D01 g v a u)
   rw[e]at this ⊢;simp only[List.length_append]at this;omega
  ·exact Nat.le_refl _
theorem J0k(r:Int)(n:Nat)(es:List D0)(g:inG (r,(n:Int),es))(A:n<=40)(m:es.length<=1099511627776)(a:List Int)(p:∀ x∈a,L5 x)(z:a.length<=1000000)(i:Nat)(v:Int):∀(d k fuel:Nat) (u:List Int),gud n u->u[i]?=some v->k+d=a.length->d<fuel ->
  j3 a (i:Int) r (n:Int) es fuel (k:Int) u=some (D01 (r,(n:Int),es) v (a.drop k) u)
 |d,k,0,u,c,b,j,hf=>by omega
 |0,k,fuel+1,u,c,b,j,hf=>by
  rw[j3.eq_2,if_neg (by simp;omega),H1 (by omega)];rfl
 |d+1,k,fuel+1,u,c,b,j,hf=>by
  have o:k<a.length:=by omega
  have f:=a5 o
  have q:=p _ (List.mem_of_getElem? f)
  have l:=J1 f
  generalize a[k]=x at f q l
  have E:=o9 n u c.1 c.2
  have C:O0 (r,(n:Int),es) v x = -1∨(0<=O0 (r,(n:Int),es) v x/\O0 (r,(n:Int),es) v x<(n:Int)):=q02 g v x
  have s:=I0k c C
  have w:(U05 u (O0 (r,(n:Int),es) v x))[i]?=some v:=by
   obtain⟨t,e⟩:=f0d u (O0 (r,(n:Int),es) v x)
   rw[e,List.getElem?_append_left (List.getElem?_eq_some_iff.1 b).1];exact b
  have D:=J0k r n es g A m a p z i v d (k+1) fuel _ s w (by omega) (by omega)
  rw[j3.eq_2,if_pos (by simp;omega),l]
  simp only[U1 b,U1 f,oB,R01 (r,(n:Int),es) v x q m,B0 (M9 g (show(n:Int)<=40 by omega) v x),V1 o (show a.length<=9223372036854775807 by omega),D01]
  rw[←D]
  generalize O0 (r,(n:Int),es) v x=y at *
  unfold U05
  by_cases c1:0<=y
  ·simp only[show decide (y ≥ 0)=true by simpa using c1,L1,o07 u y (by omega),oB,cond_true]
   by_cases c2:y∈u
   ·rw[if_neg (by simp[c2]),if_neg (by simp[c2])]
   ·rw[if_pos (by simp[c2]),if_pos ⟨c1,c2⟩,B0 (by simp;omega),oB]
  ·simp only[show decide (y ≥ 0)=false by simpa using c1,J2,oB,cond_false]
   rw[if_neg (by simp),if_neg (λh=>c1 h.1)]
theorem K0k(r:Int)(n:Nat)(es:List D0)(d:inG (r,(n:Int),es))(m:n<=40)(h:es.length<=1099511627776)(a:List Int)(l:∀ x∈a,L5 x)(k:a.length<=1000000):∀(f i fuel:Nat) (u:List Int),gud n u->i<=u.length->n+1<=i+f->f<fuel ->
  R4 a r (n:Int) es fuel (i:Int) u=some (n8 (r,(n:Int),es) a f i u)
 |f,i,0,u,b,j,g,hf=>by omega
 |0,i,fuel+1,u,b,j,g,hf=>by have:=o9 n u b.1 b.2;omega
 |f+1,i,fuel+1,u,b,j,g,hf=>by
  have p:=o9 n u b.1 b.2
  rw[R4.eq_2,oB,B0 (by omega),oB]
  by_cases hk:i<u.length
  ·have c:=a5 hk
   generalize u[i]=v at c
   have h0:=J0k r n es d m h a l k i v a.length 0 P0 u b c (by omega) (j1 (by omega))
   rw[show((0:Nat):Int)=0 from rfl,List.drop_zero]at h0
   obtain⟨t,e⟩:=Z01 (r,(n:Int),es) v a u
   have o:=K0k r n es d m h a l k f (i+1) fuel _ (y03 d v a u b) (by rw[e,List.length_append];omega) (by omega) (by omega)
   rw[if_pos (by simpa using hk),h0,oB,V1 hk (by omega),o]
   simp only[n8,c]
  ·have c:u[i]?=none:=List.getElem?_eq_none (by omega)
   rw[if_neg (by simpa using hk)]
   simp only[n8,c]
def o5(g:j0):List Int:=n8 g (j6 g.1.toNat 1) (g.2.1.toNat+1) 0 [0]
theorem d05{g:j0}(hf:H0 g=true):gud g.2.1.toNat (o5 g)/\1<=(o5 g).length:=by
 obtain⟨b,c,d,e⟩:=W0 hf
 obtain⟨r,n,es⟩:=g
 simp only at c d e
 obtain⟨N,rfl⟩:∃ N:Nat,n=(N:Int):=⟨n.toNat,by omega⟩
 refine⟨?_,?_⟩
 ·exact g0d b _ _ _ _ ⟨by simp,λx a=>by simp at a;subst a;show(0:Int)<=0/\(0:Int)<(((N:Int).toNat:Nat):Int);omega⟩
 ·exact h0d _ _ _ _ [0]
theorem M0h(g:j0)(hf:H0 g=true):M7 g=some (o5 g):=by
 obtain⟨b,c,d,e⟩:=W0 hf
 have f:=i9 g (by omega)
 obtain⟨r,n,es⟩:=g
 simp only at c d e
 obtain⟨N,rfl⟩:∃ N:Nat,n=(N:Int):=⟨n.toNat,by omega⟩
 obtain⟨R,rfl⟩:∃ R:Nat,r=(R:Int):=⟨r.toNat,by omega⟩
 unfold M7
 have h0:=K0k (R:Int) N es b (by omega) (by omega) (j6 R 1) (i0g R 1 (by omega)) (by rw[C01];omega) (N+1) 0 P0 [0] ⟨by simp,λx a=>by simp at a;subst a;omega⟩ (by simp) (by omega) (j1 (by omega))
 simp only[f,hf,oB,Bool.not_true,A0n R (by omega)]
 rw[show((0:Nat):Int)=0 from rfl]at h0
 rw[if_neg (by simp),h0]
 rfl
theorem L0k{a:List Int}(la:a.length<=1099511627776):M6 a=some a:=by
 unfold M6
 rw[B0 (by simp;omega)];rfl
def O7(W:List (Option (List Int)))(x:Int):Option (List Int):=W.getD x.toNat none
theorem giO{a:List (Option (List Int))}{n:Nat}(f:a.length=n){x:Int}(h0:0<=x)(d:x<n):gi a x=some (O7 a x):=by
 have c:x.toNat<a.length:=by omega
 have e:x=((x.toNat:Nat):Int):=by omega
 have b:gi a ((x.toNat:Nat):Int)=some (O7 a x):=by
  rw[n0a,List.getElem?_eq_getElem c]
  unfold O7
  rw[List.getD_eq_getElem?_getD,List.getElem?_eq_getElem c];rfl
 rw[←e]at b;exact b
theorem T9{A:List (Option (List Int))}{v x:Int}{y:Option (List Int)}(h0:0<=v)(a:v.toNat<A.length)(b:0<=x):O7 (A.set v.toNat y) x=if x=v then y else O7 A x:=by
 unfold O7
 rw[List.getD_eq_getElem?_getD,List.getD_eq_getElem?_getD,List.getElem?_set]
 by_cases c:x=v
 ·rw[if_pos c,if_pos (by rw[c]),if_pos a];rfl
 ·rw[if_neg c,if_neg (by omega)]
structure WOk (n:Nat) (W:List (Option (List Int))) (u:List Int):Prop where
 len:W.length=n
 iff:∀ x,0<=x->x<(n:Int)->((O7 W x).isNone=true↔x ∉ u)
 short:∀ x,((O7 W x).getD []).length<=u.length
theorem M0k(r:Int)(n:Nat)(es:List D0)(m:inG (r,(n:Int),es))(H:n<=40)(t:es.length<=1099511627776)(f:List Int)(A:∀ x∈f,L5 x)(G:f.length<=1000000)(v:Int)(o:0<=v/\v<(n:Int)):∀(d k fuel:Nat) (b:List (Option (List Int))) (u:List Int),gud n u->WOk n b u->k+d=f.length->d<fuel ->
  ∃ j,T2 f r (n:Int) es v fuel (k:Int) b u=some (j,D01 (r,(n:Int),es) v (f.drop k) u)/\WOk n j (D01 (r,(n:Int),es) v (f.drop k) u)
 |d,k,0,b,u,i,a,q,hf=>by omega
 |0,k,fuel+1,b,u,i,a,q,hf=>by
  rw[T2.eq_2,if_neg (by simp;omega),H1 (by omega)];exact⟨b,rfl,a⟩
 |d+1,k,fuel+1,b,u,i,a,q,hf=>by
  have w:k<f.length:=by omega
  have l:=a5 w
  have D:=A _ (List.mem_of_getElem? l)
  have s:=J1 l
  generalize f[k]=x at l D s
  have K:=o9 n u i.1 i.2
  have I:O0 (r,(n:Int),es) v x = -1∨(0<=O0 (r,(n:Int),es) v x/\O0 (r,(n:Int),es) v x<(n:Int)):=q02 m v x
  have F:=I0k i I
  have g:=λj h=>M0k r n es m H t f A G v o d (k+1) fuel j _ F h (by omega) (by omega)
  rw[T2.eq_2,if_pos (by simp;omega),s]
  simp only[U1 l,oB,V00 (r,(n:Int),es) v x D t,B0 (M9 m (show(n:Int)<=40 by omega) v x),V1 w (show f.length<=9223372036854775807 by omega),D01]
  generalize O0 (r,(n:Int),es) v x=y at *
  by_cases c1:0<=y
  ·have p:y<(n:Int):=by omega
   simp only[show decide (y ≥ 0)=true by simpa using c1,L1,giO a.len c1 p,oB,cond_true]
   by_cases c2:y∈u
   ·have : ¬ ((O7 b y).isNone=true):=λh=>(a.iff y c1 p).1 h c2
    have e:U05 u y=u:=if_neg λh=>h.2 c2
    rw[if_neg this]
    rw[e]at g ⊢
    exact g b a
   ·have:(O7 b y).isNone=true:=(a.iff y c1 p).2 c2
    have e:U05 u y=u ++ [y]:=if_pos ⟨c1,c2⟩
    have C:=a.short v
    rw[if_pos this,giO a.len o.1 o.2,oB,L0k (by omega),oB,B0 (by simp;omega),oB,B0 (by simp;omega),oB]
    rw[e]at g ⊢
    refine g _ ⟨by simp[a.len],λz h0 E=>?_,λz=>?_⟩
    ·rw[T9 c1 (by have:=a.len;omega) h0]
     by_cases c:z=y
     ·rw[if_pos c];simp[c]
     ·rw[if_neg c,a.iff z h0 E];simp[c]
    ·by_cases hz:0<=z
     ·rw[T9 c1 (by have:=a.len;omega) hz]
      by_cases c:z=y
      ·rw[if_pos c];simp;exact C
      ·rw[if_neg c];have:=a.short z;simp only[List.length_append];omega
     ·have J:O7 (b.set y.toNat (some ((O7 b v).getD [] ++ [x]))) z=O7 (b.set y.toNat (some ((O7 b v).getD [] ++ [x]))) 0:=by
       unfold O7;rw[show z.toNat=(0:Int).toNat by omega]
      rw[J,T9 c1 (by have:=a.len;omega) (iR 0)]
      by_cases c:(0:Int)=y
      ·rw[if_pos c];simp;exact C
      ·rw[if_neg c];have:=a.short 0;simp only[List.length_append];omega
  ·have e:U05 u y=u:=if_neg λh=>c1 h.1
   simp only[show decide (y ≥ 0)=false by simpa using c1,J2,oB,cond_false]
   rw[if_neg (by simp)]
   rw[e]at g ⊢
   exact g b a
theorem N0k(R n:Nat)(h:R<=900)(es:List D0)(d:inG ((R:Int),(n:Int),es))(m:n<=40)(k:es.length<=1099511627776):∀(f i fuel:Nat) (b:List (Option (List Int))) (u:List Int),gud n u->WOk n b u->i<=u.length->n+1<=i+f->f<fuel ->
  ∃ q,N4 (R:Int) (n:Int) es fuel (i:Int) b u=some (q,n8 ((R:Int),(n:Int),es) (j6 R 1) f i u)
 |f,i,0,b,u,a,g,l,j,hf=>by omega
 |0,i,fuel+1,b,u,a,g,l,j,hf=>by have:=o9 n u a.1 a.2;omega
 |f+1,i,fuel+1,b,u,a,g,l,j,hf=>by
  have y:=o9 n u a.1 a.2
  rw[N4.eq_2,oB,B0 (by omega),oB]
  by_cases hk:i<u.length
  ·have c:=a5 hk
   have o:=a.2 _ (List.mem_of_getElem? c)
   generalize u[i]=v at c o
   obtain⟨s,h0,p⟩:=M0k (R:Int) n es d m k (j6 R 1) (i0g R 1 (by omega)) (by rw[C01];omega) v o (j6 R 1).length 0 P0 b u a g (by omega) (j1 (by rw[C01];omega))
   rw[show((0:Nat):Int)=0 from rfl,List.drop_zero]at h0
   rw[List.drop_zero]at p
   obtain⟨t,e⟩:=Z01 ((R:Int),(n:Int),es) v (j6 R 1) u
   obtain⟨x,w⟩:=N0k R n h es d m k f (i+1) fuel s _ (y03 d v _ u a) p (by rw[e,List.length_append];omega) (by omega) (by omega)
   rw[if_pos (by simpa using hk),U1 c,oB,v0j R h,oB,h0,oB]
   simp only[V1 hk (show u.length<=9223372036854775807 by omega),w,n8,c]
   exact⟨_,rfl⟩
  ·have c:u[i]?=none:=List.getElem?_eq_none (by omega)
   rw[if_neg (by simpa using hk)]
   simp only[n8,c]
   exact⟨_,rfl⟩
theorem N0h(g:j0)(hf:H0 g=true):N7 g=some (o5 g):=by
 obtain⟨a,e,f,h⟩:=W0 hf
 have i:=S9 g (by omega)
 obtain⟨r,n,es⟩:=g
 simp only at e f h
 obtain⟨N,rfl⟩:∃ N:Nat,n=(N:Int):=⟨n.toNat,by omega⟩
 obtain⟨R,rfl⟩:∃ R:Nat,r=(R:Int):=⟨r.toNat,by omega⟩
 unfold N7
 have b:∀ x,O7 (List.replicate N (none:Option (List Int))) x=none:=λx=>by
  unfold O7
  rw[List.getD_eq_getElem?_getD,List.getElem?_replicate];split<;>rfl
 have j:WOk N ((List.replicate N (none:Option (List Int))).set (0:Int).toNat (some [])) [0]:=by
  refine⟨by simp,λx h0 a=>?_,λx=>?_⟩
  ·rw[T9 (iR 0) (by simp;omega) h0]
   by_cases c:x=0
   ·rw[if_pos c];simp[c]
   ·rw[if_neg c,b];simp[c]
  ·by_cases hz:0<=x
   ·rw[T9 (iR 0) (by simp;omega) hz]
    split
    ·simp
    ·rw[b];simp
   ·have:O7 ((List.replicate N (none:Option (List Int))).set (0:Int).toNat (some [])) x=O7 ((List.replicate N (none:Option (List Int))).set (0:Int).toNat (some [])) 0:=by
     unfold O7;rw[show x.toNat=(0:Int).toNat by omega]
    rw[this,T9 (iR 0) (by simp;omega) (iR 0),if_pos rfl];simp
 obtain⟨l,h0⟩:=N0k R N (by omega) es a (by omega) (by omega) (N+1) 0 P0 _ [0] ⟨by simp,λx d=>by simp at d;subst d;omega⟩ j (by simp) (by omega) (j1 (by omega))
 have k:gi (List.replicate N (none:Option (List Int))) 0=some none:=by
  rw[p0a (x:=none)];rw[List.getElem?_replicate,if_pos (by omega)]
 simp only[i,hf,oB,Bool.not_true,A7,Int.toNat_natCast]
 rw[if_neg (by simp),B0 (by omega),oB,k,oB]
 rw[show((0:Nat):Int)=0 from rfl]at h0
 rw[h0]
 rfl
def U2(g:j0):j0:=K7 g (o5 g)
theorem o0b(g:j0)(hf:H0 g=true):I6 g=some (U2 g):=by
 obtain⟨b,d,f,h⟩:=W0 hf
 have i:=S9 g (by omega)
 have j:=N0h g hf
 obtain⟨a,m⟩:=d05 hf
 have k:=o9 _ _ a.1 a.2
 obtain⟨r,n,es⟩:=g
 simp only at d f h
 obtain⟨N,rfl⟩:∃ N:Nat,n=(N:Int):=⟨n.toNat,by omega⟩
 simp only[Int.toNat_natCast]at a k
 have l:=u0j r N es (o5 (r,(N:Int),es)) (λe c=>⟨(b e c).1,(b e c).2.1⟩) a.2 (by omega) (by omega) (by omega)
 unfold I6
 simp only[i,hf,oB,Bool.not_true,j,l]
 rfl
theorem p0b(g:j0)(hf:H0 g=true):H6 g=some (U2 g):=by
 obtain⟨l,d,e,f⟩:=W0 hf
 have i:V0 g=true:=by
  unfold H0 at hf;exact(Bool.and_eq_true _ _▸hf).1
 have j:=M0h g hf
 obtain⟨a,b⟩:=d05 hf
 have c:=o9 _ _ a.1 a.2
 obtain⟨r,n,es⟩:=g
 simp only at d e f
 obtain⟨N,rfl⟩:∃ N:Nat,n=(N:Int):=⟨n.toNat,by omega⟩
 simp only[Int.toNat_natCast]at a c
 have k:=e0d r N es (o5 (r,(N:Int),es)) i a.2 a.1 b c
 unfold H6
 simp only[oB,j,k]
 rw[if_neg (by simp;intro h;rw[h]at b;simp at b)]
 rfl
def lf(a:Nat->Bool):Nat->Nat->Option Nat
 |0,v=>none
 |d+1,v=>bif a v then some v else lf a d (v+1)
theorem C06{a:Nat->Bool}:∀(d v k:Nat),lf a d v=some k->v<=k/\k<v+d
 |0,v,k,h=>by cases h
 |d+1,v,k,h=>by
  unfold lf at h
  cases hb:a v
  ·rw[hb]at h;have:=C06 d (v+1) k h;omega
  ·rw[hb]at h;cases h;omega
theorem i0d{a b:Nat->Bool}:∀(d v:Nat),(∀ k,v<=k->k<v+d->a k=b k)->lf a d v=lf b d v
 |0,v,h=>rfl
 |d+1,v,h=>by unfold lf;rw[h v (Nat.le_refl _) (by omega),i0d d (v+1) λk c e=>h k (by omega) (by omega)]
def w0j(es:List D0):List Int:=itS es (es.length+1) [0]
def p08(es:List D0)(v:Nat):Bool:=decide (B01 (v:Int) es<2) || !decide ((v:Int)∈w0j es)
def o8(g:j0):Option Nat:=lf (p08 g.2.2) (g.2.1.toNat-1) 1
theorem x0j(g:j0)(b:V0 g=true):d9 g 0=some (w0j g.2.2)/\(w0j g.2.2).length<=100000:=by
 obtain⟨i,d,e,a⟩:=Y2 b
 have h:=p7 g (by omega)
 obtain⟨r,n,es⟩:=g
 simp only at d e a
 unfold d9 w0j
 have c:=a0d es a (es.length+1) 0 P0 [0] (by omega) (j1 (by omega)) (by simp)
 have f:=B0k es (es.length+1) [0]
 refine⟨?_,?_⟩
 ·rw[show((0:Nat):Int)=0 from rfl]at c
  simp only[h,b,oB,Bool.not_true,Bool.not_false,L1,U03,inR,w64 (show -9223372036854775808<=n-1 by omega) (show n-1<=9223372036854775807 by omega)]
  rw[if_neg (by simp;omega),c];rfl
 ·have:(es.length+1)*(2*es.length)<=121*240:=Nat.mul_le_mul (by omega) (by omega)
  simp only[List.length_singleton]at f
  simp only
  omega
theorem B0n(r:Int)(n:Nat)(es:List D0)(e:es.length<=1000)(u:List Int)(g:u.length<=100000)(f:n<=40):∀(d v fuel:Nat),v+d=n∨(d=0/\n<=v)->v<=1000->d<fuel ->
  J7 (n:Int) r es u fuel (v:Int)=some (match lf (λv=>decide (B01 (v:Int) es<2) || !decide ((v:Int)∈u)) d v with|some k => .inl (k:Int)|none => .inr ())
 |d,v,0,b,c,hf=>by omega
 |0,v,fuel+1,b,c,hf=>by
  rw[J7.eq_2,if_neg (by simp;omega)];rfl
 |d+1,v,fuel+1,b,c,hf=>by
  have h:=B0n r n es e u g f d (v+1) fuel (by omega) (by omega) (by omega)
  have i:=e0g (v:Int) es
  rw[J7.eq_2,if_pos (by simp;omega),R0e (r,(n:Int),es) _ (by simp only;omega),oB,B0 (c64 (by simp only;omega) (by simp only;omega)),oB,V1 (show v<10000 by omega) (by omega)]
  unfold lf
  by_cases c1:B01 (v:Int) es<2
  ·have a:decide (((B01 (v:Int) es:Nat):Int)<2)=true:=decide_eq_true (by omega)
   simp only[a,Bool.not_true,J2,oB,cond_true,if_true,decide_eq_true c1,Bool.true_or]
  ·have a:decide (((B01 (v:Int) es:Nat):Int)<2)=false:=decide_eq_false (by omega)
   simp only[a,Bool.not_false,L1,o07 u _ (show u.length<=9223372036854775807 by omega),oB,cond_false,decide_eq_false c1,Bool.false_or]
   by_cases c2:(v:Int)∈u
   ·simp only[decide_eq_true c2,Bool.not_true,Bool.false_eq_true,if_false,cond_false];exact h
   ·simp only[decide_eq_false c2,Bool.not_false,if_true,cond_true]
theorem C0n(g:j0)(c:V0 g=true):D00 g=some (match o8 g with|some k=>(k:Int)|none => -1):=by
 obtain⟨a,b⟩:=x0j g c
 obtain⟨i,d,e,f⟩:=Y2 c
 obtain⟨r,n,es⟩:=g
 simp only at d e f a b
 obtain⟨N,rfl⟩:∃ N:Nat,n=(N:Int):=⟨n.toNat,by omega⟩
 unfold D00 o8
 have h:=B0n r N es (by omega) (w0j es) b (by omega) (N-1) 1 P0 (by omega) (by omega) (j1 (by omega))
 simp only[a,oB,Int.toNat_natCast]
 rw[show(1:Int)=((1:Nat):Int) from rfl,h]
 rw[show(λv:Nat=>decide (B01 (v:Int) es<2) || !decide ((v:Int)∈w0j es))=p08 es from rfl]
 cases lf (p08 es) (N-1) 1<;>rfl
theorem j0g(r:Int)(n:Nat)(es:List D0)(o:es.length<=1000)(a:List Bool)(g:a.length=n)(p:n<=40):∀(d v fuel:Nat),1<=v->v+d=n∨(d=0/\n<=v)->v<=1000->d+1<fuel ->
  R3 (n:Int) r es a fuel 0 (v:Int)=some (match lf (λv=>decide (B01 (v:Int) es<2) || !S8 a (v:Int)) d v with|some k=>(k:Int)|none=>0)
 |d,v,0,f,h,j,hf=>by omega
 |0,v,fuel+1,f,h,j,hf=>by
  have e:decide ((v:Int)<(n:Int))=false:=decide_eq_false (by omega)
  rw[R3.eq_2,if_neg (by rw[e];simp)];rfl
 |d+1,v,fuel+1,f,h,j,hf=>by
  have q:=j0g r n es o a g p d (v+1) fuel (by omega) (by omega) (by omega) (by omega)
  have s:=e0g (v:Int) es
  have e:decide ((v:Int)<(n:Int))=true:=decide_eq_true (by omega)
  have i:∀ w:Int,R3 (n:Int) r es a fuel (v:Int) w=some (v:Int):=λw=>by
   obtain _|fuel:=fuel
   ·omega
   ·have l:decide ((v:Int)=0)=false:=decide_eq_false (by omega)
    have m:∀ b:Bool,(bif b then false else false)=false:=λb=>by cases b<;>rfl
    rw[R3.eq_2,if_neg (by rw[l,m];simp)]
  rw[R3.eq_2,if_pos (by rw[e];rfl),S0l (r,(n:Int),es) _ (by simp only;omega),oB,B0 (c64 (by simp only;omega) (by simp only;omega)),oB,V1 (show v<10000 by omega) (by omega)]
  unfold lf
  by_cases c1:B01 (v:Int) es<2
  ·have c:decide (((B01 (v:Int) es:Nat):Int)<2)=true:=decide_eq_true (by omega)
   simp only[c,Bool.not_true,J2,oB,cond_true,if_true,decide_eq_true c1,Bool.true_or,i]
  ·have c:decide (((B01 (v:Int) es:Nat):Int)<2)=false:=decide_eq_false (by omega)
   simp only[c,Bool.not_false,L1,giB g (show(0:Int)<=(v:Int) by omega) (show(v:Int)<(n:Int) by omega),oB,cond_false,decide_eq_false c1,Bool.false_or]
   cases hb:S8 a (v:Int)
   ·simp only[Bool.not_false,if_true,cond_true,i]
   ·simp only[Bool.not_true,Bool.false_eq_true,if_false,cond_false];exact q
def wo(g:Nat):Nat->Nat->List Int
 |0,k=>[]
 |d+1,k=>if k=g then wo g d (k+1)else(k:Int)::wo g d (k+1)
theorem k0g(g:Nat):∀(d k:Nat),(wo g d k).length=d-(if k<=g/\g<k+d then 1 else 0)
 |0,k=>by simp[wo]
 |d+1,k=>by
  have a:=k0g g d (k+1)
  unfold wo
  by_cases c:k=g
  ·rw[if_pos c,a,if_neg (by omega),if_pos (by omega)];omega
  ·rw[if_neg c,List.length_cons,a]
   by_cases c2:k+1<=g/\g<k+1+d
   ·rw[if_pos c2,if_pos (by omega)];omega
   ·rw[if_neg c2,if_neg (by omega)];omega
theorem O0k(g n:Nat):∀(d k:Nat),k+d<=n->inV n (wo g d k)
 |0,k,h=>λx a=>nomatch a
 |d+1,k,h=>by
  have b:=O0k g n d (k+1) (by omega)
  unfold wo
  split
  ·exact b
  ·intro x a
   rcases List.mem_cons.1 a with rfl|a
   ·omega
   ·exact b x a
theorem l0g(n g:Nat)(j:n<=1000):∀(d k fuel:Nat) (acc:List Int),k+d=n->d<fuel->acc.length<=k ->
  c5 (n:Int) (g:Int) fuel (k:Int) acc=some (acc++wo g d k)
 |d,k,0,acc,b,hf,a=>by omega
 |0,k,fuel+1,acc,b,hf,a=>by
  rw[c5.eq_2,if_neg (by simp;omega)];simp[wo]
 |d+1,k,fuel+1,acc,b,hf,a=>by
  have f:=λi h=>l0g n g j d (k+1) fuel i (by omega) (by omega) h
  rw[c5.eq_2,if_pos (by simp;omega),V1 (show k<10000 by omega) (by omega)]
  unfold wo
  by_cases c:k=g
  ·have e:decide ((k:Int)=(g:Int))=true:=decide_eq_true (by omega)
   rw[e,if_neg (by simp),if_pos c,f _ (by omega)]
  ·have e:decide ((k:Int)=(g:Int))=false:=decide_eq_false (by omega)
   rw[e,if_pos (show(!false)=true from rfl),if_neg c,B0 (by simp;omega),oB,f _ (by simp;omega)]
   simp
theorem m0g(n:Nat)(f:n<=1000):∀(d k fuel:Nat) (acc:List Int),k+d=n->d<fuel->acc.length=k ->
  ∃ u,M5 (n:Int) fuel (k:Int) acc=some u/\u.length=n
 |d,k,0,acc,b,hf,a=>by omega
 |0,k,fuel+1,acc,b,hf,a=>by
  rw[M5.eq_2,if_neg (by simp;omega)];exact⟨_,rfl,by omega⟩
 |d+1,k,fuel+1,acc,b,hf,a=>by
  obtain⟨u,c,e⟩:=m0g n f d (k+1) fuel (acc ++ [(k:Int)]) (by omega) (by omega) (by simp;omega)
  rw[M5.eq_2,if_pos (by simp;omega),V1 (show k<10000 by omega) (by omega),B0 (by simp;omega),oB,c]
  exact⟨u,rfl,e⟩
theorem j0d{a:Type}{xs:List a}{k:Nat}(h:k<=xs.length):x02 xs 0 (k:Int)=some (xs.take k):=by
 unfold x02
 rw[if_pos (by omega)];rfl
theorem P0k:∀(n fuel:Nat) (left:List Int) (r:Int) (es:List D0),1<=n->n<=40->inN n es->es.length<=120->left.length=n->n<fuel ->
  ∃(a:j0) (e:List Int),d5 fuel left r (n:Int) es=some (.inl (a,e))/\a.2.1<=(n:Int)/\(a.2.1=(n:Int)↔lf (p08 es) (n-1) 1=none)
 |n,0,left,r,es,f,g,b,u,w,hf=>by omega
 |n,fuel+1,left,r,es,f,g,b,u,w,hf=>by
  obtain⟨c,q,A,s⟩:=J0h r n es b (by omega) f (by omega)
  have o:=j0g r n es (by omega) c A g (n-1) 1 P0 (Nat.le_refl _) (by omega) (by omega) (j1 (by omega))
  have t:lf (λv=>decide (B01 (v:Int) es<2) || !S8 c (v:Int)) (n-1) 1=lf (p08 es) (n-1) 1:=i0d _ _ λk E F=>by
   unfold p08
   have:=s (k:Int) (by omega) (by omega)
   have i:=I05 es 0 (k:Int)
   congr 2
   cases hb:S8 c (k:Int)
   ·symm;exact decide_eq_false λh=>by rw[this.2 (i.1 h)]at hb;cases hb
   ·symm;exact decide_eq_true (i.2 (this.1 hb))
  rw[t]at o
  rw[d5.eq_2,q,oB,show(1:Int)=((1:Nat):Int) from rfl,o,oB]
  cases hlf:lf (p08 es) (n-1) 1 with
  |none =>
   exact⟨(r,(n:Int),es),left,by rw[if_pos (by rfl)],iR _,by simp⟩
  |some k =>
   have D:=C06 _ _ _ hlf
   have p:decide ((k:Int)=0)=false:=decide_eq_false (by omega)
   have j:=O0k k n n 0 (by omega)
   have d:=k0g k n 0
   rw[if_pos (by omega)]at d
   have m:=l0g n k (by omega) n 0 P0 [] (by omega) (j1 (by omega)) (Nat.le_refl _)
   rw[show((0:Nat):Int)=0 from rfl,List.nil_append]at m
   have x:=u0j r n es (wo k n 0) b j (by omega) (by omega) (by omega)
   have y:=o08 (r,(n:Int),es) (wo k n 0)
   have l:=Y0e (r:=r) j b
   have z:IntKind.i64.wrap ((k:Int)+((1:Nat):Int))=((k+1:Nat):Int):=by rw[w64 (by omega) (by omega)];rfl
   obtain⟨a,e,C,G,H⟩:=P0k (n-1) fuel (left.take k++left.drop (k+1)) r (K7 (r,(n:Int),es) (wo k n 0)).2.2 (by omega) (by omega) (by rw[d]at l;exact l) (by simp only at y;omega) (by simp only[List.length_append,List.length_take,List.length_drop];omega) (by omega)
   refine⟨a,e,?_,by omega,?_⟩
   ·simp only[p,Bool.false_eq_true,if_false,m,oB,x]
    rw[show K7 (r,(n:Int),es) (wo k n 0)=(r,((n-1:Nat):Int),(K7 (r,(n:Int),es) (wo k n 0)).2.2) by rw[←d];rfl]
    simp only[z]
    rw[j0d (by omega),oB,S01 (by omega),oB,B0 (by simp only[List.length_take,List.length_drop];omega),oB,C]
   ·constructor
    ·intro h;omega
    ·intro h;cases h
theorem y0j(g:j0)(i:V0 g=true):∃(a:j0) (b:List Int),U6 g=some (a,b)/\(a.2.1=g.2.1↔o8 g=none):=by
 obtain⟨d,k,l,f⟩:=Y2 i
 have p:=K9 g (by omega)
 have m:=X00 g (by omega)
 obtain⟨r,n,es⟩:=g
 simp only at k l f
 obtain⟨N,rfl⟩:∃ N:Nat,n=(N:Int):=⟨n.toNat,by omega⟩
 have o:inN N es:=λe h=>⟨(d e h).1,(d e h).2.1⟩
 obtain⟨u,c,j⟩:=m0g N (by omega) N 0 P0 [] (by omega) (j1 (by omega)) rfl
 obtain⟨a,b,q,t,s⟩:=P0k N P0 u r es (by omega) (by omega) o f j (j1 (by omega))
 refine⟨a,b,?_,?_⟩
 ·unfold U6
  rw[show((0:Nat):Int)=0 from rfl]at c
  simp only[m,oB,p,i,Bool.not_true,Bool.false_eq_true,if_false,c,q,V7]
 ·simp only[o8,Int.toNat_natCast];exact s
def L3(g:j0):Bool:=H0 g&&((o8 g).isNone&&S0e (U2 g) g)
theorem J3{g:j0}(h:H0 g=true):V0 g=true:=by
 unfold H0 at h;exact(Bool.and_eq_true _ _▸h).1
theorem Z0e{g:j0}(hf:H0 g=true):(U2 g).2.2.length<=120:=by
 have:=o08 g (o5 g)
 have:=(W0 hf).2.2.2
 unfold U2;omega
theorem r02(g:j0)(j:g.2.2.length<=140737488355328):r7 g=some (L3 g):=by
 have b:=S9 g j
 unfold L3
 by_cases hf:H0 g=true
 ·obtain⟨e,t,d,a⟩:=y0j g (J3 hf)
  have f:=o0b g hf
  have h:=T0l (U2 g) g (by have:=Z0e hf;omega)
  obtain⟨r,n,es⟩:=g
  obtain⟨u,m,s⟩:=e
  unfold r7
  simp only at a
  generalize U2 (r,n,es)=C at *
  obtain⟨o,p,q⟩:=C
  simp only[b,hf,oB,Bool.not_true,Bool.false_eq_true,if_false,d,f]
  by_cases c:m=n
  ·have:=a.1 c
   simp only[decide_eq_true c,L1,oB,h,cond_true,this,Option.isNone_none,Bool.true_and]
  ·have l:(o8 (r,n,es)).isNone=false:=by
    cases hq:o8 (r,n,es)with
    |none=>exact absurd (a.2 hq) c
    |some k=>rfl
   simp only[decide_eq_false c,J2,oB,cond_false,l,Bool.false_and,Bool.and_false]
 ·have i:H0 g=false:=Bool.eq_false_iff.2 hf
  obtain⟨r,n,es⟩:=g
  unfold r7
  simp only[b,i,oB,Bool.not_false,if_true,Bool.false_and]
theorem u09(g:j0)(j:g.2.2.length<=140737488355328):J9 g=some (L3 g):=by
 have a:=i9 g j
 unfold L3
 by_cases hf:H0 g=true
 ·have f:=C0n g (J3 hf)
  have d:=p0b g hf
  have e:=U0l (U2 g) g (by have:=Z0e hf;omega)
  obtain⟨p,q,c,s⟩:=W0 hf
  obtain⟨r,n,es⟩:=g
  unfold J9
  generalize U2 (r,n,es)=C at *
  obtain⟨l,m,o⟩:=C
  simp only[a,hf,oB,L1,f,cond_true]
  cases hq:o8 (r,n,es)with
  |none =>
   simp only[B0 (show J0 (-1) by decide),oB,show decide ((-1:Int)<0)=true from rfl,L1,d,e,cond_true,Option.isNone_none,Bool.true_and]
  |some k =>
   have i:=C06 _ _ _ hq
   simp only at c
   simp only at i
   have b:decide ((k:Int)<0)=false:=decide_eq_false (by omega)
   simp only[B0 (show J0 (k:Int) from c64 (by omega) (by omega)),oB,b,J2,cond_false,Option.isNone_some,Bool.false_and,Bool.and_false]
 ·have h:H0 g=false:=Bool.eq_false_iff.2 hf
  obtain⟨r,n,es⟩:=g
  unfold J9
  simp only[a,h,oB,J2,B0 (show J0 0 by decide),cond_false,Bool.false_and]
def b0q(l:M0b):Prop:=l.length<=140737488355328/\∀ e∈l,e.1.size<=140737488355328/\e.2.2.2.length<=140737488355328
def D0n(l:M0b):Prop:=l.length<=1048576/\∀ e∈l,e.1.size<=1048576/\e.2.2.2.length<=1048576
theorem D0n.ok{l:M0b}(h:D0n l):b0q l:=⟨by have:=h.1;omega,λe a=>by have:=h.2 e a;omega⟩
theorem O0h{e:Type}{c:e->e->Int}(h:n9 c):∀ {l:List e},(∀ i x y,l[i]?=some x->l[i+1]?=some y->c x y<0)->Asc c l
 | [],_=>List.Pairwise.nil
 | [x],_=>List.pairwise_singleton _ _
 |x::y::l,f=>by
  have j:Asc c (y::l):=O0h h λi a b k m=>f (i+1) a b (by simpa using k) (by simpa using m)
  have g:=f 0 x y rfl rfl
  refine List.pairwise_cons.2 ⟨λz d=>?_,j⟩
  rcases List.mem_cons.1 d with rfl|d
  ·exact g
  ·exact h.trans _ _ _ g ((List.pairwise_cons.1 j).1 z d)
theorem E0n{d:Type}{e:d->d->Int}:∀ {l:List d},Asc e l->∀ {i:Nat} {x y:d},l[i]?=some x->l[i+1]?=some y->e x y<0
 | [],_,i,x,y,b,_=>by simp at b
 |a::l,h,0,x,y,b,c=>by
  simp at b c;subst b
  exact(List.pairwise_cons.1 h).1 y (List.mem_of_getElem? c)
 |a::l,h,i+1,x,y,b,c=>E0n (List.pairwise_cons.1 h).2 (i:=i) (by simpa using b) (by simpa using c)
theorem F0n{r a:Int}{es:List D0}:∀ {d k:Nat},(∀ i,k<=i->i<k+d->q0n r a es i=false)->okE r a es d k=true
 |0,k,h=>rfl
 |d+1,k,h=>by
  simp only[okE,Bool.and_eq_true,Bool.not_eq_true']
  exact⟨h k (Nat.le_refl _) (by omega),F0n λi b c=>h i (by omega) (by omega)⟩
theorem a02(g:j0):V0 g=true↔inG g/\(1<=g.1/\g.1<=3)/\(1<=g.2.1/\g.2.1<=40)/\g.2.2.length<=120/\Asc N0 g.2.2:=by
 constructor
 ·intro h
  obtain⟨m,c,d,k⟩:=Y2 h
  refine⟨m,c,d,k,O0h I5 λi x y a b=>?_⟩
  simp only[V0,Bool.and_eq_true]at h
  have l:=p0j h.1.1.1 (i+1) (Nat.zero_le _) (by have:=(List.getElem?_eq_some_iff.1 b).1;omega)
  rw[k09 b]at l
  simp only[Nat.add_sub_cancel,a,Bool.or_eq_false_iff]at l
  have:=l.2
  simp only[show decide (0<i+1)=true by simp,Bool.true_and,decide_eq_false_iff_not]at this
  have e:N0c x y=N0 x y:=rfl
  omega
 ·rintro⟨m,c,d,k,o⟩
  obtain⟨r,n,es⟩:=g
  simp only at c d k o
  simp only[V0,inR,Bool.and_eq_true,decide_eq_true_eq]
  refine⟨⟨⟨F0n λi _ s=>?_,c⟩,d⟩,k⟩
  have a:=a5 (show i<es.length by omega)
  generalize es[i]=e at a
  rw[k09 a]
  have q:=m e (List.mem_of_getElem? a)
  simp only at q
  simp only[Bool.or_eq_false_iff,Bool.not_eq_false',D04,inR,Bool.and_eq_true,decide_eq_true_eq]
  rw[w64 (by omega) (by omega)]
  refine⟨⟨⟨⟨by omega,by omega⟩,by omega,by omega⟩,by omega,by omega⟩,?_⟩
  cases i with
  |zero=>rfl
  |succ j =>
   have b:=a5 (show j<es.length by omega)
   generalize es[j]=f at b
   have:=E0n o b a
   simp only[Nat.add_sub_cancel,b]
   have p:N0c f e=N0 f e:=rfl
   simp[p];omega
theorem v09{r:Int}{n:Int}{es:List D0}(d:1<=r/\r<=3)(c:1<=n/\n<=40)(f:es.length<=120)(b:inG (r,n,es)):V0 (r,n,G3 N0 [] es)=true:=by
 refine(a02 _).2 ⟨λe a=>b e ?_,d,c,?_,O01 I5 _ _ List.Pairwise.nil⟩
 ·rcases(Q7 I5 e es []).1 a with h|h
  ·simp at h
  ·exact h
 ·have:=n00 es []
  simp only[List.length_nil]at this
  simp only;omega
def w09(a b:D0):List (Int×Int) :=
 bif decide (a.2.1=b.2.1)then(bif decide (a.1=b.1)then [(if b.2.2<a.2.2 then b.2.2 else a.2.2,if b.2.2>a.2.2 then b.2.2 else a.2.2)]else [])++(bif decide (a.2.2=b.2.2)then [(if b.1<a.1 then b.1 else a.1,if b.1>a.1 then b.1 else a.1)]else [])else []
def b02(a:D0):List D0->List (Int×Int)
 | []=>[]
 |b::r=>w09 a b++b02 a r
def T7:List D0->List (Int×Int)
 | []=>[]
 |a::r=>b02 a r++T7 r
theorem V0l(a b:D0):(w09 a b).length<=2:=by
 unfold w09
 cases decide (a.2.1=b.2.1)<;>cases decide (a.1=b.1)<;>cases decide (a.2.2=b.2.2)<;>simp
theorem v0a(a:D0):∀ l,(b02 a l).length<=2*l.length
 | []=>by simp[b02]
 |b::r=>by have:=V0l a b;have:=v0a a r;simp only[b02,List.length_append,List.length_cons];omega
def mvV(f:Int×Int)(v:Int):Int:=if v=f.2 then f.1 else if v>f.2 then v-1 else v
def mvE(f:Int×Int)(e:D0):D0:=(mvV f e.1,e.2.1,mvV f e.2.2)
def H00(g:j0)(f:Int×Int):j0:=(g.1,g.2.1-1,G3 N0 [] (g.2.2.map (mvE f)))
def okF(g:j0)(f:Int×Int):Prop:=0<=f.1/\f.1<f.2/\f.2<g.2.1
theorem r04{g:j0}{f:Int×Int}(k:V0 g=true)(hf:okF g f):V0 (H00 g f)=true:=by
 obtain⟨l,m,q,n,_⟩:=(a02 g).1 k
 obtain⟨o,f2,f3⟩:=hf
 refine v09 m ⟨by omega,by omega⟩ (by simpa using n) λe i=>?_
 obtain⟨h,j,rfl⟩:=List.mem_map.1 i
 obtain⟨b,c,d⟩:=l h j
 have a:∀ v:Int,0<=v/\v<g.2.1->0<=mvV f v/\mvV f v<g.2.1-1:=λv p=>by
  unfold mvV;split
  ·omega
  ·split<;>omega
 exact⟨a _ b,a _ c,d⟩
theorem P0h{g:j0}(j:inG g){a:D0}(m:a∈g.2.2):∀ {l:List D0},(∀ b∈l,b∈g.2.2/\a≠b)->∀ f∈b02 a l,okF g f
 | [],_,f,hf=>by simp[b02]at hf
 |b::r,h,f,hf=>by
  rcases List.mem_append.1 (show f∈w09 a b++b02 a r from hf)with hf|hf
  ·have s:=j b (h b mS).1
   have q:=j a m
   have u:=(h b mS).2
   obtain⟨c,n,d⟩:=a
   obtain⟨e,p,i⟩:=b
   simp only at q s
   unfold w09 at hf
   simp only at hf
   by_cases c1:n=p
   ·have k : ¬ (c=e/\d=i):=λ⟨x,y⟩=>u (by rw[x,c1,y])
    simp only[c1,decide_true,cond_true,List.mem_append]at hf
    rcases hf with hf|hf
    ·by_cases c2:c=e
     ·simp only[c2,decide_true,cond_true,List.mem_singleton]at hf
      subst hf
      have:d≠i:=λy=>k ⟨c2,y⟩
      unfold okF
      simp only
      split<;>split<;>omega
     ·simp[c2]at hf
    ·by_cases c2:d=i
     ·simp only[c2,decide_true,cond_true,List.mem_singleton]at hf
      subst hf
      have:c≠e:=λy=>k ⟨y,c2⟩
      unfold okF
      simp only
      split<;>split<;>omega
     ·simp[c2]at hf
   ·simp[c1]at hf
  ·exact P0h j m (λo t=>h o (mC _ t)) f hf
theorem Q0h{g:j0}(i:inG g):∀ {l:List D0},(∀ b∈l,b∈g.2.2)->Asc N0 l->∀ f∈T7 l,okF g f
 | [],_,_,f,hf=>by simp[T7]at hf
 |a::r,h,d,f,hf=>by
  rcases List.mem_append.1 (show f∈b02 a r++T7 r from hf)with hf|hf
  ·refine P0h i (h a mS) (λb c=>⟨h b (mC _ c),λe=>?_⟩) f hf
   have:=(List.pairwise_cons.1 d).1 b c
   rw[e,I5.refl]at this;omega
  ·exact Q0h i (λb c=>h b (mC _ c)) (List.pairwise_cons.1 d).2 f hf
theorem W03{g:j0}(a:V0 g=true):∀ f∈T7 g.2.2,okF g f:=by
 obtain⟨b,_,_,_,c⟩:=(a02 g).1 a
 exact Q0h b (λ_ h=>h) c
def I00:Nat->j0->j0×List (Int×Int)
 |0,g=>(g,[])
 |n+1,g=>match T7 g.2.2 with
  | []=>(g,[])
  |f::_=>((I00 n (H00 g f)).1,f::(I00 n (H00 g f)).2)
def T8(g:j0):j0×List (Int×Int):=bif V0 g then I00 40 g else(g,[])
theorem q0b:∀(n:Nat) {g:j0},V0 g=true->V0 (I00 n g).1=true
 |0,g,h=>h
 |n+1,g,h=>by
  unfold I00
  cases e:T7 g.2.2 with
  |nil=>exact h
  |cons f l=>exact q0b n (r04 h (W03 h f (by rw[e];exact mS)))
theorem q08:∀(n:Nat) {g:j0},V0 g=true->g.2.1<=(n:Int)+1->T7 (I00 n g).1.2.2 = []
 |0,g,h,a=>by
  cases e:T7 g.2.2 with
  |nil=>exact e
  |cons f l =>
   have:=W03 h f (by rw[e];exact mS)
   unfold okF at this
   omega
 |n+1,g,h,a=>by
  unfold I00
  cases e:T7 g.2.2 with
  |nil=>exact e
  |cons f l=>exact q08 n (r04 h (W03 h f (by rw[e];exact mS))) (by show g.2.1-1<=_;omega)
theorem W0l(a b:D0):w09 a b = []↔t03 a b=false:=by
 unfold w09 t03
 cases decide (a.2.1=b.2.1)<;>cases decide (a.1=b.1)<;>cases decide (a.2.2=b.2.2)<;>simp
theorem a0f(a:D0):∀ l,b02 a l = []↔∀ b∈l,t03 a b=false
 | []=>by simp[b02]
 |b::r=>by
  rw[b02,List.append_eq_nil_iff,W0l,a0f a r]
  simp
theorem w0a:∀ l,T7 l = []↔l.Pairwise λa b=>t03 a b=false
 | []=>by simp[T7]
 |a::r=>by rw[T7,List.append_eq_nil_iff,a0f,w0a r,List.pairwise_cons]
theorem J05(g:j0):H0 g=true↔V0 g=true/\T7 g.2.2 = []:=by
 unfold H0
 rw[Bool.and_eq_true,r0a,w0a]
theorem D06{g:j0}(h:V0 g=true):H0 (T8 g).1=true:=by
 have a:=(Y2 h).2.2.1
 unfold T8
 rw[h]
 exact(J05 _).2 ⟨q0b 40 h,q08 40 h (by omega)⟩
theorem b0f(l:List D0)(a c e:Int)(s:l.length<=1000):∀(d k fuel:Nat) (acc:List B5),k+d=l.length->d<fuel->acc.length+2*d<=4000000 ->
  T4 l c a e fuel (k:Int) acc=some (acc++b02 (a,c,e) (l.drop k))
 |d,k,0,acc,m,hf,j=>by omega
 |0,k,fuel+1,acc,m,hf,j=>by
  rw[T4.eq_2,if_neg (by simp;omega),H1 (by omega)]
  simp[b02]
 |d+1,k,fuel+1,acc,m,hf,j=>by
  have n:k<l.length:=by omega
  have i:=a5 n
  generalize l[k]=b at i
  obtain⟨o,p,q⟩:=b
  have g:∀ f:List B5,f.length+2*d<=4000000->T4 l c a e fuel ((k+1:Nat):Int) f=some (f++b02 (a,c,e) (l.drop (k+1))):=λf h=>b0f l a c e s d (k+1) fuel f (by omega) (by omega) h
  rw[T4.eq_2,if_pos (by simp;omega),U1 i,oB,V1 n (by omega),J1 i]
  simp only[b02,w09]
  cases decide (c=p)
  ·simp only[Bool.not_false,if_true,cond_false,List.nil_append]
   exact g acc (by omega)
  ·cases decide (a=o)<;>cases decide (e=q)
   all_goals simp only[Bool.not_true,Bool.false_eq_true,if_false,if_true,cond_true,cond_false,List.nil_append,List.append_nil]
   ·exact g acc (by omega)
   ·rw[B0 (by simp;omega),oB,g _ (by simp;omega)];simp
   ·rw[B0 (by simp;omega),oB,g _ (by simp;omega)];simp
   ·rw[B0 (by simp;omega),oB,B0 (by simp;omega),oB,g _ (by simp;omega)];simp
theorem c0f(l:List D0)(m:l.length<=1000):∀(d k fuel:Nat) (acc:List B5),k+d=l.length->d<fuel->acc.length+2000*d<=3000000 ->
  p8 l fuel (k:Int) acc=some (acc++T7 (l.drop k))
 |d,k,0,acc,h,hf,g=>by omega
 |0,k,fuel+1,acc,h,hf,g=>by
  rw[p8.eq_2,if_neg (by simp;omega),H1 (by omega)]
  simp[T7]
 |d+1,k,fuel+1,acc,h,hf,g=>by
  have i:k<l.length:=by omega
  have a:=a5 i
  generalize l[k]=b at a
  obtain⟨c,e,f⟩:=b
  have h0:=b0f (l.drop (k+1)) c e f (by simp;omega) (l.length-(k+1)) 0 P0 acc (by simp) (j1 (by omega)) (by omega)
  have j:=v0a (c,e,f) (l.drop (k+1))
  simp only[List.length_drop]at j
  rw[p8.eq_2,if_pos (by simp;omega),U1 a,oB]
  simp only[V1 i (show l.length<=9223372036854775807 by omega)]
  rw[S01 (by omega),oB,show(0:Int)=((0:Nat):Int) from rfl,h0,oB,c0f l m d (k+1) fuel _ (by omega) (by omega) (by simp only[List.length_append,List.drop_zero,List.length_drop]at j ⊢;omega),J1 a,T7]
  simp
theorem d0f(l:List D0)(u:l.length<=1000)(i:Nat)(a c e:Int)(o:l[i]?=some (a,c,e)):∀(d k fuel:Nat) (acc:List B5),k+d=l.length->d<fuel->acc.length+2*d<=4000000 ->
  Y3 l (i:Int) fuel (k:Int) acc=some (acc++b02 (a,c,e) (l.drop k))
 |d,k,0,acc,n,hf,m=>by omega
 |0,k,fuel+1,acc,n,hf,m=>by
  rw[Y3.eq_2,if_neg (by simp;omega),H1 (by omega)]
  simp[b02]
 |d+1,k,fuel+1,acc,n,hf,m=>by
  have p:k<l.length:=by omega
  have j:=a5 p
  generalize l[k]=b at j
  obtain⟨q,s,t⟩:=b
  have g:∀ f:List B5,f.length+2*d<=4000000->Y3 l (i:Int) fuel ((k+1:Nat):Int) f=some (f++b02 (a,c,e) (l.drop (k+1))):=λf h=>d0f l u i a c e o d (k+1) fuel f (by omega) (by omega) h
  rw[Y3.eq_2,if_pos (by simp;omega),U1 o,oB]
  simp only[]
  rw[U1 j,oB,V1 p (by omega),J1 j]
  simp only[b02,w09]
  cases decide (c=s)
  ·simp only[Bool.false_eq_true,if_false,cond_false,List.nil_append]
   exact g acc (by omega)
  ·cases decide (a=q)<;>cases decide (e=t)
   all_goals simp only[Bool.not_true,Bool.false_eq_true,if_false,if_true,cond_true,cond_false,List.nil_append,List.append_nil]
   ·exact g acc (by omega)
   ·rw[B0 (by simp;omega),oB,g _ (by simp;omega)];simp
   ·rw[B0 (by simp;omega),oB,g _ (by simp;omega)];simp
   ·rw[B0 (by simp;omega),oB,B0 (by simp;omega),oB,g _ (by simp;omega)];simp
theorem e0f(l:List D0)(j:l.length<=1000):∀(d k fuel:Nat) (acc:List B5),k+d=l.length->d<fuel->acc.length+2000*d<=3000000 ->
  V6 l fuel (k:Int) acc=some (acc++T7 (l.drop k))
 |d,k,0,acc,h,hf,g=>by omega
 |0,k,fuel+1,acc,h,hf,g=>by
  rw[V6.eq_2,if_neg (by simp;omega),H1 (by omega)]
  simp[T7]
 |d+1,k,fuel+1,acc,h,hf,g=>by
  have i:k<l.length:=by omega
  have a:=a5 i
  generalize l[k]=b at a
  obtain⟨c,e,f⟩:=b
  have h0:=d0f l j k c e f a (l.length-(k+1)) (k+1) P0 acc (by omega) (j1 (by omega)) (by omega)
  have m:=v0a (c,e,f) (l.drop (k+1))
  simp only[List.length_drop]at m
  rw[V6.eq_2,if_pos (by simp;omega),V1 i (by omega),h0,oB,e0f l j d (k+1) fuel _ (by omega) (by omega) (by simp only[List.length_append,List.length_drop]at m ⊢;omega),J1 a,T7]
  simp
theorem R0h(g:j0)(a:g.2.2.length<=1000):s02 g=some (T7 g.2.2):=by
 obtain⟨r,n,es⟩:=g
 unfold s02
 simp only
 rw[show(0:Int)=((0:Nat):Int) from rfl,c0f es a es.length 0 P0 [] (by omega) (j1 (by simp only at a;omega)) (by simp only at a;simp;omega)]
 rfl
theorem S0h(g:j0)(a:g.2.2.length<=1000):Z00 g=some (T7 g.2.2):=by
 obtain⟨r,n,es⟩:=g
 unfold Z00
 simp only
 rw[show(0:Int)=((0:Nat):Int) from rfl,e0f es a es.length 0 P0 [] (by omega) (j1 (by simp only at a;omega)) (by simp only at a;simp;omega)]
 rfl
def c02(g:j0):B5×Bool:=bif V0 g then(match T7 g.2.2 with
 | []=>((0,0),false)
 |f::_=>(f,true))else((0,0),false)
theorem x0b(g:j0)(c:g.2.2.length<=140737488355328):V8 g=some (c02 g):=by
 have b:=K9 g c
 have a:=R0h g
 unfold c02
 cases hg:V0 g with
 |false =>
  obtain⟨r,n,es⟩:=g
  unfold V8
  simp only[b,hg,oB];rfl
 |true =>
  have a:=a (by have:=(Y2 hg).2.2.2;omega)
  obtain⟨r,n,es⟩:=g
  unfold V8
  simp only[b,hg,a,oB,cond_true]
  simp only at a
  cases T7 es with
  |nil=>rfl
  |cons f l =>
   rw[if_neg (by simp),if_neg (by simp;omega),p0a rfl]
   rfl
theorem y0b(g:j0)(c:g.2.2.length<=140737488355328):U8 g=some (c02 g):=by
 have b:=p7 g c
 have a:=S0h g
 unfold c02
 cases hg:V0 g with
 |false =>
  obtain⟨r,n,es⟩:=g
  unfold U8
  simp only[b,hg,oB];rfl
 |true =>
  have a:=a (by have:=(Y2 hg).2.2.2;omega)
  obtain⟨r,n,es⟩:=g
  unfold U8
  simp only[b,hg,a,oB,cond_true]
  simp only at a
  cases T7 es with
  |nil=>rfl
  |cons f l =>
   rw[if_neg (by simp),if_neg (by simp;omega),p0a rfl]
   rfl
theorem Q0k(v:Int)(f:B5)(d:0<=v/\v<1000)(hf:0<=f.1/\f.1<f.2):l01 v f=some (mvV f v):=by
 obtain⟨a,b⟩:=f
 simp only at hf
 unfold l01 mvV
 simp only
 by_cases c:v=b
 ·rw[if_pos (by simp[c]),if_neg (by simp;omega),if_pos c]
 ·rw[if_neg (by simp[c]),if_neg c]
  by_cases c2:v>b
  ·rw[if_pos (by simp[c2]),if_pos c2,w64 (by omega) (by omega)]
  ·rw[if_neg (by simp;omega),if_neg c2]
theorem T0h(v:Int)(f:B5)(d:0<=v/\v<1000):a6 v f=some (mvV f v):=by
 obtain⟨a,b⟩:=f
 unfold a6 mvV
 simp only
 by_cases c:v=b
 ·rw[if_pos (by simp[c]),if_pos c]
 ·rw[if_neg (by simp[c]),if_neg c]
  by_cases c2:v>b
  ·rw[if_pos (by simp[c2]),if_pos c2,w64 (by omega) (by omega)]
  ·rw[if_neg (by simp;omega),if_neg c2]
theorem n0g{f:B5}{v:Int}(a:0<=v/\v<1000)(hf:0<=f.1/\f.1<1000):J0 (mvV f v):=by
 unfold mvV
 split
 ·exact⟨by omega,by omega⟩
 ·split
  ·exact⟨by omega,by omega⟩
  ·exact⟨by omega,by omega⟩
theorem U0h(es:List D0)(f:B5)(r n:Int)(s:es.length<=1000)(o:∀ e∈es,(0<=e.1/\e.1<1000)/\(0<=e.2.2/\e.2.2<1000))(hf:0<=f.1/\f.1<f.2)(q:f.2<1000):∀(d k fuel:Nat) (acc:List D0),k+d=es.length->d<fuel->acc.length<=k ->
  j4 es f.1 f.2 fuel (k:Int) r n acc=some (r,n,G3 N0 acc ((es.drop k).map (mvE f)))
 |d,k,0,acc,l,m,j=>by omega
 |0,k,fuel+1,acc,l,m,j=>by
  rw[j4.eq_2,if_neg (by simp;omega),H1 (by omega)]
  rfl
 |d+1,k,fuel+1,acc,l,m,j=>by
  have c:k<es.length:=by omega
  have g:=a5 c
  have a:=o _ (List.getElem_mem c)
  generalize es[k]=b at g a
  obtain⟨h,p,i⟩:=b
  simp only at a
  have t:=b05 (mvE f (h,p,i)) acc
  rw[j4.eq_2,if_pos (by simp;omega),U1 g,oB]
  simp only[]
  rw[Q0k h (f.1,f.2) a.1 hf,oB,B0 (n0g a.1 ⟨hf.1,by show f.1<1000;omega⟩),oB,Q0k i (f.1,f.2) a.2 hf,oB,B0 (n0g a.2 ⟨hf.1,by show f.1<1000;omega⟩),oB,
   u03 acc _ (by omega),oB,V1 c (by omega),J1 g,List.map_cons]
  exact U0h es f r n s o hf q d (k+1) fuel _ (by omega) (by omega) (Nat.le_trans t (by omega))
theorem V0h{g:j0}{f:B5}(d:V0 g=true)(hf:okF g f):W6 g f=some (H00 g f,true):=by
 obtain⟨k,o,l,m⟩:=Y2 d
 have i:=p7 g (by omega)
 obtain⟨c,f2,f3⟩:=hf
 obtain⟨r,n,es⟩:=g
 obtain⟨a,b⟩:=f
 simp only at c f2 f3 l m
 have h:=U0h es (a,b) r (IntKind.i64.wrap (n-1)) (by omega) (λe j=>by
  have:=k e j
  simp only at this
  exact⟨⟨by omega,by omega⟩,by omega,by omega⟩) ⟨c,f2⟩ (by simp only;omega) es.length 0 P0 [] (by omega) (j1 (by omega)) (Nat.le_refl _)
 unfold W6
 simp only[i,d,oB]
 rw[if_neg (by simp;omega),show(0:Int)=((0:Nat):Int) from rfl,h,w64 (by omega) (by omega)]
 rfl
theorem W0h(es:List D0)(f:B5)(s:es.length<=1000)(n:∀ e∈es,(0<=e.1/\e.1<1000)/\(0<=e.2.2/\e.2.2<1000))(hf:0<=f.1/\f.1<1000):∀(d k fuel:Nat),k+d=es.length->d<fuel ->
  l4 es f.1 f.2 fuel (k:Int) ((es.take k).map (mvE f)++es.drop k)=some (es.map (mvE f))
 |d,k,0,j,l=>by omega
 |0,k,fuel+1,j,l=>by
  rw[l4.eq_2,if_neg (by simp;omega),H1 (by omega),List.append_nil,List.take_of_length_le (by omega)]
 |d+1,k,fuel+1,j,l=>by
  have g:k<es.length:=by omega
  have c:=a5 g
  have a:=n _ (List.getElem_mem g)
  generalize es[k]=b at c a
  have m:((es.take k).map (mvE f)).length=k:=by simp;omega
  have q:((es.take k).map (mvE f)++es.drop k)[k]?=some b:=by
   rw[List.getElem?_append_right (by omega),m,J1 c];simp
  have t:∀ y,((es.take k).map (mvE f)++es.drop k).set k y=(es.take k).map (mvE f)++y::es.drop (k+1):=λy=>by
   rw[List.set_append_right _ _ (by omega),m,J1 c];simp
  obtain⟨h,p,i⟩:=b
  simp only at a
  have e:(es.take (k+1)).map (mvE f)++es.drop (k+1)=(es.take k).map (mvE f)++mvE f (h,p,i)::es.drop (k+1):=by
   rw[I0h c];simp
  have o:=W0h es f s n hf d (k+1) fuel (by omega) (by omega)
  rw[e]at o
  rw[l4.eq_2,if_pos (by simp;omega),U1 q,oB]
  simp only[]
  rw[T0h h (f.1,f.2) a.1,oB,B0 (n0g a.1 hf),oB,T0h i (f.1,f.2) a.2,oB,B0 (n0g a.2 hf),oB]
  simp only[oB]
  rw[show((k:Nat):Int).toNat=k from Int.toNat_natCast k,t,V1 g (by omega)]
  exact o
theorem X0h{g:j0}{f:B5}(d:V0 g=true)(hf:okF g f):Y6 g f=some (H00 g f,true):=by
 obtain⟨l,p,m,o⟩:=Y2 d
 have i:=K9 g (by omega)
 have j:=X00 g (by omega)
 obtain⟨c,f2,f3⟩:=hf
 obtain⟨r,n,es⟩:=g
 obtain⟨a,b⟩:=f
 simp only at c f2 f3 m o
 have h:=W0h es (a,b) (by omega) (λe k=>by
  have:=l e k
  simp only at this
  exact⟨⟨by omega,by omega⟩,by omega,by omega⟩) ⟨c,by simp only;omega⟩ es.length 0 P0 (by omega) (j1 (by omega))
 simp only[List.take_zero,List.map_nil,List.nil_append,List.drop_zero]at h
 unfold Y6
 simp only[i,j,d,oB]
 rw[if_neg (by simp;omega),show(0:Int)=((0:Nat):Int) from rfl,h,oB,z06 _ (by simp;omega),oB,w64 (by omega) (by omega)]
 rfl
def d01(g:j0):j0×B5×Bool:=bif V0 g then(match T7 g.2.2 with
 | []=>(g,(0,0),false)
 |f::_=>(H00 g f,f,true))else(g,(0,0),false)
theorem E06(g:j0)(j:g.2.2.length<=1099511627776):z00 g=some (d01 g):=by
 have c:=y0b g (by omega)
 have d:=W00 g j
 have i:∀ f,V0 g=true->okF g f->W6 g f=some (H00 g f,true):=λf a b=>V0h a b
 have h:V0 g=true->∀ f∈T7 g.2.2,okF g f:=W03
 unfold c02 at c
 unfold d01
 obtain⟨r,n,es⟩:=g
 unfold z00
 simp only[c,oB]
 cases hg:V0 (r,n,es)with
 |false=>simp only[cond_false,Bool.not_false,if_true,d,oB]
 |true =>
  simp only[cond_true]
  simp only at h
  cases e:T7 es with
  |nil=>simp only[Bool.not_false,if_true,d,oB]
  |cons f l =>
   simp only[Bool.not_true,Bool.false_eq_true,if_false,i f hg (h hg f (by rw[e];exact mS)),oB]
theorem F06(g:j0)(j:g.2.2.length<=1099511627776):A00 g=some (d01 g):=by
 have c:=x0b g (by omega)
 have d:=X00 g j
 have i:∀ f,V0 g=true->okF g f->Y6 g f=some (H00 g f,true):=λf a b=>X0h a b
 have h:V0 g=true->∀ f∈T7 g.2.2,okF g f:=W03
 unfold c02 at c
 unfold d01
 obtain⟨r,n,es⟩:=g
 unfold A00
 simp only[c,oB]
 cases hg:V0 (r,n,es)with
 |false=>simp only[cond_false,Bool.not_false,if_true,d,oB]
 |true =>
  simp only[cond_true]
  simp only at h
  cases e:T7 es with
  |nil=>simp only[Bool.not_false,if_true,d,oB]
  |cons f l =>
   simp only[Bool.not_true,Bool.false_eq_true,if_false,i f hg (h hg f (by rw[e];exact mS)),oB]
def c0q:(j0×g8) ⊕ (Int×Int×M0×(List B5))->Option (j0×g8):=λX=>V7 X (λS=>match S with
 |(a,b,c,e)=>some ((a,b,c),e))
theorem k0d:∀(d k fuel:Nat) (g:j0) (acc:List B5),k+d=40->d<fuel->V0 g=true->acc.length=k ->
  (Z5 fuel (k:Int) g.1 g.2.1 g.2.2 acc).bind c0q=some ((I00 d g).1,acc++(I00 d g).2)
 |d,k,0,g,acc,h,hf,a,c=>by omega
 |0,k,fuel+1,g,acc,h,hf,a,c=>by
  rw[Z5.eq_2,if_neg (by simp;omega)]
  simp[c0q,V7,I00]
 |d+1,k,fuel+1,g,acc,h,hf,a,c=>by
  have b:=E06 g (by have:=(Y2 a).2.2.2;omega)
  have i:=W03 a
  unfold d01 at b
  rw[a]at b
  simp only[cond_true]at b
  rw[Z5.eq_2,if_pos (by simp;omega),show(g.1,g.2.1,g.2.2)=g from rfl,b]
  unfold I00
  cases e:T7 g.2.2 with
  |nil=>simp[c0q,V7]
  |cons f l =>
   have j:=k0d d (k+1) fuel (H00 g f) (acc ++ [f]) (by omega) (by omega) (r04 a (i f (by rw[e];exact mS))) (by simp[c])
   simp only[oB,Bool.not_true,Bool.false_eq_true,if_false]
   rw[B0 (by simp;omega),oB,V1 (show k<1000 by omega) (by omega)]
   refine j.trans ?_
   simp
theorem Y0d(g:j0)(b:g.2.2.length<=1099511627776):a01 g=some (T8 g):=by
 have a:=E06 g b
 have c:=W00 g b
 have d:=k0d 40 0 P0 g [] rfl (j1 (by omega))
 unfold T8
 obtain⟨r,n,es⟩:=g
 unfold a01
 simp only[c,oB]
 cases hg:V0 (r,n,es)with
 |false =>
  unfold d01 at a
  rw[hg]at a
  simp only[cond_false]at a
  rw[show P0=(P0-1)+1 from rfl,Z5.eq_2,if_pos (by simp),a]
  rfl
 |true=>exact d hg rfl
theorem l0d:∀(d fuel:Nat) (g:j0) (acc:List B5),d<fuel->V0 g=true->T7 (I00 d g).1.2.2 = []->acc.length+d<=1000 ->
  Z6 fuel g.1 g.2.1 g.2.2 acc=some (.inl ((I00 d g).1,acc++(I00 d g).2))
 |d,0,g,acc,hf,a,c,j=>by omega
 |d,fuel+1,g,acc,hf,a,c,j=>by
  have b:=F06 g (by have:=(Y2 a).2.2.2;omega)
  have i:=W03 a
  unfold d01 at b
  rw[a]at b
  simp only[cond_true]at b
  rw[Z6.eq_2,show(g.1,g.2.1,g.2.2)=g from rfl,b]
  cases e:T7 g.2.2 with
  |nil =>
   have h:I00 d g=(g,[]):=by
    cases d with
    |zero=>rfl
    |succ d=>unfold I00;rw[e]
   rw[h]
   simp
  |cons f l =>
   cases d with
   |zero=>exact absurd e (by rw[show T7 g.2.2 = [] from c];simp)
   |succ d =>
    have h:I00 (d+1) g=((I00 d (H00 g f)).1,f::(I00 d (H00 g f)).2):=by
     show(match T7 g.2.2 with | []=>(g,[])|f::_=>((I00 d (H00 g f)).1,f::(I00 d (H00 g f)).2))=_
     rw[e]
    rw[h]at c ⊢
    have k:=l0d d fuel (H00 g f) (acc ++ [f]) (by omega) (r04 a (i f (by rw[e];exact mS))) c (by simp;omega)
    simp only[oB,Bool.not_true,Bool.false_eq_true,if_false]
    rw[B0 (by simp;omega),oB]
    refine k.trans ?_
    simp
theorem Z0d(g:j0)(c:g.2.2.length<=1099511627776):c01 g=some (T8 g):=by
 have b:=F06 g c
 have d:=X00 g c
 have e:=l0d 40 P0 g [] (j1 (by omega))
 have f:V0 g=true->T7 (I00 40 g).1.2.2 = []:=λa=>q08 40 a (by have:=(Y2 a).2.2.1;omega)
 unfold T8
 obtain⟨r,n,es⟩:=g
 unfold c01
 simp only[d,oB]
 cases a:V0 (r,n,es)with
 |false =>
  unfold d01 at b
  rw[a]at b
  simp only[cond_false]at b
  rw[show P0=(P0-1)+1 from rfl,Z6.eq_2,b]
  rfl
 |true =>
  have h:=e a (f a) (by simp)
  simp only at h
  rw[h]
  rfl
theorem z03{g:j0}(h:V0 g=true):Asc N0 g.2.2:=((a02 g).1 h).2.2.2.2
def stp(u x v:Int):D0:=if x<0 then(v,-x,u)else(u,x,v)
def X02(v:Int):List Int->Int->Int->List D0
 | [],_,_=>[]
 | [x],u,_=>[stp u x v]
 |x::y::r,u,n=>stp u x n::X02 v (y::r) n (n+1)
theorem x0a(v:Int):∀(w:List Int) (u n:Int),(X02 v w u n).length=w.length
 | [],_,_=>rfl
 | [x],_,_=>rfl
 |x::y::r,u,n=>by simp only[X02,List.length_cons,x0a v (y::r)]
theorem o0g(u x v:Int)(a:L5 x):o00 u x v=some (stp u x v):=by
 unfold o00 stp
 by_cases c:x<0
 ·rw[if_pos (by simp[c]),if_pos c,U07 a.1 a.2]
 ·rw[if_neg (by simp;omega),if_neg c]
theorem p0g(w:List Int)(v:Int)(r:Int)(e:∀ x∈w,L5 x)(l:w.length<=1000):∀(d k fuel:Nat) (u n:Int) (es:List D0),k+d=w.length->d<fuel->0<=n->n<=1000+k->es.length<=1000+k ->
  c6 w v fuel u (k:Int) r n es=some (r,n+((d-1:Nat):Int),es++X02 v (w.drop k) u n)
 |d,k,0,u,n,es,j,hf,h0,h,i=>by omega
 |0,k,fuel+1,u,n,es,j,hf,h0,h,i=>by
  rw[c6.eq_2,if_neg (by simp;omega),H1 (by omega)]
  simp[X02]
 |d+1,k,fuel+1,u,n,es,j,hf,h0,h,i=>by
  have a:k<w.length:=by omega
  have f:=a5 a
  have b:=e _ (List.getElem_mem a)
  generalize w[k]=x at f b
  rw[c6.eq_2,if_pos (by simp;omega),U1 f,oB,j09 (by omega) (by omega),J1 f]
  by_cases c:k+1<w.length
  ·rw[if_pos (by simp;omega),o0g u x n b,oB]
   have m:=a5 c
   generalize w[k+1]=y at m
   have g:=p0g w v r e l d (k+1) fuel n (n+1) (es ++ [stp u x n]) (by omega) (by omega) (by omega) (by omega) (by simp;omega)
   simp only[]
   rw[B0 (by simp;omega),oB,V1 a (by omega),w64 (show(-9223372036854775808:Int)<=n+1 by omega) (by omega)]
   refine g.trans ?_
   rw[J1 m]
   simp only[X02,List.append_assoc,List.singleton_append]
   congr 3
   omega
  ·have o:d=0:=by omega
   subst o
   rw[if_neg (by simp;omega),o0g u x v b,oB]
   have g:=p0g w v r e l 0 (k+1) fuel v n (es ++ [stp u x v]) (by omega) (by omega) h0 (by omega) (by simp;omega)
   simp only[]
   rw[B0 (by simp;omega),oB,V1 a (by omega)]
   refine g.trans ?_
   rw[H1 (show k+1=w.length by omega)]
   simp[X02]
theorem q0g(w:List Int)(v:Int)(r:Int)(h:∀ x∈w,L5 x/\x≠0)(o:w.length<=1000):∀(d k fuel:Nat) (u n:Int) (es:List D0),k+d=w.length->d<fuel->0<=n->n<=1000+k->es.length<=1000+k ->
  S4 w v fuel u (k:Int) r n es=some (r,n+((d-1:Nat):Int),G3 N0 es (X02 v (w.drop k) u n))
 |d,k,0,u,n,es,m,hf,h0,j,l=>by omega
 |0,k,fuel+1,u,n,es,m,hf,h0,j,l=>by
  rw[S4.eq_2,if_neg (by simp;omega),H1 (by omega)]
  simp[X02,G3]
 |d+1,k,fuel+1,u,n,es,m,hf,h0,j,l=>by
  have f:k<w.length:=by omega
  have g:=a5 f
  have b:=h _ (List.getElem_mem f)
  generalize w[k]=x at g b
  have p:∀ e,(b9 N0 e es).length<=1000+(k+1):=λe=>by have:=b05 e es;omega
  rw[S4.eq_2,if_pos (by simp;omega),J1 g]
  by_cases c:k+1<w.length
  ·have i:=a5 c
   generalize w[k+1]=y at i
   have a:=q0g w v r h o d (k+1) fuel n (n+1) (b9 N0 (stp u x n) es) (by omega) (by omega) (by omega) (by omega) (p _)
   rw[J1 i]at a
   rw[V1 f (by omega),if_pos (by simp;omega),U1 g,oB,w64 (show(-9223372036854775808:Int)<=n+1 by omega) (by omega),J1 i]
   have fin:some (r,n+1+((d-1:Nat):Int),G3 N0 (b9 N0 (stp u x n) es) (X02 v (y::w.drop (k+1+1)) n (n+1)))=some (r,n+((d+1-1:Nat):Int),G3 N0 es (X02 v (x::y::w.drop (k+1+1)) u n)):=by
    simp only[X02,G3]
    congr 3
    omega
   by_cases c2:x>0
   ·have e:stp u x n=(u,x,n):=by unfold stp;rw[if_neg (by omega)]
    rw[if_pos (by simp[c2])]
    simp only[oB]
    rw[u03 es _ (by omega),oB,←e]
    exact a.trans fin
   ·have e:stp u x n=(n,-x,u):=by unfold stp;rw[if_pos (by omega)]
    rw[if_neg (by simp;omega)]
    simp only[oB]
    rw[U07 b.1.1 b.1.2,u03 es _ (by omega),oB,←e]
    exact a.trans fin
  ·have q:d=0:=by omega
   subst q
   have a:=q0g w v r h o 0 (k+1) fuel v n (b9 N0 (stp u x v) es) (by omega) (by omega) h0 (by omega) (p _)
   rw[H1 (show k+1=w.length by omega)]at a ⊢
   rw[V1 f (by omega),if_neg (by simp;omega),U1 g,oB]
   have fin:some (r,n+((0-1:Nat):Int),G3 N0 (b9 N0 (stp u x v) es) (X02 v [] v n))=some (r,n+((0+1-1:Nat):Int),G3 N0 es (X02 v [x] u n)):=by
    simp[X02,G3]
   by_cases c2:x>0
   ·have e:stp u x v=(u,x,v):=by unfold stp;rw[if_neg (by omega)]
    rw[if_pos (by simp[c2])]
    simp only[oB]
    rw[u03 es _ (by omega),oB,←e]
    exact a.trans fin
   ·have e:stp u x v=(v,-x,u):=by unfold stp;rw[if_pos (by omega)]
    rw[if_neg (by simp;omega)]
    simp only[oB]
    rw[U07 b.1.1 b.1.2,u03 es _ (by omega),oB,←e]
    exact a.trans fin
theorem m0d{es p:List D0}(a:Asc N0 es):G3 N0 [] (es++p)=G3 N0 es p :=
 m08 I5 (O01 I5 _ _ .nil) (O01 I5 _ _ a) λx=>by
  rw[Q7 I5,Q7 I5];simp
def d02(g:j0)(u:Int)(w:List Int)(v:Int):j0×Bool :=
 bif !w.isEmpty&&decide (g.2.1+(w.length:Int)-1<=40)&&decide (g.2.2.length+w.length<=120)then((g.1,g.2.1+((w.length-1:Nat):Int),G3 N0 g.2.2 (X02 v w u g.2.1)),true)else(g,false)
theorem t00{r:Int}{w:List Int}(h:Q2 r w=true):w.length<=24/\∀ x∈w,L5 x/\x≠0 /\ -r<=x/\x<=r:=by
 have a:=h
 simp only[Q2,Bool.and_eq_true,decide_eq_true_eq]at a
 refine⟨a.1.2,λx c=>?_⟩
 obtain⟨i,b⟩:=List.getElem?_of_mem c
 have:=E0h h b
 exact⟨⟨⟨by omega,by omega⟩,by omega⟩,this.2.2⟩
theorem a0e{g:j0}{u v:Int}{w:List Int}(d:V0 g=true)(f:0<=u/\u<g.2.1)(i:0<=v/\v<g.2.1)(j:Q2 g.1 w=true):Y00 g u w v=some (d02 g u w v):=by
 obtain⟨y,z,p,q⟩:=Y2 d
 obtain⟨wl,k⟩:=t00 j
 have l:=p7 g (by omega)
 have m:=W00 g (by omega)
 have b:=r03 g.1 w (by omega)
 obtain⟨r,n,es⟩:=g
 simp only at p q f i b
 have o:IntKind.i64.wrap (n-1)=n-1:=w64 (by omega) (by omega)
 have e:∀ x:Int,0<=x/\x<n->inR 0 (n-1) x=true:=λx a=>by simp[inR];omega
 have h:=q0g w v r (λx a=>⟨(k x a).1,(k x a).2.1⟩) (by omega) w.length 0 P0 u n es (by omega) (j1 (by omega)) (by omega) (by omega) (by omega)
 unfold Y00 d02
 simp only[l,m,d,oB,Bool.not_true,Bool.not_false,L1,cond_false,o,U03,e u f,e v i,b,j]
 rw[w64 (show(-9223372036854775808:Int)<=n+((w.length:Nat):Int) by omega) (by omega),w64 (show(-9223372036854775808:Int)<=n+((w.length:Nat):Int)-1 by omega) (by omega),w64 (show(-9223372036854775808:Int)<=((es.length:Nat):Int)+((w.length:Nat):Int) by omega) (by omega)]
 by_cases c:(w≠[]/\n+(w.length:Int)-1<=40)/\es.length+w.length<=120
 ·have t:w.length≠0:=by simpa using c.1.1
  rw[if_neg (by simp only[Bool.not_eq_true];simp[c.1.1];omega),show(0:Int)=((0:Nat):Int) from rfl,h,oB]
  rw[show(!w.isEmpty&&decide (n+(w.length:Int)-1<=40)&&decide (es.length+w.length<=120))=true by simp[c.1.1,c.1.2,c.2]]
  rfl
 ·rw[show(!w.isEmpty&&decide (n+(w.length:Int)-1<=40)&&decide (es.length+w.length<=120))=false by
   rw[←Bool.not_eq_true];simpa using c]
  rw[if_pos ?_]
  ·rfl
  ·by_cases d1:w = []
   ·simp[d1]
   ·by_cases d2:n+(w.length:Int)-1<=40
    ·have s : ¬ es.length+w.length<=120:=λh=>c ⟨⟨d1,d2⟩,h⟩
     have:decide (((es.length:Nat):Int)+((w.length:Nat):Int)>120)=true:=by simp;omega
     rw[this];simp
    ·have:decide (n+((w.length:Nat):Int)-1>40)=true:=by simp;omega
     rw[this];simp
theorem l0p{g:j0}(a:V0 g=true){u:Int}(b:0<=u/\u<g.2.1):W5 g u=some true:=by
 obtain⟨d,e,c,f⟩:=Y2 a
 obtain⟨r,n,es⟩:=g
 simp only at c b
 unfold W5
 simp only[X04]
 rw[w64 (by omega) (by omega)]
 simp[inR];omega
theorem b0e{g:j0}{u v:Int}{w:List Int}(a:V0 g=true)(e:0<=u/\u<g.2.1)(f:0<=v/\v<g.2.1)(i:Q2 g.1 w=true):b01 g u w v=some (d02 g u w v):=by
 obtain⟨z,A,p,q⟩:=Y2 a
 obtain⟨wl,s⟩:=t00 i
 have j:=K9 g (by omega)
 have k:=X00 g (by omega)
 have b:=s03 g.1 w (by omega)
 have l:=l0p a e
 have m:=l0p a f
 have d:=z03 a
 obtain⟨r,n,es⟩:=g
 simp only at p q e f b d
 have h:=p0g w v r (λx o=>(s x o).1) (by omega) w.length 0 P0 u n es (by omega) (j1 (by omega)) (by omega) (by omega) (by omega)
 have y:=x0a v w u n
 unfold b01 d02
 simp only[j,k,a,oB,Bool.not_true,Bool.not_false,L1,cond_false,l,m]
 rw[w64 (show(-9223372036854775808:Int)<=n+((w.length:Nat):Int) by omega) (by omega),w64 (show(-9223372036854775808:Int)<=n+((w.length:Nat):Int)-1 by omega) (by omega),w64 (show(-9223372036854775808:Int)<=((es.length:Nat):Int)+((w.length:Nat):Int) by omega) (by omega)]
 by_cases d1:w = []
 ·subst d1
  simp[chk]
 rw[show decide (((w.length:Nat):Int)=0)=false by simp[d1],show(!false)=true from rfl,L1,b,oB,i]
 by_cases c:n+(w.length:Int)-1<=40/\es.length+w.length<=120
 ·rw[if_neg (by simp only[Bool.not_eq_true];simp;omega),show(0:Int)=((0:Nat):Int) from rfl,h,oB]
  rw[show(!w.isEmpty&&decide (n+(w.length:Int)-1<=40)&&decide (es.length+w.length<=120))=true by simp[d1,c.1,c.2]]
  simp only[List.drop_zero,cond_true]
  rw[z06 _ (by simp;omega),m0d d]
  rfl
 ·rw[show(!w.isEmpty&&decide (n+(w.length:Int)-1<=40)&&decide (es.length+w.length<=120))=false by
   rw[←Bool.not_eq_true];simp only[Bool.and_eq_true,decide_eq_true_eq,Bool.not_eq_true'];omega]
  rw[if_pos ?_]
  ·rfl
  ·by_cases d2:n+(w.length:Int)-1<=40
   ·have t : ¬ es.length+w.length<=120:=λh=>c ⟨d2,h⟩
    have:decide (((es.length:Nat):Int)+((w.length:Nat):Int)>120)=true:=by simp;omega
    rw[this];simp
   ·have:decide (n+((w.length:Nat):Int)-1>40)=true:=by simp;omega
    rw[this];simp
def B3(g:j0):j0×Bool:=bif decide (g.2.1<40)then((g.1,g.2.1+1,g.2.2),true)else(g,false)
theorem z0b{g:j0}(a:V0 g=true):U9 g=some (B3 g):=by
 obtain⟨f,h,e,i⟩:=Y2 a
 have b:=p7 g (by omega)
 have d:=W00 g (by omega)
 obtain⟨r,n,es⟩:=g
 simp only at e
 unfold U9 B3
 simp only[b,d,a,oB,Bool.not_true,cond_false]
 by_cases c:n<40
 ·rw[if_neg (by simp;omega),w64 (by omega) (by omega)];simp[c]
 ·rw[if_pos (by simp;omega)];simp[c]
theorem A0b{g:j0}(a:V0 g=true):V9 g=some (B3 g):=by
 obtain⟨f,h,e,i⟩:=Y2 a
 have b:=K9 g (by omega)
 have d:=X00 g (by omega)
 obtain⟨r,n,es⟩:=g
 simp only at e
 unfold V9 B3
 simp only[b,d,a,oB,Bool.not_true,cond_false]
 by_cases c:n<40
 ·rw[if_neg (by simp;omega),w64 (by omega) (by omega)];simp[c]
 ·rw[if_pos (by simp;omega)];simp[c]
theorem d03{g:j0}(a:V0 g=true):V0 (B3 g).1=true:=by
 unfold B3
 by_cases c:g.2.1<40
 ·simp only[c,decide_true,cond_true]
  obtain⟨d,f,j,h,i⟩:=(a02 g).1 a
  refine(a02 _).2 ⟨λe b=>?_,f,?_,h,i⟩
  ·have:=d e b
   simp only
   omega
  ·simp only;omega
 ·simp only[c,decide_false,cond_false];exact a
theorem R0k(es:List D0)(e:D0)(o:es.length<=140737488355328):∀(d k fuel:Nat),k+d=es.length->d<fuel ->
  ∃ X,D1 es e.1 e.2.1 e.2.2 fuel (k:Int)=some X/\((∃ i:Nat,X = .inl (i:Int)/\i<es.length/\e∈es.drop k)∨(X = .inr ()/\e ∉ es.drop k))
 |d,k,0,l,hf=>by omega
 |0,k,fuel+1,l,hf=>by
  rw[D1.eq_2,if_neg (by simp;omega),H1 (by omega)]
  exact⟨_,rfl,.inr ⟨rfl,by simp⟩⟩
 |d+1,k,fuel+1,l,hf=>by
  have a:k<es.length:=by omega
  have f:=a5 a
  generalize es[k]=b at f
  rw[D1.eq_2,if_pos (by simp;omega),U1 f,oB,J1 f]
  simp only[]
  by_cases c:eqE e b=true
  ·rw[if_pos c]
   refine⟨_,rfl,.inl ⟨k,rfl,a,?_⟩⟩
   rw[(K02 _ _).1 c]
   exact mS
  ·rw[if_neg c,V1 a (by omega)]
   obtain⟨X,m,n⟩:=R0k es e o d (k+1) fuel (by omega) (by omega)
   refine⟨X,m,?_⟩
   have p:e≠b:=λh=>c ((K02 _ _).2 h)
   rcases n with⟨i,g,j,q⟩|⟨g,j⟩
   ·exact .inl ⟨i,g,j,mC _ q⟩
   ·refine .inr ⟨g,λh=>?_⟩
    rcases List.mem_cons.1 h with h|h
    ·exact p h
    ·exact j h
theorem z0j(es:List D0)(e:D0)(b:es.length<=140737488355328):M2 es e=some (decide (e∈es)):=by
 obtain⟨X,d,a⟩:=R0k es e b es.length 0 P0 (by omega) (j1 b)
 obtain⟨g,h,j⟩:=e
 unfold M2 Q1
 simp only
 simp only[List.drop_zero]at a
 rw[show(0:Int)=((0:Nat):Int) from rfl,d]
 rcases a with⟨i,rfl,c,f⟩|⟨rfl,c⟩
 ·simp only[oB,C3]
  rw[B0 (show J0 ((i:Nat):Int) from⟨by omega,by omega⟩)]
  simp[f]
 ·simp only[oB,S0]
  rw[B0 (show J0 (-1) from⟨by omega,by omega⟩)]
  simp[c]
def W07(g:j0)(v:Int):List Int->List D0
 | []=>[]
 |x::r=>(bif decide (O0 g v x<0)then [(v,x,-1)]else [])++W07 g v r
def x09(g:j0):Nat->Nat->List D0
 |0,_=>[]
 |d+1,v=>W07 g (v:Int) (j6 g.1.toNat 1)++x09 g d (v+1)
theorem y0a(g:j0)(v:Int):∀ l,(W07 g v l).length<=l.length
 | []=>Nat.le_refl _
 |x::r=>by
  have:=y0a g v r
  simp only[W07,List.length_append,List.length_cons]
  cases decide (O0 g v x<0)<;>simp<;>omega
theorem Y0h(g:j0)(j:V0 g=true)(v:Int)(a:List Int)(l:∀ x∈a,L5 x)(o:a.length<=1000):∀(d k fuel:Nat) (acc:List D0),k+d=a.length->d<fuel->acc.length+d<=100000 ->
  l3 a g.1 g.2.1 g.2.2 v fuel (k:Int) acc=some (acc++W07 g v (a.drop k))
 |d,k,0,acc,i,hf,f=>by omega
 |0,k,fuel+1,acc,i,hf,f=>by
  rw[l3.eq_2,if_neg (by simp;omega),H1 (by omega)]
  simp[W07]
 |d+1,k,fuel+1,acc,i,hf,f=>by
  obtain⟨p,s,q,t⟩:=Y2 j
  have c:k<a.length:=by omega
  have e:=a5 c
  have m:=l _ (List.getElem_mem c)
  generalize a[k]=x at e m
  have n:∀ b:List D0,b.length+d<=100000->l3 a g.1 g.2.1 g.2.2 v fuel ((k+1:Nat):Int) b=some (b++W07 g v (a.drop (k+1))):=λb h=>Y0h g j v a l o d (k+1) fuel b (by omega) (by omega) h
  rw[l3.eq_2,if_pos (by simp;omega),U1 e,oB,show(g.1,g.2.1,g.2.2)=g from rfl,V00 g v x m (by omega),oB,B0 (M9 p q.2 v x),oB,V1 c (by omega),J1 e,W07]
  cases decide (O0 g v x<0)with
  |true =>
   rw[if_pos rfl,B0 (by simp;omega),oB,n _ (by simp;omega)]
   simp
  |false =>
   rw[if_neg (by simp),n _ (by omega)]
   simp
theorem y09:∀(d i:Nat) (x:Int),x∈j6 d i->∃ j:Nat,i<=j/\j<i+d/\(x=(j:Int)∨x = -(j:Int))
 |0,i,x,h=>by simp[j6]at h
 |d+1,i,x,h=>by
  simp only[j6,List.mem_cons]at h
  rcases h with rfl|rfl|h
  ·exact⟨i,Nat.le_refl _,by omega,.inl rfl⟩
  ·exact⟨i,Nat.le_refl _,by omega,.inr rfl⟩
  ·obtain⟨j,b,c,a⟩:=y09 d (i+1) x h
   exact⟨j,by omega,by omega,a⟩
theorem Z0h(g:j0)(a:H0 g=true):∀(d k fuel:Nat) (acc:List D0),k+d=g.2.1.toNat->d<fuel->acc.length+100*d<=10000 ->
  M4 g.2.1 g.1 g.2.2 fuel (k:Int) acc=some (acc++x09 g d k)
 |d,k,0,acc,c,hf,b=>by omega
 |0,k,fuel+1,acc,c,hf,b=>by
  obtain⟨l,m,n,o⟩:=W0 a
  rw[M4.eq_2,if_neg (by simp;omega)]
  simp[x09]
 |d+1,k,fuel+1,acc,c,hf,b=>by
  obtain⟨l,m,n,o⟩:=W0 a
  have f:=((J05 g).1 a).1
  obtain⟨R,e⟩:∃ R:Nat,g.1=(R:Int):=⟨g.1.toNat,by omega⟩
  have h:∀ x∈j6 g.1.toNat 1,L5 x:=λx i=>by
   obtain⟨j,p,q,s⟩:=y09 _ _ _ i
   refine⟨⟨by omega,by omega⟩,by omega⟩
  have t:=C01 g.1.toNat 1
  have u:=y0a g (k:Int) (j6 g.1.toNat 1)
  have h0:=Y0h g f (k:Int) (j6 g.1.toNat 1) h (by omega) (j6 g.1.toNat 1).length 0 P0 acc (by omega) (j1 (by omega)) (by omega)
  rw[M4.eq_2,if_pos (by simp;omega),show l8 g.1=some (j6 g.1.toNat 1) by rw[e,v0j R (by omega)];rfl,oB,show(0:Int)=((0:Nat):Int) from rfl,h0,oB,V1 (show k<1000 by omega) (by omega),Z0h g a d (k+1) fuel _ (by omega) (by omega) (by simp;omega),x09]
  simp
def m01(g:j0):List D0:=x09 g g.2.1.toNat 0
theorem c0e{g:j0}(hf:H0 g=true):E7 g=some (m01 g):=by
 obtain⟨b,c,d,e⟩:=W0 hf
 have h:=Z0h g hf g.2.1.toNat 0 P0 [] (by omega) (j1 (by omega)) (by simp;omega)
 have a:=S9 g (by omega)
 obtain⟨r,n,es⟩:=g
 unfold E7 m01
 simp only[a,hf,oB]at h ⊢
 rw[if_neg (by simp),show(0:Int)=((0:Nat):Int) from rfl,h];simp
theorem a0i{g:j0}(a:V0 g=true)(u:Int)(w:List Int)(v:Int):(d02 g u w v).1.2.2.length<=120:=by
 have q:=(Y2 a).2.2.2
 unfold d02
 cases hc:(!w.isEmpty&&decide (g.2.1+(w.length:Int)-1<=40)&&decide (g.2.2.length+w.length<=120))with
 |false=>exact q
 |true =>
  simp only[Bool.and_eq_true,decide_eq_true_eq]at hc
  have b:=n00 (X02 v w u g.2.1) g.2.2
  have c:=x0a v w u g.2.1
  simp only[cond_true]
  omega
end Go.Proofs.YtkjhghloldgioaaGreat
