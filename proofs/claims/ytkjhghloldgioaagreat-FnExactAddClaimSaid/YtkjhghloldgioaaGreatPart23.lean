/- Texts of the claim, joined: Plain laws: words and presentations, as the spec and the cod and others. -/
import Derived.Test.YtkjhghloldgioaaGreatPart18
import Derived.Test.YtkjhghloldgioaaGreatH33
import Derived.Test.YtkjhghloldgioaaGreatH36
import Derived.Test.YtkjhghloldgioaaGreatPart17
namespace Go.Proofs.YtkjhghloldgioaaGreat
open Go.H
set_option linter.unusedVariables false
set_option linter.unusedSimpArgs false
theorem D1{n:Nat}(h:n<=140737488355328):n<T0:=by unfold T0;omega
theorem H0{p:Prop}[Decidable p](h:p):grd p=some ():=by unfold grd;rw[if_pos h]
theorem H1{a:Type}(o:Option a)(d:a):chk true o d=o:=rfl
theorem K1{a:Type}(o:Option a)(d:a):chk false o d=some d:=rfl
theorem P2{a:Type}{xs:List a}{k:Nat}{x:a}(h:xs[k]?=some x):gi xs (k:Int)=some x:=by rw[F0d];exact h
theorem b0k{a:Type}{xs:List a}{x:a}(h:xs[0]?=some x):gi xs 0=some x:=P2 (k:=0) h
theorem y0c{x:Int}(h:J0 x)(a:x ≠ -9223372036854775808):IntKind.i64.wrap (0-x) = -x:=by rw[w64 (by have:=h.1;have:=h.2;omega) (by have:=h.1;have:=h.2;omega)];omega
theorem t0g{n:Nat}(h:0<n)(a:n<=9223372036854775807):IntKind.i64.wrap ((n:Int)-1)=((n-1:Nat):Int):=by rw[w64 (by omega) (by omega)];omega
theorem E5{a:Type}{xs:List a}{k:Nat}(h:k<xs.length):xs[k]?=some xs[k]:=List.getElem?_eq_getElem h
def inR(b a x:Int):Bool:=decide (b<=x)&&decide (x<=a)
def R05(b a:Int)(w:List Int)(i:Nat):Bool :=
 match w[i]? with
 |none=>true
 |some x=>x == 0 || !inR b a x || (decide (0<i)&&match w[i-1]? with
  |none=>true
  |some y=>x == IntKind.i64.wrap (0-y))
def k04(b a:Int)(w:List Int):Nat->Nat->Bool
 |0,_=>true
 |d+1,k => !R05 b a w k&&k04 b a w d (k+1)
def C3(r:Int)(w:List Int):Bool:=inR 1 3 r&&decide (w.length<=24)&&k04 (-r) r w w.length 0
theorem A02(a b c:Int):V3 a b c=some (inR b c a):=by
 unfold V3 inR
 by_cases h:b<=a<;>simp[h]
theorem m03(a b c:Int):o6 a b c=some (inR b c a):=A02 a b c
theorem Z07(r:Int)(w:List Int)(n:w.length<=140737488355328):∀(d k fuel:Nat),k+d=w.length->d<fuel ->
  M9 w r fuel (k:Int)=some (bif k04 (IntKind.i64.wrap (0-r)) r w d k then .inr ()else .inl false)
 |d,k,0,j,hf=>by omega
 |0,k,fuel+1,j,hf=>by
  rw[M9.eq_2,if_neg (by simp;omega)]
  simp[k04]
 |d+1,k,fuel+1,j,hf=>by
  have l:k<w.length:=by omega
  have a:=E5 l
  generalize w[k]=x at a
  have next:=Z07 r w n d (k+1) fuel (by omega) (by omega)
  rw[M9.eq_2,if_pos (by simp;omega)]
  generalize IntKind.i64.wrap (0-r)=lo at next ⊢
  simp only[P2 a,oB,A02,C2 l (by omega:w.length<=9223372036854775807),next]
  have m:R05 lo r w k=(x == 0 || !inR lo r x || (decide (0<k)&&match w[k-1]? with
   |none=>true
   |some y=>x == IntKind.i64.wrap (0-y))):=by unfold R05;rw[a]
  simp only[k04,m]
  by_cases h0:x=0
  ·simp[h0,chk]
  have f:decide (x=0)=false:=by simpa using h0
  have b:(x == 0)=false:=by simpa using h0
  cases hin:inR lo r x with
  |false=>simp[f,b,hin,chk]
  |true =>
   by_cases hk0:k=0
   ·have h:decide ((k:Int)>0)=false:=by simp;omega
    have e:decide (0<k)=false:=by simp;omega
    simp only[f,b,hin,h,e,H1,K1,Bool.not_true,Bool.not_false,Bool.and_true,Bool.false_and,Bool.or_self,Bool.true_and,cond_true,cond_false,oB,Bool.or_false,Bool.and_false,Bool.false_eq_true,if_false,cond_true,cond_false]
   ·have i:=E5 (show k-1<w.length by omega)
    generalize w[k-1]=y at i
    have o:IntKind.i64.wrap ((k:Int)-1)=((k-1:Nat):Int):=t0g (by omega) (by omega)
    have h:decide ((k:Int)>0)=true:=by simp;omega
    have e:decide (0<k)=true:=by simp;omega
    simp only[f,b,hin,h,e,o,i,P2 a,P2 i,H1,K1,Bool.not_true,Bool.not_false,Bool.and_true,Bool.false_and,Bool.or_self,Bool.true_and,cond_true,cond_false,oB,Bool.or_false,Bool.and_false,Bool.false_or]
    by_cases hxy:x=IntKind.i64.wrap (0-y)
    ·have g:decide (x=IntKind.i64.wrap (0-y))=true:=by simpa using hxy
     have c:(x == IntKind.i64.wrap (0-y))=true:=by simpa using hxy
     simp only[g,c,if_true,Bool.not_true,Bool.false_and,Bool.false_eq_true,if_false,cond_true,cond_false]
    ·have g:decide (x=IntKind.i64.wrap (0-y))=false:=by simpa using hxy
     have c:(x == IntKind.i64.wrap (0-y))=false:=by simpa using hxy
     simp only[g,c,Bool.false_eq_true,if_false,Bool.not_false,Bool.true_and]
theorem a06(r:Int)(w:List Int)(a:w.length<=140737488355328):V00 r w=some (C3 r w):=by
 unfold V00
 have h:=Z07 r w a w.length 0 T0 (by omega) (D1 a)
 rw[show((0:Nat):Int)=0 from rfl]at h
 rw[h,A02]
 unfold C3
 by_cases hr:inR 1 3 r=true
 ·have:IntKind.i64.wrap (0-r) = -r:=by
   simp only[inR,Bool.and_eq_true,decide_eq_true_eq]at hr
   rw[w64 (by omega) (by omega)];omega
  rw[this,hr]
  cases k04 (-r) r w w.length 0<;>simp[K9]<;>omega
 ·simp only[Bool.not_eq_true]at hr
  rw[hr]
  cases k04 (IntKind.i64.wrap (0-r)) r w w.length 0<;>simp[K9]
theorem s0n(r x:Int)(b:inR 1 3 r=true):F02 r x=some (!(x == 0)&&inR (-r) r x):=by
 have a:IntKind.i64.wrap (0-r) = -r:=by
  simp only[inR,Bool.and_eq_true,decide_eq_true_eq]at b
  rw[w64 (by omega) (by omega)];omega
 unfold F02
 rw[a,m03]
 by_cases h0:x=0
 ·simp[h0,chk]
 ·simp[h0,chk]
theorem z0c(y x:Int):D00 y x=some (!(y == 0) && !(y == -9223372036854775808)&&(x == IntKind.i64.wrap (0-y))):=by
 unfold D00
 by_cases h0:y=0
 ·simp[h0]
 ·by_cases h1:y = -9223372036854775808
  ·simp[h1]
  ·simp only[h0,h1,decide_false,Bool.not_false,cond_true,Option.some.injEq]
   have a:(y == 0)=false:=by simpa using h0
   have b:(y == -9223372036854775808)=false:=by simpa using h1
   rw[a,b]
   rfl
theorem a08(r:Int)(w:List Int)(hr:inR 1 3 r=true)(hl:w.length<=140737488355328):∀(d k fuel:Nat),k+d=w.length->d<fuel ->
  (∀ i,i<k->R05 (-r) r w i=false) ->
  N9 w r fuel (k:Int)=some (bif k04 (-r) r w d k then .inr ()else .inl false)
 |d,k,0,hk,hf,hp=>by omega
 |0,k,fuel+1,hk,hf,hp=>by
  rw[N9.eq_2,if_neg (by simp;omega)]
  simp[k04]
 |d+1,k,fuel+1,hk,hf,hp=>by
  have hkl:k<w.length:=by omega
  have hx:=E5 hkl
  generalize w[k]=x at hx
  have next:=λ(hb:R05 (-r) r w k=false)=>a08 r w hr hl d (k+1) fuel (by omega) (by omega) (λi hi=>by
   by_cases e:i=k
   ·subst e;exact hb
   ·exact hp i (by omega))
  rw[N9.eq_2,if_pos (by simp;omega)]
  rw[P2 hx,oB,s0n r x hr,C2 hkl (by omega:w.length<=9223372036854775807)]
  have hbad:R05 (-r) r w k=(x == 0 || !inR (-r) r x || (decide (0<k)&&match w[k-1]? with
   |none=>true
   |some y=>x == IntKind.i64.wrap (0-y))):=by unfold R05;rw[hx]
  simp only[k04]
  by_cases h0:x=0
  ·simp[h0,chk,hbad]
  have b0:(x == 0)=false:=by simpa using h0
  cases hin:inR (-r) r x with
  |false=>simp[b0,hin,chk,hbad]
  |true =>
   by_cases hk0:k=0
   ·have hb:R05 (-r) r w k=false:=by rw[hbad];simp[h0,hin,hk0]
    rw[next hb,hb]
    have ek:decide ((k:Int)>0)=false:=by simp;omega
    simp only[b0,ek,H1,K1,Bool.not_true,Bool.not_false,Bool.and_true,Bool.false_and,Bool.or_self,Bool.true_and,cond_true,cond_false,oB,Bool.or_false,Bool.and_false,Bool.false_eq_true,if_false,cond_true,cond_false]
   ·have hy:=E5 (show k-1<w.length by omega)
    have hpy:=hp (k-1) (by omega)
    generalize w[k-1]=y at hy
    have hy0:y≠0/\y ≠ -9223372036854775808:=by
     unfold R05 at hpy
     rw[hy]at hpy
     simp only[Bool.or_eq_false_iff,Bool.not_eq_false']at hpy
     have h1:=hpy.1.2
     simp only[inR,Bool.and_eq_true,decide_eq_true_eq]at h1 hr
     exact⟨by simpa using hpy.1.1,by omega⟩
    have b2:(y == 0)=false:=by simpa using hy0.1
    have b3:(y == -9223372036854775808)=false:=by simpa using hy0.2
    have hpr:IntKind.i64.wrap ((k:Int)-1)=((k-1:Nat):Int):=t0g (by omega) (by omega)
    have ek:decide ((k:Int)>0)=true:=by simp;omega
    have bk:decide (0<k)=true:=by simp;omega
    simp only[b0,ek,hpr,P2 hy,z0c,b2,b3,H1,K1,Bool.not_true,Bool.not_false,Bool.and_true,Bool.false_and,Bool.or_self,Bool.true_and,cond_true,cond_false,oB,Bool.or_false,Bool.and_false,Bool.false_or]
    cases b1:(x == IntKind.i64.wrap (0-y))with
    |true =>
     have hb:R05 (-r) r w k=true:=by rw[hbad,hy,bk,b0,hin];exact b1
     simp only[hb,if_true,Bool.not_true,Bool.false_and,Bool.false_eq_true,if_false,cond_true,cond_false]
    |false =>
     have hb:R05 (-r) r w k=false:=by rw[hbad,hy,bk,b0,hin];exact b1
     simp only[hb,next hb,Bool.false_eq_true,if_false,Bool.not_false,Bool.true_and]
theorem b06(r:Int)(w:List Int)(b:w.length<=140737488355328):W00 r w=some (C3 r w):=by
 unfold W00
 rw[m03]
 unfold C3
 cases hr:inR 1 3 r with
 |false=>simp
 |true =>
  by_cases h24:w.length<=24
  ·have h:=a08 r w hr b w.length 0 T0 (by omega) (D1 b) (λi c=>by omega)
   rw[show((0:Nat):Int)=0 from rfl]at h
   have a : ¬ (24:Int)<(w.length:Int):=by omega
   simp only[oB,h,a]
   cases k04 (-r) r w w.length 0<;>simp[K9,h24]
  ·have a:(24:Int)<(w.length:Int):=by omega
   simp[h24,a]
def tot:List (List Int)->Nat
 | []=>0
 |w::r=>w.length+tot r
theorem O1{a:Type}{xs:List a}{k:Nat}{x:a}(h:xs[k]?=some x):xs.drop k=x::xs.drop (k+1):=by
 obtain⟨b,rfl⟩:=List.getElem?_eq_some_iff.1 h
 exact List.drop_eq_getElem_cons b
theorem I1{a:Type}{xs:List a}{k:Nat}(h:k=xs.length):xs.drop k = []:=by rw[h];exact List.drop_length
theorem Y04(ws:List (List Int))(g:ws.length<=140737488355328):∀(d k fuel a:Nat),k+d=ws.length->d<fuel->a+tot (ws.drop k)<=9223372036854775807 ->
  E4 ws fuel (a:Int) (k:Int)=some ((a+tot (ws.drop k):Nat):Int)
 |d,k,0,a,e,hf,b=>by omega
 |0,k,fuel+1,a,e,hf,b=>by
  rw[E4.eq_2,if_neg (by simp;omega),I1 (by omega)]
  rfl
 |d+1,k,fuel+1,a,e,hf,b=>by
  have f:k<ws.length:=by omega
  have c:=E5 f
  generalize ws[k]=x at c
  rw[O1 c]at b ⊢
  simp only[tot]at b ⊢
  rw[E4.eq_2,if_pos (by simp;omega),P2 c,oB,C2 f (by omega:ws.length<=9223372036854775807),
   show IntKind.i64.wrap ((a:Int)+((x.length:Nat):Int))=((a+x.length:Nat):Int) by rw[w64 (by omega) (by omega)];omega,
   Y04 ws g d (k+1) fuel (a+x.length) (by omega) (by omega) (by omega)]
  rw[Nat.add_assoc]
theorem j07(ws:List (List Int))(a:ws.length<=140737488355328)(b:tot ws<=9223372036854775807):b00 ws=some ((tot ws:Nat):Int):=by
 unfold b00
 have h:=Y04 ws a ws.length 0 T0 0 (by omega) (D1 a) (by simpa using b)
 rw[show((0:Nat):Int)=0 from rfl]at h
 rw[h]
 simp
theorem t04(ws:List (List Int)):∀(fuel:Nat) (a k:Int),n7 ws fuel a k=E4 ws fuel a k
 |0,a,k=>rfl
 |fuel+1,a,k=>by
  rw[n7.eq_2,E4.eq_2]
  simp only[t04 ws fuel]
theorem A0c(ws:List (List Int))(a:ws.length<=140737488355328)(b:tot ws<=9223372036854775807):k01 ws=some ((tot ws:Nat):Int):=by
 rw[←j07 ws a b]
 unfold k01 b00
 rw[t04]
def Q0e(r:Int):List (List Int)->Bool
 | []=>true
 |w::l=>C3 r w&&Q0e r l
def a7(r:Int)(ws:List (List Int)):Bool:=inR 1 3 r&&decide (ws.length<=6)&&Q0e r ws&&decide (tot ws<40)
theorem u0g{r:Int}:∀ {ws:List (List Int)},Q0e r ws=true->tot ws<=24*ws.length
 | [],_=>by simp[tot]
 |w::l,h=>by
  simp only[Q0e,Bool.and_eq_true]at h
  have a:=h.1
  simp only[C3,Bool.and_eq_true,decide_eq_true_eq]at a
  have:=u0g h.2
  simp only[tot,List.length_cons]
  omega
def w9(ws:List (List Int)):Prop:=∀ w∈ws,w.length<=140737488355328
theorem C06(r:Int)(ws:List (List Int))(g:ws.length<=140737488355328)(e:w9 ws):∀(d k fuel:Nat),k+d=ws.length->d<fuel ->
  d8 ws r fuel (k:Int)=some (bif Q0e r (ws.drop k)then .inr ()else .inl false)
 |d,k,0,b,hf=>by omega
 |0,k,fuel+1,b,hf=>by
  rw[d8.eq_2,if_neg (by simp;omega),I1 (by omega)]
  rfl
 |d+1,k,fuel+1,b,hf=>by
  have c:k<ws.length:=by omega
  have a:=E5 c
  have f:=e _ (List.mem_of_getElem? a)
  generalize ws[k]=x at a f
  rw[O1 a,d8.eq_2,if_pos (by simp;omega),P2 a,oB,a06 r x f,oB,C2 c (by omega:ws.length<=9223372036854775807),
   C06 r ws g e d (k+1) fuel (by omega) (by omega)]
  simp only[Q0e]
  cases C3 r x<;>simp
theorem F09(r:Int)(ws:List (List Int))(c:ws.length<=140737488355328)(d:w9 ws):v01 r ws=some (a7 r ws):=by
 unfold v01
 have h:=C06 r ws c d ws.length 0 T0 (by omega) (D1 c)
 rw[show((0:Nat):Int)=0 from rfl,List.drop_zero]at h
 rw[h,oB]
 unfold a7
 cases ha:Q0e r ws with
 |false=>simp[K9]
 |true =>
  rw[cond_true,U0,A02,oB]
  have:=u0g ha
  cases hr:inR 1 3 r with
  |false=>simp[chk,grd,J0]
  |true =>
   by_cases h6:ws.length<=6
   ·rw[j07 ws c (by omega)]
    have a:decide (((ws.length:Nat):Int)<=6)=true:=by simp;omega
    have b:decide (ws.length<=6)=true:=by simpa using h6
    rw[a,b,cond_true,H1,oB,H0 (by constructor<;>omega)]
    simp
    omega
   ·have a:decide (((ws.length:Nat):Int)<=6)=false:=by simp;omega
    have b:decide (ws.length<=6)=false:=by simpa using h6
    rw[a,b]
    simp[chk,grd,J0]
theorem D06(r:Int)(ws:List (List Int))(g:ws.length<=140737488355328)(e:w9 ws):∀(d k fuel:Nat),k+d=ws.length->d<fuel ->
  f8 ws r fuel (k:Int)=some (bif Q0e r (ws.drop k)then .inr ()else .inl false)
 |d,k,0,b,hf=>by omega
 |0,k,fuel+1,b,hf=>by
  rw[f8.eq_2,if_neg (by simp;omega),I1 (by omega)]
  rfl
 |d+1,k,fuel+1,b,hf=>by
  have c:k<ws.length:=by omega
  have a:=E5 c
  have f:=e _ (List.mem_of_getElem? a)
  generalize ws[k]=x at a f
  rw[O1 a,f8.eq_2,if_pos (by simp;omega),P2 a,oB,b06 r x f,oB,C2 c (by omega:ws.length<=9223372036854775807),
   D06 r ws g e d (k+1) fuel (by omega) (by omega)]
  simp only[Q0e]
  cases C3 r x<;>simp
theorem G09(r:Int)(ws:List (List Int))(c:ws.length<=140737488355328)(d:w9 ws):w01 r ws=some (a7 r ws):=by
 unfold w01
 rw[m03,oB]
 unfold a7
 cases hr:inR 1 3 r with
 |false=>simp
 |true =>
  by_cases h6:ws.length<=6
  ·have a:decide (((ws.length:Nat):Int)>6)=false:=by simp;omega
   have b:decide (ws.length<=6)=true:=by simpa using h6
   have h:=D06 r ws c d ws.length 0 T0 (by omega) (D1 c)
   rw[show((0:Nat):Int)=0 from rfl,List.drop_zero]at h
   rw[a,b,h,oB]
   cases ha:Q0e r ws with
   |false=>simp[K9]
   |true =>
    have:=u0g ha
    simp only[cond_true,U0,A0c ws c (by omega),oB,H0 (show J0 ((tot ws:Nat):Int) by constructor<;>omega)]
    simp
    omega
  ·have a:decide (((ws.length:Nat):Int)>6)=true:=by simp;omega
   have b:decide (ws.length<=6)=false:=by simpa using h6
   rw[a,b]
   simp
theorem z0a{b a:Int}{w:List Int}:∀ {d k:Nat},k04 b a w d k=true->∀ i,k<=i->i<k+d->R05 b a w i=false
 |0,k,h,i,c,f=>by omega
 |d+1,k,h,i,c,f=>by
  simp only[k04,Bool.and_eq_true,Bool.not_eq_true']at h
  by_cases e:i=k
  ·subst e;exact h.1
  ·exact z0a h.2 i (by omega) (by omega)
theorem I0l{r:Int}{w:List Int}(h:C3 r w=true){i:Nat}{x:Int}(d:w[i]?=some x):(1<=r/\r<=3)/\w.length<=24/\x≠0 /\ -r<=x/\x<=r:=by
 simp only[C3,Bool.and_eq_true,decide_eq_true_eq]at h
 have c:=h.1.1
 simp only[inR,Bool.and_eq_true,decide_eq_true_eq]at c
 have a:=z0a h.2 i (Nat.zero_le _) (by have:=(List.getElem?_eq_some_iff.1 d).1;omega)
 unfold R05 at a
 rw[d]at a
 simp only[Bool.or_eq_false_iff,Bool.not_eq_false']at a
 have b:=a.1.2
 simp only[inR,Bool.and_eq_true,decide_eq_true_eq]at b
 exact⟨c,h.1.2,by simpa using a.1.1,b⟩
def z07(r a:Int)(e:N0):Bool:=inR 0 a e.1&&inR 0 a e.2.2&&inR 1 r e.2.1
def v0g(e f:N0):Int:=S0 e f
theorem w0g(e f:N0):v0g e f=if B00 e.1 f.1≠0 then B00 e.1 f.1 else if B00 e.2.1 f.2.1≠0 then B00 e.2.1 f.2.1 else B00 e.2.2 f.2.2:=rfl
theorem J08(a b:Int):(a<b/\B00 a b = -1)∨(a>b/\B00 a b=1)∨(a=b/\B00 a b=0):=by
 unfold B00
 split
 ·omega
 ·split<;>omega
theorem t0f(e f:N0):J0 (v0g e f):=by
 rw[w0g]
 split
 ·exact a0k _ _
 ·split<;>exact a0k _ _
theorem u0r(g:j0)(e:N0):V03 g e=some (z07 g.1 (IntKind.i64.wrap (g.2.1-1)) e):=by
 obtain⟨r,n,es⟩:=g
 obtain⟨a,l,b⟩:=e
 unfold V03 z07
 simp only[A02,oB]
 cases inR 0 (IntKind.i64.wrap (n-1)) a with
 |false=>rfl
 |true =>
  cases inR 0 (IntKind.i64.wrap (n-1)) b with
  |false=>rfl
  |true=>simp[chk]
theorem R0e(g:j0)(e:N0):r00 g e=some (z07 g.1 (IntKind.i64.wrap (g.2.1-1)) e):=by
 obtain⟨r,n,es⟩:=g
 obtain⟨a,l,b⟩:=e
 unfold r00 V4 z07
 simp only[m03,oB]
 cases inR 0 (IntKind.i64.wrap (n-1)) a with
 |false=>rfl
 |true =>
  cases inR 0 (IntKind.i64.wrap (n-1)) b with
  |false=>rfl
  |true=>simp[chk]
theorem l04(e f:N0):H9 e f=some (v0g e f):=by
 obtain⟨a,l,b⟩:=e
 obtain⟨g,j,i⟩:=f
 unfold H9
 rw[show T0=(T0-4)+1+1+1+1 from rfl]
 have s:IntKind.i64.wrap (0+1)=1:=by decide
 have t:IntKind.i64.wrap (1+1)=2:=by decide
 have u:IntKind.i64.wrap (2+1)=3:=by decide
 have o:∀ x y z:Int,gi [x,y,z] 0=some x:=λ_ _ _=>rfl
 have p:∀ x y z:Int,gi [x,y,z] 1=some y:=λ_ _ _=>rfl
 have q:∀ x y z:Int,gi [x,y,z] 2=some z:=λ_ _ _=>rfl
 have d0:decide ((0:Int)<3)=true:=rfl
 have k:decide ((1:Int)<3)=true:=rfl
 have m:decide ((2:Int)<3)=true:=rfl
 have n:decide ((3:Int)<3)=false:=rfl
 simp only[B8.eq_2,s,t,u,o,p,q,d0,k,m,n,if_true,oB,Bool.false_eq_true,if_false]
 rw[w0g]
 simp only
 rcases J08 a g with⟨h,e⟩|⟨h,e⟩|⟨h,e⟩
 ·simp[e,h,K9]
 ·have : ¬ a<g:=by omega
  simp[e,h,this,K9]
 ·subst h
  rcases J08 l j with⟨h,c⟩|⟨h,c⟩|⟨h,c⟩
  ·simp[e,c,h,K9]
  ·have : ¬ l<j:=by omega
   simp[e,c,h,this,K9]
  ·subst h
   rcases J08 b i with⟨h,d⟩|⟨h,d⟩|⟨h,d⟩
   ·simp[e,c,d,h,K9]
   ·have : ¬ b<i:=by omega
    simp[e,c,d,h,this,K9]
   ·subst h
    simp[e,c,d,K9]
theorem M0p(a b:Int):N8 a b=some (B00 a b):=by
 unfold N8 B00
 by_cases h:a<b
 ·simp[h]
 ·by_cases h2:a>b<;>simp[h,h2]
theorem E06(e f:N0):L00 e f=some (v0g e f):=by
 obtain⟨a,l,b⟩:=e
 obtain⟨c,d,g⟩:=f
 rw[w0g]
 unfold L00
 simp only[M0p,oB,H0 (a0k _ _)]
 by_cases h1:B00 a c=0
 ·by_cases h2:B00 l d=0
  ·simp[h1,h2]
  ·simp[h1,h2]
 ·simp[h1]
def v0r(r a:Int)(es:List N0)(k:Nat):Bool:=match es[k]? with
 |none=>true
 |some e => !z07 r a e || (decide (0<k)&&match es[k-1]? with
  |none=>true
  |some f=>decide (v0g f e ≥ 0))
def okE(r a:Int)(es:List N0):Nat->Nat->Bool
 |0,_=>true
 |d+1,k => !v0r r a es k&&okE r a es d (k+1)
def V0(g:j0):Bool:=okE g.1 (IntKind.i64.wrap (g.2.1-1)) g.2.2 g.2.2.length 0&&inR 1 3 g.1&&inR 1 40 g.2.1&&decide (g.2.2.length<=120)
theorem B0c{r a:Int}{es:List N0}{k:Nat}{e:N0}(b:es[k]?=some e):v0r r a es k=(!z07 r a e || (decide (0<k)&&match es[k-1]? with
  |none=>true
  |some f=>decide (v0g f e ≥ 0))):=by unfold v0r;rw[b]
theorem k07(r n:Int)(es:List N0)(q:es.length<=140737488355328):∀(d k fuel:Nat),k+d=es.length->d<fuel ->
  R8 es r n fuel (k:Int)=some (bif okE r (IntKind.i64.wrap (n-1)) es d k then .inr ()else .inl false)
 |d,k,0,l,hf=>by omega
 |0,k,fuel+1,l,hf=>by
  rw[R8.eq_2,if_neg (by simp;omega)]
  simp[okE]
 |d+1,k,fuel+1,l,hf=>by
  have m:k<es.length:=by omega
  have a:=E5 m
  generalize es[k]=e at a
  obtain⟨h,i,j⟩:=e
  have next:=k07 r n es q d (k+1) fuel (by omega) (by omega)
  rw[R8.eq_2,if_pos (by simp;omega),P2 a,oB]
  simp only[u0r,oB,C2 m (by omega:es.length<=9223372036854775807),next,okE,B0c a]
  generalize IntKind.i64.wrap (n-1)=hi
  cases hin:z07 r hi (h,i,j)with
  |false=>simp[chk,grd,J0]
  |true =>
   by_cases hk0:k=0
   ·have c:decide ((k:Int)>0)=false:=by simp;omega
    have b:decide (0<k)=false:=by simp;omega
    simp only[c,b,K1,Bool.not_true,Bool.not_false,Bool.and_true,Bool.false_and,Bool.or_self,Bool.true_and,cond_true,cond_false,oB,Bool.or_false,Bool.false_eq_true,if_false,H0 (show J0 0 by decide)]
   ·have g:=E5 (show k-1<es.length by omega)
    generalize es[k-1]=f at g
    obtain⟨o,p,f2⟩:=f
    have s:IntKind.i64.wrap ((k:Int)-1)=((k-1:Nat):Int):=t0g (by omega) (by omega)
    have c:decide ((k:Int)>0)=true:=by simp;omega
    have b:decide (0<k)=true:=by simp;omega
    simp only[c,b,s,g,P2 a,P2 g,H1,Bool.not_true,Bool.not_false,Bool.and_true,Bool.false_and,Bool.or_self,Bool.true_and,cond_true,cond_false,oB,Bool.or_false,Bool.false_or,l04,H0 (t0f _ _)]
    cases decide (v0g (o,p,f2) (h,i,j) ≥ 0)<;>rfl
theorem o9(g:j0)(a:g.2.2.length<=140737488355328):a5 g=some (V0 g):=by
 obtain⟨r,n,es⟩:=g
 unfold a5 V0
 simp only at a ⊢
 have h:=k07 r n es a es.length 0 T0 (by omega) (D1 a)
 rw[show((0:Nat):Int)=0 from rfl]at h
 rw[h,oB]
 cases okE r (IntKind.i64.wrap (n-1)) es es.length 0 with
 |false=>simp[K9]
 |true =>
  rw[cond_true,U0,A02,A02,oB]
  cases inR 1 3 r with
  |false=>simp[chk]
  |true =>
   simp only[H1,oB,cond_true,Bool.true_and]
   cases inR 1 40 n with
   |false=>simp
   |true=>simp;omega
theorem l07(r n:Int)(es:List N0)(q:es.length<=140737488355328):∀(d k fuel:Nat),k+d=es.length->d<fuel ->
  S8 es r n fuel (k:Int)=some (bif okE r (IntKind.i64.wrap (n-1)) es d k then .inr ()else .inl false)
 |d,k,0,l,hf=>by omega
 |0,k,fuel+1,l,hf=>by
  rw[S8.eq_2,if_neg (by simp;omega)]
  simp[okE]
 |d+1,k,fuel+1,l,hf=>by
  have m:k<es.length:=by omega
  have a:=E5 m
  generalize es[k]=e at a
  obtain⟨h,i,j⟩:=e
  have next:=l07 r n es q d (k+1) fuel (by omega) (by omega)
  rw[S8.eq_2,if_pos (by simp;omega),P2 a,oB]
  simp only[R0e,oB,C2 m (by omega:es.length<=9223372036854775807),next,okE,B0c a]
  generalize IntKind.i64.wrap (n-1)=hi
  cases hin:z07 r hi (h,i,j)with
  |false=>simp[chk,grd,J0]
  |true =>
   by_cases hk0:k=0
   ·have c:decide ((k:Int)>0)=false:=by simp;omega
    have b:decide (0<k)=false:=by simp;omega
    simp only[c,b,K1,Bool.not_true,Bool.not_false,Bool.and_true,Bool.false_and,Bool.or_self,Bool.true_and,cond_true,cond_false,oB,Bool.or_false,Bool.false_eq_true,if_false,H0 (show J0 0 by decide)]
   ·have g:=E5 (show k-1<es.length by omega)
    generalize es[k-1]=f at g
    obtain⟨o,p,f2⟩:=f
    have s:IntKind.i64.wrap ((k:Int)-1)=((k-1:Nat):Int):=t0g (by omega) (by omega)
    have c:decide ((k:Int)>0)=true:=by simp;omega
    have b:decide (0<k)=true:=by simp;omega
    simp only[c,b,s,g,P2 a,P2 g,H1,Bool.not_true,Bool.not_false,Bool.and_true,Bool.false_and,Bool.or_self,Bool.true_and,cond_true,cond_false,oB,Bool.or_false,Bool.false_or,E06,H0 (t0f _ _)]
    cases decide (v0g (o,p,f2) (h,i,j) ≥ 0)<;>rfl
theorem Y01(g:j0)(c:g.2.2.length<=140737488355328):H8 g=some (V0 g):=by
 obtain⟨r,n,es⟩:=g
 unfold H8 V0
 simp only at c ⊢
 rw[m03,m03,oB]
 cases hr:inR 1 3 r with
 |false=>simp[chk]
 |true =>
  simp only[Bool.not_true,Bool.not_false,H1,oB,cond_false]
  cases hn:inR 1 40 n with
  |false=>simp
  |true =>
   by_cases h120:es.length<=120
   ·have h:=l07 r n es c es.length 0 T0 (by omega) (D1 c)
    rw[show((0:Nat):Int)=0 from rfl]at h
    have a:decide (((es.length:Nat):Int)>120)=false:=by simp;omega
    have b:decide (es.length<=120)=true:=by simpa using h120
    simp only[a,b,Bool.not_true,cond_false,Bool.false_eq_true,if_false,h,oB]
    cases okE r (IntKind.i64.wrap (n-1)) es es.length 0<;>rfl
   ·have a:decide (((es.length:Nat):Int)>120)=true:=by simp;omega
    have b:decide (es.length<=120)=false:=by simpa using h120
    simp only[a,b,Bool.not_true,cond_false,if_true,Bool.and_false]
theorem t0n{r a:Int}{es:List N0}:∀ {d k:Nat},okE r a es d k=true->∀ i,k<=i->i<k+d->v0r r a es i=false
 |0,k,h,i,b,c=>by omega
 |d+1,k,h,i,b,c=>by
  simp only[okE,Bool.and_eq_true,Bool.not_eq_true']at h
  by_cases e:i=k
  ·subst e;exact h.1
  ·exact t0n h.2 i (by omega) (by omega)
theorem x0g{n:Nat}(h:n<=9223372036854775807):n<T0:=by unfold T0;omega
def goI(x:Int):List Int->Bool×List Int
 | []=>(false,[])
 |y::l=>if x<y then(true,x::y::l)else if y=x then(true,y::l)else((goI x l).1,y::(goI x l).2)
theorem G0o(x:Int):∀ l,H01 B00 x l=bif(goI x l).1 then(goI x l).2 else(goI x l).2 ++ [x]
 | []=>rfl
 |y::l=>by
  have a:=G0o x l
  unfold H01 goI
  rcases J08 x y with⟨h,e⟩|⟨h,e⟩|⟨h,e⟩
  ·rw[e,if_pos (by omega),if_pos h];rfl
  ·rw[e,if_neg (by omega),if_neg (by omega),if_neg (by omega),if_neg (by omega),a]
   cases (goI x l).1<;>rfl
  ·rw[e,if_neg (by omega),if_pos rfl,if_neg (by omega),if_pos h.symm];rfl
theorem y0g(l:List Int)(w:Int)(h:l.length<=1099511627776):∀(d k fuel:Nat) (acc:List Int),k+d=l.length->d<fuel->acc.length<=k+1 ->
  d5 l w fuel true (k:Int) acc=some (true,acc++l.drop k)
 |d,k,0,acc,e,hf,b=>by omega
 |0,k,fuel+1,acc,e,hf,b=>by
  rw[d5.eq_2,if_neg (by simp;omega),I1 (by omega),List.append_nil]
 |d+1,k,fuel+1,acc,e,hf,b=>by
  have f:k<l.length:=by omega
  have a:=E5 f
  generalize l[k]=x at a
  have i:=y0g l w h d (k+1) fuel (acc ++ [x]) (by omega) (by omega) (by simp;omega)
  rw[d5.eq_2,if_pos (by simp;omega),P2 a,oB]
  have g:∀ c:Bool,(bif c then(!true)else false)=false:=λc=>by cases c<;>rfl
  simp only[g,Bool.false_eq_true,if_false,oB,C2 f (show l.length<=9223372036854775807 by omega),i,H0 (show(acc.length + [x].length)*8<=140737488355328 by simp;omega)]
  rw[O1 a]
  split<;>simp
theorem x0i(l:List Int)(w:Int)(b:l.length<=1099511627776):∀(d k fuel:Nat) (acc:List Int),k+d=l.length->d<fuel->acc.length=k ->
  d5 l w fuel false (k:Int) acc=some ((goI w (l.drop k)).1,acc++(goI w (l.drop k)).2)
 |d,k,0,acc,g,hf,f=>by omega
 |0,k,fuel+1,acc,g,hf,f=>by
  rw[d5.eq_2,if_neg (by simp;omega),I1 (by omega)]
  simp[goI]
 |d+1,k,fuel+1,acc,g,hf,f=>by
  have a:k<l.length:=by omega
  have e:=E5 a
  generalize l[k]=x at e
  have j:=x0i l w b d (k+1) fuel (acc ++ [x]) (by omega) (by omega) (by simp;omega)
  have m:=y0g l w b d (k+1) fuel (acc ++ [x]) (by omega) (by omega) (by simp;omega)
  have n:=y0g l w b d (k+1) fuel (acc ++ [w] ++ [x]) (by omega) (by omega) (by simp;omega)
  rw[d5.eq_2,if_pos (by simp;omega),P2 e,oB,O1 e]
  unfold goI
  have h:∀ c:Bool,(bif c then(!true)else false)=false:=λc=>by cases c<;>rfl
  have i:∀ c:Bool,(bif c then(!false)else false)=c:=λc=>by cases c<;>rfl
  by_cases h0:x=w
  ·rw[if_pos (by simpa using h0),oB,h,if_neg (by simp),oB,H0 (by simp;omega),oB,C2 a (by omega),m,if_neg (by omega),if_pos h0]
   simp
  ·rw[if_neg (by simpa using h0),oB,i]
   by_cases h1:w<x
   ·rw[if_pos (by simpa using h1),H0 (by simp;omega),oB,oB,H0 (by simp;omega),oB,C2 a (by omega),n,if_pos h1]
    simp
   ·rw[if_neg (by simpa using h1),oB,H0 (by simp;omega),oB,C2 a (by omega),j,if_neg h1,if_neg h0]
    simp
theorem C0c(l:List Int)(w:Int)(a:l.length<=1099511627776):l00 l w=some (H01 B00 w l):=by
 unfold l00
 have h:=x0i l w a l.length 0 T0 [] (by omega) (D1 (by omega)) rfl
 rw[show((0:Nat):Int)=0 from rfl,List.drop_zero,List.nil_append]at h
 rw[h,oB,G0o]
 have b:∀ l:List Int,(goI w l).2.length<=l.length+1:=λl=>by
  induction l with
  |nil=>simp[goI]
  |cons y l c =>
   unfold goI
   split
   ·simp
   ·split
    ·simp
    ·simp only[List.length_cons];omega
 have:=b l
 cases (goI w l).1 with
 |true=>rfl
 |false =>
  simp only[Bool.not_false,if_true,cond_false]
  rw[H0 (by simp;omega),oB]
def y0i(v x:Int)(e:N0):List Int :=
 if 0<x/\e.2.1=x/\e.1=v then [e.2.2]else if x<0/\e.2.1 = -x/\e.2.2=v then [e.1]else []
def m01(v x:Int):List N0->List Int
 | []=>[]
 |e::es=>y0i v x e++m01 v x es
theorem N0p(v x:Int)(e:N0):(y0i v x e).length<=1:=by unfold y0i;split<;>(try split)<;>simp
theorem z0g(v x:Int):∀ es,(m01 v x es).length<=es.length
 | []=>by simp[m01]
 |e::es=>by
  have a:=N0p v x e
  have b:=z0g v x es
  simp only[m01,List.length_append,List.length_cons]
  omega
def l5(x:Int):Prop:=J0 x/\x ≠ -9223372036854775808
theorem D0c(es:List N0)(v x:Int)(f:l5 x)(t:es.length<=1099511627776):∀(d k fuel:Nat) (acc:List Int),k+d=es.length->d<fuel->acc.length<=k ->
  D5 es x v fuel (k:Int) acc=some (acc++m01 v x (es.drop k))
 |d,k,0,acc,p,hf,o=>by omega
 |0,k,fuel+1,acc,p,hf,o=>by
  rw[D5.eq_2,if_neg (by simp;omega),I1 (by omega)]
  simp[m01]
 |d+1,k,fuel+1,acc,p,hf,o=>by
  have q:k<es.length:=by omega
  have m:=E5 q
  generalize es[k]=e at m
  obtain⟨a,l,b⟩:=e
  have n:=λs h=>D0c es v x f t d (k+1) fuel s (by omega) (by omega) h
  have u:decide (x = -9223372036854775808)=false:=by simp;exact f.2
  rw[D5.eq_2,if_pos (by simp;omega),P2 m,oB,O1 m]
  simp only[m01,y0i,y0c f.1 f.2,u,Bool.not_false,C2 q (show es.length<=9223372036854775807 by omega)]
  by_cases c:0<x/\l=x/\a=v
  ·obtain⟨c,rfl,rfl⟩:=c
   rw[if_pos (by simp[c]),if_pos ⟨c,rfl,rfl⟩,H0 (by simp;omega),oB,n _ (by simp;omega)]
   simp
  ·rw[if_neg c,if_neg (by simp only[Bool.cond_eq_ite];simp;intro g i j;exact c ⟨g,i,j⟩)]
   by_cases c2:x<0/\l = -x/\b=v
   ·rw[if_pos c2,if_pos (by simp[c2.1,c2.2.1,c2.2.2]),H0 (by simp;omega),oB,n _ (by simp;omega)]
    simp
   ·rw[if_neg c2,if_neg (by simp only[Bool.cond_eq_ite];simp;intro g i j;exact c2 ⟨g,i,j⟩),n _ (by omega)]
    simp
theorem b08(w:Int):∀ l:List Int,(H01 B00 w l).length<=l.length+1
 | []=>by simp[H01]
 |y::l=>by
  have:=b08 w l
  unfold H01
  split
  ·simp
  ·split
   ·simp
   ·simp only[List.length_cons];omega
theorem E0c(es:List N0)(v x:Int)(m:l5 x)(s:es.length<=1099511627776):∀(d k fuel:Nat) (u:List Int),k+d=es.length->d<fuel->u.length<=k ->
  L4 es x v fuel u (k:Int)=some (C6 B00 u (m01 v x (es.drop k)))
 |d,k,0,u,p,hf,o=>by omega
 |0,k,fuel+1,u,p,hf,o=>by
  rw[L4.eq_2,if_neg (by simp;omega),I1 (by omega)]
  rfl
 |d+1,k,fuel+1,u,p,hf,o=>by
  have q:k<es.length:=by omega
  have j:=E5 q
  generalize es[k]=e at j
  obtain⟨a,l,b⟩:=e
  have n:=λw h=>E0c es v x m s d (k+1) fuel w (by omega) (by omega) h
  rw[L4.eq_2,if_pos (by simp;omega),P2 j,oB,O1 j]
  simp only[m01,y0i,y0c m.1 m.2,C2 q (show es.length<=9223372036854775807 by omega)]
  by_cases c:0<x/\l=x/\a=v
  ·obtain⟨c,rfl,rfl⟩:=c
   have t:decide (l<0)=false:=by simp;omega
   have:=b08 b u
   rw[if_pos (by simp[c]),if_pos ⟨c,rfl,rfl⟩,C0c u b (by omega),oB,t,if_neg (by simp),n _ (by omega)]
   rfl
  ·rw[if_neg c,if_neg (by simp only[Bool.cond_eq_ite];simp;intro f g i;exact c ⟨f,g,i⟩)]
   by_cases c2:x<0/\l = -x/\b=v
   ·have:=b08 a u
    rw[if_pos c2,if_pos (by simp[c2.1,c2.2.1,c2.2.2]),C0c u a (by omega),oB,n _ (by omega)]
    rfl
   ·rw[if_neg c2,if_neg (by simp only[Bool.cond_eq_ite];simp;intro f g i;exact c2 ⟨f,g,i⟩),n _ (by omega)]
    rfl
def b04(g:j0)(v x:Int):List Int:=C6 B00 [] (m01 v x g.2.2)
theorem Z0s(x y:Int):eqI x y=true↔x=y:=by simp[eqI]
theorem J0l(g:j0)(v x:Int)(b:l5 x)(a:g.2.2.length<=1099511627776):f02 g v x=some (b04 g v x):=by
 obtain⟨r,n,es⟩:=g
 unfold f02 b04
 have h:=E0c es v x b a es.length 0 T0 [] (by omega) (x0g (by simp only at a;omega)) (by simp)
 rw[show((0:Nat):Int)=0 from rfl,List.drop_zero]at h
 simp only[h,oB]
theorem K0l(g:j0)(v x:Int)(b:l5 x)(a:g.2.2.length<=1099511627776):g02 g v x=some (b04 g v x):=by
 obtain⟨r,n,es⟩:=g
 unfold g02 b04
 have h:=D0c es v x b a es.length 0 T0 [] (by omega) (x0g (by simp only at a;omega)) (by simp)
 rw[show((0:Nat):Int)=0 from rfl,List.drop_zero,List.nil_append]at h
 have c:=z0g v x es
 simp only at a
 simp only[h,oB,H0 (show(m01 v x es).length<4611686018427387904 by omega)]
 rw[←H0l U03 Z0s (m01 v x es) (m01 v x es) λ_=>Iff.rfl]
 rfl
def j1(g:j0)(v x:Int):Int:=match b04 g v x with
 | [] => -1
 |a::_=>a
theorem f05(g:j0)(v x:Int)(c:l5 x)(b:g.2.2.length<=1099511627776):p6 g v x=some (j1 g v x):=by
 have h:=J0l g v x c b
 obtain⟨r,n,es⟩:=g
 unfold p6 j1
 simp only[h,oB]
 cases b04 (r,n,es) v x with
 |nil=>rfl
 |cons a l=>rfl
theorem F06(g:j0)(v x:Int)(c:l5 x)(b:g.2.2.length<=1099511627776):j8 g v x=some (j1 g v x):=by
 have h:=K0l g v x c b
 obtain⟨r,n,es⟩:=g
 unfold j8 j1
 simp only[h,oB]
 cases b04 (r,n,es) v x with
 |nil=>rfl
 |cons a l=>rfl
theorem z0i{g:j0}{v x y:Int}(h:y∈b04 g v x):y∈m01 v x g.2.2:=by
 rcases(I00 U03 y _ []).1 h with h|h
 ·cases h
 ·exact h
theorem z9{v x y:Int}:∀ {es:List N0},y∈m01 v x es↔∃ e∈es,(0<x/\e.2.1=x/\e.1=v/\y=e.2.2)∨(x<0/\e.2.1 = -x/\e.2.2=v/\y=e.1)
 | []=>by simp[m01]
 |e::es=>by
  simp only[m01,List.mem_append,z9 (es:=es),List.mem_cons,exists_eq_or_imp]
  refine or_congr ?_ Iff.rfl
  unfold y0i
  split
  ·rename_i h
   simp only[List.mem_singleton]
   constructor
   ·rintro rfl;exact .inl ⟨h.1,h.2.1,h.2.2,rfl⟩
   ·rintro(⟨_,_,_,a⟩|⟨f,_⟩)
    ·exact a
    ·omega
  ·rename_i h
   split
   ·rename_i b
    simp only[List.mem_singleton]
    constructor
    ·rintro rfl;exact .inr ⟨b.1,b.2.1,b.2.2,rfl⟩
    ·rintro(⟨f,_⟩|⟨_,_,_,a⟩)
     ·omega
     ·exact a
   ·rename_i b
    constructor
    ·intro h;cases h
    ·rintro(⟨c,a,d,_⟩|⟨c,a,d,_⟩)
     ·exact absurd ⟨c,a,d⟩ h
     ·exact absurd ⟨c,a,d⟩ b
def inG(g:j0):Prop:=∀ e∈g.2.2,(0<=e.1/\e.1<g.2.1)/\(0<=e.2.2/\e.2.2<g.2.1)/\1<=e.2.1/\e.2.1<=g.1
theorem U2{g:j0}(h:V0 g=true):inG g/\(1<=g.1/\g.1<=3)/\(1<=g.2.1/\g.2.1<=40)/\g.2.2.length<=120:=by
 obtain⟨r,n,es⟩:=g
 simp only[V0,inR,Bool.and_eq_true,decide_eq_true_eq]at h
 obtain⟨⟨⟨m,o⟩,p⟩,q⟩:=h
 refine⟨λe s=>?_,o,p,q⟩
 obtain⟨i,b⟩:=List.getElem?_of_mem s
 have a:=t0n m i (Nat.zero_le _) (by have:=(List.getElem?_eq_some_iff.1 b).1;simp only at this;omega)
 rw[B0c b]at a
 simp only[Bool.or_eq_false_iff,Bool.not_eq_false',z07,inR,Bool.and_eq_true,decide_eq_true_eq]at a
 obtain⟨⟨⟨⟨c,d⟩,f,j⟩,k,l⟩,_⟩:=a
 rw[w64 (by omega) (by omega)]at d j
 simp only
 exact⟨⟨c,by omega⟩,⟨f,by omega⟩,k,l⟩
theorem J04{g:j0}(d:inG g)(v x:Int):j1 g v x = -1∨(0<=j1 g v x/\j1 g v x<g.2.1):=by
 unfold j1
 cases hs:b04 g v x with
 |nil=>exact .inl rfl
 |cons a l =>
  right
  have b:a∈b04 g v x:=by rw[hs];exact mS
  obtain⟨e,c,h⟩:=z9.1 (z0i b)
  have:=d e c
  rcases h with⟨_,_,_,rfl⟩|⟨_,_,_,rfl⟩
  ·exact this.2.1
  ·exact this.1
theorem c04{g:j0}(a:inG g)(b:g.2.1<=40)(v x:Int):J0 (j1 g v x):=by
 rcases J04 a v x with h|h
 ·rw[h];decide
 ·constructor<;>omega
def G06(a b:N0):Bool:=decide (a.2.1=b.2.1)&&(decide (a.1=b.1) || decide (a.2.2=b.2.2))
theorem J0d(a b:N0):G06 a b=G06 b a:=by
 unfold G06
 have h:∀ x y:Int,decide (x=y)=decide (y=x):=λx y=>decide_eq_decide.2 ⟨Eq.symm,Eq.symm⟩
 rw[h a.2.1,h a.1,h a.2.2]
def noC(a:N0):List N0->Bool
 | []=>true
 |b::l => !G06 a b&&noC a l
def a0b:List N0->Bool
 | []=>true
 |a::l=>noC a l&&a0b l
theorem c0k(a:N0):∀ l,noC a l=true↔∀ b∈l,G06 a b=false
 | []=>by simp[noC]
 |b::l=>by simp[noC,c0k a l]
theorem K0d:∀ l,a0b l=true↔l.Pairwise λa b=>G06 a b=false
 | []=>by simp[a0b]
 |a::l=>by simp[a0b,K0d l,c0k,List.pairwise_cons]
def A0g:List N0->List N0->Bool
 |_,[]=>true
 |b,a::l=>noC a b&&A0g (b ++ [a]) l
theorem A0i:∀(l f:List N0),A0g f l=true↔l.Pairwise (λa b=>G06 a b=false)/\∀ a∈l,∀ b∈f,G06 a b=false
 | [],f=>by simp[A0g]
 |a::l,f=>by
  simp only[A0g,Bool.and_eq_true,c0k,A0i l,List.pairwise_cons]
  constructor
  ·rintro⟨g,h,e⟩
   refine⟨⟨λb c=>by rw[J0d];exact e b c a (by simp),h⟩,λx d b c=>?_⟩
   rcases List.mem_cons.1 d with rfl|d
   ·exact g b c
   ·exact e x d b (by simp[c])
  ·rintro⟨⟨g,h⟩,e⟩
   refine⟨λb c=>e a mS b c,h,λx d b c=>?_⟩
   rcases List.mem_append.1 c with c|c
   ·exact e x (mC _ d) b c
   ·rw[List.mem_singleton.1 c,J0d];exact g x d
theorem O0p(l:List N0):A0g [] l=a0b l:=by
 rw[Bool.eq_iff_iff,A0i,K0d]
 simp
def O0(g:j0):Bool:=V0 g&&a0b g.2.2
theorem t0t(a b e c d f:Int):(bif decide (b=d)then(bif decide (a=c)then true else decide (e=f))else false)=G06 (a,b,e) (c,d,f):=by
 unfold G06
 cases decide (b=d)<;>cases decide (a=c)<;>rfl
theorem F0c(l:List N0)(a:N0)(n:l.length<=140737488355328):∀(d k fuel:Nat),k+d=l.length->d<fuel ->
  l8 l a.2.1 a.1 a.2.2 fuel (k:Int)=some (bif noC a (l.drop k)then .inr ()else .inl false)
 |d,k,0,g,hf=>by omega
 |0,k,fuel+1,g,hf=>by
  rw[l8.eq_2,if_neg (by simp;omega),I1 (by omega)]
  rfl
 |d+1,k,fuel+1,g,hf=>by
  have h:k<l.length:=by omega
  have b:=E5 h
  generalize l[k]=x at b
  obtain⟨c,e,f⟩:=a
  obtain⟨i,j,m⟩:=x
  rw[l8.eq_2,if_pos (by simp;omega),P2 b,oB,O1 b]
  simp only[t0t,noC]
  cases hc:G06 (c,e,f) (i,j,m)with
  |true=>rfl
  |false =>
   rw[if_neg (by simp),C2 h (by omega),F0c l (c,e,f) n d (k+1) fuel (by omega) (by omega)]
   simp
theorem m04{a:Type}{xs:List a}{k:Nat}(h:k<=xs.length):S06 xs (k:Int) (xs.length:Int)=some (xs.drop k):=by
 unfold S06
 rw[if_pos ⟨by omega,by omega,by omega⟩]
 simp
theorem G0c(l:List N0)(h:l.length<=140737488355328):∀(d k fuel:Nat),k+d=l.length->d<fuel ->
  n8 l fuel (k:Int)=some (bif a0b (l.drop k)then .inr ()else .inl false)
 |d,k,0,b,hf=>by omega
 |0,k,fuel+1,b,hf=>by
  rw[n8.eq_2,if_neg (by simp;omega),I1 (by omega)]
  rfl
 |d+1,k,fuel+1,b,hf=>by
  have c:k<l.length:=by omega
  have a:=E5 c
  generalize l[k]=x at a
  have h0:=F0c (l.drop (k+1)) x (by simp;omega) (l.drop (k+1)).length 0 T0 (by omega) (D1 (by simp;omega))
  rw[show((0:Nat):Int)=0 from rfl,List.drop_zero]at h0
  obtain⟨e,f,g⟩:=x
  rw[n8.eq_2,if_pos (by simp;omega),P2 a,oB,O1 a]
  simp only[C2 c (show l.length<=9223372036854775807 by omega),m04 (show k+1<=l.length by omega),oB]
  simp only at h0
  rw[h0,oB]
  simp only[a0b]
  cases noC (e,f,g) (l.drop (k+1))with
  |false=>rfl
  |true =>
   simp only[cond_true,I0p,Bool.true_and]
   exact G0c l h d (k+1) fuel (by omega) (by omega)
theorem u00(g:j0)(a:g.2.2.length<=140737488355328):E7 g=some (O0 g):=by
 have b:=Y01 g a
 obtain⟨r,n,es⟩:=g
 unfold E7 O0
 simp only[b,oB]
 cases V0 (r,n,es)with
 |false=>rfl
 |true =>
  have h:=G0c es a es.length 0 T0 (by omega) (D1 a)
  rw[show((0:Nat):Int)=0 from rfl,List.drop_zero]at h
  rw[if_neg (by simp),h,oB]
  cases a0b es<;>rfl
theorem H0c(l:List N0)(q:l.length<=140737488355328){i:Nat}{a:N0}(b:l[i]?=some a):∀(d k fuel:Nat),k+d=i->d<fuel ->
  g8 (i:Int) l fuel (k:Int)=some (bif noC a ((l.take i).drop k)then .inr ()else .inl false)
 |d,k,0,e,hf=>by omega
 |0,k,fuel+1,e,hf=>by
  have:=(List.getElem?_eq_some_iff.1 b).1
  rw[g8.eq_2,if_neg (by simp;omega),I1 (by simp;omega)]
  rfl
 |d+1,k,fuel+1,e,hf=>by
  have t:=(List.getElem?_eq_some_iff.1 b).1
  have f:k<l.length:=by omega
  have c:=E5 f
  have g:(l.take i)[k]?=some l[k]:=by rw[List.getElem?_take,if_pos (by omega)];exact c
  have s:=H0c l q b d (k+1) fuel (by omega) (by omega)
  generalize l[k]=x at c g
  obtain⟨h,j,m⟩:=a
  obtain⟨n,o,p⟩:=x
  rw[g8.eq_2,if_pos (by simp;omega),P2 b,oB,O1 g]
  simp only[P2 c,oB,t0t,noC]
  cases hc:G06 (h,j,m) (n,o,p)with
  |true=>rfl
  |false =>
   rw[if_neg (by simp),C2 f (by omega),s]
   simp
theorem H0o{a:Type}{xs:List a}{k:Nat}{x:a}(h:xs[k]?=some x):xs.take (k+1)=xs.take k ++ [x]:=by
 obtain⟨b,rfl⟩:=List.getElem?_eq_some_iff.1 h
 exact List.take_succ_eq_append_getElem b
theorem I0c(r n:Int)(l:List N0)(f:V0 (r,n,l)=true)(b:l.length<=140737488355328):∀(d k fuel:Nat),k+d=l.length->d<fuel ->
  r6 l r n fuel (k:Int)=some (bif A0g (l.take k) (l.drop k)then .inr ()else .inl false)
 |d,k,0,c,hf=>by omega
 |0,k,fuel+1,c,hf=>by
  have e:decide ((k:Int)<(l.length:Int))=false:=by simp;omega
  rw[r6.eq_2,e,K1,oB,if_neg (by simp),I1 (by omega)]
  rfl
 |d+1,k,fuel+1,c,hf=>by
  have g:k<l.length:=by omega
  have a:=E5 g
  generalize l[k]=x at a
  have h0:=H0c l b a k 0 T0 (by omega) (D1 (by omega))
  rw[show((0:Nat):Int)=0 from rfl,List.drop_zero]at h0
  have e:decide ((k:Int)<(l.length:Int))=true:=by simp;omega
  rw[r6.eq_2,e,H1,o9 (r,n,l) b,oB,f,if_pos (show(bif true then true else false)=true from rfl),h0,oB,O1 a]
  simp only[A0g]
  cases noC x (l.take k)with
  |false=>rfl
  |true =>
   simp only[cond_true,I0p,Bool.true_and]
   rw[C2 g (by omega),←H0o a]
   exact I0c r n l f b d (k+1) fuel (by omega) (by omega)
theorem O6(g:j0)(a:g.2.2.length<=140737488355328):J4 g=some (O0 g):=by
 have b:=o9 g a
 obtain⟨r,n,es⟩:=g
 unfold J4 O0
 simp only[b,oB]
 cases hg:V0 (r,n,es)with
 |false =>
  have c:r6 es r n T0 0=some (.inr ()):=by
   rw[show T0=(T0-1)+1 from rfl,r6.eq_2]
   by_cases e:decide ((0:Int)<(es.length:Int))=true
   ·rw[e,H1,b,oB,hg,if_neg (by simp)]
   ·rw[Bool.not_eq_true]at e
    rw[e,K1,oB,if_neg (by simp)]
  rw[c]
  rfl
 |true =>
  have h:=I0c r n es hg a es.length 0 T0 (by omega) (D1 a)
  rw[show((0:Nat):Int)=0 from rfl,List.drop_zero,List.take_zero,O0p]at h
  rw[h,oB]
  cases a0b es<;>rfl
def Y2(g:j0):Int->List Int->Int×Nat
 |v,[]=>(v,0)
 |v,x::w=>if j1 g v x<0 then(v,0)else((Y2 g (j1 g v x) w).1,(Y2 g (j1 g v x) w).2+1)
theorem H06(g:j0):∀(w:List Int) (v:Int),(Y2 g v w).2<=w.length
 | [],v=>by simp[Y2]
 |x::w,v=>by
  have:=H06 g w (j1 g v x)
  unfold Y2
  split
  ·simp
  ·simp only[List.length_cons];omega
theorem H09{g:j0}(a:inG g)(b:g.2.1<=40):∀(w:List Int) (v:Int),J0 v->J0 (Y2 g v w).1
 | [],v,h=>h
 |x::w,v,h=>by
  unfold Y2
  split
  ·exact h
  ·exact H09 a b w _ (c04 a b v x)
def a0t(q:Int×Nat)(n:Nat)(k:Nat):(Int×Int) ⊕ Int:=bif decide (q.2<n)then .inl (q.1,((k+q.2:Nat):Int))else .inr q.1
theorem z0e(r n:Int)(es:List N0)(f:inG (r,n,es))(g:n<=40)(e:es.length<=1099511627776)(w:List Int)(i:∀ x∈w,l5 x)(l:w.length<=140737488355328):∀(d k fuel:Nat) (v:Int),k+d=w.length->d<fuel ->
  U6 w r n es fuel v (k:Int)=some (a0t (Y2 (r,n,es) v (w.drop k)) d k)
 |d,k,0,v,c,hf=>by omega
 |0,k,fuel+1,v,c,hf=>by
  rw[U6.eq_2,if_neg (by simp;omega),I1 (by omega)]
  rfl
 |d+1,k,fuel+1,v,c,hf=>by
  have a:k<w.length:=by omega
  have b:=E5 a
  have j:=i _ (List.getElem_mem a)
  generalize w[k]=x at b j
  rw[U6.eq_2,if_pos (by simp;omega),P2 b,oB,F06 (r,n,es) v x j e,oB,H0 (c04 f g v x),oB,O1 b]
  unfold Y2
  by_cases h:j1 (r,n,es) v x<0
  ·rw[if_pos (by simpa using h),if_pos h]
   simp[a0t]
  ·rw[if_neg (by simpa using h),if_neg h,C2 a (by omega),z0e r n es f g e w i l d (k+1) fuel _ (by omega) (by omega)]
   unfold a0t
   simp only[Nat.add_lt_add_iff_right]
   congr 2
   simp only[Nat.add_assoc,Nat.add_comm 1]
theorem w0r(g:j0)(c:inG g)(d:g.2.1<=40)(b:g.2.2.length<=1099511627776)(v:Int)(w:List Int)(e:∀ x∈w,l5 x)(a:w.length<=140737488355328):E00 g v w=some ((Y2 g v w).1,(((Y2 g v w).2:Nat):Int)):=by
 obtain⟨r,n,es⟩:=g
 unfold E00
 have h:=z0e r n es c d b w e a w.length 0 T0 v (by omega) (D1 a)
 rw[show((0:Nat):Int)=0 from rfl,List.drop_zero]at h
 have f:=H06 (r,n,es) w v
 simp only[h,oB,a0t]
 by_cases hc:(Y2 (r,n,es) v w).2<w.length
 ·simp[hc,K9]
 ·have:(Y2 (r,n,es) v w).2=w.length:=by omega
  simp[this,K9]
theorem A0e(r n:Int)(es:List N0)(f:inG (r,n,es))(g:n<=40)(e:es.length<=1099511627776)(w:List Int)(i:∀ x∈w,l5 x)(l:w.length<=140737488355328):∀(d k fuel:Nat) (v:Int),k+d=w.length->d<fuel ->
  i8 w r n es fuel v (k:Int)=some (bif decide ((Y2 (r,n,es) v (w.drop k)).2<d)then .inl (-1,false)else .inr (Y2 (r,n,es) v (w.drop k)).1)
 |d,k,0,v,c,hf=>by omega
 |0,k,fuel+1,v,c,hf=>by
  rw[i8.eq_2,if_neg (by simp;omega),I1 (by omega)]
  rfl
 |d+1,k,fuel+1,v,c,hf=>by
  have a:k<w.length:=by omega
  have b:=E5 a
  have j:=i _ (List.getElem_mem a)
  generalize w[k]=x at b j
  rw[i8.eq_2,if_pos (by simp;omega),P2 b,oB,f05 (r,n,es) v x j e,oB,H0 (c04 f g v x),oB,O1 b]
  unfold Y2
  by_cases h:j1 (r,n,es) v x<0
  ·rw[if_pos (by simpa using h),if_pos h]
   simp
  ·rw[if_neg (by simpa using h),if_neg h,C2 a (by omega),A0e r n es f g e w i l d (k+1) fuel _ (by omega) (by omega)]
   simp only[Nat.add_lt_add_iff_right]
theorem x0r(g:j0)(hf:O0 g=true)(v:Int)(j:0<=v/\v<g.2.1)(w:List Int)(k:∀ x∈w,l5 x)(a:w.length<=140737488355328):
  x01 g v w=some (bif decide ((Y2 g v w).2<w.length)then(-1,false)else((Y2 g v w).1,true)):=by
 have f:V0 g=true:=by unfold O0 at hf;simp only[Bool.and_eq_true]at hf;exact hf.1
 obtain⟨e,_,b,d⟩:=U2 f
 have c:=O6 g (by omega)
 obtain⟨r,n,es⟩:=g
 simp only at j b d
 unfold x01
 have h:=A0e r n es e b.2 (by omega) w k a w.length 0 T0 v (by omega) (D1 a)
 rw[show((0:Nat):Int)=0 from rfl,List.drop_zero]at h
 have i:inR 0 (n-1) v=true:=by simp only[inR,Bool.and_eq_true,decide_eq_true_eq];omega
 simp only[c,hf,oB,Bool.not_true,Bool.not_false,H1,A02,w64 (show -9223372036854775808<=n-1 by omega) (show n-1<=9223372036854775807 by omega),i,cond_false,Bool.false_eq_true,if_false,h]
 cases decide ((Y2 (r,n,es) v w).2<w.length)<;>rfl
theorem J1{g:j0}(h:O0 g=true):inG g/\(1<=g.1/\g.1<=3)/\(1<=g.2.1/\g.2.1<=40)/\g.2.2.length<=120:=by
 unfold O0 at h
 simp only[Bool.and_eq_true]at h
 exact U2 h.1
def y0r(v:Int)(e:N0):Nat:=(if e.1=v then 1 else 0)+(if e.2.2=v then 1 else 0)
def K04(v:Int):List N0->Nat
 | []=>0
 |e::r=>y0r v e+K04 v r
theorem b0t(v:Int)(e:N0):y0r v e<=2:=by unfold y0r;split<;>split<;>omega
theorem d0k(v:Int):∀ l,K04 v l<=2*l.length
 | []=>by simp[K04]
 |e::r=>by have:=b0t v e;have:=d0k v r;simp only[K04,List.length_cons];omega
theorem B0g(es:List N0)(v:Int)(o:es.length<=1099511627776):∀(d k fuel acc:Nat),k+d=es.length->d<fuel->acc<=2*k ->
  Z3 es v fuel (acc:Int) (k:Int)=some ((acc+K04 v (es.drop k):Nat):Int)
 |d,k,0,acc,j,hf,i=>by omega
 |0,k,fuel+1,acc,j,hf,i=>by
  rw[Z3.eq_2,if_neg (by simp;omega),I1 (by omega)];rfl
 |d+1,k,fuel+1,acc,j,hf,i=>by
  have m:k<es.length:=by omega
  have f:=E5 m
  generalize es[k]=e at f
  obtain⟨a,l,b⟩:=e
  have c:=λn h=>B0g es v o d (k+1) fuel n (by omega) (by omega) h
  have g:IntKind.i64.wrap ((acc:Int)+1)=((acc+1:Nat):Int):=by rw[w64 (by omega) (by omega)];rfl
  have p:IntKind.i64.wrap (((acc+1:Nat):Int)+1)=((acc+2:Nat):Int):=by rw[w64 (by omega) (by omega)];rfl
  rw[Z3.eq_2,if_pos (by simp;omega),P2 f,O1 f]
  simp only[oB,K04,y0r,C2 m (show es.length<=9223372036854775807 by omega)]
  by_cases c1:a=v
  ·rw[if_pos (by simpa using c1),if_pos c1]
   by_cases c2:b=v
   ·rw[if_pos (by simpa using c2),if_pos c2,g,p,c _ (by omega)];congr 2;omega
   ·rw[if_neg (by simpa using c2),if_neg c2,g,c _ (by omega)];congr 2;omega
  ·rw[if_neg (by simpa using c1),if_neg c1]
   by_cases c2:b=v
   ·rw[if_pos (by simpa using c2),if_pos c2,g,c _ (by omega)];congr 2;omega
   ·rw[if_neg (by simpa using c2),if_neg c2,c _ (by omega)];congr 2;omega
theorem C0g(es:List N0)(v:Int):∀(fuel:Nat) (x y:Int),t6 es v fuel x y=Z3 es v fuel x y
 |0,x,y=>rfl
 |fuel+1,x,y=>by
  rw[t6.eq_2,Z3.eq_2]
  simp only[C0g es v fuel]
  by_cases c:(decide (y<((es.length:Nat):Int)))=true
  ·rw[if_pos c,if_pos c]
   cases hg:gi es y with
   |none=>rfl
   |some e=>simp only[oB]
  ·rw[if_neg c,if_neg c]
theorem B0i(g:j0)(v:Int)(a:g.2.2.length<=1099511627776):y01 g v=some ((K04 v g.2.2:Nat):Int):=by
 obtain⟨r,n,es⟩:=g
 unfold y01
 have h:=B0g es v a es.length 0 T0 0 (by omega) (D1 (by simp only at a;omega)) (Nat.zero_le _)
 rw[show((0:Nat):Int)=0 from rfl,List.drop_zero,Nat.zero_add]at h
 simp only[h,oB]
theorem P0p(g:j0)(v:Int)(a:g.2.2.length<=1099511627776):G02 g v=some ((K04 v g.2.2:Nat):Int):=by
 have h:=B0i g v a
 obtain⟨r,n,es⟩:=g
 unfold G02
 unfold y01 at h
 simp only[C0g]at h ⊢
 exact h
def D0g(g h:j0):Bool:=decide (g=h)
theorem u0f(x y:N0):eqE x y=true↔x=y:=by simp[eqE]
theorem B0e(a b:List N0)(l:a.length=b.length)(j:a.length<=9223372036854775807):∀(d k fuel:Nat),k+d=a.length->d<fuel ->
  T1 a b fuel (k:Int)=some (if a.drop k=b.drop k then .inr ()else .inl false)
 |d,k,0,g,hf=>by omega
 |0,k,fuel+1,g,hf=>by
  rw[T1.eq_2,if_neg (by simp;omega),I1 (by omega),I1 (by omega)];rfl
 |d+1,k,fuel+1,g,hf=>by
  have i:k<a.length:=by omega
  have m:k<b.length:=by omega
  have e:=E5 i
  have f:=E5 m
  generalize a[k]=x at e
  generalize b[k]=y at f
  have o:=B0e a b l j d (k+1) fuel (by omega) (by omega)
  rw[T1.eq_2,if_pos (by simp;omega),P2 e,P2 f,O1 e,O1 f]
  simp only[oB,C2 i j,o]
  by_cases c:x=y
  ·subst c
   rw[if_neg (by simp[eqE])]
   simp
  ·have n:eqE x y=false:=Bool.eq_false_iff.2 λh=>c ((u0f x y).1 h)
   rw[if_pos (show(!eqE x y)=true by rw[n];rfl),if_neg (by simp[c])]
theorem E0g(a b:List N0)(d:a.length<=9223372036854775807):E3 a b=some (decide (a=b)):=by
 unfold E3
 by_cases hab:a.length=b.length
 ·have h:=B0e a b hab d a.length 0 T0 (by omega) (by unfold T0;omega)
  rw[if_neg (by simp;omega),show(0:Int)=((0:Nat):Int) from rfl,h,List.drop_zero,List.drop_zero]
  by_cases c:a=b
  ·rw[if_pos c];simp[K9,c]
  ·rw[if_neg c];simp[K9,c]
 ·rw[if_pos (by simp;omega)]
  congr 1
  symm
  simp
  intro h;exact hab (by rw[h])
theorem C0i(g h:j0)(b:g.2.2.length<=9223372036854775807):d00 g h=some (D0g g h):=by
 obtain⟨r,n,es⟩:=g
 obtain⟨d,c,a⟩:=h
 unfold d00 D0g
 simp only[Prod.mk.injEq]
 by_cases c1:r=d<;>by_cases c2:n=c<;>simp[c1,c2,H1,K1,E0g es a b]
theorem D0i(a b:List N0):∀(fuel:Nat) (k:Int),o7 a b fuel k=T1 a b fuel k
 |0,k=>rfl
 |fuel+1,k=>by
  rw[o7.eq_2,T1.eq_2]
  simp only[D0i a b fuel]
theorem E0i(g h:j0)(b:g.2.2.length<=9223372036854775807):c00 g h=some (D0g g h):=by
 have a:=E0g g.2.2 h.2.2 b
 obtain⟨r,n,es⟩:=g
 obtain⟨d,c,e⟩:=h
 unfold c00 D0g
 unfold E3 at a
 simp only[D0i,Prod.mk.injEq]at a ⊢
 by_cases c1:r=d
 ·by_cases c2:n=c
  ·simp only[c1,c2,decide_true,Bool.not_true,cond_false,true_and]
   rw[←a]
  ·simp[c1,c2]
 ·simp[c1]
def goE(x:N0):List N0->Bool×List N0
 | []=>(false,[])
 |y::l=>if S0 x y<0 then(true,x::y::l)else if S0 x y=0 then(true,y::l)else((goE x l).1,y::(goE x l).2)
theorem I0o(x:N0):∀ l,H01 S0 x l=bif(goE x l).1 then(goE x l).2 else(goE x l).2 ++ [x]
 | []=>rfl
 |y::l=>by
  have a:=I0o x l
  unfold H01 goE
  by_cases c1:S0 x y<0
  ·rw[if_pos c1,if_pos c1];rfl
  ·rw[if_neg c1,if_neg c1]
   by_cases c2:S0 x y=0
   ·rw[if_pos c2,if_pos c2];rfl
   ·rw[if_neg c2,if_neg c2,a];cases (goE x l).1<;>rfl
theorem L0d(l:List N0)(w0 i j:Int)(n:l.length<=1099511627776):∀(d k fuel:Nat) (acc:List N0),k+d=l.length->d<fuel->acc.length<=k+1 ->
  i5 l w0 i j fuel true (k:Int) acc=some (true,acc++l.drop k)
 |d,k,0,acc,g,hf,f=>by omega
 |0,k,fuel+1,acc,g,hf,f=>by
  rw[i5.eq_2,if_neg (by simp;omega),I1 (by omega),List.append_nil]
 |d+1,k,fuel+1,acc,g,hf,f=>by
  have h:k<l.length:=by omega
  have c:=E5 h
  generalize l[k]=e at c
  obtain⟨a,x,b⟩:=e
  have o:=L0d l w0 i j n d (k+1) fuel (acc ++ [(a,x,b)]) (by omega) (by omega) (by simp;omega)
  rw[i5.eq_2,if_pos (by simp;omega),O1 c]
  simp only[P2 c,oB,l04,H0 (t0f _ _),C2 h (show l.length<=9223372036854775807 by omega),Bool.not_true]
  have m:∀ b:Bool,(bif b then false else false)=false:=λb=>by cases b<;>rfl
  simp only[m,Bool.false_eq_true,if_false]
  rw[H0 (by simp;omega),oB,o]
  simp
theorem F0g(l:List N0)(w0 c f:Int)(h:l.length<=1099511627776):∀(d k fuel:Nat) (acc:List N0),k+d=l.length->d<fuel->acc.length=k ->
  i5 l w0 c f fuel false (k:Int) acc=some ((goE (w0,c,f) (l.drop k)).1,acc++(goE (w0,c,f) (l.drop k)).2)
 |d,k,0,acc,j,hf,i=>by omega
 |0,k,fuel+1,acc,j,hf,i=>by
  rw[i5.eq_2,if_neg (by simp;omega),I1 (by omega)];simp[goE]
 |d+1,k,fuel+1,acc,j,hf,i=>by
  have m:k<l.length:=by omega
  have g:=E5 m
  generalize l[k]=e at g
  obtain⟨a,x,b⟩:=e
  have n:=F0g l w0 c f h d (k+1) fuel (acc ++ [(a,x,b)]) (by omega) (by omega) (by simp;omega)
  have o:=L0d l w0 c f h d (k+1) fuel (acc ++ [(a,x,b)]) (by omega) (by omega) (by simp;omega)
  have p:=L0d l w0 c f h d (k+1) fuel ((acc ++ [(w0,c,f)]) ++ [(a,x,b)]) (by omega) (by omega) (by simp;omega)
  rw[i5.eq_2,if_pos (by simp;omega),O1 g]
  simp only[P2 g,oB,l04,H0 (t0f _ _),C2 m (show l.length<=9223372036854775807 by omega),Bool.not_true,Bool.not_false,goE]
  show _=_
  unfold v0g
  by_cases c1:S0 (w0,c,f) (a,x,b)=0
  ·rw[if_pos (by simpa using c1),if_neg (by simp[c1]),if_neg (by omega),if_pos c1]
   rw[H0 (by simp;omega),oB,o];simp
  ·rw[if_neg (by simpa using c1)]
   by_cases c2:S0 (w0,c,f) (a,x,b)<0
   ·rw[if_pos (by simp[c2]),if_pos c2,H0 (by simp;omega),oB,H0 (by simp;omega),oB,p];simp
   ·rw[if_neg (by simp[c2]),if_neg c2,if_neg c1,H0 (by simp;omega),oB,n];simp
theorem m07(l:List N0)(e:N0)(c:l.length<=1099511627776):L8 l e=some (H01 S0 e l):=by
 obtain⟨w0,a,b⟩:=e
 unfold L8
 have h:=F0g l w0 a b c l.length 0 T0 [] (by omega) (D1 (by omega)) rfl
 rw[show((0:Nat):Int)=0 from rfl,List.drop_zero,List.nil_append]at h
 simp only[h,oB,I0o]
 have d:∀ l:List N0,(goE (w0,a,b) l).2.length<=l.length+1:=λl=>by
  induction l with
  |nil=>simp[goE]
  |cons y l f =>
   unfold goE
   split
   ·simp
   ·split
    ·simp
    ·simp only[List.length_cons];omega
 have:=d l
 cases (goE (w0,a,b) l).1 with
 |true=>rfl
 |false =>
  simp only[Bool.not_false,if_true,cond_false]
  rw[H0 (by simp;omega),oB]
theorem c08(e:N0):∀ l:List N0,(H01 S0 e l).length<=l.length+1
 | []=>by simp[H01]
 |y::l=>by
  have:=c08 e l
  unfold H01
  split
  ·simp
  ·split
   ·simp
   ·simp only[List.length_cons];omega
theorem J0c(es:List N0)(a:es.length<=1099511627776):X00 es=some (C6 S0 [] es):=by
 unfold X00
 rw[H0 (by simp;omega),oB,H0 (by simp;omega),oB,List.nil_append]
 exact congrArg some (H0l U7 u0f es es λ_=>Iff.rfl)
theorem B02(g:j0)(a:g.2.2.length<=1099511627776):Q4 g=some g:=by
 obtain⟨r,n,es⟩:=g
 unfold Q4
 simp only
 rw[H0 (by simp only[List.length_nil,Nat.zero_add];simp only at a;omega)];rfl
theorem Z01(g:j0)(a:g.2.2.length<=1099511627776):H4 g=some g:=by
 obtain⟨r,n,es⟩:=g
 unfold H4
 simp only
 rw[H0 (by simp only[List.length_nil,Nat.zero_add];simp only at a;omega)];rfl
inductive Rch (es:List N0) (v:Int):Int->Prop
 |base:Rch es v v
 |fwd {e:N0}:e∈es->Rch es v e.1->Rch es v e.2.2
 |bwd {e:N0}:e∈es->Rch es v e.2.2->Rch es v e.1
theorem Rch.closed{es:List N0}{v:Int}:∀ e∈es,Rch es v e.1↔Rch es v e.2.2:=λe a=>⟨.fwd a,.bwd a⟩
theorem Rch.sub{es:List N0}{v:Int}{P:Int->Prop}(c:P v)(a:∀ e∈es,P e.1↔P e.2.2):∀ {x},Rch es v x->P x
 |_,.base=>c
 |_,.fwd b h=>(a _ b).1 (Rch.sub c a h)
 |_,.bwd b h=>(a _ b).2 (Rch.sub c a h)
def b01(S:List Bool)(i:Int):Bool:=S.getD i.toNat false
def stJ(S:List Bool)(e:N0):List Bool:=(S.set e.1.toNat true).set e.2.2.toNat true
def pJ:List N0->Bool->List Bool->Bool×List Bool
 | [],c,S=>(c,S)
 |e::r,c,S=>bif b01 S e.1 == b01 S e.2.2 then pJ r c S else pJ r true (stJ S e)
def cF:List Bool->Nat
 | []=>0
 |b::r=>(bif b then 0 else 1)+cF r
theorem u0n:∀(S:List Bool) (i:Nat),cF (S.set i true)<=cF S
 | [],i=>by simp[cF]
 |b::r,0=>by simp[cF]
 |b::r,i+1=>by have:=u0n r i;simp only[List.set_cons_succ,cF];omega
theorem z0r:∀(S:List Bool) (i:Nat),S[i]?=some false->cF (S.set i true)<cF S
 | [],i,h=>by simp at h
 |b::r,0,h=>by simp at h;subst h;simp[cF]
 |b::r,i+1,h=>by have:=z0r r i (by simpa using h);simp only[List.set_cons_succ,cF];omega
theorem u0t:∀ S:List Bool,cF S<=S.length
 | []=>by simp[cF]
 |b::r=>by have:=u0t r;cases b<;>simp only[cF,List.length_cons,cond_true,cond_false]<;>omega
def inN(n:Nat)(es:List N0):Prop:=∀ e∈es,(0<=e.1/\e.1<(n:Int))/\(0<=e.2.2/\e.2.2<(n:Int))
theorem I09{S:List Bool}{i:Nat}(h:i<S.length)(x:Int):b01 (S.set i true) x=(decide (x.toNat=i) || b01 S x):=by
 unfold b01
 rw[List.getD_eq_getElem?_getD,List.getD_eq_getElem?_getD,List.getElem?_set]
 by_cases c:i=x.toNat
 ·rw[if_pos c,if_pos (by omega)];simp[c]
 ·rw[if_neg c]
  have:decide (x.toNat=i)=false:=by simp;exact λe=>c e.symm
  rw[this];rfl
theorem v0n:∀(es:List N0) (c:Bool) (S:List Bool),(pJ es c S).2.length=S.length
 | [],c,S=>rfl
 |e::r,c,S=>by
  unfold pJ
  cases b01 S e.1 == b01 S e.2.2
  ·simp only[cond_false];rw[v0n r];simp[stJ]
  ·simp only[cond_true];exact v0n r c S
theorem e0k{n:Nat}:∀(es:List N0) (c:Bool) (a:List Bool),a.length=n->inN n es->∀ x,b01 a x=true->b01 (pJ es c a).2 x=true
 | [],c,a,b,d,x,h=>h
 |e::r,c,a,b,d,x,h=>by
  have f:=d e mS
  have g:inN n r:=λe f=>d e (mC _ f)
  unfold pJ
  cases b01 a e.1 == b01 a e.2.2
  ·simp only[cond_false]
   refine e0k r _ _ (by simp[stJ,b]) g x ?_
   rw[stJ,I09 (by rw[List.length_set];omega),I09 (by omega),h];simp
  ·simp only[cond_true];exact e0k r c a b g x h
theorem G0g{n:Nat}{P:Int->Prop}:∀(es:List N0) (c:Bool) (a:List Bool),a.length=n->inN n es->(∀ e∈es,P e.1↔P e.2.2)->(∀ x,0<=x->b01 a x=true->P x)->∀ x,0<=x->b01 (pJ es c a).2 x=true->P x
 | [],c,a,g,i,f,d,x,h0,h=>d x h0 h
 |e::r,c,a,g,i,f,d,x,h0,h=>by
  have b:=i e mS
  have m:inN n r:=λe b=>i e (mC _ b)
  have j:=λe b=>f e (mC _ b)
  have k:=f e mS
  unfold pJ at h
  cases hb:b01 a e.1 == b01 a e.2.2
  ·rw[hb]at h
   refine G0g r true (stJ a e) (by simp[stJ,g]) m j (λy o h=>?_) x h0 h
   rw[stJ,I09 (by rw[List.length_set];omega),I09 (by omega)]at h
   simp only[Bool.or_eq_true,decide_eq_true_eq]at h
   have l:P e.1∨P e.2.2:=by
    cases h1:b01 a e.1
    ·cases h2:b01 a e.2.2
     ·rw[h1,h2]at hb;cases hb
     ·exact .inr (d _ b.2.1 h2)
    ·exact .inl (d _ b.1.1 h1)
   rcases h with h|h|h
   ·have:y=e.2.2:=by omega
    subst this;exact l.elim k.1 id
   ·have:y=e.1:=by omega
    subst this;exact l.elim id k.2
   ·exact d y o h
  ·rw[hb]at h
   exact G0g r c a g m j d x h0 h
theorem w0n{n:Nat}:∀(es:List N0) (c:Bool) (a:List Bool),a.length=n->inN n es->cF (pJ es c a).2<=cF a/\((pJ es c a).1=true->c=true∨cF (pJ es c a).2<cF a)/\((pJ es c a).1=false->c=false/\(pJ es c a).2=a/\∀ e∈es,b01 a e.1=b01 a e.2.2)
 | [],c,a,k,l=>⟨Nat.le_refl _,λh => .inl h,λh=>⟨h,rfl,λe b=>nomatch b⟩⟩
 |e::r,c,a,k,l=>by
  have b:=l e mS
  have s:inN n r:=λe b=>l e (mC _ b)
  unfold pJ
  cases hb:b01 a e.1 == b01 a e.2.2
  ·simp only[cond_false]
   obtain⟨m,o,d⟩:=w0n r true (stJ a e) (by simp[stJ,k]) s
   have v:cF (stJ a e)<cF a:=by
    have g:∀(x:Int),0<=x->x<n->b01 a x=false->a[x.toNat]?=some false:=λx w y j=>by
     have p:x.toNat<a.length:=by omega
     unfold b01 at j
     rw[List.getD_eq_getElem?_getD,List.getElem?_eq_getElem p]at j
     rw[List.getElem?_eq_getElem p];simpa using j
    cases g1:b01 a e.1
    ·have:=z0r a _ (g _ b.1.1 b.1.2 g1)
     have:=u0n (a.set e.1.toNat true) e.2.2.toNat
     unfold stJ;omega
    ·have f:b01 a e.2.2=false:=by
      cases f:b01 a e.2.2
      ·rfl
      ·rw[g1,f]at hb;cases hb
     have u:(a.set e.1.toNat true)[e.2.2.toNat]?=some false:=by
      rw[List.getElem?_set]
      by_cases q:e.1.toNat=e.2.2.toNat
      ·exfalso
       have:e.1=e.2.2:=by omega
       rw[this,f]at g1;cases g1
      ·rw[if_neg q];exact g _ b.2.1 b.2.2 f
     have:=z0r _ _ u
     have:=u0n a e.1.toNat
     unfold stJ;omega
   refine⟨by omega,λ_ => .inr (by omega),λh=>?_⟩
   have:=(d h).1;cases this
  ·simp only[cond_true]
   obtain⟨m,o,d⟩:=w0n r c a k s
   refine⟨m,o,λh=>⟨(d h).1,(d h).2.1,λt i=>?_⟩⟩
   rcases List.mem_cons.1 i with rfl|i
   ·simpa using hb
   ·exact(d h).2.2 t i
theorem giB{a:List Bool}{n:Nat}(f:a.length=n){x:Int}(h0:0<=x)(d:x<n):gi a x=some (b01 a x):=by
 have c:x.toNat<a.length:=by omega
 have e:x=((x.toNat:Nat):Int):=by omega
 have b:gi a ((x.toNat:Nat):Int)=some (b01 a x):=by
  rw[F0d,List.getElem?_eq_getElem c]
  unfold b01
  rw[List.getD_eq_getElem?_getD,List.getElem?_eq_getElem c];rfl
 rw[←e]at b;exact b
theorem F0i(es:List N0){n:Nat}(q:inN n es)(p:es.length<=9223372036854775807):∀(d k fuel:Nat) (c:Bool) (f:List Bool),f.length=n->k+d=es.length->d<fuel ->
  O4 es fuel c (k:Int) f=some (pJ (es.drop k) c f)
 |d,k,0,c,f,g,m,hf=>by omega
 |0,k,fuel+1,c,f,g,m,hf=>by
  rw[O4.eq_2,if_neg (by simp;omega),I1 (by omega)];rfl
 |d+1,k,fuel+1,c,f,g,m,hf=>by
  have o:k<es.length:=by omega
  have j:=E5 o
  have i:=q _ (List.mem_of_getElem? j)
  generalize es[k]=e at j i
  obtain⟨a,l,b⟩:=e
  have s:=λu t h=>F0i es q p d (k+1) fuel u t h (by omega) (by omega)
  rw[O4.eq_2,if_pos (by simp;omega),O1 j]
  simp only[P2 j,oB,giB g i.1.1 i.1.2,giB g i.2.1 i.2.2,C2 o p,giB (show(f.set a.toNat true).length=n by simp[g]) i.2.1 i.2.2,pJ]
  cases hb:b01 f a == b01 f b
  ·simp only[Bool.not_false,if_true,cond_false]
   exact s _ _ (by simp[g])
  ·simp only[Bool.not_true,Bool.false_eq_true,if_false,cond_true]
   exact s _ _ g
theorem G0i(es:List N0){n:Nat}(f:inN n es)(z:es.length<=9223372036854775806):∀(m fuel:Nat) (a:List Bool),a.length=n->cF a<=m->m+1<fuel ->
  ∃ b,O5 es fuel true a=some b/\b.length=n/\(∀ x,b01 a x=true->b01 b x=true)/\(∀ e∈es,b01 b e.1=b01 b e.2.2) /\
   ∀ P:Int->Prop,(∀ e∈es,P e.1↔P e.2.2)->(∀ x,0<=x->b01 a x=true->P x)->∀ x,0<=x->b01 b x=true->P x
 |m,0,a,d,B,hf=>by omega
 |m,fuel+1,a,d,B,hf=>by
  have h0:=F0i es f (by omega) es.length 0 T0 false a d (by omega) (by unfold T0;omega)
  rw[show((0:Nat):Int)=0 from rfl,List.drop_zero]at h0
  obtain⟨p,i,j⟩:=w0n es false a d f
  have A:=v0n es false a
  rw[O5.eq_2,if_pos rfl,h0,oB]
  have l:=e0k es false a d f
  have o:=λP=>G0g (P:=P) es false a d f
  generalize pJ es false a=q at *
  obtain⟨c,b⟩:=q
  simp only at p i j A l o ⊢
  cases c with
  |true =>
   rcases i rfl with h|h
   ·cases h
   ·obtain⟨S2,s,t,u,v,w⟩:=G0i es f z (m-1) fuel b (by omega) (by omega) (by omega)
    exact⟨S2,s,t,λx C=>u x (l x C),v,λP k g=>w P k (o P k g)⟩
  |false =>
   obtain⟨_,e,y⟩:=j rfl
   subst e
   obtain _|fuel:=fuel
   ·omega
   ·rw[O5.eq_2,if_neg (by simp)]
    exact⟨_,rfl,d,λx h=>h,y,λP _ g=>g⟩
theorem L0l(r:Int)(n:Nat)(es:List N0)(p:inN n es)(o:es.length<=9223372036854775806)(s:1<=n)(t:n<=140737488355328):
  ∃ a,M00 (r,(n:Int),es) 0=some a/\a.length=n/\∀ x,0<=x->x<(n:Int)->(b01 a x=true↔Rch es 0 x):=by
 unfold M00
 simp only[Int.toNat_natCast]
 have m:gi (List.replicate n (false:Bool)) 0=some false:=by
  rw[b0k (x:=false)];rw[List.getElem?_replicate,if_pos (by omega)]
 rw[H0 (by omega),oB,m,oB]
 have k:((List.replicate n (false:Bool)).set (0:Int).toNat true).length=n:=by simp
 obtain⟨b,d,f,g,i,j⟩:=G0i es p o n T0 _ k (by have:=u0t ((List.replicate n (false:Bool)).set (0:Int).toNat true);omega) (by unfold T0;omega)
 rw[d]
 have c:∀ x,b01 ((List.replicate n (false:Bool)).set (0:Int).toNat true) x=decide (x.toNat=0):=λx=>by
  rw[I09 (by simp;omega)]
  have:b01 (List.replicate n false) x=false:=by
   unfold b01
   rw[List.getD_eq_getElem?_getD,List.getElem?_replicate]
   split<;>rfl
  rw[this];simp
 refine⟨b,rfl,f,λx h0 q=>⟨λh=>?_,λh=>?_⟩⟩
 ·refine j (Rch es 0) Rch.closed (λy u h=>?_) x h0 h
  rw[c]at h
  have:y=0:=by simp at h;omega
  subst this;exact .base
 ·exact Rch.sub (P:=λx=>b01 b x=true) (g 0 (by rw[c];rfl)) (λe l=>by rw[i e l]) h
theorem v0t(l:List Int)(w:Int)(g:l.length<=9223372036854775807):∀(d k fuel:Nat),k+d=l.length->d<fuel ->
  s00 l w fuel (k:Int)=some (if w∈l.drop k then .inl true else .inr ())
 |d,k,0,b,hf=>by omega
 |0,k,fuel+1,b,hf=>by
  rw[s00.eq_2,if_neg (by simp;omega),I1 (by omega)];simp
 |d+1,k,fuel+1,b,hf=>by
  have f:k<l.length:=by omega
  have a:=E5 f
  generalize l[k]=x at a
  have i:=v0t l w g d (k+1) fuel (by omega) (by omega)
  rw[s00.eq_2,if_pos (by simp;omega),O1 a]
  simp only[P2 a,oB,C2 f g,i,List.mem_cons]
  by_cases c:x=w
  ·rw[if_pos (by simpa using c),if_pos (.inl c.symm)]
  ·rw[if_neg (by simpa using c)]
   by_cases c2:w∈l.drop (k+1)
   ·rw[if_pos c2,if_pos (.inr c2)]
   ·rw[if_neg c2,if_neg (λh=>h.elim (λe=>c e.symm) c2)]
theorem A0a(l:List Int)(w:Int)(a:l.length<=9223372036854775807):m00 l w=some (decide (w∈l)):=by
 unfold m00
 have h:=v0t l w a l.length 0 T0 (by omega) (by unfold T0;omega)
 rw[show((0:Nat):Int)=0 from rfl,List.drop_zero]at h
 rw[h,oB]
 by_cases c:w∈l
 ·rw[if_pos c];simp[K9,c]
 ·rw[if_neg c];simp[K9,c]
def s1(u:List Int)(e:N0):List Int:=if e.1∈u then H01 B00 e.2.2 u else u
def s2(u:List Int)(e:N0):List Int:=if e.2.2∈u then H01 B00 e.1 u else u
def pS:List N0->List Int->List Int
 | [],u=>u
 |e::r,u=>pS r (s2 (s1 u e) e)
theorem M0d{u:List Int}{e:N0}{x:Int}:x∈s1 u e↔x∈u∨(e.1∈u/\x=e.2.2):=by
 unfold s1
 split
 ·rename_i h;rw[E09 U03];constructor
  ·rintro(a|a)
   ·exact .inr ⟨h,a⟩
   ·exact .inl a
  ·rintro(a|⟨_,a⟩)
   ·exact .inr a
   ·exact .inl a
 ·rename_i h;constructor
  ·exact .inl
  ·rintro(a|⟨a,_⟩)
   ·exact a
   ·exact absurd a h
theorem N0d{u:List Int}{e:N0}{x:Int}:x∈s2 u e↔x∈u∨(e.2.2∈u/\x=e.1):=by
 unfold s2
 split
 ·rename_i h;rw[E09 U03];constructor
  ·rintro(a|a)
   ·exact .inr ⟨h,a⟩
   ·exact .inl a
  ·rintro(a|⟨_,a⟩)
   ·exact .inr a
   ·exact .inl a
 ·rename_i h;constructor
  ·exact .inl
  ·rintro(a|⟨a,_⟩)
   ·exact a
   ·exact absurd a h
theorem A0r(u:List Int)(e:N0):(s1 u e).length<=u.length+1:=by
 unfold s1;split
 ·exact b08 _ _
 ·omega
theorem B0r(u:List Int)(e:N0):(s2 u e).length<=u.length+1:=by
 unfold s2;split
 ·exact b08 _ _
 ·omega
theorem x0n:∀(es:List N0) (u:List Int),(pS es u).length<=u.length+2*es.length
 | [],u=>by simp[pS]
 |e::r,u=>by
  have:=x0n r (s2 (s1 u e) e)
  have:=B0r (s1 u e) e
  have:=A0r u e
  simp only[pS,List.length_cons];omega
theorem K08:∀(es:List N0) (u:List Int) (x:Int),x∈u->x∈pS es u
 | [],u,x,h=>h
 |e::r,u,x,h=>K08 r _ x (N0d.2 (.inl (M0d.2 (.inl h))))
theorem H0g{P:Int->Prop}:∀(es:List N0) (u:List Int),(∀ e∈es,P e.1↔P e.2.2)->(∀ x∈u,P x)->∀ x∈pS es u,P x
 | [],u,b,a=>a
 |e::r,u,b,a=>H0g r _ (λe f=>b e (mC _ f)) λx g=>by
  have d:=b e mS
  have c:∀ y∈s1 u e,P y:=λy i=>by
   rcases M0d.1 i with h|⟨h,rfl⟩
   ·exact a y h
   ·exact d.1 (a _ h)
  rcases N0d.1 g with h|⟨h,rfl⟩
  ·exact c x h
  ·exact d.2 (c _ h)
theorem M0l:∀(es:List N0) (u:List Int) (e:N0),e∈es->e.1∈u∨e.2.2∈u->e.1∈pS es u/\e.2.2∈pS es u
 |c::r,u,e,a,h=>by
  simp only[pS]
  rcases List.mem_cons.1 a with rfl|a
  ·have b:e.2.2∈s1 u e:=by
    rcases h with h|h
    ·exact M0d.2 (.inr ⟨h,rfl⟩)
    ·exact M0d.2 (.inl h)
   exact⟨K08 r _ _ (N0d.2 (.inr ⟨b,rfl⟩)),K08 r _ _ (N0d.2 (.inl b))⟩
  ·exact M0l r _ e a (h.imp (λh=>N0d.2 (.inl (M0d.2 (.inl h)))) λh=>N0d.2 (.inl (M0d.2 (.inl h))))
def act(es:List N0)(u:List Int):Nat:=es.countP λe=>decide (e.1∈u)&&decide (e.2.2∈u)
def clo(es:List N0)(u:List Int):Prop:=∀ e∈es,e.1∈u↔e.2.2∈u
theorem X0t(es:List N0)(u:List Int):act es u<=es.length:=List.countP_le_length
theorem H0i{e:Type}{p q:e->Bool}:∀ {l:List e},(∀ x∈l,p x=true->q x=true)->(∃ x∈l,p x=false/\q x=true)->l.countP p<l.countP q
 | [],_,⟨x,a,_⟩=>nomatch a
 |y::l,h,⟨x,a,c,d⟩=>by
  have f:l.countP p<=l.countP q:=List.countP_mono_left λz b=>h z (mC _ b)
  rcases List.mem_cons.1 a with rfl|a
  ·rw[List.countP_cons_of_neg (by simp[c]),List.countP_cons_of_pos d];omega
  ·have g:=H0i (l:=l) (λz b=>h z (mC _ b)) ⟨x,a,c,d⟩
   cases hp:p y
   ·rw[List.countP_cons_of_neg (by simp[hp])]
    have:l.countP q<=(y::l).countP q:=by rw[List.countP_cons];omega
    omega
   ·rw[List.countP_cons_of_pos hp,List.countP_cons_of_pos (h y mS hp)];omega
theorem K0c{es:List N0}{u:List Int}(h:clo es u)(x:Int):x∈pS es u↔x∈u :=
 ⟨H0g (P:=λx=>x∈u) es u h (λ_ h=>h) x,K08 es u x⟩
theorem C0r{es:List N0}{u:List Int}:clo es (pS es u)∨act es u<act es (pS es u):=by
 by_cases h:clo es u
 ·left
  intro e a
  rw[K0c h,K0c h];exact h e a
 ·right
  have:∃ e∈es,¬ (e.1∈u↔e.2.2∈u):=by
   refine Classical.byContradiction λb=>h λe a=>?_
   exact Classical.byContradiction λd=>b ⟨e,a,d⟩
  obtain⟨e,a,c⟩:=this
  refine H0i (λx g h=>?_) ⟨e,a,?_,?_⟩
  ·simp only[Bool.and_eq_true,decide_eq_true_eq]at h ⊢
   exact⟨K08 _ _ _ h.1,K08 _ _ _ h.2⟩
  ·rw[Bool.eq_false_iff]
   intro h
   simp only[Bool.and_eq_true,decide_eq_true_eq]at h
   exact c ⟨λ_=>h.2,λ_=>h.1⟩
  ·have f:e.1∈u∨e.2.2∈u:=by
    refine Classical.byContradiction λb=>c ⟨λh=>absurd (.inl h) b,λh=>absurd (.inr h) b⟩
   have:=M0l es u e a f
   simp only[Bool.and_eq_true,decide_eq_true_eq];exact this
def itS(es:List N0):Nat->List Int->List Int
 |0,u=>u
 |j+1,u=>itS es j (pS es u)
theorem J0o(es:List N0):∀(j:Nat) (u:List Int),(itS es j u).length<=u.length+j*(2*es.length)
 |0,u=>by simp[itS]
 |j+1,u=>by have:=J0o es j (pS es u);have:=x0n es u;simp only[itS,Nat.add_mul,Nat.one_mul];omega
theorem K0o(es:List N0):∀(j:Nat) (u:List Int),clo es u->clo es (itS es j u)
 |0,u,h=>h
 |j+1,u,h=>K0o es j _ λe a=>by rw[K0c h,K0c h];exact h e a
theorem L0o(es:List N0):∀(j:Nat) (u:List Int),clo es (itS es j u)∨act es u+j<=act es (itS es j u)
 |0,u => .inr (Nat.le_refl _)
 |j+1,u=>by
  rcases C0r (es:=es) (u:=u)with h|h
  ·exact .inl (K0o es j _ h)
  ·rcases L0o es j (pS es u)with a|a
   ·exact .inl a
   ·right;simp only[itS];omega
theorem N0l(es:List N0):∀(j:Nat) (u:List Int) (x:Int),x∈u->x∈itS es j u
 |0,u,x,h=>h
 |j+1,u,x,h=>N0l es j _ x (K08 es u x h)
theorem I0i{P:Int->Prop}(es:List N0)(b:∀ e∈es,P e.1↔P e.2.2):∀(j:Nat) (u:List Int),(∀ x∈u,P x)->∀ x∈itS es j u,P x
 |0,u,a=>a
 |j+1,u,a=>I0i es b j _ (H0g es u b a)
theorem L0c(es:List N0)(v x:Int):x∈itS es (es.length+1) [v]↔Rch es v x:=by
 constructor
 ·exact I0i (P:=Rch es v) es Rch.closed _ _ (λy a=>by simp at a;subst a;exact .base) x
 ·have b:clo es (itS es (es.length+1) [v]):=by
   rcases L0o es (es.length+1) [v]with h|h
   ·exact h
   ·have:=X0t es (itS es (es.length+1) [v]);omega
  exact Rch.sub (P:=λx=>x∈itS es (es.length+1) [v]) (N0l _ _ _ _ (by simp)) b
theorem I0g(es:List N0)(p:es.length<=9223372036854775807):∀(d k fuel:Nat) (u:List Int),k+d=es.length->d<fuel->u.length+2*d<=1099511627776 ->
  Y3 es fuel u (k:Int)=some (pS (es.drop k) u)
 |d,k,0,u,n,hf,q=>by omega
 |0,k,fuel+1,u,n,hf,q=>by
  rw[Y3.eq_2,if_neg (by simp;omega),I1 (by omega)];rfl
 |d+1,k,fuel+1,u,n,hf,q=>by
  have o:k<es.length:=by omega
  have m:=E5 o
  generalize es[k]=e at m
  obtain⟨a,l,b⟩:=e
  have i:=λt h=>I0g es p d (k+1) fuel t (by omega) (by omega) h
  have s:=A0r u (a,l,b)
  have g:=B0r (s1 u (a,l,b)) (a,l,b)
  rw[Y3.eq_2,if_pos (by simp;omega),O1 m]
  simp only[P2 m,oB,A0a u _ (by omega),C2 o p,pS]
  by_cases c:a∈u
  ·rw[if_pos (by simpa using c),C0c _ _ (by omega),oB]
   have j:s1 u (a,l,b)=H01 B00 b u:=if_pos c
   rw[j]at s g ⊢
   rw[A0a _ _ (by omega),oB]
   by_cases c2:b∈H01 B00 b u
   ·rw[if_pos (by simpa using c2),C0c _ _ (by omega),oB]
    have f:s2 (H01 B00 b u) (a,l,b)=H01 B00 a (H01 B00 b u):=if_pos c2
    rw[f]at g ⊢
    exact i _ (by omega)
   ·rw[if_neg (by simpa using c2)]
    have f:s2 (H01 B00 b u) (a,l,b)=H01 B00 b u:=if_neg c2
    rw[f]
    exact i _ (by omega)
  ·rw[if_neg (by simpa using c)]
   have j:s1 u (a,l,b)=u:=if_neg c
   rw[j]at g ⊢
   by_cases c2:b∈u
   ·rw[if_pos (by simpa using c2),C0c _ _ (by omega),oB]
    have f:s2 u (a,l,b)=H01 B00 a u:=if_pos c2
    rw[f]at g ⊢
    exact i _ (by omega)
   ·rw[if_neg (by simpa using c2)]
    have f:s2 u (a,l,b)=u:=if_neg c2
    rw[f]
    exact i _ (by omega)
theorem J0g(es:List N0)(c:es.length<=120):∀(d k fuel:Nat) (u:List Int),k+d=es.length+1->d<fuel->u.length<=1+k*240 ->
  D6 es fuel u (k:Int)=some (itS es d u)
 |d,k,0,u,a,hf,b=>by omega
 |0,k,fuel+1,u,a,hf,b=>by
  rw[D6.eq_2,if_neg (by rw[w64 (by omega) (by omega)];simp;omega)];rfl
 |d+1,k,fuel+1,u,a,hf,b=>by
  have h0:=I0g es (by omega) es.length 0 T0 u (by omega) (D1 (by omega)) (by omega)
  rw[show((0:Nat):Int)=0 from rfl,List.drop_zero]at h0
  have e:=J0g es c d (k+1) fuel (pS es u) (by omega) (by omega) (by have:=x0n es u;omega)
  rw[D6.eq_2,if_pos (by rw[w64 (by omega) (by omega)];simp;omega),h0,oB,C2 (show k<1000 by omega) (by omega),e]
  rfl
def getI(P:List Int)(v:Int):Int:=P.getD v.toNat (-1)
def C02:List Int->Nat->List Int->List Int
 |A,k,[]=>A
 |A,k,v::r=>C02 (A.set v.toNat (k:Int)) (k+1) r
def plc(n:Nat)(o:List Int):List Int:=C02 (List.replicate n (-1)) 0 o
theorem K0g:∀(o:List Int) (k:Nat) (A:List Int),(C02 A k o).length=A.length
 | [],k,A=>rfl
 |v::r,k,A=>by rw[C02,K0g r];simp
def inV(n:Nat)(o:List Int):Prop:=∀ v∈o,0<=v/\v<(n:Int)
theorem giI{P:List Int}{n:Nat}(d:P.length=n){x:Int}(h0:0<=x)(c:x<n):gi P x=some (getI P x):=by
 have b:x.toNat<P.length:=by omega
 have e:x=((x.toNat:Nat):Int):=by omega
 have a:gi P ((x.toNat:Nat):Int)=some (getI P x):=by
  rw[F0d,List.getElem?_eq_getElem b]
  unfold getI
  rw[List.getD_eq_getElem?_getD,List.getElem?_eq_getElem b];rfl
 rw[←e]at a;exact a
theorem H05{A:List Int}{v x:Int}{y:Int}(h0:0<=v)(a:v.toNat<A.length)(b:0<=x):getI (A.set v.toNat y) x=if x=v then y else getI A x:=by
 unfold getI
 rw[List.getD_eq_getElem?_getD,List.getD_eq_getElem?_getD,List.getElem?_set]
 by_cases c:x=v
 ·rw[if_pos c,if_pos (by rw[c]),if_pos a];rfl
 ·rw[if_neg c,if_neg (by omega)]
theorem M0c{n:Nat}:∀(o:List Int) (k:Nat) (A:List Int),A.length=n->inV n o->(∀ x,0<=x -> -1<=getI A x/\getI A x<(k:Int))->∀ x,0<=x -> -1<=getI (C02 A k o) x/\getI (C02 A k o) x<((k+o.length:Nat):Int)
 | [],k,A,c,a,h,x,b=>h x b
 |v::r,k,A,c,a,h,x,b=>by
  have e:=a v mS
  have:=M0c r (k+1) (A.set v.toNat (k:Int)) (by simp[c]) (λw f=>a w (mC _ f)) (λy d=>by
   rw[H05 e.1 (by omega) d]
   have:=h y d
   split<;>omega) x b
  rw[C02,List.length_cons,show k+(r.length+1)=k+1+r.length by omega];exact this
theorem J09(n:Nat)(x:Int):getI (List.replicate n (-1)) x = -1:=by
 unfold getI
 rw[List.getD_eq_getElem?_getD,List.getElem?_replicate]
 split<;>rfl
theorem d08{n:Nat}{o:List Int}(b:inV n o){x:Int}(a:0<=x): -1<=getI (plc n o) x/\getI (plc n o) x<(o.length:Int):=by
 have:=M0c o 0 (List.replicate n (-1)) (by simp) b (λx a=>by rw[J09];omega) x a
 rw[Nat.zero_add]at this;exact this
theorem M0o(n:Nat)(o:List Int):(plc n o).length=n:=by unfold plc;rw[K0g];simp
def pE(P:List Int):List N0->List N0
 | []=>[]
 |e::r=>bif decide (0<=getI P e.1)&&decide (0<=getI P e.2.2)then(getI P e.1,e.2.1,getI P e.2.2)::pE P r else pE P r
theorem f0k(P:List Int):∀ es,(pE P es).length<=es.length
 | []=>by simp[pE]
 |e::r=>by
  have:=f0k P r
  unfold pE
  cases decide (0<=getI P e.1)&&decide (0<=getI P e.2.2)<;>simp only[cond_true,cond_false,List.length_cons]<;>omega
theorem w0t{n:Nat}{o:List Int}(d:inV n o):∀(es:List N0),inN n es->inN o.length (pE (plc n o) es)
 | [],c=>λe a=>nomatch a
 |e::r,c=>by
  have f:=w0t d r λe a=>c e (mC _ a)
  have a:=c e mS
  unfold pE
  cases hb:decide (0<=getI (plc n o) e.1)&&decide (0<=getI (plc n o) e.2.2)
  ·simpa only[cond_false] using f
  ·simp only[cond_true]
   simp only[Bool.and_eq_true,decide_eq_true_eq]at hb
   intro g b
   rcases List.mem_cons.1 b with rfl|b
   ·exact⟨⟨hb.1,(d08 d a.1.1).2⟩,hb.2,(d08 d a.2.1).2⟩
   ·exact f g b
def S9(g:j0)(o:List Int):j0:=(g.1,(o.length:Int),C6 S0 [] (pE (plc g.2.1.toNat o) g.2.2))
theorem n03:∀(r l:List N0),(C6 S0 l r).length<=l.length+r.length
 | [],l=>by simp[C6]
 |e::r,l=>by have:=n03 r (H01 S0 e l);have:=c08 e l;simp only[C6,List.length_cons];omega
theorem A0b(g:j0)(o:List Int):(S9 g o).2.2.length<=g.2.2.length:=by
 have:=n03 (pE (plc g.2.1.toNat o) g.2.2) []
 have:=f0k (plc g.2.1.toNat o) g.2.2
 simp only[S9,List.length_nil]at *;omega
theorem J0i{n:Nat}{r:Int}{es:List N0}{o:List Int}(c:inV n o)(b:inN n es):inN o.length (S9 (r,(n:Int),es) o).2.2:=by
 intro e a
 simp only[S9,Int.toNat_natCast]at a
 rcases(I00 U7 e _ _).1 a with h|h
 ·cases h
 ·exact w0t c es b e h
theorem N0o(n:Nat)(c:n<=140737488355328):∀(d k fuel:Nat),k+d=n->d<fuel ->
  Z00 n fuel (k:Int) (List.replicate k (-1)++List.replicate d 0)=some (List.replicate n (-1))
 |d,k,0,a,hf=>by omega
 |0,k,fuel+1,a,hf=>by
  rw[Z00.eq_2,if_neg (by simp;omega),show k=n by omega];simp
 |d+1,k,fuel+1,a,hf=>by
  have b:gi (List.replicate k (-1)++List.replicate (d+1) (0:Int)) (k:Int)=some 0:=by
   rw[F0d,List.getElem?_append_right (by simp)];simp
  have f:=N0o n c d (k+1) fuel (by omega) (by omega)
  rw[Z00.eq_2,if_pos (by simp;omega),b,oB,C2 (show k<n by omega) (by omega),Int.toNat_natCast]
  have e:(List.replicate k (-1)++List.replicate (d+1) (0:Int)).set k (-1)=List.replicate (k+1) (-1)++List.replicate d 0:=by
   rw[List.set_append_right _ _ (by simp),List.length_replicate,Nat.sub_self,List.replicate_succ,List.set_cons_zero,List.replicate_succ']
   simp
  rw[e,f]
theorem O0o(o:List Int){n:Nat}(h:inV n o)(g:o.length<=9223372036854775807):∀(d k fuel:Nat) (A:List Int),A.length=n->k+d=o.length->d<fuel ->
  Y00 o fuel (k:Int) A=some (C02 A k (o.drop k))
 |d,k,0,A,a,e,hf=>by omega
 |0,k,fuel+1,A,a,e,hf=>by
  rw[Y00.eq_2,if_neg (by simp;omega),I1 (by omega)];rfl
 |d+1,k,fuel+1,A,a,e,hf=>by
  have f:k<o.length:=by omega
  have b:=E5 f
  have c:=h _ (List.mem_of_getElem? b)
  generalize o[k]=v at b c
  have i:=O0o o h g d (k+1) fuel (A.set v.toNat (k:Int)) (by simp[a]) (by omega) (by omega)
  rw[Y00.eq_2,if_pos (by simp;omega),O1 b,P2 b,oB,giI a c.1 c.2,oB,C2 f g,i]
  rfl
theorem P0o(es:List N0){n:Nat}(q:inN n es)(t:es.length<=1099511627776)(P:List Int)(g:P.length=n)(r m:Int):∀(d k fuel:Nat) (acc:List N0),k+d=es.length->d<fuel->acc.length<=k ->
  n00 es P fuel (k:Int) r m acc=some (r,m,acc++pE P (es.drop k))
 |d,k,0,acc,o,hf,j=>by omega
 |0,k,fuel+1,acc,o,hf,j=>by
  rw[n00.eq_2,if_neg (by simp;omega),I1 (by omega)];simp[pE]
 |d+1,k,fuel+1,acc,o,hf,j=>by
  have p:k<es.length:=by omega
  have f:=E5 p
  have c:=q _ (List.mem_of_getElem? f)
  generalize es[k]=e at f c
  obtain⟨a,l,b⟩:=e
  have i:=λs h=>P0o es q t P g r m d (k+1) fuel s (by omega) (by omega) h
  rw[n00.eq_2,if_pos (by simp;omega),O1 f]
  simp only[P2 f,oB,giI g c.1.1 c.1.2,giI g c.2.1 c.2.2,C2 p (show es.length<=9223372036854775807 by omega),pE]
  by_cases c1:0<=getI P a
  ·simp only[show decide (getI P a ≥ 0)=true by simpa using c1,H1,oB,cond_true,show decide (0<=getI P a)=true by simpa using c1,Bool.true_and]
   by_cases c2:0<=getI P b
   ·rw[if_pos (by simpa using c2),H0 (by simp;omega),oB,i _ (by simp;omega)]
    simp[c2]
   ·rw[if_neg (by simpa using c2),i _ (by omega)]
    simp[c2]
  ·simp only[show decide (getI P a ≥ 0)=false by simpa using c1,K1,oB,cond_false,show decide (0<=getI P a)=false by simpa using c1,Bool.false_and]
   rw[if_neg (by simp),i _ (by omega)]
theorem g0k(r:Int)(n:Nat)(es:List N0)(o:List Int)(d:inN n es)(e:inV n o)(g:n<=1000000)(c:es.length<=1099511627776)(f:o.length<=1099511627776):
  l03 (r,(n:Int),es) o=some (S9 (r,(n:Int),es) o):=by
 unfold l03
 have b:=N0o n (by omega) n 0 T0 (by omega) (D1 (by omega))
 have a:=O0o o e (by omega) o.length 0 T0 (List.replicate n (-1)) (by simp) (by omega) (D1 (by omega))
 have h0:=P0o es d c (plc n o) (M0o n o) r ((o.length:Nat):Int) es.length 0 T0 [] (by omega) (D1 (by omega)) (Nat.le_refl _)
 rw[show((0:Nat):Int)=0 from rfl]at h0 a b
 rw[List.replicate_zero,List.nil_append]at b
 rw[List.drop_zero]at a
 rw[List.drop_zero,List.nil_append]at h0
 simp only[Int.toNat_natCast]
 rw[H0 (by omega),oB,oB,List.length_replicate,H0 (by omega),oB,b,oB,a,oB]
 rw[show C02 (List.replicate n (-1)) 0 o=plc n o from rfl,h0]
 simp only[oB]
 rw[J0c _ (by have:=f0k (plc n o) es;omega),oB]
 rfl
theorem D0r(A:List Int)(i k:Nat):(A.map (·+1)).set i (((k+1:Nat):Int))=(A.set i (k:Int)).map (·+1):=by
 rw[List.map_set];rfl
theorem L0g{A:List Int}{n:Nat}(d:A.length=n){x:Int}(h0:0<=x)(c:x<n):gi (A.map (·+1)) x=some (getI A x+1):=by
 have b:x.toNat<A.length:=by omega
 have e:x=((x.toNat:Nat):Int):=by omega
 have a:gi (A.map (·+1)) ((x.toNat:Nat):Int)=some (getI A x+1):=by
  rw[F0d,List.getElem?_map,List.getElem?_eq_getElem b]
  unfold getI
  rw[List.getD_eq_getElem?_getD,List.getElem?_eq_getElem b];rfl
 rw[←e]at a;exact a
theorem M0g{n:Nat}:∀(o:List Int) (k:Nat) (A:List Int) (x:Int),A.length=n->inV n o->0<=x->x ∉ o->getI (C02 A k o) x=getI A x
 | [],k,A,x,c,a,b,h=>rfl
 |v::r,k,A,x,c,a,b,h=>by
  have f:=a v mS
  rw[C02,M0g r _ _ x (by simp[c]) (λw g=>a w (mC _ g)) b (λd=>h (mC _ d)),H05 f.1 (by omega) b,if_neg (λe=>h (by rw[e];exact mS))]
theorem E0r(r:Int)(n:Nat)(es:List N0)(o:List Int)(h:inV n o)(l:o.Nodup)(t:1<=n/\n<=1000000)(s:o.length<=1099511627776):∀(d k fuel:Nat) (A:List Int),A.length=n->(∀ x,0<=x -> -1<=getI A x/\getI A x<=1099511627776)->(∀ x∈o.drop k,getI A x = -1)->k+d=o.length->d<fuel ->
  j5 o (n:Int) r es fuel (k:Int) (A.map (·+1))=some (.inr ((C02 A k (o.drop k)).map (·+1)))
 |d,k,0,A,f,i,c,j,hf=>by omega
 |0,k,fuel+1,A,f,i,c,j,hf=>by
  rw[j5.eq_2,if_neg (by simp;omega),I1 (by omega)];rfl
 |d+1,k,fuel+1,A,f,i,c,j,hf=>by
  have m:k<o.length:=by omega
  have a:=E5 m
  have b:=h _ (List.mem_of_getElem? a)
  have g:=O1 a
  generalize o[k]=v at a b g
  have p:(o.drop k).Nodup:=l.sublist (List.drop_sublist _ _)
  rw[g]at p c
  have q:=c v mS
  have w:=E0r r n es o h l t s d (k+1) fuel (A.set v.toNat (k:Int)) (by simp[f]) (λx a=>by
   rw[H05 b.1 (by omega) a];have:=i x a;split<;>omega) (λx a=>by
   have u:=h x (List.mem_of_mem_drop a)
   rw[H05 b.1 (by omega) u.1,if_neg (λe=>(List.nodup_cons.1 p).1 (by rw[←e];exact a))]
   exact c x (mC _ a)) (by omega) (by omega)
  rw[j5.eq_2,if_pos (by simp;omega),g,P2 a]
  simp only[oB,A02,w64 (show -9223372036854775808<=(n:Int)-1 by omega) (show(n:Int)-1<=9223372036854775807 by omega),inR,show decide (0<=v)=true by simpa using b.1,show decide (v<=(n:Int)-1)=true by simp;omega,Bool.and_self,Bool.not_true,Bool.not_false,H1,L0g f b.1 b.2,q,cond_false]
  rw[if_neg (by decide),C2 m (by omega),D0r,w]
  rfl
theorem F0r(es:List N0){n:Nat}(s:inN n es)(u:es.length<=1099511627776)(P:List Int)(g:P.length=n)(i:∀ x,0<=x -> -1<=getI P x/\getI P x<=1099511627776)(r m:Int):∀(d k fuel:Nat) (acc:List N0),k+d=es.length->d<fuel->acc.length<=k ->
  C4 es (P.map (·+1)) fuel (k:Int) r m acc=some (r,m,C6 S0 acc (pE P (es.drop k)))
 |d,k,0,acc,p,hf,o=>by omega
 |0,k,fuel+1,acc,p,hf,o=>by
  rw[C4.eq_2,if_neg (by simp;omega),I1 (by omega)];rfl
 |d+1,k,fuel+1,acc,p,hf,o=>by
  have q:k<es.length:=by omega
  have f:=E5 q
  have c:=s _ (List.mem_of_getElem? f)
  generalize es[k]=e at f c
  obtain⟨a,l,b⟩:=e
  have j:=λt h=>F0r es s u P g i r m d (k+1) fuel t (by omega) (by omega) h
  have v:=i a c.1.1
  have w:=i b c.2.1
  rw[C4.eq_2,if_pos (by simp;omega),O1 f]
  simp only[P2 f,oB,L0g g c.1.1 c.1.2,L0g g c.2.1 c.2.2,C2 q (show es.length<=9223372036854775807 by omega),pE]
  by_cases c1:0<=getI P a
  ·simp only[show decide (getI P a+1>0)=true by simp;omega,H1,oB,cond_true,show decide (0<=getI P a)=true by simpa using c1,Bool.true_and]
   by_cases c2:0<=getI P b
   ·rw[if_pos (by simp;omega),w64 (by omega) (by omega),w64 (by omega) (by omega),show getI P a+1-1=getI P a by omega,show getI P b+1-1=getI P b by omega]
    rw[m07 _ _ (by omega),oB,j _ (by have:=c08 (getI P a,l,getI P b) acc;omega)]
    simp[c2,C6]
   ·rw[if_neg (by simp;omega),j _ (by omega)]
    simp[c2]
  ·simp only[show decide (getI P a+1>0)=false by simp;omega,K1,oB,cond_false,show decide (0<=getI P a)=false by simpa using c1,Bool.false_and]
   rw[if_neg (by simp),j _ (by omega)]
theorem B0b(r:Int)(n:Nat)(es:List N0)(o:List Int)(f:V0 (r,(n:Int),es)=true)(g:inV n o)(l:o.Nodup)(t:1<=o.length)(u:o.length<=n):
  p7 (r,(n:Int),es) o=some (S9 (r,(n:Int),es) o,true):=by
 obtain⟨h,p,q,s⟩:=U2 f
 simp only at p q s
 have m:inN n es:=λe d=>⟨(h e d).1,(h e d).2.1⟩
 have k:=o9 (r,(n:Int),es) (by simp only;omega)
 unfold p7
 have a:=E0r r n es o g l (by omega) (by omega) o.length 0 T0 (List.replicate n (-1)) (by simp) (λx b=>by rw[J09];omega) (λx b=>J09 n x) (by omega) (D1 (by omega))
 have c:=F0r es m (by omega) (plc n o) (M0o n o) (λx b=>by have:=d08 g b;omega) r ((o.length:Nat):Int) es.length 0 T0 [] (by omega) (D1 (by omega)) (Nat.le_refl _)
 rw[show((0:Nat):Int)=0 from rfl,List.drop_zero]at c a
 rw[show(List.replicate n (-1:Int)).map (·+1)=List.replicate n 0 by simp]at a
 rw[show C02 (List.replicate n (-1)) 0 o=plc n o from rfl]at a
 have i:decide (((o.length:Nat):Int)=0)=false:=decide_eq_false (by omega)
 have j:decide (((o.length:Nat):Int)>(n:Int))=false:=decide_eq_false (by omega)
 simp only[k,f,oB,Bool.not_true,cond_false,Int.toNat_natCast,i,j]
 rw[if_neg (by simp),H0 (by omega),oB,a]
 simp only[oB,K9,c]
 rfl
theorem J00:∀(n:Nat) (o:List Int),o.Nodup->inV n o->o.length<=n
 |0,[],_,_=>Nat.le_refl _
 |0,x::r,_,h=>by have:=h x mS;omega
 |n+1,o,c,h=>by
  have d:inV n (o.erase (n:Int)):=λx e=>by
   obtain⟨f,a⟩:=(List.Nodup.mem_erase_iff c).1 e
   have:=h x a;omega
  have b:=J00 n _ (c.erase _) d
  by_cases a:(n:Int)∈o
  ·rw[List.length_erase_of_mem a]at b;omega
  ·rw[List.erase_of_not_mem a]at b;omega
def M6:Nat->Nat->List Int
 |0,_=>[]
 |d+1,i=>(i:Int) :: -(i:Int)::M6 d (i+1)
theorem h02:∀ d i,(M6 d i).length=2*d
 |0,i=>rfl
 |d+1,i=>by simp only[M6,List.length_cons,h02 d];omega
theorem h0k:∀(d i:Nat),i+d<=1000->∀ x∈M6 d i,l5 x
 |0,i,h,x,a=>nomatch a
 |d+1,i,h,x,a=>by
  simp only[M6,List.mem_cons]at a
  rcases a with rfl|rfl|a
  ·exact⟨⟨by omega,by omega⟩,by omega⟩
  ·exact⟨⟨by omega,by omega⟩,by omega⟩
  ·exact h0k d (i+1) (by omega) x a
theorem G0r(R:Nat)(c:R<=900):∀(d i fuel:Nat) (acc:List Int),i+d=R+1->d<fuel->acc.length+2*d<=10000 ->
  T8 (R:Int) fuel (i:Int) acc=some (acc++M6 d i)
 |d,i,0,acc,b,hf,a=>by omega
 |0,i,fuel+1,acc,b,hf,a=>by
  rw[T8.eq_2,if_neg (by simp;omega)];simp[M6]
 |d+1,i,fuel+1,acc,b,hf,a=>by
  have e:=G0r R c d (i+1) fuel (acc ++ [(i:Int),-(i:Int)]) (by omega) (by omega) (by simp;omega)
  have f:IntKind.i64.wrap (0-(i:Int)) = -(i:Int):=by rw[w64 (by omega) (by omega)];omega
  rw[T8.eq_2,if_pos (by simp;omega),f,H0 (by simp;omega),oB,C2 (show i<1000 by omega) (by omega),e]
  simp[M6]
theorem H0r(R:Nat)(c:R<=900):∀(d i fuel:Nat) (acc:List Int),i+d=R+1->d<fuel->acc.length+2*d<=10000 ->
  r7 (R:Int) fuel (i:Int) acc=some (acc++M6 d i)
 |d,i,0,acc,b,hf,a=>by omega
 |0,i,fuel+1,acc,b,hf,a=>by
  rw[r7.eq_2,if_neg (by simp;omega)];simp[M6]
 |d+1,i,fuel+1,acc,b,hf,a=>by
  have e:=H0r R c d (i+1) fuel ((acc ++ [(i:Int)]) ++ [-(i:Int)]) (by omega) (by omega) (by simp;omega)
  have f:IntKind.i64.wrap (0-(i:Int)) = -(i:Int):=by rw[w64 (by omega) (by omega)];omega
  rw[r7.eq_2,if_pos (by simp;omega),f,H0 (by simp;omega),oB,H0 (by simp;omega),oB,C2 (show i<1000 by omega) (by omega),e]
  simp[M6]
theorem y0n(R:Nat)(a:R<=900):t00 (R:Int)=some (M6 R 1):=by
 unfold t00
 rw[show(1:Int)=((1:Nat):Int) from rfl,G0r R a R 1 T0 [] (by omega) (D1 (by omega)) (by simp;omega)];rfl
theorem i0k(R:Nat)(a:R<=900):M7 (R:Int)=some (M6 R 1):=by
 unfold M7
 rw[show(1:Int)=((1:Nat):Int) from rfl,H0r R a R 1 T0 [] (by omega) (D1 (by omega)) (by simp;omega)];rfl
def c09(u:List Int)(x:Int):List Int:=if 0<=x/\x ∉ u then u ++ [x]else u
def W03(g:j0)(v:Int):List Int->List Int->List Int
 | [],u=>u
 |x::r,u=>W03 g v r (c09 u (j1 g v x))
def v00(g:j0)(a:List Int):Nat->Nat->List Int->List Int
 |0,i,u=>u
 |f+1,i,u=>match u[i]? with
  |some v=>v00 g a f (i+1) (W03 g v a u)
  |none=>u
def gud(n:Nat)(u:List Int):Prop:=u.Nodup/\inV n u
theorem Q0o{n:Nat}{u:List Int}{x:Int}(h:gud n u)(i:x = -1∨(0<=x/\x<(n:Int))):gud n (c09 u x):=by
 unfold c09
 split
 ·rename_i g
  refine⟨List.nodup_append.2 ⟨h.1,by simp,λa f b d=>?_⟩,λy c=>?_⟩
  ·simp at d;subst d;exact λe=>g.2 (e▸f)
  ·rcases List.mem_append.1 c with c|c
   ·exact h.2 y c
   ·simp at c;subst c;omega
 ·exact h
theorem N0g(u:List Int)(x:Int):∃ t,c09 u x=u++t:=by
 unfold c09;split
 ·exact⟨_,rfl⟩
 ·exact⟨[],by simp⟩
theorem u04(g:j0)(v:Int):∀(c u:List Int),∃ t,W03 g v c u=u++t
 | [],u=>⟨[],by simp[W03]⟩
 |x::r,u=>by
  obtain⟨d,a⟩:=N0g u (j1 g v x)
  obtain⟨e,b⟩:=u04 g v r (c09 u (j1 g v x))
  exact⟨d++e,by rw[W03,b,a,List.append_assoc]⟩
theorem h06{r:Int}{n:Nat}{es:List N0}(a:inG (r,(n:Int),es))(v:Int):∀(b u:List Int),gud n u->gud n (W03 (r,(n:Int),es) v b u)
 | [],u,h=>h
 |x::l,u,h=>h06 a v l _ (Q0o h (J04 a v x))
theorem O0g{r:Int}{n:Nat}{es:List N0}(a:inG (r,(n:Int),es))(b:List Int):∀(f i:Nat) (u:List Int),gud n u->gud n (v00 (r,(n:Int),es) b f i u)
 |0,i,u,h=>h
 |f+1,i,u,h=>by
  unfold v00
  split
  ·exact O0g a b f _ _ (h06 a _ _ _ h)
  ·exact h
theorem P0g(g:j0)(a:List Int):∀(f i:Nat) (u:List Int),u.length<=(v00 g a f i u).length
 |0,i,u=>Nat.le_refl _
 |f+1,i,u=>by
  unfold v00
  split
  ·rename_i v _
   obtain⟨t,e⟩:=u04 g v a u
   have:=P0g g a f (i+1) (W03 g v a u)
   rw[e]at this ⊢;simp only[List.length_append]at this;omega
  ·exact Nat.le_refl _
theorem R0o(r:Int)(n:Nat)(es:List N0)(g:inG (r,(n:Int),es))(A:n<=40)(m:es.length<=1099511627776)(a:List Int)(p:∀ x∈a,l5 x)(z:a.length<=1000000)(i:Nat)(v:Int):∀(d k fuel:Nat) (u:List Int),gud n u->u[i]?=some v->k+d=a.length->d<fuel ->
  d4 a (i:Int) r (n:Int) es fuel (k:Int) u=some (W03 (r,(n:Int),es) v (a.drop k) u)
 |d,k,0,u,c,b,j,hf=>by omega
 |0,k,fuel+1,u,c,b,j,hf=>by
  rw[d4.eq_2,if_neg (by simp;omega),I1 (by omega)];rfl
 |d+1,k,fuel+1,u,c,b,j,hf=>by
  have o:k<a.length:=by omega
  have f:=E5 o
  have q:=p _ (List.mem_of_getElem? f)
  have l:=O1 f
  generalize a[k]=x at f q l
  have D:=J00 n u c.1 c.2
  have B:j1 (r,(n:Int),es) v x = -1∨(0<=j1 (r,(n:Int),es) v x/\j1 (r,(n:Int),es) v x<(n:Int)):=J04 g v x
  have s:=Q0o c B
  have w:(c09 u (j1 (r,(n:Int),es) v x))[i]?=some v:=by
   obtain⟨t,e⟩:=N0g u (j1 (r,(n:Int),es) v x)
   rw[e,List.getElem?_append_left (List.getElem?_eq_some_iff.1 b).1];exact b
  have C:=R0o r n es g A m a p z i v d (k+1) fuel _ s w (by omega) (by omega)
  rw[d4.eq_2,if_pos (by simp;omega),l]
  simp only[P2 b,P2 f,oB,f05 (r,(n:Int),es) v x q m,H0 (c04 g (show(n:Int)<=40 by omega) v x),C2 o (show a.length<=9223372036854775807 by omega),W03]
  rw[←C]
  generalize j1 (r,(n:Int),es) v x=y at *
  unfold c09
  by_cases c1:0<=y
  ·simp only[show decide (y ≥ 0)=true by simpa using c1,H1,A0a u y (by omega),oB,cond_true]
   by_cases c2:y∈u
   ·rw[if_neg (by simp[c2]),if_neg (by simp[c2])]
   ·rw[if_pos (by simp[c2]),if_pos ⟨c1,c2⟩,H0 (by simp;omega),oB]
  ·simp only[show decide (y ≥ 0)=false by simpa using c1,K1,oB,cond_false]
   rw[if_neg (by simp),if_neg (λh=>c1 h.1)]
theorem S0o(r:Int)(n:Nat)(es:List N0)(d:inG (r,(n:Int),es))(m:n<=40)(h:es.length<=1099511627776)(a:List Int)(l:∀ x∈a,l5 x)(k:a.length<=1000000):∀(f i fuel:Nat) (u:List Int),gud n u->i<=u.length->n+1<=i+f->f<fuel ->
  i6 a r (n:Int) es fuel (i:Int) u=some (v00 (r,(n:Int),es) a f i u)
 |f,i,0,u,b,j,g,hf=>by omega
 |0,i,fuel+1,u,b,j,g,hf=>by have:=J00 n u b.1 b.2;omega
 |f+1,i,fuel+1,u,b,j,g,hf=>by
  have p:=J00 n u b.1 b.2
  rw[i6.eq_2,oB,H0 (by omega),oB]
  by_cases hk:i<u.length
  ·have c:=E5 hk
   generalize u[i]=v at c
   have h0:=R0o r n es d m h a l k i v a.length 0 T0 u b c (by omega) (D1 (by omega))
   rw[show((0:Nat):Int)=0 from rfl,List.drop_zero]at h0
   obtain⟨t,e⟩:=u04 (r,(n:Int),es) v a u
   have o:=S0o r n es d m h a l k f (i+1) fuel _ (h06 d v a u b) (by rw[e,List.length_append];omega) (by omega) (by omega)
   rw[if_pos (by simpa using hk),h0,oB,C2 hk (by omega),o]
   simp only[v00,c]
  ·have c:u[i]?=none:=List.getElem?_eq_none (by omega)
   rw[if_neg (by simpa using hk)]
   simp only[v00,c]
def d7(g:j0):List Int:=v00 g (M6 g.1.toNat 1) (g.2.1.toNat+1) 0 [0]
theorem B0a{g:j0}(hf:O0 g=true):gud g.2.1.toNat (d7 g)/\1<=(d7 g).length:=by
 obtain⟨b,c,d,e⟩:=J1 hf
 obtain⟨r,n,es⟩:=g
 simp only at c d e
 obtain⟨N,rfl⟩:∃ N:Nat,n=(N:Int):=⟨n.toNat,by omega⟩
 refine⟨?_,?_⟩
 ·exact O0g b _ _ _ _ ⟨by simp,λx a=>by simp at a;subst a;show(0:Int)<=0/\(0:Int)<(((N:Int).toNat:Nat):Int);omega⟩
 ·exact P0g _ _ _ _ [0]
theorem O0l(g:j0)(hf:O0 g=true):V9 g=some (d7 g):=by
 obtain⟨b,c,d,e⟩:=J1 hf
 have f:=O6 g (by omega)
 obtain⟨r,n,es⟩:=g
 simp only at c d e
 obtain⟨N,rfl⟩:∃ N:Nat,n=(N:Int):=⟨n.toNat,by omega⟩
 obtain⟨R,rfl⟩:∃ R:Nat,r=(R:Int):=⟨r.toNat,by omega⟩
 unfold V9
 have h0:=S0o (R:Int) N es b (by omega) (by omega) (M6 R 1) (h0k R 1 (by omega)) (by rw[h02];omega) (N+1) 0 T0 [0] ⟨by simp,λx a=>by simp at a;subst a;omega⟩ (by simp) (by omega) (D1 (by omega))
 simp only[f,hf,oB,Bool.not_true,i0k R (by omega)]
 rw[show((0:Nat):Int)=0 from rfl]at h0
 rw[if_neg (by simp),h0]
 rfl
theorem T0o{a:List Int}(b:a.length<=1099511627776):H7 a=some a:=by
 unfold H7
 rw[H0 (by simp;omega)];rfl
def V7(W:List (Option (List Int)))(x:Int):Option (List Int):=W.getD x.toNat none
theorem giO{a:List (Option (List Int))}{n:Nat}(f:a.length=n){x:Int}(h0:0<=x)(d:x<n):gi a x=some (V7 a x):=by
 have c:x.toNat<a.length:=by omega
 have e:x=((x.toNat:Nat):Int):=by omega
 have b:gi a ((x.toNat:Nat):Int)=some (V7 a x):=by
  rw[F0d,List.getElem?_eq_getElem c]
  unfold V7
  rw[List.getD_eq_getElem?_getD,List.getElem?_eq_getElem c];rfl
 rw[←e]at b;exact b
theorem i02{A:List (Option (List Int))}{v x:Int}{y:Option (List Int)}(h0:0<=v)(a:v.toNat<A.length)(b:0<=x):V7 (A.set v.toNat y) x=if x=v then y else V7 A x:=by
 unfold V7
 rw[List.getD_eq_getElem?_getD,List.getD_eq_getElem?_getD,List.getElem?_set]
 by_cases c:x=v
 ·rw[if_pos c,if_pos (by rw[c]),if_pos a];rfl
 ·rw[if_neg c,if_neg (by omega)]
structure WOk (n:Nat) (W:List (Option (List Int))) (u:List Int):Prop where
 len:W.length=n
 iff:∀ x,0<=x->x<(n:Int)->((V7 W x).isNone=true↔x ∉ u)
 short:∀ x,((V7 W x).getD []).length<=u.length
theorem U0o(r:Int)(n:Nat)(es:List N0)(m:inG (r,(n:Int),es))(G:n<=40)(t:es.length<=1099511627776)(f:List Int)(A:∀ x∈f,l5 x)(F:f.length<=1000000)(v:Int)(o:0<=v/\v<(n:Int)):∀(d k fuel:Nat) (b:List (Option (List Int))) (u:List Int),gud n u->WOk n b u->k+d=f.length->d<fuel ->
  ∃ j,S3 f r (n:Int) es v fuel (k:Int) b u=some (j,W03 (r,(n:Int),es) v (f.drop k) u)/\WOk n j (W03 (r,(n:Int),es) v (f.drop k) u)
 |d,k,0,b,u,i,a,q,hf=>by omega
 |0,k,fuel+1,b,u,i,a,q,hf=>by
  rw[S3.eq_2,if_neg (by simp;omega),I1 (by omega)];exact⟨b,rfl,a⟩
 |d+1,k,fuel+1,b,u,i,a,q,hf=>by
  have w:k<f.length:=by omega
  have l:=E5 w
  have C:=A _ (List.mem_of_getElem? l)
  have s:=O1 l
  generalize f[k]=x at l C s
  have J:=J00 n u i.1 i.2
  have H:j1 (r,(n:Int),es) v x = -1∨(0<=j1 (r,(n:Int),es) v x/\j1 (r,(n:Int),es) v x<(n:Int)):=J04 m v x
  have E:=Q0o i H
  have g:=λj h=>U0o r n es m G t f A F v o d (k+1) fuel j _ E h (by omega) (by omega)
  rw[S3.eq_2,if_pos (by simp;omega),s]
  simp only[P2 l,oB,F06 (r,(n:Int),es) v x C t,H0 (c04 m (show(n:Int)<=40 by omega) v x),C2 w (show f.length<=9223372036854775807 by omega),W03]
  generalize j1 (r,(n:Int),es) v x=y at *
  by_cases c1:0<=y
  ·have p:y<(n:Int):=by omega
   simp only[show decide (y ≥ 0)=true by simpa using c1,H1,giO a.len c1 p,oB,cond_true]
   by_cases c2:y∈u
   ·have : ¬ ((V7 b y).isNone=true):=λh=>(a.iff y c1 p).1 h c2
    have e:c09 u y=u:=if_neg λh=>h.2 c2
    rw[if_neg this]
    rw[e]at g ⊢
    exact g b a
   ·have:(V7 b y).isNone=true:=(a.iff y c1 p).2 c2
    have e:c09 u y=u ++ [y]:=if_pos ⟨c1,c2⟩
    have B:=a.short v
    rw[if_pos this,giO a.len o.1 o.2,oB,T0o (by omega),oB,H0 (by simp;omega),oB,H0 (by simp;omega),oB]
    rw[e]at g ⊢
    refine g _ ⟨by simp[a.len],λz h0 D=>?_,λz=>?_⟩
    ·rw[i02 c1 (by have:=a.len;omega) h0]
     by_cases c:z=y
     ·rw[if_pos c];simp[c]
     ·rw[if_neg c,a.iff z h0 D];simp[c]
    ·by_cases hz:0<=z
     ·rw[i02 c1 (by have:=a.len;omega) hz]
      by_cases c:z=y
      ·rw[if_pos c];simp;exact B
      ·rw[if_neg c];have:=a.short z;simp only[List.length_append];omega
     ·have I:V7 (b.set y.toNat (some ((V7 b v).getD [] ++ [x]))) z=V7 (b.set y.toNat (some ((V7 b v).getD [] ++ [x]))) 0:=by
       unfold V7;rw[show z.toNat=(0:Int).toNat by omega]
      rw[I,i02 c1 (by have:=a.len;omega) (iR 0)]
      by_cases c:(0:Int)=y
      ·rw[if_pos c];simp;exact B
      ·rw[if_neg c];have:=a.short 0;simp only[List.length_append];omega
  ·have e:c09 u y=u:=if_neg λh=>c1 h.1
   simp only[show decide (y ≥ 0)=false by simpa using c1,K1,oB,cond_false]
   rw[if_neg (by simp)]
   rw[e]at g ⊢
   exact g b a
theorem V0o(R n:Nat)(h:R<=900)(es:List N0)(d:inG ((R:Int),(n:Int),es))(m:n<=40)(k:es.length<=1099511627776):∀(f i fuel:Nat) (b:List (Option (List Int))) (u:List Int),gud n u->WOk n b u->i<=u.length->n+1<=i+f->f<fuel ->
  ∃ q,T5 (R:Int) (n:Int) es fuel (i:Int) b u=some (q,v00 ((R:Int),(n:Int),es) (M6 R 1) f i u)
 |f,i,0,b,u,a,g,l,j,hf=>by omega
 |0,i,fuel+1,b,u,a,g,l,j,hf=>by have:=J00 n u a.1 a.2;omega
 |f+1,i,fuel+1,b,u,a,g,l,j,hf=>by
  have y:=J00 n u a.1 a.2
  rw[T5.eq_2,oB,H0 (by omega),oB]
  by_cases hk:i<u.length
  ·have c:=E5 hk
   have o:=a.2 _ (List.mem_of_getElem? c)
   generalize u[i]=v at c o
   obtain⟨s,h0,p⟩:=U0o (R:Int) n es d m k (M6 R 1) (h0k R 1 (by omega)) (by rw[h02];omega) v o (M6 R 1).length 0 T0 b u a g (by omega) (D1 (by rw[h02];omega))
   rw[show((0:Nat):Int)=0 from rfl,List.drop_zero]at h0
   rw[List.drop_zero]at p
   obtain⟨t,e⟩:=u04 ((R:Int),(n:Int),es) v (M6 R 1) u
   obtain⟨x,w⟩:=V0o R n h es d m k f (i+1) fuel s _ (h06 d v _ u a) p (by rw[e,List.length_append];omega) (by omega) (by omega)
   rw[if_pos (by simpa using hk),P2 c,oB,y0n R h,oB,h0,oB]
   simp only[C2 hk (show u.length<=9223372036854775807 by omega),w,v00,c]
   exact⟨_,rfl⟩
  ·have c:u[i]?=none:=List.getElem?_eq_none (by omega)
   rw[if_neg (by simpa using hk)]
   simp only[v00,c]
   exact⟨_,rfl⟩
theorem P0l(g:j0)(hf:O0 g=true):Y9 g=some (d7 g):=by
 obtain⟨a,e,f,h⟩:=J1 hf
 have i:=u00 g (by omega)
 obtain⟨r,n,es⟩:=g
 simp only at e f h
 obtain⟨N,rfl⟩:∃ N:Nat,n=(N:Int):=⟨n.toNat,by omega⟩
 obtain⟨R,rfl⟩:∃ R:Nat,r=(R:Int):=⟨r.toNat,by omega⟩
 unfold Y9
 have b:∀ x,V7 (List.replicate N (none:Option (List Int))) x=none:=λx=>by
  unfold V7
  rw[List.getD_eq_getElem?_getD,List.getElem?_replicate];split<;>rfl
 have j:WOk N ((List.replicate N (none:Option (List Int))).set (0:Int).toNat (some [])) [0]:=by
  refine⟨by simp,λx h0 a=>?_,λx=>?_⟩
  ·rw[i02 (iR 0) (by simp;omega) h0]
   by_cases c:x=0
   ·rw[if_pos c];simp[c]
   ·rw[if_neg c,b];simp[c]
  ·by_cases hz:0<=x
   ·rw[i02 (iR 0) (by simp;omega) hz]
    split
    ·simp
    ·rw[b];simp
   ·have:V7 ((List.replicate N (none:Option (List Int))).set (0:Int).toNat (some [])) x=V7 ((List.replicate N (none:Option (List Int))).set (0:Int).toNat (some [])) 0:=by
     unfold V7;rw[show x.toNat=(0:Int).toNat by omega]
    rw[this,i02 (iR 0) (by simp;omega) (iR 0),if_pos rfl];simp
 obtain⟨l,h0⟩:=V0o R N (by omega) es a (by omega) (by omega) (N+1) 0 T0 _ [0] ⟨by simp,λx d=>by simp at d;subst d;omega⟩ j (by simp) (by omega) (D1 (by omega))
 have k:gi (List.replicate N (none:Option (List Int))) 0=some none:=by
  rw[b0k (x:=none)];rw[List.getElem?_replicate,if_pos (by omega)]
 simp only[i,hf,oB,Bool.not_true,o8,Int.toNat_natCast]
 rw[if_neg (by simp),H0 (by omega),oB,k,oB]
 rw[show((0:Nat):Int)=0 from rfl]at h0
 rw[h0]
 rfl
def T3(g:j0):j0:=S9 g (d7 g)
theorem K09(g:j0)(hf:O0 g=true):D8 g=some (T3 g):=by
 obtain⟨b,d,f,h⟩:=J1 hf
 have i:=u00 g (by omega)
 have j:=P0l g hf
 obtain⟨a,m⟩:=B0a hf
 have k:=J00 _ _ a.1 a.2
 obtain⟨r,n,es⟩:=g
 simp only at d f h
 obtain⟨N,rfl⟩:∃ N:Nat,n=(N:Int):=⟨n.toNat,by omega⟩
 simp only[Int.toNat_natCast]at a k
 have l:=g0k r N es (d7 (r,(N:Int),es)) (λe c=>⟨(b e c).1,(b e c).2.1⟩) a.2 (by omega) (by omega) (by omega)
 unfold D8
 simp only[i,hf,oB,Bool.not_true,j,l]
 rfl
theorem L09(g:j0)(hf:O0 g=true):C8 g=some (T3 g):=by
 obtain⟨l,d,e,f⟩:=J1 hf
 have i:V0 g=true:=by
  unfold O0 at hf;exact(Bool.and_eq_true _ _▸hf).1
 have j:=O0l g hf
 obtain⟨a,b⟩:=B0a hf
 have c:=J00 _ _ a.1 a.2
 obtain⟨r,n,es⟩:=g
 simp only at d e f
 obtain⟨N,rfl⟩:∃ N:Nat,n=(N:Int):=⟨n.toNat,by omega⟩
 simp only[Int.toNat_natCast]at a c
 have k:=B0b r N es (d7 (r,(N:Int),es)) i a.2 a.1 b c
 unfold C8
 simp only[oB,j,k]
 rw[if_neg (by simp;intro h;rw[h]at b;simp at b)]
 rfl
def lf(a:Nat->Bool):Nat->Nat->Option Nat
 |0,v=>none
 |d+1,v=>bif a v then some v else lf a d (v+1)
theorem M09{a:Nat->Bool}:∀(d v k:Nat),lf a d v=some k->v<=k/\k<v+d
 |0,v,k,h=>by cases h
 |d+1,v,k,h=>by
  unfold lf at h
  cases hb:a v
  ·rw[hb]at h;have:=M09 d (v+1) k h;omega
  ·rw[hb]at h;cases h;omega
theorem Q0g{a b:Nat->Bool}:∀(d v:Nat),(∀ k,v<=k->k<v+d->a k=b k)->lf a d v=lf b d v
 |0,v,h=>rfl
 |d+1,v,h=>by unfold lf;rw[h v (Nat.le_refl _) (by omega),Q0g d (v+1) λk c e=>h k (by omega) (by omega)]
def Q0p(es:List N0):List Int:=itS es (es.length+1) [0]
def O0d(es:List N0)(v:Nat):Bool:=decide (K04 (v:Int) es<2) || !decide ((v:Int)∈Q0p es)
def R00(g:j0):Option Nat:=lf (O0d g.2.2) (g.2.1.toNat-1) 1
theorem z0n(g:j0)(b:V0 g=true):l01 g 0=some (Q0p g.2.2)/\(Q0p g.2.2).length<=100000:=by
 obtain⟨i,d,e,a⟩:=U2 b
 have h:=o9 g (by omega)
 obtain⟨r,n,es⟩:=g
 simp only at d e a
 unfold l01 Q0p
 have c:=J0g es a (es.length+1) 0 T0 [0] (by omega) (D1 (by omega)) (by simp)
 have f:=J0o es (es.length+1) [0]
 refine⟨?_,?_⟩
 ·rw[show((0:Nat):Int)=0 from rfl]at c
  simp only[h,b,oB,Bool.not_true,Bool.not_false,H1,A02,inR,w64 (show -9223372036854775808<=n-1 by omega) (show n-1<=9223372036854775807 by omega)]
  rw[if_neg (by simp;omega),c];rfl
 ·have:(es.length+1)*(2*es.length)<=121*240:=Nat.mul_le_mul (by omega) (by omega)
  simp only[List.length_singleton]at f
  simp only
  omega
theorem I0r(r:Int)(n:Nat)(es:List N0)(e:es.length<=1000)(u:List Int)(g:u.length<=100000)(f:n<=40):∀(d v fuel:Nat),v+d=n∨(d=0/\n<=v)->v<=1000->d<fuel ->
  O9 (n:Int) r es u fuel (v:Int)=some (match lf (λv=>decide (K04 (v:Int) es<2) || !decide ((v:Int)∈u)) d v with|some k => .inl (k:Int)|none => .inr ())
 |d,v,0,b,c,hf=>by omega
 |0,v,fuel+1,b,c,hf=>by
  rw[O9.eq_2,if_neg (by simp;omega)];rfl
 |d+1,v,fuel+1,b,c,hf=>by
  have h:=I0r r n es e u g f d (v+1) fuel (by omega) (by omega) (by omega)
  have i:=d0k (v:Int) es
  rw[O9.eq_2,if_pos (by simp;omega),B0i (r,(n:Int),es) _ (by simp only;omega),oB,H0 (c64 (by simp only;omega) (by simp only;omega)),oB,C2 (show v<10000 by omega) (by omega)]
  unfold lf
  by_cases c1:K04 (v:Int) es<2
  ·have a:decide (((K04 (v:Int) es:Nat):Int)<2)=true:=decide_eq_true (by omega)
   simp only[a,Bool.not_true,K1,oB,cond_true,if_true,decide_eq_true c1,Bool.true_or]
  ·have a:decide (((K04 (v:Int) es:Nat):Int)<2)=false:=decide_eq_false (by omega)
   simp only[a,Bool.not_false,H1,A0a u _ (show u.length<=9223372036854775807 by omega),oB,cond_false,decide_eq_false c1,Bool.false_or]
   by_cases c2:(v:Int)∈u
   ·simp only[decide_eq_true c2,Bool.not_true,Bool.false_eq_true,if_false,cond_false];exact h
   ·simp only[decide_eq_false c2,Bool.not_false,if_true,cond_true]
theorem J0r(g:j0)(c:V0 g=true):U02 g=some (match R00 g with|some k=>(k:Int)|none => -1):=by
 obtain⟨a,b⟩:=z0n g c
 obtain⟨i,d,e,f⟩:=U2 c
 obtain⟨r,n,es⟩:=g
 simp only at d e f a b
 obtain⟨N,rfl⟩:∃ N:Nat,n=(N:Int):=⟨n.toNat,by omega⟩
 unfold U02 R00
 have h:=I0r r N es (by omega) (Q0p es) b (by omega) (N-1) 1 T0 (by omega) (by omega) (D1 (by omega))
 simp only[a,oB,Int.toNat_natCast]
 rw[show(1:Int)=((1:Nat):Int) from rfl,h]
 rw[show(λv:Nat=>decide (K04 (v:Int) es<2) || !decide ((v:Int)∈Q0p es))=O0d es from rfl]
 cases lf (O0d es) (N-1) 1<;>rfl
theorem j0k(r:Int)(n:Nat)(es:List N0)(o:es.length<=1000)(a:List Bool)(g:a.length=n)(p:n<=40):∀(d v fuel:Nat),1<=v->v+d=n∨(d=0/\n<=v)->v<=1000->d+1<fuel ->
  M4 (n:Int) r es a fuel 0 (v:Int)=some (match lf (λv=>decide (K04 (v:Int) es<2) || !b01 a (v:Int)) d v with|some k=>(k:Int)|none=>0)
 |d,v,0,f,h,j,hf=>by omega
 |0,v,fuel+1,f,h,j,hf=>by
  have e:decide ((v:Int)<(n:Int))=false:=decide_eq_false (by omega)
  rw[M4.eq_2,if_neg (by rw[e];simp)];rfl
 |d+1,v,fuel+1,f,h,j,hf=>by
  have q:=j0k r n es o a g p d (v+1) fuel (by omega) (by omega) (by omega) (by omega)
  have s:=d0k (v:Int) es
  have e:decide ((v:Int)<(n:Int))=true:=decide_eq_true (by omega)
  have i:∀ w:Int,M4 (n:Int) r es a fuel (v:Int) w=some (v:Int):=λw=>by
   obtain _|fuel:=fuel
   ·omega
   ·have l:decide ((v:Int)=0)=false:=decide_eq_false (by omega)
    have m:∀ b:Bool,(bif b then false else false)=false:=λb=>by cases b<;>rfl
    rw[M4.eq_2,if_neg (by rw[l,m];simp)]
  rw[M4.eq_2,if_pos (by rw[e];rfl),P0p (r,(n:Int),es) _ (by simp only;omega),oB,H0 (c64 (by simp only;omega) (by simp only;omega)),oB,C2 (show v<10000 by omega) (by omega)]
  unfold lf
  by_cases c1:K04 (v:Int) es<2
  ·have c:decide (((K04 (v:Int) es:Nat):Int)<2)=true:=decide_eq_true (by omega)
   simp only[c,Bool.not_true,K1,oB,cond_true,if_true,decide_eq_true c1,Bool.true_or,i]
  ·have c:decide (((K04 (v:Int) es:Nat):Int)<2)=false:=decide_eq_false (by omega)
   simp only[c,Bool.not_false,H1,giB g (show(0:Int)<=(v:Int) by omega) (show(v:Int)<(n:Int) by omega),oB,cond_false,decide_eq_false c1,Bool.false_or]
   cases hb:b01 a (v:Int)
   ·simp only[Bool.not_false,if_true,cond_true,i]
   ·simp only[Bool.not_true,Bool.false_eq_true,if_false,cond_false];exact q
def wo(g:Nat):Nat->Nat->List Int
 |0,k=>[]
 |d+1,k=>if k=g then wo g d (k+1)else(k:Int)::wo g d (k+1)
theorem R0g(g:Nat):∀(d k:Nat),(wo g d k).length=d-(if k<=g/\g<k+d then 1 else 0)
 |0,k=>by simp[wo]
 |d+1,k=>by
  have a:=R0g g d (k+1)
  unfold wo
  by_cases c:k=g
  ·rw[if_pos c,a,if_neg (by omega),if_pos (by omega)];omega
  ·rw[if_neg c,List.length_cons,a]
   by_cases c2:k+1<=g/\g<k+1+d
   ·rw[if_pos c2,if_pos (by omega)];omega
   ·rw[if_neg c2,if_neg (by omega)];omega
theorem Q0l(g n:Nat):∀(d k:Nat),k+d<=n->inV n (wo g d k)
 |0,k,h=>λx a=>nomatch a
 |d+1,k,h=>by
  have b:=Q0l g n d (k+1) (by omega)
  unfold wo
  split
  ·exact b
  ·intro x a
   rcases List.mem_cons.1 a with rfl|a
   ·omega
   ·exact b x a
theorem k0k(n g:Nat)(j:n<=1000):∀(d k fuel:Nat) (acc:List Int),k+d=n->d<fuel->acc.length<=k ->
  J6 (n:Int) (g:Int) fuel (k:Int) acc=some (acc++wo g d k)
 |d,k,0,acc,b,hf,a=>by omega
 |0,k,fuel+1,acc,b,hf,a=>by
  rw[J6.eq_2,if_neg (by simp;omega)];simp[wo]
 |d+1,k,fuel+1,acc,b,hf,a=>by
  have f:=λi h=>k0k n g j d (k+1) fuel i (by omega) (by omega) h
  rw[J6.eq_2,if_pos (by simp;omega),C2 (show k<10000 by omega) (by omega)]
  unfold wo
  by_cases c:k=g
  ·have e:decide ((k:Int)=(g:Int))=true:=decide_eq_true (by omega)
   rw[e,if_neg (by simp),if_pos c,f _ (by omega)]
  ·have e:decide ((k:Int)=(g:Int))=false:=decide_eq_false (by omega)
   rw[e,if_pos (show(!false)=true from rfl),if_neg c,H0 (by simp;omega),oB,f _ (by simp;omega)]
   simp
theorem l0k(n:Nat)(f:n<=1000):∀(d k fuel:Nat) (acc:List Int),k+d=n->d<fuel->acc.length=k ->
  ∃ u,t7 (n:Int) fuel (k:Int) acc=some u/\u.length=n
 |d,k,0,acc,b,hf,a=>by omega
 |0,k,fuel+1,acc,b,hf,a=>by
  rw[t7.eq_2,if_neg (by simp;omega)];exact⟨_,rfl,by omega⟩
 |d+1,k,fuel+1,acc,b,hf,a=>by
  obtain⟨u,c,e⟩:=l0k n f d (k+1) fuel (acc ++ [(k:Int)]) (by omega) (by omega) (by simp;omega)
  rw[t7.eq_2,if_pos (by simp;omega),C2 (show k<10000 by omega) (by omega),H0 (by simp;omega),oB,c]
  exact⟨u,rfl,e⟩
theorem N09{a:Type}{xs:List a}{k:Nat}(h:k<=xs.length):S06 xs 0 (k:Int)=some (xs.take k):=by
 unfold S06
 rw[if_pos (by omega)];rfl
theorem W0o:∀(n fuel:Nat) (left:List Int) (r:Int) (es:List N0),1<=n->n<=40->inN n es->es.length<=120->left.length=n->n<fuel ->
  ∃(a:j0) (e:List Int),K6 fuel left r (n:Int) es=some (.inl (a,e))/\a.2.1<=(n:Int)/\(a.2.1=(n:Int)↔lf (O0d es) (n-1) 1=none)
 |n,0,left,r,es,f,g,b,u,w,hf=>by omega
 |n,fuel+1,left,r,es,f,g,b,u,w,hf=>by
  obtain⟨c,q,A,s⟩:=L0l r n es b (by omega) f (by omega)
  have o:=j0k r n es (by omega) c A g (n-1) 1 T0 (Nat.le_refl _) (by omega) (by omega) (D1 (by omega))
  have t:lf (λv=>decide (K04 (v:Int) es<2) || !b01 c (v:Int)) (n-1) 1=lf (O0d es) (n-1) 1:=Q0g _ _ λk D E=>by
   unfold O0d
   have:=s (k:Int) (by omega) (by omega)
   have i:=L0c es 0 (k:Int)
   congr 2
   cases hb:b01 c (k:Int)
   ·symm;exact decide_eq_false λh=>by rw[this.2 (i.1 h)]at hb;cases hb
   ·symm;exact decide_eq_true (i.2 (this.1 hb))
  rw[t]at o
  rw[K6.eq_2,q,oB,show(1:Int)=((1:Nat):Int) from rfl,o,oB]
  cases hlf:lf (O0d es) (n-1) 1 with
  |none =>
   exact⟨(r,(n:Int),es),left,by rw[if_pos (by rfl)],iR _,by simp⟩
  |some k =>
   have C:=M09 _ _ _ hlf
   have p:decide ((k:Int)=0)=false:=decide_eq_false (by omega)
   have j:=Q0l k n n 0 (by omega)
   have d:=R0g k n 0
   rw[if_pos (by omega)]at d
   have m:=k0k n k (by omega) n 0 T0 [] (by omega) (D1 (by omega)) (Nat.le_refl _)
   rw[show((0:Nat):Int)=0 from rfl,List.nil_append]at m
   have x:=g0k r n es (wo k n 0) b j (by omega) (by omega) (by omega)
   have y:=A0b (r,(n:Int),es) (wo k n 0)
   have l:=J0i (r:=r) j b
   have z:IntKind.i64.wrap ((k:Int)+((1:Nat):Int))=((k+1:Nat):Int):=by rw[w64 (by omega) (by omega)];rfl
   obtain⟨a,e,B,F,G⟩:=W0o (n-1) fuel (left.take k++left.drop (k+1)) r (S9 (r,(n:Int),es) (wo k n 0)).2.2 (by omega) (by omega) (by rw[d]at l;exact l) (by simp only at y;omega) (by simp only[List.length_append,List.length_take,List.length_drop];omega) (by omega)
   refine⟨a,e,?_,by omega,?_⟩
   ·simp only[p,Bool.false_eq_true,if_false,m,oB,x]
    rw[show S9 (r,(n:Int),es) (wo k n 0)=(r,((n-1:Nat):Int),(S9 (r,(n:Int),es) (wo k n 0)).2.2) by rw[←d];rfl]
    simp only[z]
    rw[N09 (by omega),oB,m04 (by omega),oB,H0 (by simp only[List.length_take,List.length_drop];omega),oB,B]
   ·constructor
    ·intro h;omega
    ·intro h;cases h
theorem A0n(g:j0)(i:V0 g=true):∃(a:j0) (b:List Int),U8 g=some (a,b)/\(a.2.1=g.2.1↔R00 g=none):=by
 obtain⟨d,k,l,f⟩:=U2 i
 have p:=Y01 g (by omega)
 have m:=Z01 g (by omega)
 obtain⟨r,n,es⟩:=g
 simp only at k l f
 obtain⟨N,rfl⟩:∃ N:Nat,n=(N:Int):=⟨n.toNat,by omega⟩
 have o:inN N es:=λe h=>⟨(d e h).1,(d e h).2.1⟩
 obtain⟨u,c,j⟩:=l0k N (by omega) N 0 T0 [] (by omega) (D1 (by omega)) rfl
 obtain⟨a,b,q,t,s⟩:=W0o N T0 u r es (by omega) (by omega) o f j (D1 (by omega))
 refine⟨a,b,?_,?_⟩
 ·unfold U8
  rw[show((0:Nat):Int)=0 from rfl]at c
  simp only[m,oB,p,i,Bool.not_true,Bool.false_eq_true,if_false,c,q,K9]
 ·simp only[R00,Int.toNat_natCast];exact s
def I2(g:j0):Bool:=O0 g&&((R00 g).isNone&&D0g (T3 g) g)
theorem P4{g:j0}(h:O0 g=true):V0 g=true:=by
 unfold O0 at h;exact(Bool.and_eq_true _ _▸h).1
theorem K0i{g:j0}(hf:O0 g=true):(T3 g).2.2.length<=120:=by
 have:=A0b g (d7 g)
 have:=(J1 hf).2.2.2
 unfold T3;omega
theorem I01(g:j0)(j:g.2.2.length<=140737488355328):R6 g=some (I2 g):=by
 have b:=u00 g j
 unfold I2
 by_cases hf:O0 g=true
 ·obtain⟨e,t,d,a⟩:=A0n g (P4 hf)
  have f:=K09 g hf
  have h:=C0i (T3 g) g (by have:=K0i hf;omega)
  obtain⟨r,n,es⟩:=g
  obtain⟨u,m,s⟩:=e
  unfold R6
  simp only at a
  generalize T3 (r,n,es)=C at *
  obtain⟨o,p,q⟩:=C
  simp only[b,hf,oB,Bool.not_true,Bool.false_eq_true,if_false,d,f]
  by_cases c:m=n
  ·have:=a.1 c
   simp only[decide_eq_true c,H1,oB,h,cond_true,this,Option.isNone_none,Bool.true_and]
  ·have l:(R00 (r,n,es)).isNone=false:=by
    cases hq:R00 (r,n,es)with
    |none=>exact absurd (a.2 hq) c
    |some k=>rfl
   simp only[decide_eq_false c,K1,oB,cond_false,l,Bool.false_and,Bool.and_false]
 ·have i:O0 g=false:=Bool.eq_false_iff.2 hf
  obtain⟨r,n,es⟩:=g
  unfold R6
  simp only[b,i,oB,Bool.not_false,if_true,Bool.false_and]
theorem L08(g:j0)(j:g.2.2.length<=140737488355328):X01 g=some (I2 g):=by
 have a:=O6 g j
 unfold I2
 by_cases hf:O0 g=true
 ·have f:=J0r g (P4 hf)
  have d:=L09 g hf
  have e:=E0i (T3 g) g (by have:=K0i hf;omega)
  obtain⟨p,q,c,s⟩:=J1 hf
  obtain⟨r,n,es⟩:=g
  unfold X01
  generalize T3 (r,n,es)=C at *
  obtain⟨l,m,o⟩:=C
  simp only[a,hf,oB,H1,f,cond_true]
  cases hq:R00 (r,n,es)with
  |none =>
   simp only[H0 (show J0 (-1) by decide),oB,show decide ((-1:Int)<0)=true from rfl,H1,d,e,cond_true,Option.isNone_none,Bool.true_and]
  |some k =>
   have i:=M09 _ _ _ hq
   simp only at c
   simp only at i
   have b:decide ((k:Int)<0)=false:=decide_eq_false (by omega)
   simp only[H0 (show J0 (k:Int) from c64 (by omega) (by omega)),oB,b,K1,cond_false,Option.isNone_some,Bool.false_and,Bool.and_false]
 ·have h:O0 g=false:=Bool.eq_false_iff.2 hf
  obtain⟨r,n,es⟩:=g
  unfold X01
  simp only[a,h,oB,K1,H0 (show J0 0 by decide),cond_false,Bool.false_and]
def Y0t(l:r0f):Prop:=l.length<=140737488355328/\∀ e∈l,e.1.size<=140737488355328/\e.2.2.2.length<=140737488355328
def K0r(l:r0f):Prop:=l.length<=1048576/\∀ e∈l,e.1.size<=1048576/\e.2.2.2.length<=1048576
theorem K0r.ok{l:r0f}(h:K0r l):Y0t l:=⟨by have:=h.1;omega,λe a=>by have:=h.2 e a;omega⟩
theorem R0l{e:Type}{c:e->e->Int}(h:t01 c):∀ {l:List e},(∀ i x y,l[i]?=some x->l[i+1]?=some y->c x y<0)->Asc c l
 | [],_=>List.Pairwise.nil
 | [x],_=>List.pairwise_singleton _ _
 |x::y::l,f=>by
  have j:Asc c (y::l):=R0l h λi a b k m=>f (i+1) a b (by simpa using k) (by simpa using m)
  have g:=f 0 x y rfl rfl
  refine List.pairwise_cons.2 ⟨λz d=>?_,j⟩
  rcases List.mem_cons.1 d with rfl|d
  ·exact g
  ·exact h.trans _ _ _ g ((List.pairwise_cons.1 j).1 z d)
theorem L0r{d:Type}{e:d->d->Int}:∀ {l:List d},Asc e l->∀ {i:Nat} {x y:d},l[i]?=some x->l[i+1]?=some y->e x y<0
 | [],_,i,x,y,b,_=>by simp at b
 |a::l,h,0,x,y,b,c=>by
  simp at b c;subst b
  exact(List.pairwise_cons.1 h).1 y (List.mem_of_getElem? c)
 |a::l,h,i+1,x,y,b,c=>L0r (List.pairwise_cons.1 h).2 (i:=i) (by simpa using b) (by simpa using c)
theorem M0r{r a:Int}{es:List N0}:∀ {d k:Nat},(∀ i,k<=i->i<k+d->v0r r a es i=false)->okE r a es d k=true
 |0,k,h=>rfl
 |d+1,k,h=>by
  simp only[okE,Bool.and_eq_true,Bool.not_eq_true']
  exact⟨h k (Nat.le_refl _) (by omega),M0r λi b c=>h i (by omega) (by omega)⟩
theorem V02(g:j0):V0 g=true↔inG g/\(1<=g.1/\g.1<=3)/\(1<=g.2.1/\g.2.1<=40)/\g.2.2.length<=120/\Asc S0 g.2.2:=by
 constructor
 ·intro h
  obtain⟨m,c,d,k⟩:=U2 h
  refine⟨m,c,d,k,R0l U7 λi x y a b=>?_⟩
  simp only[V0,Bool.and_eq_true]at h
  have l:=t0n h.1.1.1 (i+1) (Nat.zero_le _) (by have:=(List.getElem?_eq_some_iff.1 b).1;omega)
  rw[B0c b]at l
  simp only[Nat.add_sub_cancel,a,Bool.or_eq_false_iff]at l
  have:=l.2
  simp only[show decide (0<i+1)=true by simp,Bool.true_and,decide_eq_false_iff_not]at this
  have e:v0g x y=S0 x y:=rfl
  omega
 ·rintro⟨m,c,d,k,o⟩
  obtain⟨r,n,es⟩:=g
  simp only at c d k o
  simp only[V0,inR,Bool.and_eq_true,decide_eq_true_eq]
  refine⟨⟨⟨M0r λi _ s=>?_,c⟩,d⟩,k⟩
  have a:=E5 (show i<es.length by omega)
  generalize es[i]=e at a
  rw[B0c a]
  have q:=m e (List.mem_of_getElem? a)
  simp only at q
  simp only[Bool.or_eq_false_iff,Bool.not_eq_false',z07,inR,Bool.and_eq_true,decide_eq_true_eq]
  rw[w64 (by omega) (by omega)]
  refine⟨⟨⟨⟨by omega,by omega⟩,by omega,by omega⟩,by omega,by omega⟩,?_⟩
  cases i with
  |zero=>rfl
  |succ j =>
   have b:=E5 (show j<es.length by omega)
   generalize es[j]=f at b
   have:=L0r o b a
   simp only[Nat.add_sub_cancel,b]
   have p:v0g f e=S0 f e:=rfl
   simp[p];omega
theorem N0c{r:Int}{n:Int}{es:List N0}(d:1<=r/\r<=3)(c:1<=n/\n<=40)(f:es.length<=120)(b:inG (r,n,es)):V0 (r,n,C6 S0 [] es)=true:=by
 refine(V02 _).2 ⟨λe a=>b e ?_,d,c,?_,j04 U7 _ _ List.Pairwise.nil⟩
 ·rcases(I00 U7 e es []).1 a with h|h
  ·simp at h
  ·exact h
 ·have:=n03 es []
  simp only[List.length_nil]at this
  simp only;omega
def O0c(a b:N0):List (Int×Int) :=
 bif decide (a.2.1=b.2.1)then(bif decide (a.1=b.1)then [(if b.2.2<a.2.2 then b.2.2 else a.2.2,if b.2.2>a.2.2 then b.2.2 else a.2.2)]else [])++(bif decide (a.2.2=b.2.2)then [(if b.1<a.1 then b.1 else a.1,if b.1>a.1 then b.1 else a.1)]else [])else []
def v04(a:N0):List N0->List (Int×Int)
 | []=>[]
 |b::r=>O0c a b++v04 a r
def j00:List N0->List (Int×Int)
 | []=>[]
 |a::r=>v04 a r++j00 r
theorem R0p(a b:N0):(O0c a b).length<=2:=by
 unfold O0c
 cases decide (a.2.1=b.2.1)<;>cases decide (a.1=b.1)<;>cases decide (a.2.2=b.2.2)<;>simp
theorem P0d(a:N0):∀ l,(v04 a l).length<=2*l.length
 | []=>by simp[v04]
 |b::r=>by have:=R0p a b;have:=P0d a r;simp only[v04,List.length_append,List.length_cons];omega
def mvV(f:Int×Int)(v:Int):Int:=if v=f.2 then f.1 else if v>f.2 then v-1 else v
def mvE(f:Int×Int)(e:N0):N0:=(mvV f e.1,e.2.1,mvV f e.2.2)
def Z02(g:j0)(f:Int×Int):j0:=(g.1,g.2.1-1,C6 S0 [] (g.2.2.map (mvE f)))
def okF(g:j0)(f:Int×Int):Prop:=0<=f.1/\f.1<f.2/\f.2<g.2.1
theorem n07{g:j0}{f:Int×Int}(k:V0 g=true)(hf:okF g f):V0 (Z02 g f)=true:=by
 obtain⟨l,m,q,n,_⟩:=(V02 g).1 k
 obtain⟨o,f2,f3⟩:=hf
 refine N0c m ⟨by omega,by omega⟩ (by simpa using n) λe i=>?_
 obtain⟨h,j,rfl⟩:=List.mem_map.1 i
 obtain⟨b,c,d⟩:=l h j
 have a:∀ v:Int,0<=v/\v<g.2.1->0<=mvV f v/\mvV f v<g.2.1-1:=λv p=>by
  unfold mvV;split
  ·omega
  ·split<;>omega
 exact⟨a _ b,a _ c,d⟩
theorem S0l{g:j0}(j:inG g){a:N0}(m:a∈g.2.2):∀ {l:List N0},(∀ b∈l,b∈g.2.2/\a≠b)->∀ f∈v04 a l,okF g f
 | [],_,f,hf=>by simp[v04]at hf
 |b::r,h,f,hf=>by
  rcases List.mem_append.1 (show f∈O0c a b++v04 a r from hf)with hf|hf
  ·have s:=j b (h b mS).1
   have q:=j a m
   have u:=(h b mS).2
   obtain⟨c,n,d⟩:=a
   obtain⟨e,p,i⟩:=b
   simp only at q s
   unfold O0c at hf
   simp only at hf
   by_cases c1:n=p
   ·have k : ¬ (c=e/\d=i):=λ⟨x,y⟩=>u (by rw[x,c1,y])
    simp only[c1,decide_true,cond_true,List.mem_append]at hf
    rcases hf with hf|hf
    ·by_cases c2:c=e
     ·simp only[c2,decide_true,cond_true,List.mem_singleton]at hf
      subst hf
      have:d≠i:=λy=>k ⟨c2,y⟩
      unfold okF
      simp only
      split<;>split<;>omega
     ·simp[c2]at hf
    ·by_cases c2:d=i
     ·simp only[c2,decide_true,cond_true,List.mem_singleton]at hf
      subst hf
      have:c≠e:=λy=>k ⟨y,c2⟩
      unfold okF
      simp only
      split<;>split<;>omega
     ·simp[c2]at hf
   ·simp[c1]at hf
  ·exact S0l j m (λo t=>h o (mC _ t)) f hf
theorem T0l{g:j0}(i:inG g):∀ {l:List N0},(∀ b∈l,b∈g.2.2)->Asc S0 l->∀ f∈j00 l,okF g f
 | [],_,_,f,hf=>by simp[j00]at hf
 |a::r,h,d,f,hf=>by
  rcases List.mem_append.1 (show f∈v04 a r++j00 r from hf)with hf|hf
  ·refine S0l i (h a mS) (λb c=>⟨h b (mC _ c),λe=>?_⟩) f hf
   have:=(List.pairwise_cons.1 d).1 b c
   rw[e,U7.refl]at this;omega
  ·exact T0l i (λb c=>h b (mC _ c)) (List.pairwise_cons.1 d).2 f hf
theorem I06{g:j0}(a:V0 g=true):∀ f∈j00 g.2.2,okF g f:=by
 obtain⟨b,_,_,_,c⟩:=(V02 g).1 a
 exact T0l b (λ_ h=>h) c
def a03:Nat->j0->j0×List (Int×Int)
 |0,g=>(g,[])
 |n+1,g=>match j00 g.2.2 with
  | []=>(g,[])
  |f::_=>((a03 n (Z02 g f)).1,f::(a03 n (Z02 g f)).2)
def c01(g:j0):j0×List (Int×Int):=bif V0 g then a03 40 g else(g,[])
theorem C0e:∀(n:Nat) {g:j0},V0 g=true->V0 (a03 n g).1=true
 |0,g,h=>h
 |n+1,g,h=>by
  unfold a03
  cases e:j00 g.2.2 with
  |nil=>exact h
  |cons f l=>exact C0e n (n07 h (I06 h f (by rw[e];exact mS)))
theorem C0b:∀(n:Nat) {g:j0},V0 g=true->g.2.1<=(n:Int)+1->j00 (a03 n g).1.2.2 = []
 |0,g,h,a=>by
  cases e:j00 g.2.2 with
  |nil=>exact e
  |cons f l =>
   have:=I06 h f (by rw[e];exact mS)
   unfold okF at this
   omega
 |n+1,g,h,a=>by
  unfold a03
  cases e:j00 g.2.2 with
  |nil=>exact e
  |cons f l=>exact C0b n (n07 h (I06 h f (by rw[e];exact mS))) (by show g.2.1-1<=_;omega)
theorem S0p(a b:N0):O0c a b = []↔G06 a b=false:=by
 unfold O0c G06
 cases decide (a.2.1=b.2.1)<;>cases decide (a.1=b.1)<;>cases decide (a.2.2=b.2.2)<;>simp
theorem L0i(a:N0):∀ l,v04 a l = []↔∀ b∈l,G06 a b=false
 | []=>by simp[v04]
 |b::r=>by
  rw[v04,List.append_eq_nil_iff,S0p,L0i a r]
  simp
theorem Q0d:∀ l,j00 l = []↔l.Pairwise λa b=>G06 a b=false
 | []=>by simp[j00]
 |a::r=>by rw[j00,List.append_eq_nil_iff,L0i,Q0d r,List.pairwise_cons]
theorem J06(g:j0):O0 g=true↔V0 g=true/\j00 g.2.2 = []:=by
 unfold O0
 rw[Bool.and_eq_true,K0d,Q0d]
theorem O09{g:j0}(h:V0 g=true):O0 (c01 g).1=true:=by
 have a:=(U2 h).2.2.1
 unfold c01
 rw[h]
 exact(J06 _).2 ⟨C0e 40 h,C0b 40 h (by omega)⟩
theorem M0i(l:List N0)(a c e:Int)(s:l.length<=1000):∀(d k fuel:Nat) (acc:List T6),k+d=l.length->d<fuel->acc.length+2*d<=4000000 ->
  l6 l c a e fuel (k:Int) acc=some (acc++v04 (a,c,e) (l.drop k))
 |d,k,0,acc,m,hf,j=>by omega
 |0,k,fuel+1,acc,m,hf,j=>by
  rw[l6.eq_2,if_neg (by simp;omega),I1 (by omega)]
  simp[v04]
 |d+1,k,fuel+1,acc,m,hf,j=>by
  have n:k<l.length:=by omega
  have i:=E5 n
  generalize l[k]=b at i
  obtain⟨o,p,q⟩:=b
  have g:∀ f:List T6,f.length+2*d<=4000000->l6 l c a e fuel ((k+1:Nat):Int) f=some (f++v04 (a,c,e) (l.drop (k+1))):=λf h=>M0i l a c e s d (k+1) fuel f (by omega) (by omega) h
  rw[l6.eq_2,if_pos (by simp;omega),P2 i,oB,C2 n (by omega),O1 i]
  simp only[v04,O0c]
  cases decide (c=p)
  ·simp only[Bool.not_false,if_true,cond_false,List.nil_append]
   exact g acc (by omega)
  ·cases decide (a=o)<;>cases decide (e=q)
   all_goals simp only[Bool.not_true,Bool.false_eq_true,if_false,if_true,cond_true,cond_false,List.nil_append,List.append_nil]
   ·exact g acc (by omega)
   ·rw[H0 (by simp;omega),oB,g _ (by simp;omega)];simp
   ·rw[H0 (by simp;omega),oB,g _ (by simp;omega)];simp
   ·rw[H0 (by simp;omega),oB,H0 (by simp;omega),oB,g _ (by simp;omega)];simp
theorem N0i(l:List N0)(m:l.length<=1000):∀(d k fuel:Nat) (acc:List T6),k+d=l.length->d<fuel->acc.length+2000*d<=3000000 ->
  w00 l fuel (k:Int) acc=some (acc++j00 (l.drop k))
 |d,k,0,acc,h,hf,g=>by omega
 |0,k,fuel+1,acc,h,hf,g=>by
  rw[w00.eq_2,if_neg (by simp;omega),I1 (by omega)]
  simp[j00]
 |d+1,k,fuel+1,acc,h,hf,g=>by
  have i:k<l.length:=by omega
  have a:=E5 i
  generalize l[k]=b at a
  obtain⟨c,e,f⟩:=b
  have h0:=M0i (l.drop (k+1)) c e f (by simp;omega) (l.length-(k+1)) 0 T0 acc (by simp) (D1 (by omega)) (by omega)
  have j:=P0d (c,e,f) (l.drop (k+1))
  simp only[List.length_drop]at j
  rw[w00.eq_2,if_pos (by simp;omega),P2 a,oB]
  simp only[C2 i (show l.length<=9223372036854775807 by omega)]
  rw[m04 (by omega),oB,show(0:Int)=((0:Nat):Int) from rfl,h0,oB,N0i l m d (k+1) fuel _ (by omega) (by omega) (by simp only[List.length_append,List.drop_zero,List.length_drop]at j ⊢;omega),O1 a,j00]
  simp
theorem O0i(l:List N0)(u:l.length<=1000)(i:Nat)(a c e:Int)(o:l[i]?=some (a,c,e)):∀(d k fuel:Nat) (acc:List T6),k+d=l.length->d<fuel->acc.length+2*d<=4000000 ->
  Y4 l (i:Int) fuel (k:Int) acc=some (acc++v04 (a,c,e) (l.drop k))
 |d,k,0,acc,n,hf,m=>by omega
 |0,k,fuel+1,acc,n,hf,m=>by
  rw[Y4.eq_2,if_neg (by simp;omega),I1 (by omega)]
  simp[v04]
 |d+1,k,fuel+1,acc,n,hf,m=>by
  have p:k<l.length:=by omega
  have j:=E5 p
  generalize l[k]=b at j
  obtain⟨q,s,t⟩:=b
  have g:∀ f:List T6,f.length+2*d<=4000000->Y4 l (i:Int) fuel ((k+1:Nat):Int) f=some (f++v04 (a,c,e) (l.drop (k+1))):=λf h=>O0i l u i a c e o d (k+1) fuel f (by omega) (by omega) h
  rw[Y4.eq_2,if_pos (by simp;omega),P2 o,oB]
  simp only[]
  rw[P2 j,oB,C2 p (by omega),O1 j]
  simp only[v04,O0c]
  cases decide (c=s)
  ·simp only[Bool.false_eq_true,if_false,cond_false,List.nil_append]
   exact g acc (by omega)
  ·cases decide (a=q)<;>cases decide (e=t)
   all_goals simp only[Bool.not_true,Bool.false_eq_true,if_false,if_true,cond_true,cond_false,List.nil_append,List.append_nil]
   ·exact g acc (by omega)
   ·rw[H0 (by simp;omega),oB,g _ (by simp;omega)];simp
   ·rw[H0 (by simp;omega),oB,g _ (by simp;omega)];simp
   ·rw[H0 (by simp;omega),oB,H0 (by simp;omega),oB,g _ (by simp;omega)];simp
theorem P0i(l:List N0)(j:l.length<=1000):∀(d k fuel:Nat) (acc:List T6),k+d=l.length->d<fuel->acc.length+2000*d<=3000000 ->
  V8 l fuel (k:Int) acc=some (acc++j00 (l.drop k))
 |d,k,0,acc,h,hf,g=>by omega
 |0,k,fuel+1,acc,h,hf,g=>by
  rw[V8.eq_2,if_neg (by simp;omega),I1 (by omega)]
  simp[j00]
 |d+1,k,fuel+1,acc,h,hf,g=>by
  have i:k<l.length:=by omega
  have a:=E5 i
  generalize l[k]=b at a
  obtain⟨c,e,f⟩:=b
  have h0:=O0i l j k c e f a (l.length-(k+1)) (k+1) T0 acc (by omega) (D1 (by omega)) (by omega)
  have m:=P0d (c,e,f) (l.drop (k+1))
  simp only[List.length_drop]at m
  rw[V8.eq_2,if_pos (by simp;omega),C2 i (by omega),h0,oB,P0i l j d (k+1) fuel _ (by omega) (by omega) (by simp only[List.length_append,List.length_drop]at m ⊢;omega),O1 a,j00]
  simp
theorem U0l(g:j0)(a:g.2.2.length<=1000):L04 g=some (j00 g.2.2):=by
 obtain⟨r,n,es⟩:=g
 unfold L04
 simp only
 rw[show(0:Int)=((0:Nat):Int) from rfl,N0i es a es.length 0 T0 [] (by omega) (D1 (by simp only at a;omega)) (by simp only at a;simp;omega)]
 rfl
theorem V0l(g:j0)(a:g.2.2.length<=1000):o03 g=some (j00 g.2.2):=by
 obtain⟨r,n,es⟩:=g
 unfold o03
 simp only
 rw[show(0:Int)=((0:Nat):Int) from rfl,P0i es a es.length 0 T0 [] (by omega) (D1 (by simp only at a;omega)) (by simp only at a;simp;omega)]
 rfl
def w04(g:j0):T6×Bool:=bif V0 g then(match j00 g.2.2 with
 | []=>((0,0),false)
 |f::_=>(f,true))else((0,0),false)
theorem S0e(g:j0)(c:g.2.2.length<=140737488355328):e01 g=some (w04 g):=by
 have b:=Y01 g c
 have a:=U0l g
 unfold w04
 cases hg:V0 g with
 |false =>
  obtain⟨r,n,es⟩:=g
  unfold e01
  simp only[b,hg,oB];rfl
 |true =>
  have a:=a (by have:=(U2 hg).2.2.2;omega)
  obtain⟨r,n,es⟩:=g
  unfold e01
  simp only[b,hg,a,oB,cond_true]
  simp only at a
  cases j00 es with
  |nil=>rfl
  |cons f l =>
   rw[if_neg (by simp),if_neg (by simp;omega),b0k rfl]
   rfl
theorem T0e(g:j0)(c:g.2.2.length<=140737488355328):d01 g=some (w04 g):=by
 have b:=o9 g c
 have a:=V0l g
 unfold w04
 cases hg:V0 g with
 |false =>
  obtain⟨r,n,es⟩:=g
  unfold d01
  simp only[b,hg,oB];rfl
 |true =>
  have a:=a (by have:=(U2 hg).2.2.2;omega)
  obtain⟨r,n,es⟩:=g
  unfold d01
  simp only[b,hg,a,oB,cond_true]
  simp only at a
  cases j00 es with
  |nil=>rfl
  |cons f l =>
   rw[if_neg (by simp),if_neg (by simp;omega),b0k rfl]
   rfl
theorem X0o(v:Int)(f:T6)(d:0<=v/\v<1000)(hf:0<=f.1/\f.1<f.2):G03 v f=some (mvV f v):=by
 obtain⟨a,b⟩:=f
 simp only at hf
 unfold G03 mvV
 simp only
 by_cases c:v=b
 ·rw[if_pos (by simp[c]),if_neg (by simp;omega),if_pos c]
 ·rw[if_neg (by simp[c]),if_neg c]
  by_cases c2:v>b
  ·rw[if_pos (by simp[c2]),if_pos c2,w64 (by omega) (by omega)]
  ·rw[if_neg (by simp;omega),if_neg c2]
theorem W0l(v:Int)(f:T6)(d:0<=v/\v<1000):O7 v f=some (mvV f v):=by
 obtain⟨a,b⟩:=f
 unfold O7 mvV
 simp only
 by_cases c:v=b
 ·rw[if_pos (by simp[c]),if_pos c]
 ·rw[if_neg (by simp[c]),if_neg c]
  by_cases c2:v>b
  ·rw[if_pos (by simp[c2]),if_pos c2,w64 (by omega) (by omega)]
  ·rw[if_neg (by simp;omega),if_neg c2]
theorem m0k{f:T6}{v:Int}(a:0<=v/\v<1000)(hf:0<=f.1/\f.1<1000):J0 (mvV f v):=by
 unfold mvV
 split
 ·exact⟨by omega,by omega⟩
 ·split
  ·exact⟨by omega,by omega⟩
  ·exact⟨by omega,by omega⟩
theorem X0l(es:List N0)(f:T6)(r n:Int)(s:es.length<=1000)(o:∀ e∈es,(0<=e.1/\e.1<1000)/\(0<=e.2.2/\e.2.2<1000))(hf:0<=f.1/\f.1<f.2)(q:f.2<1000):∀(d k fuel:Nat) (acc:List N0),k+d=es.length->d<fuel->acc.length<=k ->
  n5 es f.1 f.2 fuel (k:Int) r n acc=some (r,n,C6 S0 acc ((es.drop k).map (mvE f)))
 |d,k,0,acc,l,m,j=>by omega
 |0,k,fuel+1,acc,l,m,j=>by
  rw[n5.eq_2,if_neg (by simp;omega),I1 (by omega)]
  rfl
 |d+1,k,fuel+1,acc,l,m,j=>by
  have c:k<es.length:=by omega
  have g:=E5 c
  have a:=o _ (List.getElem_mem c)
  generalize es[k]=b at g a
  obtain⟨h,p,i⟩:=b
  simp only at a
  have t:=c08 (mvE f (h,p,i)) acc
  rw[n5.eq_2,if_pos (by simp;omega),P2 g,oB]
  simp only[]
  rw[X0o h (f.1,f.2) a.1 hf,oB,H0 (m0k a.1 ⟨hf.1,by show f.1<1000;omega⟩),oB,X0o i (f.1,f.2) a.2 hf,oB,H0 (m0k a.2 ⟨hf.1,by show f.1<1000;omega⟩),oB,
   m07 acc _ (by omega),oB,C2 c (by omega),O1 g,List.map_cons]
  exact X0l es f r n s o hf q d (k+1) fuel _ (by omega) (by omega) (Nat.le_trans t (by omega))
theorem Y0l{g:j0}{f:T6}(d:V0 g=true)(hf:okF g f):Y8 g f=some (Z02 g f,true):=by
 obtain⟨k,o,l,m⟩:=U2 d
 have i:=o9 g (by omega)
 obtain⟨c,f2,f3⟩:=hf
 obtain⟨r,n,es⟩:=g
 obtain⟨a,b⟩:=f
 simp only at c f2 f3 l m
 have h:=X0l es (a,b) r (IntKind.i64.wrap (n-1)) (by omega) (λe j=>by
  have:=k e j
  simp only at this
  exact⟨⟨by omega,by omega⟩,by omega,by omega⟩) ⟨c,f2⟩ (by simp only;omega) es.length 0 T0 [] (by omega) (D1 (by omega)) (Nat.le_refl _)
 unfold Y8
 simp only[i,d,oB]
 rw[if_neg (by simp;omega),show(0:Int)=((0:Nat):Int) from rfl,h,w64 (by omega) (by omega)]
 rfl
theorem Z0l(es:List N0)(f:T6)(s:es.length<=1000)(n:∀ e∈es,(0<=e.1/\e.1<1000)/\(0<=e.2.2/\e.2.2<1000))(hf:0<=f.1/\f.1<1000):∀(d k fuel:Nat),k+d=es.length->d<fuel ->
  o5 es f.1 f.2 fuel (k:Int) ((es.take k).map (mvE f)++es.drop k)=some (es.map (mvE f))
 |d,k,0,j,l=>by omega
 |0,k,fuel+1,j,l=>by
  rw[o5.eq_2,if_neg (by simp;omega),I1 (by omega),List.append_nil,List.take_of_length_le (by omega)]
 |d+1,k,fuel+1,j,l=>by
  have g:k<es.length:=by omega
  have c:=E5 g
  have a:=n _ (List.getElem_mem g)
  generalize es[k]=b at c a
  have m:((es.take k).map (mvE f)).length=k:=by simp;omega
  have q:((es.take k).map (mvE f)++es.drop k)[k]?=some b:=by
   rw[List.getElem?_append_right (by omega),m,O1 c];simp
  have t:∀ y,((es.take k).map (mvE f)++es.drop k).set k y=(es.take k).map (mvE f)++y::es.drop (k+1):=λy=>by
   rw[List.set_append_right _ _ (by omega),m,O1 c];simp
  obtain⟨h,p,i⟩:=b
  simp only at a
  have e:(es.take (k+1)).map (mvE f)++es.drop (k+1)=(es.take k).map (mvE f)++mvE f (h,p,i)::es.drop (k+1):=by
   rw[H0o c];simp
  have o:=Z0l es f s n hf d (k+1) fuel (by omega) (by omega)
  rw[e]at o
  rw[o5.eq_2,if_pos (by simp;omega),P2 q,oB]
  simp only[]
  rw[W0l h (f.1,f.2) a.1,oB,H0 (m0k a.1 hf),oB,W0l i (f.1,f.2) a.2,oB,H0 (m0k a.2 hf),oB]
  simp only[oB]
  rw[show((k:Nat):Int).toNat=k from Int.toNat_natCast k,t,C2 g (by omega)]
  exact o
theorem a0m{g:j0}{f:T6}(d:V0 g=true)(hf:okF g f):Z8 g f=some (Z02 g f,true):=by
 obtain⟨l,p,m,o⟩:=U2 d
 have i:=Y01 g (by omega)
 have j:=Z01 g (by omega)
 obtain⟨c,f2,f3⟩:=hf
 obtain⟨r,n,es⟩:=g
 obtain⟨a,b⟩:=f
 simp only at c f2 f3 m o
 have h:=Z0l es (a,b) (by omega) (λe k=>by
  have:=l e k
  simp only at this
  exact⟨⟨by omega,by omega⟩,by omega,by omega⟩) ⟨c,by simp only;omega⟩ es.length 0 T0 (by omega) (D1 (by omega))
 simp only[List.take_zero,List.map_nil,List.nil_append,List.drop_zero]at h
 unfold Z8
 simp only[i,j,d,oB]
 rw[if_neg (by simp;omega),show(0:Int)=((0:Nat):Int) from rfl,h,oB,J0c _ (by simp;omega),oB,w64 (by omega) (by omega)]
 rfl
def s03(g:j0):j0×T6×Bool:=bif V0 g then(match j00 g.2.2 with
 | []=>(g,(0,0),false)
 |f::_=>(Z02 g f,f,true))else(g,(0,0),false)
theorem P09(g:j0)(j:g.2.2.length<=1099511627776):K02 g=some (s03 g):=by
 have c:=T0e g (by omega)
 have d:=B02 g j
 have i:∀ f,V0 g=true->okF g f->Y8 g f=some (Z02 g f,true):=λf a b=>Y0l a b
 have h:V0 g=true->∀ f∈j00 g.2.2,okF g f:=I06
 unfold w04 at c
 unfold s03
 obtain⟨r,n,es⟩:=g
 unfold K02
 simp only[c,oB]
 cases hg:V0 (r,n,es)with
 |false=>simp only[cond_false,Bool.not_false,if_true,d,oB]
 |true =>
  simp only[cond_true]
  simp only at h
  cases e:j00 es with
  |nil=>simp only[Bool.not_false,if_true,d,oB]
  |cons f l =>
   simp only[Bool.not_true,Bool.false_eq_true,if_false,i f hg (h hg f (by rw[e];exact mS)),oB]
theorem Q09(g:j0)(j:g.2.2.length<=1099511627776):O02 g=some (s03 g):=by
 have c:=S0e g (by omega)
 have d:=Z01 g j
 have i:∀ f,V0 g=true->okF g f->Z8 g f=some (Z02 g f,true):=λf a b=>a0m a b
 have h:V0 g=true->∀ f∈j00 g.2.2,okF g f:=I06
 unfold w04 at c
 unfold s03
 obtain⟨r,n,es⟩:=g
 unfold O02
 simp only[c,oB]
 cases hg:V0 (r,n,es)with
 |false=>simp only[cond_false,Bool.not_false,if_true,d,oB]
 |true =>
  simp only[cond_true]
  simp only at h
  cases e:j00 es with
  |nil=>simp only[Bool.not_false,if_true,d,oB]
  |cons f l =>
   simp only[Bool.not_true,Bool.false_eq_true,if_false,i f hg (h hg f (by rw[e];exact mS)),oB]
def Z0t:(j0×q00) ⊕ (Int×Int×K0×(List T6))->Option (j0×q00):=λX=>K9 X (λS=>match S with
 |(a,b,c,e)=>some ((a,b,c),e))
theorem S0g:∀(d k fuel:Nat) (g:j0) (acc:List T6),k+d=40->d<fuel->V0 g=true->acc.length=k ->
  (N7 fuel (k:Int) g.1 g.2.1 g.2.2 acc).bind Z0t=some ((a03 d g).1,acc++(a03 d g).2)
 |d,k,0,g,acc,h,hf,a,c=>by omega
 |0,k,fuel+1,g,acc,h,hf,a,c=>by
  rw[N7.eq_2,if_neg (by simp;omega)]
  simp[Z0t,K9,a03]
 |d+1,k,fuel+1,g,acc,h,hf,a,c=>by
  have b:=P09 g (by have:=(U2 a).2.2.2;omega)
  have i:=I06 a
  unfold s03 at b
  rw[a]at b
  simp only[cond_true]at b
  rw[N7.eq_2,if_pos (by simp;omega),show(g.1,g.2.1,g.2.2)=g from rfl,b]
  unfold a03
  cases e:j00 g.2.2 with
  |nil=>simp[Z0t,K9]
  |cons f l =>
   have j:=S0g d (k+1) fuel (Z02 g f) (acc ++ [f]) (by omega) (by omega) (n07 a (i f (by rw[e];exact mS))) (by simp[c])
   simp only[oB,Bool.not_true,Bool.false_eq_true,if_false]
   rw[H0 (by simp;omega),oB,C2 (show k<1000 by omega) (by omega)]
   refine j.trans ?_
   simp
theorem b0b(g:j0)(b:g.2.2.length<=1099511627776):p03 g=some (c01 g):=by
 have a:=P09 g b
 have c:=B02 g b
 have d:=S0g 40 0 T0 g [] rfl (D1 (by omega))
 unfold c01
 obtain⟨r,n,es⟩:=g
 unfold p03
 simp only[c,oB]
 cases hg:V0 (r,n,es)with
 |false =>
  unfold s03 at a
  rw[hg]at a
  simp only[cond_false]at a
  rw[show T0=(T0-1)+1 from rfl,N7.eq_2,if_pos (by simp),a]
  rfl
 |true=>exact d hg rfl
theorem T0g:∀(d fuel:Nat) (g:j0) (acc:List T6),d<fuel->V0 g=true->j00 (a03 d g).1.2.2 = []->acc.length+d<=1000 ->
  a9 fuel g.1 g.2.1 g.2.2 acc=some (.inl ((a03 d g).1,acc++(a03 d g).2))
 |d,0,g,acc,hf,a,c,j=>by omega
 |d,fuel+1,g,acc,hf,a,c,j=>by
  have b:=Q09 g (by have:=(U2 a).2.2.2;omega)
  have i:=I06 a
  unfold s03 at b
  rw[a]at b
  simp only[cond_true]at b
  rw[a9.eq_2,show(g.1,g.2.1,g.2.2)=g from rfl,b]
  cases e:j00 g.2.2 with
  |nil =>
   have h:a03 d g=(g,[]):=by
    cases d with
    |zero=>rfl
    |succ d=>unfold a03;rw[e]
   rw[h]
   simp
  |cons f l =>
   cases d with
   |zero=>exact absurd e (by rw[show j00 g.2.2 = [] from c];simp)
   |succ d =>
    have h:a03 (d+1) g=((a03 d (Z02 g f)).1,f::(a03 d (Z02 g f)).2):=by
     show(match j00 g.2.2 with | []=>(g,[])|f::_=>((a03 d (Z02 g f)).1,f::(a03 d (Z02 g f)).2))=_
     rw[e]
    rw[h]at c ⊢
    have k:=T0g d fuel (Z02 g f) (acc ++ [f]) (by omega) (n07 a (i f (by rw[e];exact mS))) c (by simp;omega)
    simp only[oB,Bool.not_true,Bool.false_eq_true,if_false]
    rw[H0 (by simp;omega),oB]
    refine k.trans ?_
    simp
theorem c0b(g:j0)(c:g.2.2.length<=1099511627776):r03 g=some (c01 g):=by
 have b:=Q09 g c
 have d:=Z01 g c
 have e:=T0g 40 T0 g [] (D1 (by omega))
 have f:V0 g=true->j00 (a03 40 g).1.2.2 = []:=λa=>C0b 40 a (by have:=(U2 a).2.2.1;omega)
 unfold c01
 obtain⟨r,n,es⟩:=g
 unfold r03
 simp only[d,oB]
 cases a:V0 (r,n,es)with
 |false =>
  unfold s03 at b
  rw[a]at b
  simp only[cond_false]at b
  rw[show T0=(T0-1)+1 from rfl,a9.eq_2,b]
  rfl
 |true =>
  have h:=e a (f a) (by simp)
  simp only at h
  rw[h]
  rfl
theorem R0d{g:j0}(h:V0 g=true):Asc S0 g.2.2:=((V02 g).1 h).2.2.2.2
def stp(u x v:Int):N0:=if x<0 then(v,-x,u)else(u,x,v)
def X03(v:Int):List Int->Int->Int->List N0
 | [],_,_=>[]
 | [x],u,_=>[stp u x v]
 |x::y::r,u,n=>stp u x n::X03 v (y::r) n (n+1)
theorem C0a(v:Int):∀(w:List Int) (u n:Int),(X03 v w u n).length=w.length
 | [],_,_=>rfl
 | [x],_,_=>rfl
 |x::y::r,u,n=>by simp only[X03,List.length_cons,C0a v (y::r)]
theorem B0n(u x v:Int)(a:l5 x):q03 u x v=some (stp u x v):=by
 unfold q03 stp
 by_cases c:x<0
 ·rw[if_pos (by simp[c]),if_pos c,y0c a.1 a.2]
 ·rw[if_neg (by simp;omega),if_neg c]
theorem n0k(w:List Int)(v:Int)(r:Int)(e:∀ x∈w,l5 x)(l:w.length<=1000):∀(d k fuel:Nat) (u n:Int) (es:List N0),k+d=w.length->d<fuel->0<=n->n<=1000+k->es.length<=1000+k ->
  P7 w v fuel u (k:Int) r n es=some (r,n+((d-1:Nat):Int),es++X03 v (w.drop k) u n)
 |d,k,0,u,n,es,j,hf,h0,h,i=>by omega
 |0,k,fuel+1,u,n,es,j,hf,h0,h,i=>by
  rw[P7.eq_2,if_neg (by simp;omega),I1 (by omega)]
  simp[X03]
 |d+1,k,fuel+1,u,n,es,j,hf,h0,h,i=>by
  have a:k<w.length:=by omega
  have f:=E5 a
  have b:=e _ (List.getElem_mem a)
  generalize w[k]=x at f b
  rw[P7.eq_2,if_pos (by simp;omega),P2 f,oB,t0g (by omega) (by omega),O1 f]
  by_cases c:k+1<w.length
  ·rw[if_pos (by simp;omega),B0n u x n b,oB]
   have m:=E5 c
   generalize w[k+1]=y at m
   have g:=n0k w v r e l d (k+1) fuel n (n+1) (es ++ [stp u x n]) (by omega) (by omega) (by omega) (by omega) (by simp;omega)
   simp only[]
   rw[H0 (by simp;omega),oB,C2 a (by omega),w64 (show(-9223372036854775808:Int)<=n+1 by omega) (by omega)]
   refine g.trans ?_
   rw[O1 m]
   simp only[X03,List.append_assoc,List.singleton_append]
   congr 3
   omega
  ·have o:d=0:=by omega
   subst o
   rw[if_neg (by simp;omega),B0n u x v b,oB]
   have g:=n0k w v r e l 0 (k+1) fuel v n (es ++ [stp u x v]) (by omega) (by omega) h0 (by omega) (by simp;omega)
   simp only[]
   rw[H0 (by simp;omega),oB,C2 a (by omega)]
   refine g.trans ?_
   rw[I1 (show k+1=w.length by omega)]
   simp[X03]
theorem o0k(w:List Int)(v:Int)(r:Int)(h:∀ x∈w,l5 x/\x≠0)(o:w.length<=1000):∀(d k fuel:Nat) (u n:Int) (es:List N0),k+d=w.length->d<fuel->0<=n->n<=1000+k->es.length<=1000+k ->
  j6 w v fuel u (k:Int) r n es=some (r,n+((d-1:Nat):Int),C6 S0 es (X03 v (w.drop k) u n))
 |d,k,0,u,n,es,m,hf,h0,j,l=>by omega
 |0,k,fuel+1,u,n,es,m,hf,h0,j,l=>by
  rw[j6.eq_2,if_neg (by simp;omega),I1 (by omega)]
  simp[X03,C6]
 |d+1,k,fuel+1,u,n,es,m,hf,h0,j,l=>by
  have f:k<w.length:=by omega
  have g:=E5 f
  have b:=h _ (List.getElem_mem f)
  generalize w[k]=x at g b
  have p:∀ e,(H01 S0 e es).length<=1000+(k+1):=λe=>by have:=c08 e es;omega
  rw[j6.eq_2,if_pos (by simp;omega),O1 g]
  by_cases c:k+1<w.length
  ·have i:=E5 c
   generalize w[k+1]=y at i
   have a:=o0k w v r h o d (k+1) fuel n (n+1) (H01 S0 (stp u x n) es) (by omega) (by omega) (by omega) (by omega) (p _)
   rw[O1 i]at a
   rw[C2 f (by omega),if_pos (by simp;omega),P2 g,oB,w64 (show(-9223372036854775808:Int)<=n+1 by omega) (by omega),O1 i]
   have fin:some (r,n+1+((d-1:Nat):Int),C6 S0 (H01 S0 (stp u x n) es) (X03 v (y::w.drop (k+1+1)) n (n+1)))=some (r,n+((d+1-1:Nat):Int),C6 S0 es (X03 v (x::y::w.drop (k+1+1)) u n)):=by
    simp only[X03,C6]
    congr 3
    omega
   by_cases c2:x>0
   ·have e:stp u x n=(u,x,n):=by unfold stp;rw[if_neg (by omega)]
    rw[if_pos (by simp[c2])]
    simp only[oB]
    rw[m07 es _ (by omega),oB,←e]
    exact a.trans fin
   ·have e:stp u x n=(n,-x,u):=by unfold stp;rw[if_pos (by omega)]
    rw[if_neg (by simp;omega)]
    simp only[oB]
    rw[y0c b.1.1 b.1.2,m07 es _ (by omega),oB,←e]
    exact a.trans fin
  ·have q:d=0:=by omega
   subst q
   have a:=o0k w v r h o 0 (k+1) fuel v n (H01 S0 (stp u x v) es) (by omega) (by omega) h0 (by omega) (p _)
   rw[I1 (show k+1=w.length by omega)]at a ⊢
   rw[C2 f (by omega),if_neg (by simp;omega),P2 g,oB]
   have fin:some (r,n+((0-1:Nat):Int),C6 S0 (H01 S0 (stp u x v) es) (X03 v [] v n))=some (r,n+((0+1-1:Nat):Int),C6 S0 es (X03 v [x] u n)):=by
    simp[X03,C6]
   by_cases c2:x>0
   ·have e:stp u x v=(u,x,v):=by unfold stp;rw[if_neg (by omega)]
    rw[if_pos (by simp[c2])]
    simp only[oB]
    rw[m07 es _ (by omega),oB,←e]
    exact a.trans fin
   ·have e:stp u x v=(v,-x,u):=by unfold stp;rw[if_pos (by omega)]
    rw[if_neg (by simp;omega)]
    simp only[oB]
    rw[y0c b.1.1 b.1.2,m07 es _ (by omega),oB,←e]
    exact a.trans fin
theorem C0n{es p:List N0}(a:Asc S0 es):C6 S0 [] (es++p)=C6 S0 es p :=
 y0b U7 (j04 U7 _ _ .nil) (j04 U7 _ _ a) λx=>by
  rw[I00 U7,I00 U7];simp
def L5(g:j0)(u:Int)(w:List Int)(v:Int):j0×Bool :=
 bif !w.isEmpty&&decide (g.2.1+(w.length:Int)-1<=40)&&decide (g.2.2.length+w.length<=120)then((g.1,g.2.1+((w.length-1:Nat):Int),C6 S0 g.2.2 (X03 v w u g.2.1)),true)else(g,false)
theorem r05{r:Int}{w:List Int}(h:C3 r w=true):w.length<=24/\∀ x∈w,l5 x/\x≠0 /\ -r<=x/\x<=r:=by
 have a:=h
 simp only[C3,Bool.and_eq_true,decide_eq_true_eq]at a
 refine⟨a.1.2,λx c=>?_⟩
 obtain⟨i,b⟩:=List.getElem?_of_mem c
 have:=I0l h b
 exact⟨⟨⟨by omega,by omega⟩,by omega⟩,this.2.2⟩
theorem d0b{g:j0}{u v:Int}{w:List Int}(d:V0 g=true)(f:0<=u/\u<g.2.1)(i:0<=v/\v<g.2.1)(j:C3 g.1 w=true):j02 g u w v=some (L5 g u w v):=by
 obtain⟨y,z,p,q⟩:=U2 d
 obtain⟨A,k⟩:=r05 j
 have l:=o9 g (by omega)
 have m:=B02 g (by omega)
 have b:=a06 g.1 w (by omega)
 obtain⟨r,n,es⟩:=g
 simp only at p q f i b
 have o:IntKind.i64.wrap (n-1)=n-1:=w64 (by omega) (by omega)
 have e:∀ x:Int,0<=x/\x<n->inR 0 (n-1) x=true:=λx a=>by simp[inR];omega
 have h:=o0k w v r (λx a=>⟨(k x a).1,(k x a).2.1⟩) (by omega) w.length 0 T0 u n es (by omega) (D1 (by omega)) (by omega) (by omega) (by omega)
 unfold j02 L5
 simp only[l,m,d,oB,Bool.not_true,Bool.not_false,H1,cond_false,o,A02,e u f,e v i,b,j]
 rw[w64 (show(-9223372036854775808:Int)<=n+((w.length:Nat):Int) by omega) (by omega),w64 (show(-9223372036854775808:Int)<=n+((w.length:Nat):Int)-1 by omega) (by omega),w64 (show(-9223372036854775808:Int)<=((es.length:Nat):Int)+((w.length:Nat):Int) by omega) (by omega)]
 by_cases c:(w≠[]/\n+(w.length:Int)-1<=40)/\es.length+w.length<=120
 ·have t:w.length≠0:=by simpa using c.1.1
  rw[if_neg (by simp only[Bool.not_eq_true];simp[c.1.1];omega),show(0:Int)=((0:Nat):Int) from rfl,h,oB]
  rw[show(!w.isEmpty&&decide (n+(w.length:Int)-1<=40)&&decide (es.length+w.length<=120))=true by simp[c.1.1,c.1.2,c.2]]
  rfl
 ·rw[show(!w.isEmpty&&decide (n+(w.length:Int)-1<=40)&&decide (es.length+w.length<=120))=false by
   rw[←Bool.not_eq_true];simpa using c]
  rw[if_pos ?_]
  ·rfl
  ·by_cases d1:w = []
   ·simp[d1]
   ·by_cases d2:n+(w.length:Int)-1<=40
    ·have s : ¬ es.length+w.length<=120:=λh=>c ⟨⟨d1,d2⟩,h⟩
     have:decide (((es.length:Nat):Int)+((w.length:Nat):Int)>120)=true:=by simp;omega
     rw[this];simp
    ·have:decide (n+((w.length:Nat):Int)-1>40)=true:=by simp;omega
     rw[this];simp
theorem N0r{g:j0}(a:V0 g=true){u:Int}(b:0<=u/\u<g.2.1):V4 g u=some true:=by
 obtain⟨d,e,c,f⟩:=U2 a
 obtain⟨r,n,es⟩:=g
 simp only at c b
 unfold V4
 simp only[m03]
 rw[w64 (by omega) (by omega)]
 simp[inR];omega
theorem e0b{g:j0}{u v:Int}{w:List Int}(a:V0 g=true)(e:0<=u/\u<g.2.1)(f:0<=v/\v<g.2.1)(i:C3 g.1 w=true):l02 g u w v=some (L5 g u w v):=by
 obtain⟨z,A,p,q⟩:=U2 a
 obtain⟨B,s⟩:=r05 i
 have j:=Y01 g (by omega)
 have k:=Z01 g (by omega)
 have b:=b06 g.1 w (by omega)
 have l:=N0r a e
 have m:=N0r a f
 have d:=R0d a
 obtain⟨r,n,es⟩:=g
 simp only at p q e f b d
 have h:=n0k w v r (λx o=>(s x o).1) (by omega) w.length 0 T0 u n es (by omega) (D1 (by omega)) (by omega) (by omega) (by omega)
 have y:=C0a v w u n
 unfold l02 L5
 simp only[j,k,a,oB,Bool.not_true,Bool.not_false,H1,cond_false,l,m]
 rw[w64 (show(-9223372036854775808:Int)<=n+((w.length:Nat):Int) by omega) (by omega),w64 (show(-9223372036854775808:Int)<=n+((w.length:Nat):Int)-1 by omega) (by omega),w64 (show(-9223372036854775808:Int)<=((es.length:Nat):Int)+((w.length:Nat):Int) by omega) (by omega)]
 by_cases d1:w = []
 ·subst d1
  simp[chk]
 rw[show decide (((w.length:Nat):Int)=0)=false by simp[d1],show(!false)=true from rfl,H1,b,oB,i]
 by_cases c:n+(w.length:Int)-1<=40/\es.length+w.length<=120
 ·rw[if_neg (by simp only[Bool.not_eq_true];simp;omega),show(0:Int)=((0:Nat):Int) from rfl,h,oB]
  rw[show(!w.isEmpty&&decide (n+(w.length:Int)-1<=40)&&decide (es.length+w.length<=120))=true by simp[d1,c.1,c.2]]
  simp only[List.drop_zero,cond_true]
  rw[J0c _ (by simp;omega),C0n d]
  rfl
 ·rw[show(!w.isEmpty&&decide (n+(w.length:Int)-1<=40)&&decide (es.length+w.length<=120))=false by
   rw[←Bool.not_eq_true];simp only[Bool.and_eq_true,decide_eq_true_eq,Bool.not_eq_true'];omega]
  rw[if_pos ?_]
  ·rfl
  ·by_cases d2:n+(w.length:Int)-1<=40
   ·have t : ¬ es.length+w.length<=120:=λh=>c ⟨d2,h⟩
    have:decide (((es.length:Nat):Int)+((w.length:Nat):Int)>120)=true:=by simp;omega
    rw[this];simp
   ·have:decide (n+((w.length:Nat):Int)-1>40)=true:=by simp;omega
    rw[this];simp
def ng(x:Int):Int:=IntKind.i64.wrap (0-x)
def inv(w:List Int):List Int:=(w.map ng).reverse
theorem c06(w:List Int):(inv w).length=w.length:=by simp[inv]
def h0b(w:List Int):Prop:=∀ x∈w,J0 x
theorem S0r{w:List Int}{k:Nat}{x:Int}(a:w[k]?=some x):inv (w.drop k)=inv (w.drop (k+1)) ++ [ng x]:=by
 rw[O1 a]
 simp[inv]
theorem I05(w:List Int)(c:w.length<=1099511627776):∀(k fuel:Nat),k<=w.length->k<fuel ->
  R4 w fuel ((k:Int)-1) (inv (w.drop k))=some (inv w)
 |k,0,b,hf=>by omega
 |0,fuel+1,b,hf=>by
  rw[R4.eq_2,if_neg (by simp)]
  rfl
 |k+1,fuel+1,b,hf=>by
  have a:=E5 (show k<w.length by omega)
  have next:=I05 w c k fuel (by omega) (by omega)
  generalize w[k]=x at a
  rw[S0r a]at next
  have d:=c06 (w.drop (k+1))
  rw[List.length_drop]at d
  rw[show(((k+1:Nat):Int)-1)=(k:Int) by omega,R4.eq_2,if_pos (by simp),P2 a,oB,H0 (by simp only[List.length_singleton];omega),oB,
   w64 (by omega) (by omega)]
  exact next
theorem I03(w:List Int)(a:w.length<=1099511627776):r8 w=some (inv w):=by
 unfold r8
 have h:=I05 w a w.length T0 (Nat.le_refl _) (D1 (by omega))
 rw[List.drop_length]at h
 rw[w64 (by omega) (by omega),show([]:B0)=inv [] from rfl,h]
 rfl
theorem M04(w:List Int):∀(fuel:Nat) (k:Int) (u:List Int),Y7 w fuel k u=R4 w fuel k u
 |0,k,u=>rfl
 |fuel+1,k,u=>by
  rw[Y7.eq_2,R4.eq_2]
  simp only[M04 w fuel]
theorem g05(w:List Int)(a:w.length<=1099511627776):A9 w=some (inv w):=by
 rw[←I03 w a]
 unfold A9 r8
 rw[H0 (by omega),oB,M04]
 rfl
def S0c(l x:Int):Bool := !(l == 0) && !(l == -9223372036854775808)&&(x == ng l)
def O03(s:List Int)(x:Int):List Int:=match s with
 | []=>[x]
 |l::t=>bif S0c l x then t else x::l::t
def n04(s w:List Int):List Int:=w.foldl O03 s
def Red:List Int->Bool
 | []=>true
 | [_]=>true
 |x::l::t => !S0c l x&&Red (l::t)
theorem b0h(s a b:List Int):n04 s (a++b)=n04 (n04 s a) b:=List.foldl_append
theorem W0d(s:List Int)(x:Int):(O03 s x).length<=s.length+1:=by
 cases s with
 |nil=>simp[O03]
 |cons l t =>
  simp only[O03]
  cases S0c l x<;>simp<;>omega
theorem g08:∀(w s:List Int),(n04 s w).length<=s.length+w.length
 | [],s=>by simp[n04]
 |x::w,s=>by
  have:=g08 w (O03 s x)
  have:=W0d s x
  simp only[n04,List.foldl_cons,List.length_cons]at *
  omega
theorem T0r{b:List Int}{x:Int}(h:h0b b)(c:J0 x):h0b (O03 b x):=by
 cases b with
 |nil=>intro y a;simp[O03]at a;subst a;exact c
 |cons l t =>
  simp only[O03]
  cases S0c l x with
  |true=>exact λy a=>h y (mC _ a)
  |false =>
   intro y a
   rcases List.mem_cons.1 a with rfl|a
   ·exact c
   ·exact h y a
theorem X0p{l x:Int}(b:J0 l)(c:J0 x):(!(x == 0)&&(l == ng x) && !(l == x))=S0c l x:=by
 unfold S0c ng
 have e:∀ {z:Int},J0 z->IntKind.i64.wrap (0-z)=if z = -9223372036854775808 then -9223372036854775808 else -z:=λ{z} a=>by
  split
  ·rename_i h;subst h;decide
  ·rw[w64 (by have:=a.1;have:=a.2;omega) (by have:=a.1;have:=a.2;omega)];omega
 rw[e b,e c]
 have d:=b.1
 have f:=b.2
 have g:=c.1
 have i:=c.2
 rw[Bool.eq_iff_iff]
 simp only[Bool.and_eq_true,Bool.not_eq_true',beq_iff_eq,beq_eq_false_iff_ne,ne_eq]
 split<;>split<;>omega
theorem c0h{l:Int}{t:List Int}:(l::t).reverse[t.length]?=some l:=by
 rw[List.reverse_cons,List.getElem?_append_right (by simp)]
 simp
theorem W0i(l:Int)(t:List Int):(l::t).reverse.take t.length=t.reverse:=by
 rw[List.reverse_cons,List.take_append_of_le_length (by simp),List.take_of_length_le (by simp)]
theorem x04(w:List Int)(hw:h0b w)(hl:w.length<=1099511627776):∀(d k fuel:Nat) (s:List Int),k+d=w.length->d<fuel->h0b s->s.length<=k ->
  D4 w fuel (k:Int) s.reverse=some (n04 s (w.drop k)).reverse
 |d,k,0,s,hk,hf,hs,hsl=>by omega
 |0,k,fuel+1,s,hk,hf,hs,hsl=>by
  rw[D4.eq_2,if_neg (by simp;omega),I1 (by omega)]
  rfl
 |d+1,k,fuel+1,s,hk,hf,hs,hsl=>by
  have hkl:k<w.length:=by omega
  have hx:=E5 hkl
  have hx64:=hw _ (List.mem_of_getElem? hx)
  generalize w[k]=x at hx hx64
  have next:=x04 w hw hl d (k+1) fuel (O03 s x) (by omega) (by omega) (T0r hs hx64) (by have:=W0d s x;omega)
  rw[O1 hx]
  show _=some (n04 (O03 s x) (w.drop (k+1))).reverse
  rw[←next,D4.eq_2,if_pos (by simp;omega),oB,H0 (by rw[List.length_reverse];omega),oB]
  rw[C2 hkl (by omega:w.length<=9223372036854775807)]
  have e0:decide (x=0)=(x == 0):=by rw[Bool.eq_iff_iff];simp
  cases s with
  |nil =>
   have hz:decide ((((([]:List Int).reverse).length:Nat):Int)>0)=false:=rfl
   simp only[hz,K1,oB,cond_false,Bool.false_eq_true,if_false,P2 hx]
   rw[H0 (by simp)]
   rfl
  |cons l t =>
   have hl64:=hs l mS
   have hp:decide ((((l::t).reverse.length:Nat):Int)>0)=true:=by simp
   have hpr:IntKind.i64.wrap ((((l::t).reverse.length:Nat):Int)-1)=((t.length:Nat):Int):=by
    rw[t0g (by simp) (by simp only[List.length_reverse,List.length_cons]at *;omega)];simp
   have hc:=X0p hl64 hx64
   have e1:decide (l=IntKind.i64.wrap (0-x))=(l == ng x):=by rw[Bool.eq_iff_iff];simp[ng]
   have e2:decide (l=x)=(l == x):=by rw[Bool.eq_iff_iff];simp
   have hpush:(grd (((l::t).reverse.length + [x].length)*8<=140737488355328))=some ():=H0 (by simp only[List.length_cons]at hsl;simp only[List.length_reverse,List.length_cons,List.length_nil];omega)
   simp only[hp,hpr,H1,oB,cond_true,P2 hx,P2 c0h,e0,O03]
   cases h0:(x == 0)with
   |true =>
    rw[h0]at hc
    simp only[Bool.not_true,Bool.false_and]at hc
    simp only[←hc,Bool.not_true,K1,cond_false,oB,Bool.false_eq_true,if_false,hpush]
    exact congrArg _ (List.reverse_cons ..).symm
   |false =>
    rw[h0]at hc
    simp only[Bool.not_false,Bool.true_and]at hc
    simp only[Bool.not_false,H1,cond_true,oB,e1]
    cases h1:(l == ng x)with
    |false =>
     rw[h1]at hc
     simp only[Bool.false_and]at hc
     simp only[←hc,K1,cond_false,oB,Bool.false_eq_true,if_false,hpush]
     exact congrArg _ (List.reverse_cons ..).symm
    |true =>
     rw[h1]at hc
     simp only[Bool.true_and]at hc
     simp only[H1,cond_true,oB,e2]
     cases h2:(l == x)with
     |true =>
      rw[h2]at hc
      simp only[Bool.not_true]at hc
      simp only[←hc,Bool.not_true,Bool.false_eq_true,if_false,cond_false,oB,hpush]
      exact congrArg _ (List.reverse_cons ..).symm
     |false =>
      rw[h2]at hc
      simp only[Bool.not_false]at hc
      simp only[←hc,Bool.not_false,if_true,cond_true]
      rw[H0 (by simp only[List.length_reverse,List.length_cons]at *;omega),oB,Int.toNat_natCast,W0i]
theorem Q03(w:List Int)(b:h0b w)(a:w.length<=1099511627776):B7 w=some (n04 [] w).reverse:=by
 unfold B7
 have h:=x04 w b a w.length 0 T0 [] (by omega) (D1 (by omega)) (λx c=>by cases c) (by simp)
 rw[show((0:Nat):Int)=0 from rfl,List.drop_zero,List.reverse_nil]at h
 rw[h,oB,H0 (by have:=g08 w [];simp only[List.length_reverse,List.length_nil]at *;omega),oB,List.nil_append]
end Go.Proofs.YtkjhghloldgioaaGreat
