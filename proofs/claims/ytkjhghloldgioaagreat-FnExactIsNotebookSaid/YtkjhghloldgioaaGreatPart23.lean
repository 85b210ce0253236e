/- Texts of the claim, joined: Plain laws: words and presentations, as the spec and the cod and others. -/
import Derived.Test.YtkjhghloldgioaaGreatPart18
import Derived.Test.YtkjhghloldgioaaGreatH33
import Derived.Test.YtkjhghloldgioaaGreatH36
import Derived.Test.YtkjhghloldgioaaGreatPart17
namespace Go.Proofs.YtkjhghloldgioaaGreat
open Go.H
set_option linter.unusedVariables false
set_option linter.unusedSimpArgs false
theorem W0{n:Nat}(h:n<=140737488355328):n<P0:=by unfold P0;omega
theorem D0{p:Prop}[Decidable p](h:p):grd p=some ():=by unfold grd;rw[if_pos h]
theorem j1{a:Type}(o:Option a)(d:a):chk true o d=o:=rfl
theorem F1{a:Type}(o:Option a)(d:a):chk false o d=some d:=rfl
theorem Z1{a:Type}{xs:List a}{k:Nat}{x:a}(h:xs[k]?=some x):gi xs (k:Int)=some x:=by rw[Q0b];exact h
theorem U0h{a:Type}{xs:List a}{x:a}(h:xs[0]?=some x):gi xs 0=some x:=Z1 (k:=0) h
theorem E0a{x:Int}(h:H0 x)(a:x ≠ -9223372036854775808):IntKind.i64.wrap (0-x) = -x:=by rw[w64 (by have:=h.1;have:=h.2;omega) (by have:=h.1;have:=h.2;omega)];omega
theorem w0e{n:Nat}(h:0<n)(a:n<=9223372036854775807):IntKind.i64.wrap ((n:Int)-1)=((n-1:Nat):Int):=by rw[w64 (by omega) (by omega)];omega
theorem a5{a:Type}{xs:List a}{k:Nat}(h:k<xs.length):xs[k]?=some xs[k]:=List.getElem?_eq_getElem h
def inR(b a x:Int):Bool:=decide (b<=x)&&decide (x<=a)
def s04(b a:Int)(w:List Int)(i:Nat):Bool :=
 match w[i]? with
 |none=>true
 |some x=>x == 0 || !inR b a x || (decide (0<i)&&match w[i-1]? with
  |none=>true
  |some y=>x == IntKind.i64.wrap (0-y))
def S02(b a:Int)(w:List Int):Nat->Nat->Bool
 |0,_=>true
 |d+1,k => !s04 b a w k&&S02 b a w d (k+1)
def G2(r:Int)(w:List Int):Bool:=inR 1 3 r&&decide (w.length<=24)&&S02 (-r) r w w.length 0
theorem d01(a b c:Int):j3 a b c=some (inR b c a):=by
 unfold j3 inR
 by_cases h:b<=a<;>simp[h]
theorem W01(a b c:Int):i5 a b c=some (inR b c a):=d01 a b c
theorem r06(r:Int)(w:List Int)(n:w.length<=140737488355328):∀(d k fuel:Nat),k+d=w.length->d<fuel ->
  l8 w r fuel (k:Int)=some (bif S02 (IntKind.i64.wrap (0-r)) r w d k then .inr ()else .inl false)
 |d,k,0,j,hf=>by omega
 |0,k,fuel+1,j,hf=>by
  rw[l8.eq_2,if_neg (by simp;omega)]
  simp[S02]
 |d+1,k,fuel+1,j,hf=>by
  have l:k<w.length:=by omega
  have a:=a5 l
  generalize w[k]=x at a
  have next:=r06 r w n d (k+1) fuel (by omega) (by omega)
  rw[l8.eq_2,if_pos (by simp;omega)]
  generalize IntKind.i64.wrap (0-r)=lo at next ⊢
  simp only[Z1 a,oB,d01,P1 l (by omega:w.length<=9223372036854775807),next]
  have m:s04 lo r w k=(x == 0 || !inR lo r x || (decide (0<k)&&match w[k-1]? with
   |none=>true
   |some y=>x == IntKind.i64.wrap (0-y))):=by unfold s04;rw[a]
  simp only[S02,m]
  by_cases h0:x=0
  ·simp[h0,chk]
  have f:decide (x=0)=false:=by simpa using h0
  have b:(x == 0)=false:=by simpa using h0
  cases hin:inR lo r x with
  |false=>simp[f,b,hin,chk]
  |true =>
   by_cases hk0:k=0
   ·have h:decide ((k:Int)>0)=false:=by simp;omega
    have e:decide (0<k)=false:=by simp;omega
    simp only[f,b,hin,h,e,j1,F1,Bool.not_true,Bool.not_false,Bool.and_true,Bool.false_and,Bool.or_self,Bool.true_and,cond_true,cond_false,oB,Bool.or_false,Bool.and_false,Bool.false_eq_true,if_false,cond_true,cond_false]
   ·have i:=a5 (show k-1<w.length by omega)
    generalize w[k-1]=y at i
    have o:IntKind.i64.wrap ((k:Int)-1)=((k-1:Nat):Int):=w0e (by omega) (by omega)
    have h:decide ((k:Int)>0)=true:=by simp;omega
    have e:decide (0<k)=true:=by simp;omega
    simp only[f,b,hin,h,e,o,i,Z1 a,Z1 i,j1,F1,Bool.not_true,Bool.not_false,Bool.and_true,Bool.false_and,Bool.or_self,Bool.true_and,cond_true,cond_false,oB,Bool.or_false,Bool.and_false,Bool.false_or]
    by_cases hxy:x=IntKind.i64.wrap (0-y)
    ·have g:decide (x=IntKind.i64.wrap (0-y))=true:=by simpa using hxy
     have c:(x == IntKind.i64.wrap (0-y))=true:=by simpa using hxy
     simp only[g,c,if_true,Bool.not_true,Bool.false_and,Bool.false_eq_true,if_false,cond_true,cond_false]
    ·have g:decide (x=IntKind.i64.wrap (0-y))=false:=by simpa using hxy
     have c:(x == IntKind.i64.wrap (0-y))=false:=by simpa using hxy
     simp only[g,c,Bool.false_eq_true,if_false,Bool.not_false,Bool.true_and]
theorem B04(r:Int)(w:List Int)(a:w.length<=140737488355328):I9 r w=some (G2 r w):=by
 unfold I9
 have h:=r06 r w a w.length 0 P0 (by omega) (W0 a)
 rw[show((0:Nat):Int)=0 from rfl]at h
 rw[h,d01]
 unfold G2
 by_cases hr:inR 1 3 r=true
 ·have:IntKind.i64.wrap (0-r) = -r:=by
   simp only[inR,Bool.and_eq_true,decide_eq_true_eq]at hr
   rw[w64 (by omega) (by omega)];omega
  rw[this,hr]
  cases S02 (-r) r w w.length 0<;>simp[i8]<;>omega
 ·simp only[Bool.not_eq_true]at hr
  rw[hr]
  cases S02 (IntKind.i64.wrap (0-r)) r w w.length 0<;>simp[i8]
theorem Z0k(r x:Int)(b:inR 1 3 r=true):i01 r x=some (!(x == 0)&&inR (-r) r x):=by
 have a:IntKind.i64.wrap (0-r) = -r:=by
  simp only[inR,Bool.and_eq_true,decide_eq_true_eq]at b
  rw[w64 (by omega) (by omega)];omega
 unfold i01
 rw[a,W01]
 by_cases h0:x=0
 ·simp[h0,chk]
 ·simp[h0,chk]
theorem F0a(y x:Int):i9 y x=some (!(y == 0) && !(y == -9223372036854775808)&&(x == IntKind.i64.wrap (0-y))):=by
 unfold i9
 by_cases h0:y=0
 ·simp[h0]
 ·by_cases h1:y = -9223372036854775808
  ·simp[h1]
  ·simp only[h0,h1,decide_false,Bool.not_false,cond_true,Option.some.injEq]
   have a:(y == 0)=false:=by simpa using h0
   have b:(y == -9223372036854775808)=false:=by simpa using h1
   rw[a,b]
   rfl
theorem s06(r:Int)(w:List Int)(hr:inR 1 3 r=true)(hl:w.length<=140737488355328):∀(d k fuel:Nat),k+d=w.length->d<fuel ->
  (∀ i,i<k->s04 (-r) r w i=false) ->
  n8 w r fuel (k:Int)=some (bif S02 (-r) r w d k then .inr ()else .inl false)
 |d,k,0,hk,hf,hp=>by omega
 |0,k,fuel+1,hk,hf,hp=>by
  rw[n8.eq_2,if_neg (by simp;omega)]
  simp[S02]
 |d+1,k,fuel+1,hk,hf,hp=>by
  have hkl:k<w.length:=by omega
  have hx:=a5 hkl
  generalize w[k]=x at hx
  have next:=λ(hb:s04 (-r) r w k=false)=>s06 r w hr hl d (k+1) fuel (by omega) (by omega) (λi hi=>by
   by_cases e:i=k
   ·subst e;exact hb
   ·exact hp i (by omega))
  rw[n8.eq_2,if_pos (by simp;omega)]
  rw[Z1 hx,oB,Z0k r x hr,P1 hkl (by omega:w.length<=9223372036854775807)]
  have hbad:s04 (-r) r w k=(x == 0 || !inR (-r) r x || (decide (0<k)&&match w[k-1]? with
   |none=>true
   |some y=>x == IntKind.i64.wrap (0-y))):=by unfold s04;rw[hx]
  simp only[S02]
  by_cases h0:x=0
  ·simp[h0,chk,hbad]
  have b0:(x == 0)=false:=by simpa using h0
  cases hin:inR (-r) r x with
  |false=>simp[b0,hin,chk,hbad]
  |true =>
   by_cases hk0:k=0
   ·have hb:s04 (-r) r w k=false:=by rw[hbad];simp[h0,hin,hk0]
    rw[next hb,hb]
    have ek:decide ((k:Int)>0)=false:=by simp;omega
    simp only[b0,ek,j1,F1,Bool.not_true,Bool.not_false,Bool.and_true,Bool.false_and,Bool.or_self,Bool.true_and,cond_true,cond_false,oB,Bool.or_false,Bool.and_false,Bool.false_eq_true,if_false,cond_true,cond_false]
   ·have hy:=a5 (show k-1<w.length by omega)
    have hpy:=hp (k-1) (by omega)
    generalize w[k-1]=y at hy
    have hy0:y≠0/\y ≠ -9223372036854775808:=by
     unfold s04 at hpy
     rw[hy]at hpy
     simp only[Bool.or_eq_false_iff,Bool.not_eq_false']at hpy
     have h1:=hpy.1.2
     simp only[inR,Bool.and_eq_true,decide_eq_true_eq]at h1 hr
     exact⟨by simpa using hpy.1.1,by omega⟩
    have b2:(y == 0)=false:=by simpa using hy0.1
    have b3:(y == -9223372036854775808)=false:=by simpa using hy0.2
    have hpr:IntKind.i64.wrap ((k:Int)-1)=((k-1:Nat):Int):=w0e (by omega) (by omega)
    have ek:decide ((k:Int)>0)=true:=by simp;omega
    have bk:decide (0<k)=true:=by simp;omega
    simp only[b0,ek,hpr,Z1 hy,F0a,b2,b3,j1,F1,Bool.not_true,Bool.not_false,Bool.and_true,Bool.false_and,Bool.or_self,Bool.true_and,cond_true,cond_false,oB,Bool.or_false,Bool.and_false,Bool.false_or]
    cases b1:(x == IntKind.i64.wrap (0-y))with
    |true =>
     have hb:s04 (-r) r w k=true:=by rw[hbad,hy,bk,b0,hin];exact b1
     simp only[hb,if_true,Bool.not_true,Bool.false_and,Bool.false_eq_true,if_false,cond_true,cond_false]
    |false =>
     have hb:s04 (-r) r w k=false:=by rw[hbad,hy,bk,b0,hin];exact b1
     simp only[hb,next hb,Bool.false_eq_true,if_false,Bool.not_false,Bool.true_and]
theorem C04(r:Int)(w:List Int)(b:w.length<=140737488355328):J9 r w=some (G2 r w):=by
 unfold J9
 rw[W01]
 unfold G2
 cases hr:inR 1 3 r with
 |false=>simp
 |true =>
  by_cases h24:w.length<=24
  ·have h:=s06 r w hr b w.length 0 P0 (by omega) (W0 b) (λi c=>by omega)
   rw[show((0:Nat):Int)=0 from rfl]at h
   have a : ¬ (24:Int)<(w.length:Int):=by omega
   simp only[oB,h,a]
   cases S02 (-r) r w w.length 0<;>simp[i8,h24]
  ·have a:(24:Int)<(w.length:Int):=by omega
   simp[h24,a]
def tot:List (List Int)->Nat
 | []=>0
 |w::r=>w.length+tot r
theorem G1{a:Type}{xs:List a}{k:Nat}{x:a}(h:xs[k]?=some x):xs.drop k=x::xs.drop (k+1):=by
 obtain⟨b,rfl⟩:=List.getElem?_eq_some_iff.1 h
 exact List.drop_eq_getElem_cons b
theorem D1{a:Type}{xs:List a}{k:Nat}(h:k=xs.length):xs.drop k = []:=by rw[h];exact List.drop_length
theorem E03(ws:List (List Int))(g:ws.length<=140737488355328):∀(d k fuel a:Nat),k+d=ws.length->d<fuel->a+tot (ws.drop k)<=9223372036854775807 ->
  J3 ws fuel (a:Int) (k:Int)=some ((a+tot (ws.drop k):Nat):Int)
 |d,k,0,a,e,hf,b=>by omega
 |0,k,fuel+1,a,e,hf,b=>by
  rw[J3.eq_2,if_neg (by simp;omega),D1 (by omega)]
  rfl
 |d+1,k,fuel+1,a,e,hf,b=>by
  have f:k<ws.length:=by omega
  have c:=a5 f
  generalize ws[k]=x at c
  rw[G1 c]at b ⊢
  simp only[tot]at b ⊢
  rw[J3.eq_2,if_pos (by simp;omega),Z1 c,oB,P1 f (by omega:ws.length<=9223372036854775807),
   show IntKind.i64.wrap ((a:Int)+((x.length:Nat):Int))=((a+x.length:Nat):Int) by rw[w64 (by omega) (by omega)];omega,
   E03 ws g d (k+1) fuel (a+x.length) (by omega) (by omega) (by omega)]
  rw[Nat.add_assoc]
theorem E05(ws:List (List Int))(a:ws.length<=140737488355328)(b:tot ws<=9223372036854775807):E8 ws=some ((tot ws:Nat):Int):=by
 unfold E8
 have h:=E03 ws a ws.length 0 P0 0 (by omega) (W0 a) (by simpa using b)
 rw[show((0:Nat):Int)=0 from rfl]at h
 rw[h]
 simp
theorem b03(ws:List (List Int)):∀(fuel:Nat) (a k:Int),d6 ws fuel a k=J3 ws fuel a k
 |0,a,k=>rfl
 |fuel+1,a,k=>by
  rw[d6.eq_2,J3.eq_2]
  simp only[b03 ws fuel]
theorem G0a(ws:List (List Int))(a:ws.length<=140737488355328)(b:tot ws<=9223372036854775807):Y9 ws=some ((tot ws:Nat):Int):=by
 rw[←E05 ws a b]
 unfold Y9 E8
 rw[b03]
def a0d(r:Int):List (List Int)->Bool
 | []=>true
 |w::l=>G2 r w&&a0d r l
def S5(r:Int)(ws:List (List Int)):Bool:=inR 1 3 r&&decide (ws.length<=6)&&a0d r ws&&decide (tot ws<40)
theorem x0e{r:Int}:∀ {ws:List (List Int)},a0d r ws=true->tot ws<=24*ws.length
 | [],_=>by simp[tot]
 |w::l,h=>by
  simp only[a0d,Bool.and_eq_true]at h
  have a:=h.1
  simp only[G2,Bool.and_eq_true,decide_eq_true_eq]at a
  have:=x0e h.2
  simp only[tot,List.length_cons]
  omega
def V7(ws:List (List Int)):Prop:=∀ w∈ws,w.length<=140737488355328
theorem Y04(r:Int)(ws:List (List Int))(g:ws.length<=140737488355328)(e:V7 ws):∀(d k fuel:Nat),k+d=ws.length->d<fuel ->
  O6 ws r fuel (k:Int)=some (bif a0d r (ws.drop k)then .inr ()else .inl false)
 |d,k,0,b,hf=>by omega
 |0,k,fuel+1,b,hf=>by
  rw[O6.eq_2,if_neg (by simp;omega),D1 (by omega)]
  rfl
 |d+1,k,fuel+1,b,hf=>by
  have c:k<ws.length:=by omega
  have a:=a5 c
  have f:=e _ (List.mem_of_getElem? a)
  generalize ws[k]=x at a f
  rw[G1 a,O6.eq_2,if_pos (by simp;omega),Z1 a,oB,B04 r x f,oB,P1 c (by omega:ws.length<=9223372036854775807),
   Y04 r ws g e d (k+1) fuel (by omega) (by omega)]
  simp only[a0d]
  cases G2 r x<;>simp
theorem V07(r:Int)(ws:List (List Int))(c:ws.length<=140737488355328)(d:V7 ws):j00 r ws=some (S5 r ws):=by
 unfold j00
 have h:=Y04 r ws c d ws.length 0 P0 (by omega) (W0 c)
 rw[show((0:Nat):Int)=0 from rfl,List.drop_zero]at h
 rw[h,oB]
 unfold S5
 cases ha:a0d r ws with
 |false=>simp[i8]
 |true =>
  rw[cond_true,S0,d01,oB]
  have:=x0e ha
  cases hr:inR 1 3 r with
  |false=>simp[chk,grd,H0]
  |true =>
   by_cases h6:ws.length<=6
   ·rw[E05 ws c (by omega)]
    have a:decide (((ws.length:Nat):Int)<=6)=true:=by simp;omega
    have b:decide (ws.length<=6)=true:=by simpa using h6
    rw[a,b,cond_true,j1,oB,D0 (by constructor<;>omega)]
    simp
    omega
   ·have a:decide (((ws.length:Nat):Int)<=6)=false:=by simp;omega
    have b:decide (ws.length<=6)=false:=by simpa using h6
    rw[a,b]
    simp[chk,grd,H0]
theorem Z04(r:Int)(ws:List (List Int))(g:ws.length<=140737488355328)(e:V7 ws):∀(d k fuel:Nat),k+d=ws.length->d<fuel ->
  P6 ws r fuel (k:Int)=some (bif a0d r (ws.drop k)then .inr ()else .inl false)
 |d,k,0,b,hf=>by omega
 |0,k,fuel+1,b,hf=>by
  rw[P6.eq_2,if_neg (by simp;omega),D1 (by omega)]
  rfl
 |d+1,k,fuel+1,b,hf=>by
  have c:k<ws.length:=by omega
  have a:=a5 c
  have f:=e _ (List.mem_of_getElem? a)
  generalize ws[k]=x at a f
  rw[G1 a,P6.eq_2,if_pos (by simp;omega),Z1 a,oB,C04 r x f,oB,P1 c (by omega:ws.length<=9223372036854775807),
   Z04 r ws g e d (k+1) fuel (by omega) (by omega)]
  simp only[a0d]
  cases G2 r x<;>simp
theorem W07(r:Int)(ws:List (List Int))(c:ws.length<=140737488355328)(d:V7 ws):k00 r ws=some (S5 r ws):=by
 unfold k00
 rw[W01,oB]
 unfold S5
 cases hr:inR 1 3 r with
 |false=>simp
 |true =>
  by_cases h6:ws.length<=6
  ·have a:decide (((ws.length:Nat):Int)>6)=false:=by simp;omega
   have b:decide (ws.length<=6)=true:=by simpa using h6
   have h:=Z04 r ws c d ws.length 0 P0 (by omega) (W0 c)
   rw[show((0:Nat):Int)=0 from rfl,List.drop_zero]at h
   rw[a,b,h,oB]
   cases ha:a0d r ws with
   |false=>simp[i8]
   |true =>
    have:=x0e ha
    simp only[cond_true,S0,G0a ws c (by omega),oB,D0 (show H0 ((tot ws:Nat):Int) by constructor<;>omega)]
    simp
    omega
  ·have a:decide (((ws.length:Nat):Int)>6)=true:=by simp;omega
   have b:decide (ws.length<=6)=false:=by simpa using h6
   rw[a,b]
   simp
theorem K08{b a:Int}{w:List Int}:∀ {d k:Nat},S02 b a w d k=true->∀ i,k<=i->i<k+d->s04 b a w i=false
 |0,k,h,i,c,f=>by omega
 |d+1,k,h,i,c,f=>by
  simp only[S02,Bool.and_eq_true,Bool.not_eq_true']at h
  by_cases e:i=k
  ·subst e;exact h.1
  ·exact K08 h.2 i (by omega) (by omega)
theorem y0j{r:Int}{w:List Int}(h:G2 r w=true){i:Nat}{x:Int}(d:w[i]?=some x):(1<=r/\r<=3)/\w.length<=24/\x≠0 /\ -r<=x/\x<=r:=by
 simp only[G2,Bool.and_eq_true,decide_eq_true_eq]at h
 have c:=h.1.1
 simp only[inR,Bool.and_eq_true,decide_eq_true_eq]at c
 have a:=K08 h.2 i (Nat.zero_le _) (by have:=(List.getElem?_eq_some_iff.1 d).1;omega)
 unfold s04 at a
 rw[d]at a
 simp only[Bool.or_eq_false_iff,Bool.not_eq_false']at a
 have b:=a.1.2
 simp only[inR,Bool.and_eq_true,decide_eq_true_eq]at b
 exact⟨c,h.1.2,by simpa using a.1.1,b⟩
def S05(r a:Int)(e:J0):Bool:=inR 0 a e.1&&inR 0 a e.2.2&&inR 1 r e.2.1
def y0e(e f:J0):Int:=O0 e f
theorem z0e(e f:J0):y0e e f=if d9 e.1 f.1≠0 then d9 e.1 f.1 else if d9 e.2.1 f.2.1≠0 then d9 e.2.1 f.2.1 else d9 e.2.2 f.2.2:=rfl
theorem Z06(a b:Int):(a<b/\d9 a b = -1)∨(a>b/\d9 a b=1)∨(a=b/\d9 a b=0):=by
 unfold d9
 split
 ·omega
 ·split<;>omega
theorem D0d(e f:J0):H0 (y0e e f):=by
 rw[z0e]
 split
 ·exact T0h _ _
 ·split<;>exact T0h _ _
theorem W0o(g:j0)(e:J0):F02 g e=some (S05 g.1 (IntKind.i64.wrap (g.2.1-1)) e):=by
 obtain⟨r,n,es⟩:=g
 obtain⟨a,l,b⟩:=e
 unfold F02 S05
 simp only[d01,oB]
 cases inR 0 (IntKind.i64.wrap (n-1)) a with
 |false=>rfl
 |true =>
  cases inR 0 (IntKind.i64.wrap (n-1)) b with
  |false=>rfl
  |true=>simp[chk]
theorem b0d(g:j0)(e:J0):S8 g e=some (S05 g.1 (IntKind.i64.wrap (g.2.1-1)) e):=by
 obtain⟨r,n,es⟩:=g
 obtain⟨a,l,b⟩:=e
 unfold S8 V3 S05
 simp only[W01,oB]
 cases inR 0 (IntKind.i64.wrap (n-1)) a with
 |false=>rfl
 |true =>
  cases inR 0 (IntKind.i64.wrap (n-1)) b with
  |false=>rfl
  |true=>simp[chk]
theorem T02(e f:J0):d8 e f=some (y0e e f):=by
 obtain⟨a,l,b⟩:=e
 obtain⟨g,j,i⟩:=f
 unfold d8
 rw[show P0=(P0-4)+1+1+1+1 from rfl]
 have s:IntKind.i64.wrap (0+1)=1:=by decide
 have t:IntKind.i64.wrap (1+1)=2:=by decide
 have u:IntKind.i64.wrap (2+1)=3:=by decide
 have o:∀ x y z:Int,gi [x,y,z] 0=some x:=λ_ _ _=>rfl
 have p:∀ x y z:Int,gi [x,y,z] 1=some y:=λ_ _ _=>rfl
 have q:∀ x y z:Int,gi [x,y,z] 2=some z:=λ_ _ _=>rfl
 have d0:decide ((0:Int)<3)=true:=rfl
 have k:decide ((1:Int)<3)=true:=rfl
 have m:decide ((2:Int)<3)=true:=rfl
 have n:decide ((3:Int)<3)=false:=rfl
 simp only[d7.eq_2,s,t,u,o,p,q,d0,k,m,n,if_true,oB,Bool.false_eq_true,if_false]
 rw[z0e]
 simp only
 rcases Z06 a g with⟨h,e⟩|⟨h,e⟩|⟨h,e⟩
 ·simp[e,h,i8]
 ·have : ¬ a<g:=by omega
  simp[e,h,this,i8]
 ·subst h
  rcases Z06 l j with⟨h,c⟩|⟨h,c⟩|⟨h,c⟩
  ·simp[e,c,h,i8]
  ·have : ¬ l<j:=by omega
   simp[e,c,h,this,i8]
  ·subst h
   rcases Z06 b i with⟨h,d⟩|⟨h,d⟩|⟨h,d⟩
   ·simp[e,c,d,h,i8]
   ·have : ¬ b<i:=by omega
    simp[e,c,d,h,this,i8]
   ·subst h
    simp[e,c,d,i8]
theorem p0n(a b:Int):A7 a b=some (d9 a b):=by
 unfold A7 d9
 by_cases h:a<b
 ·simp[h]
 ·by_cases h2:a>b<;>simp[h,h2]
theorem a05(e f:J0):B9 e f=some (y0e e f):=by
 obtain⟨a,l,b⟩:=e
 obtain⟨c,d,g⟩:=f
 rw[z0e]
 unfold B9
 simp only[p0n,oB,D0 (T0h _ _)]
 by_cases h1:d9 a c=0
 ·by_cases h2:d9 l d=0
  ·simp[h1,h2]
  ·simp[h1,h2]
 ·simp[h1]
def X0o(r a:Int)(es:List J0)(k:Nat):Bool:=match es[k]? with
 |none=>true
 |some e => !S05 r a e || (decide (0<k)&&match es[k-1]? with
  |none=>true
  |some f=>decide (y0e f e ≥ 0))
def okE(r a:Int)(es:List J0):Nat->Nat->Bool
 |0,_=>true
 |d+1,k => !X0o r a es k&&okE r a es d (k+1)
def Q0(g:j0):Bool:=okE g.1 (IntKind.i64.wrap (g.2.1-1)) g.2.2 g.2.2.length 0&&inR 1 3 g.1&&inR 1 40 g.2.1&&decide (g.2.2.length<=120)
theorem H0a{r a:Int}{es:List J0}{k:Nat}{e:J0}(b:es[k]?=some e):X0o r a es k=(!S05 r a e || (decide (0<k)&&match es[k-1]? with
  |none=>true
  |some f=>decide (y0e f e ≥ 0))):=by unfold X0o;rw[b]
theorem F05(r n:Int)(es:List J0)(q:es.length<=140737488355328):∀(d k fuel:Nat),k+d=es.length->d<fuel ->
  D7 es r n fuel (k:Int)=some (bif okE r (IntKind.i64.wrap (n-1)) es d k then .inr ()else .inl false)
 |d,k,0,l,hf=>by omega
 |0,k,fuel+1,l,hf=>by
  rw[D7.eq_2,if_neg (by simp;omega)]
  simp[okE]
 |d+1,k,fuel+1,l,hf=>by
  have m:k<es.length:=by omega
  have a:=a5 m
  generalize es[k]=e at a
  obtain⟨h,i,j⟩:=e
  have next:=F05 r n es q d (k+1) fuel (by omega) (by omega)
  rw[D7.eq_2,if_pos (by simp;omega),Z1 a,oB]
  simp only[W0o,oB,P1 m (by omega:es.length<=9223372036854775807),next,okE,H0a a]
  generalize IntKind.i64.wrap (n-1)=hi
  cases hin:S05 r hi (h,i,j)with
  |false=>simp[chk,grd,H0]
  |true =>
   by_cases hk0:k=0
   ·have c:decide ((k:Int)>0)=false:=by simp;omega
    have b:decide (0<k)=false:=by simp;omega
    simp only[c,b,F1,Bool.not_true,Bool.not_false,Bool.and_true,Bool.false_and,Bool.or_self,Bool.true_and,cond_true,cond_false,oB,Bool.or_false,Bool.false_eq_true,if_false,D0 (show H0 0 by decide)]
   ·have g:=a5 (show k-1<es.length by omega)
    generalize es[k-1]=f at g
    obtain⟨o,p,f2⟩:=f
    have s:IntKind.i64.wrap ((k:Int)-1)=((k-1:Nat):Int):=w0e (by omega) (by omega)
    have c:decide ((k:Int)>0)=true:=by simp;omega
    have b:decide (0<k)=true:=by simp;omega
    simp only[c,b,s,g,Z1 a,Z1 g,j1,Bool.not_true,Bool.not_false,Bool.and_true,Bool.false_and,Bool.or_self,Bool.true_and,cond_true,cond_false,oB,Bool.or_false,Bool.false_or,T02,D0 (D0d _ _)]
    cases decide (y0e (o,p,f2) (h,i,j) ≥ 0)<;>rfl
theorem S7(g:j0)(a:g.2.2.length<=140737488355328):d4 g=some (Q0 g):=by
 obtain⟨r,n,es⟩:=g
 unfold d4 Q0
 simp only at a ⊢
 have h:=F05 r n es a es.length 0 P0 (by omega) (W0 a)
 rw[show((0:Nat):Int)=0 from rfl]at h
 rw[h,oB]
 cases okE r (IntKind.i64.wrap (n-1)) es es.length 0 with
 |false=>simp[i8]
 |true =>
  rw[cond_true,S0,d01,d01,oB]
  cases inR 1 3 r with
  |false=>simp[chk]
  |true =>
   simp only[j1,oB,cond_true,Bool.true_and]
   cases inR 1 40 n with
   |false=>simp
   |true=>simp;omega
theorem G05(r n:Int)(es:List J0)(q:es.length<=140737488355328):∀(d k fuel:Nat),k+d=es.length->d<fuel ->
  E7 es r n fuel (k:Int)=some (bif okE r (IntKind.i64.wrap (n-1)) es d k then .inr ()else .inl false)
 |d,k,0,l,hf=>by omega
 |0,k,fuel+1,l,hf=>by
  rw[E7.eq_2,if_neg (by simp;omega)]
  simp[okE]
 |d+1,k,fuel+1,l,hf=>by
  have m:k<es.length:=by omega
  have a:=a5 m
  generalize es[k]=e at a
  obtain⟨h,i,j⟩:=e
  have next:=G05 r n es q d (k+1) fuel (by omega) (by omega)
  rw[E7.eq_2,if_pos (by simp;omega),Z1 a,oB]
  simp only[b0d,oB,P1 m (by omega:es.length<=9223372036854775807),next,okE,H0a a]
  generalize IntKind.i64.wrap (n-1)=hi
  cases hin:S05 r hi (h,i,j)with
  |false=>simp[chk,grd,H0]
  |true =>
   by_cases hk0:k=0
   ·have c:decide ((k:Int)>0)=false:=by simp;omega
    have b:decide (0<k)=false:=by simp;omega
    simp only[c,b,F1,Bool.not_true,Bool.not_false,Bool.and_true,Bool.false_and,Bool.or_self,Bool.true_and,cond_true,cond_false,oB,Bool.or_false,Bool.false_eq_true,if_false,D0 (show H0 0 by decide)]
   ·have g:=a5 (show k-1<es.length by omega)
    generalize es[k-1]=f at g
    obtain⟨o,p,f2⟩:=f
    have s:IntKind.i64.wrap ((k:Int)-1)=((k-1:Nat):Int):=w0e (by omega) (by omega)
    have c:decide ((k:Int)>0)=true:=by simp;omega
    have b:decide (0<k)=true:=by simp;omega
    simp only[c,b,s,g,Z1 a,Z1 g,j1,Bool.not_true,Bool.not_false,Bool.and_true,Bool.false_and,Bool.or_self,Bool.true_and,cond_true,cond_false,oB,Bool.or_false,Bool.false_or,a05,D0 (D0d _ _)]
    cases decide (y0e (o,p,f2) (h,i,j) ≥ 0)<;>rfl
theorem H00(g:j0)(c:g.2.2.length<=140737488355328):n7 g=some (Q0 g):=by
 obtain⟨r,n,es⟩:=g
 unfold n7 Q0
 simp only at c ⊢
 rw[W01,W01,oB]
 cases hr:inR 1 3 r with
 |false=>simp[chk]
 |true =>
  simp only[Bool.not_true,Bool.not_false,j1,oB,cond_false]
  cases hn:inR 1 40 n with
  |false=>simp
  |true =>
   by_cases h120:es.length<=120
   ·have h:=G05 r n es c es.length 0 P0 (by omega) (W0 c)
    rw[show((0:Nat):Int)=0 from rfl]at h
    have a:decide (((es.length:Nat):Int)>120)=false:=by simp;omega
    have b:decide (es.length<=120)=true:=by simpa using h120
    simp only[a,b,Bool.not_true,cond_false,Bool.false_eq_true,if_false,h,oB]
    cases okE r (IntKind.i64.wrap (n-1)) es es.length 0<;>rfl
   ·have a:decide (((es.length:Nat):Int)>120)=true:=by simp;omega
    have b:decide (es.length<=120)=false:=by simpa using h120
    simp only[a,b,Bool.not_true,cond_false,if_true,Bool.and_false]
theorem a0l{r a:Int}{es:List J0}:∀ {d k:Nat},okE r a es d k=true->∀ i,k<=i->i<k+d->X0o r a es i=false
 |0,k,h,i,b,c=>by omega
 |d+1,k,h,i,b,c=>by
  simp only[okE,Bool.and_eq_true,Bool.not_eq_true']at h
  by_cases e:i=k
  ·subst e;exact h.1
  ·exact a0l h.2 i (by omega) (by omega)
theorem A0e{n:Nat}(h:n<=9223372036854775807):n<P0:=by unfold P0;omega
def goI(x:Int):List Int->Bool×List Int
 | []=>(false,[])
 |y::l=>if x<y then(true,x::y::l)else if y=x then(true,y::l)else((goI x l).1,y::(goI x l).2)
theorem j0m(x:Int):∀ l,t00 d9 x l=bif(goI x l).1 then(goI x l).2 else(goI x l).2 ++ [x]
 | []=>rfl
 |y::l=>by
  have a:=j0m x l
  unfold t00 goI
  rcases Z06 x y with⟨h,e⟩|⟨h,e⟩|⟨h,e⟩
  ·rw[e,if_pos (by omega),if_pos h];rfl
  ·rw[e,if_neg (by omega),if_neg (by omega),if_neg (by omega),if_neg (by omega),a]
   cases (goI x l).1<;>rfl
  ·rw[e,if_neg (by omega),if_pos rfl,if_neg (by omega),if_pos h.symm];rfl
theorem B0e(l:List Int)(w:Int)(h:l.length<=1099511627776):∀(d k fuel:Nat) (acc:List Int),k+d=l.length->d<fuel->acc.length<=k+1 ->
  f4 l w fuel true (k:Int) acc=some (true,acc++l.drop k)
 |d,k,0,acc,e,hf,b=>by omega
 |0,k,fuel+1,acc,e,hf,b=>by
  rw[f4.eq_2,if_neg (by simp;omega),D1 (by omega),List.append_nil]
 |d+1,k,fuel+1,acc,e,hf,b=>by
  have f:k<l.length:=by omega
  have a:=a5 f
  generalize l[k]=x at a
  have i:=B0e l w h d (k+1) fuel (acc ++ [x]) (by omega) (by omega) (by simp;omega)
  rw[f4.eq_2,if_pos (by simp;omega),Z1 a,oB]
  have g:∀ c:Bool,(bif c then(!true)else false)=false:=λc=>by cases c<;>rfl
  simp only[g,Bool.false_eq_true,if_false,oB,P1 f (show l.length<=9223372036854775807 by omega),i,D0 (show(acc.length + [x].length)*8<=140737488355328 by simp;omega)]
  rw[G1 a]
  split<;>simp
theorem w0g(l:List Int)(w:Int)(b:l.length<=1099511627776):∀(d k fuel:Nat) (acc:List Int),k+d=l.length->d<fuel->acc.length=k ->
  f4 l w fuel false (k:Int) acc=some ((goI w (l.drop k)).1,acc++(goI w (l.drop k)).2)
 |d,k,0,acc,g,hf,f=>by omega
 |0,k,fuel+1,acc,g,hf,f=>by
  rw[f4.eq_2,if_neg (by simp;omega),D1 (by omega)]
  simp[goI]
 |d+1,k,fuel+1,acc,g,hf,f=>by
  have a:k<l.length:=by omega
  have e:=a5 a
  generalize l[k]=x at e
  have j:=w0g l w b d (k+1) fuel (acc ++ [x]) (by omega) (by omega) (by simp;omega)
  have m:=B0e l w b d (k+1) fuel (acc ++ [x]) (by omega) (by omega) (by simp;omega)
  have n:=B0e l w b d (k+1) fuel (acc ++ [w] ++ [x]) (by omega) (by omega) (by simp;omega)
  rw[f4.eq_2,if_pos (by simp;omega),Z1 e,oB,G1 e]
  unfold goI
  have h:∀ c:Bool,(bif c then(!true)else false)=false:=λc=>by cases c<;>rfl
  have i:∀ c:Bool,(bif c then(!false)else false)=c:=λc=>by cases c<;>rfl
  by_cases h0:x=w
  ·rw[if_pos (by simpa using h0),oB,h,if_neg (by simp),oB,D0 (by simp;omega),oB,P1 a (by omega),m,if_neg (by omega),if_pos h0]
   simp
  ·rw[if_neg (by simpa using h0),oB,i]
   by_cases h1:w<x
   ·rw[if_pos (by simpa using h1),D0 (by simp;omega),oB,oB,D0 (by simp;omega),oB,P1 a (by omega),n,if_pos h1]
    simp
   ·rw[if_neg (by simpa using h1),oB,D0 (by simp;omega),oB,P1 a (by omega),j,if_neg h1,if_neg h0]
    simp
theorem I0a(l:List Int)(w:Int)(a:l.length<=1099511627776):N8 l w=some (t00 d9 w l):=by
 unfold N8
 have h:=w0g l w a l.length 0 P0 [] (by omega) (W0 (by omega)) rfl
 rw[show((0:Nat):Int)=0 from rfl,List.drop_zero,List.nil_append]at h
 rw[h,oB,j0m]
 have b:∀ l:List Int,(goI w l).2.length<=l.length+1:=λl=>by
  induction l with
  |nil=>simp[goI]
  |cons y l c =>
   unfold goI
   split
   ·simp
   ·split
    ·simp
    ·simp only[List.length_cons];omega
 have:=b l
 cases (goI w l).1 with
 |true=>rfl
 |false =>
  simp only[Bool.not_false,if_true,cond_false]
  rw[D0 (by simp;omega),oB]
def x0g(v x:Int)(e:J0):List Int :=
 if 0<x/\e.2.1=x/\e.1=v then [e.2.2]else if x<0/\e.2.1 = -x/\e.2.2=v then [e.1]else []
def a00(v x:Int):List J0->List Int
 | []=>[]
 |e::es=>x0g v x e++a00 v x es
theorem q0n(v x:Int)(e:J0):(x0g v x e).length<=1:=by unfold x0g;split<;>(try split)<;>simp
theorem C0e(v x:Int):∀ es,(a00 v x es).length<=es.length
 | []=>by simp[a00]
 |e::es=>by
  have a:=q0n v x e
  have b:=C0e v x es
  simp only[a00,List.length_append,List.length_cons]
  omega
def l4(x:Int):Prop:=H0 x/\x ≠ -9223372036854775808
theorem J0a(es:List J0)(v x:Int)(f:l4 x)(t:es.length<=1099511627776):∀(d k fuel:Nat) (acc:List Int),k+d=es.length->d<fuel->acc.length<=k ->
  G4 es x v fuel (k:Int) acc=some (acc++a00 v x (es.drop k))
 |d,k,0,acc,p,hf,o=>by omega
 |0,k,fuel+1,acc,p,hf,o=>by
  rw[G4.eq_2,if_neg (by simp;omega),D1 (by omega)]
  simp[a00]
 |d+1,k,fuel+1,acc,p,hf,o=>by
  have q:k<es.length:=by omega
  have m:=a5 q
  generalize es[k]=e at m
  obtain⟨a,l,b⟩:=e
  have n:=λs h=>J0a es v x f t d (k+1) fuel s (by omega) (by omega) h
  have u:decide (x = -9223372036854775808)=false:=by simp;exact f.2
  rw[G4.eq_2,if_pos (by simp;omega),Z1 m,oB,G1 m]
  simp only[a00,x0g,E0a f.1 f.2,u,Bool.not_false,P1 q (show es.length<=9223372036854775807 by omega)]
  by_cases c:0<x/\l=x/\a=v
  ·obtain⟨c,rfl,rfl⟩:=c
   rw[if_pos (by simp[c]),if_pos ⟨c,rfl,rfl⟩,D0 (by simp;omega),oB,n _ (by simp;omega)]
   simp
  ·rw[if_neg c,if_neg (by simp only[Bool.cond_eq_ite];simp;intro g i j;exact c ⟨g,i,j⟩)]
   by_cases c2:x<0/\l = -x/\b=v
   ·rw[if_pos c2,if_pos (by simp[c2.1,c2.2.1,c2.2.2]),D0 (by simp;omega),oB,n _ (by simp;omega)]
    simp
   ·rw[if_neg c2,if_neg (by simp only[Bool.cond_eq_ite];simp;intro g i j;exact c2 ⟨g,i,j⟩),n _ (by omega)]
    simp
theorem t06(w:Int):∀ l:List Int,(t00 d9 w l).length<=l.length+1
 | []=>by simp[t00]
 |y::l=>by
  have:=t06 w l
  unfold t00
  split
  ·simp
  ·split
   ·simp
   ·simp only[List.length_cons];omega
theorem K0a(es:List J0)(v x:Int)(m:l4 x)(s:es.length<=1099511627776):∀(d k fuel:Nat) (u:List Int),k+d=es.length->d<fuel->u.length<=k ->
  M3 es x v fuel u (k:Int)=some (w5 d9 u (a00 v x (es.drop k)))
 |d,k,0,u,p,hf,o=>by omega
 |0,k,fuel+1,u,p,hf,o=>by
  rw[M3.eq_2,if_neg (by simp;omega),D1 (by omega)]
  rfl
 |d+1,k,fuel+1,u,p,hf,o=>by
  have q:k<es.length:=by omega
  have j:=a5 q
  generalize es[k]=e at j
  obtain⟨a,l,b⟩:=e
  have n:=λw h=>K0a es v x m s d (k+1) fuel w (by omega) (by omega) h
  rw[M3.eq_2,if_pos (by simp;omega),Z1 j,oB,G1 j]
  simp only[a00,x0g,E0a m.1 m.2,P1 q (show es.length<=9223372036854775807 by omega)]
  by_cases c:0<x/\l=x/\a=v
  ·obtain⟨c,rfl,rfl⟩:=c
   have t:decide (l<0)=false:=by simp;omega
   have:=t06 b u
   rw[if_pos (by simp[c]),if_pos ⟨c,rfl,rfl⟩,I0a u b (by omega),oB,t,if_neg (by simp),n _ (by omega)]
   rfl
  ·rw[if_neg c,if_neg (by simp only[Bool.cond_eq_ite];simp;intro f g i;exact c ⟨f,g,i⟩)]
   by_cases c2:x<0/\l = -x/\b=v
   ·have:=t06 a u
    rw[if_pos c2,if_pos (by simp[c2.1,c2.2.1,c2.2.2]),I0a u a (by omega),oB,n _ (by omega)]
    rfl
   ·rw[if_neg c2,if_neg (by simp only[Bool.cond_eq_ite];simp;intro f g i;exact c2 ⟨f,g,i⟩),n _ (by omega)]
    rfl
def L02(g:j0)(v x:Int):List Int:=w5 d9 [] (a00 v x g.2.2)
theorem u0q(x y:Int):eqI x y=true↔x=y:=by simp[eqI]
theorem z0j(g:j0)(v x:Int)(b:l4 x)(a:g.2.2.length<=1099511627776):M00 g v x=some (L02 g v x):=by
 obtain⟨r,n,es⟩:=g
 unfold M00 L02
 have h:=K0a es v x b a es.length 0 P0 [] (by omega) (A0e (by simp only at a;omega)) (by simp)
 rw[show((0:Nat):Int)=0 from rfl,List.drop_zero]at h
 simp only[h,oB]
theorem A0j(g:j0)(v x:Int)(b:l4 x)(a:g.2.2.length<=1099511627776):N00 g v x=some (L02 g v x):=by
 obtain⟨r,n,es⟩:=g
 unfold N00 L02
 have h:=J0a es v x b a es.length 0 P0 [] (by omega) (A0e (by simp only at a;omega)) (by simp)
 rw[show((0:Nat):Int)=0 from rfl,List.drop_zero,List.nil_append]at h
 have c:=C0e v x es
 simp only at a
 simp only[h,oB,D0 (show(a00 v x es).length<4611686018427387904 by omega)]
 rw[←x0j E02 u0q (a00 v x es) (a00 v x es) λ_=>Iff.rfl]
 rfl
def U0(g:j0)(v x:Int):Int:=match L02 g v x with
 | [] => -1
 |a::_=>a
theorem L03(g:j0)(v x:Int)(c:l4 x)(b:g.2.2.length<=1099511627776):j5 g v x=some (U0 g v x):=by
 have h:=z0j g v x c b
 obtain⟨r,n,es⟩:=g
 unfold j5 U0
 simp only[h,oB]
 cases L02 (r,n,es) v x with
 |nil=>rfl
 |cons a l=>rfl
theorem b05(g:j0)(v x:Int)(c:l4 x)(b:g.2.2.length<=1099511627776):S6 g v x=some (U0 g v x):=by
 have h:=A0j g v x c b
 obtain⟨r,n,es⟩:=g
 unfold S6 U0
 simp only[h,oB]
 cases L02 (r,n,es) v x with
 |nil=>rfl
 |cons a l=>rfl
theorem y0g{g:j0}{v x y:Int}(h:y∈L02 g v x):y∈a00 v x g.2.2:=by
 rcases(w9 E02 y _ []).1 h with h|h
 ·cases h
 ·exact h
theorem W7{v x y:Int}:∀ {es:List J0},y∈a00 v x es↔∃ e∈es,(0<x/\e.2.1=x/\e.1=v/\y=e.2.2)∨(x<0/\e.2.1 = -x/\e.2.2=v/\y=e.1)
 | []=>by simp[a00]
 |e::es=>by
  simp only[a00,List.mem_append,W7 (es:=es),List.mem_cons,exists_eq_or_imp]
  refine or_congr ?_ Iff.rfl
  unfold x0g
  split
  ·rename_i h
   simp only[List.mem_singleton]
   constructor
   ·rintro rfl;exact .inl ⟨h.1,h.2.1,h.2.2,rfl⟩
   ·rintro(⟨_,_,_,a⟩|⟨f,_⟩)
    ·exact a
    ·omega
  ·rename_i h
   split
   ·rename_i b
    simp only[List.mem_singleton]
    constructor
    ·rintro rfl;exact .inr ⟨b.1,b.2.1,b.2.2,rfl⟩
    ·rintro(⟨f,_⟩|⟨_,_,_,a⟩)
     ·omega
     ·exact a
   ·rename_i b
    constructor
    ·intro h;cases h
    ·rintro(⟨c,a,d,_⟩|⟨c,a,d,_⟩)
     ·exact absurd ⟨c,a,d⟩ h
     ·exact absurd ⟨c,a,d⟩ b
def inG(g:j0):Prop:=∀ e∈g.2.2,(0<=e.1/\e.1<g.2.1)/\(0<=e.2.2/\e.2.2<g.2.1)/\1<=e.2.1/\e.2.1<=g.1
theorem A2{g:j0}(h:Q0 g=true):inG g/\(1<=g.1/\g.1<=3)/\(1<=g.2.1/\g.2.1<=40)/\g.2.2.length<=120:=by
 obtain⟨r,n,es⟩:=g
 simp only[Q0,inR,Bool.and_eq_true,decide_eq_true_eq]at h
 obtain⟨⟨⟨m,o⟩,p⟩,q⟩:=h
 refine⟨λe s=>?_,o,p,q⟩
 obtain⟨i,b⟩:=List.getElem?_of_mem s
 have a:=a0l m i (Nat.zero_le _) (by have:=(List.getElem?_eq_some_iff.1 b).1;simp only at this;omega)
 rw[H0a b]at a
 simp only[Bool.or_eq_false_iff,Bool.not_eq_false',S05,inR,Bool.and_eq_true,decide_eq_true_eq]at a
 obtain⟨⟨⟨⟨c,d⟩,f,j⟩,k,l⟩,_⟩:=a
 rw[w64 (by omega) (by omega)]at d j
 simp only
 exact⟨⟨c,by omega⟩,⟨f,by omega⟩,k,l⟩
theorem r03{g:j0}(d:inG g)(v x:Int):U0 g v x = -1∨(0<=U0 g v x/\U0 g v x<g.2.1):=by
 unfold U0
 cases hs:L02 g v x with
 |nil=>exact .inl rfl
 |cons a l =>
  right
  have b:a∈L02 g v x:=by rw[hs];exact mS
  obtain⟨e,c,h⟩:=W7.1 (y0g b)
  have:=d e c
  rcases h with⟨_,_,_,rfl⟩|⟨_,_,_,rfl⟩
  ·exact this.2.1
  ·exact this.1
theorem M02{g:j0}(a:inG g)(b:g.2.1<=40)(v x:Int):H0 (U0 g v x):=by
 rcases r03 a v x with h|h
 ·rw[h];decide
 ·constructor<;>omega
def c05(a b:J0):Bool:=decide (a.2.1=b.2.1)&&(decide (a.1=b.1) || decide (a.2.2=b.2.2))
theorem T0b(a b:J0):c05 a b=c05 b a:=by
 unfold c05
 have h:∀ x y:Int,decide (x=y)=decide (y=x):=λx y=>decide_eq_decide.2 ⟨Eq.symm,Eq.symm⟩
 rw[h a.2.1,h a.1,h a.2.2]
def noC(a:J0):List J0->Bool
 | []=>true
 |b::l => !c05 a b&&noC a l
def k09:List J0->Bool
 | []=>true
 |a::l=>noC a l&&k09 l
theorem V0h(a:J0):∀ l,noC a l=true↔∀ b∈l,c05 a b=false
 | []=>by simp[noC]
 |b::l=>by simp[noC,V0h a l]
theorem U0b:∀ l,k09 l=true↔l.Pairwise λa b=>c05 a b=false
 | []=>by simp[k09]
 |a::l=>by simp[k09,U0b l,V0h,List.pairwise_cons]
def D0e:List J0->List J0->Bool
 |_,[]=>true
 |b,a::l=>noC a b&&D0e (b ++ [a]) l
theorem z0g:∀(l f:List J0),D0e f l=true↔l.Pairwise (λa b=>c05 a b=false)/\∀ a∈l,∀ b∈f,c05 a b=false
 | [],f=>by simp[D0e]
 |a::l,f=>by
  simp only[D0e,Bool.and_eq_true,V0h,z0g l,List.pairwise_cons]
  constructor
  ·rintro⟨g,h,e⟩
   refine⟨⟨λb c=>by rw[T0b];exact e b c a (by simp),h⟩,λx d b c=>?_⟩
   rcases List.mem_cons.1 d with rfl|d
   ·exact g b c
   ·exact e x d b (by simp[c])
  ·rintro⟨⟨g,h⟩,e⟩
   refine⟨λb c=>e a mS b c,h,λx d b c=>?_⟩
   rcases List.mem_append.1 c with c|c
   ·exact e x (mC _ d) b c
   ·rw[List.mem_singleton.1 c,T0b];exact g x d
theorem r0n(l:List J0):D0e [] l=k09 l:=by
 rw[Bool.eq_iff_iff,z0g,U0b]
 simp
def K0(g:j0):Bool:=Q0 g&&k09 g.2.2
theorem O0q(a b e c d f:Int):(bif decide (b=d)then(bif decide (a=c)then true else decide (e=f))else false)=c05 (a,b,e) (c,d,f):=by
 unfold c05
 cases decide (b=d)<;>cases decide (a=c)<;>rfl
theorem L0a(l:List J0)(a:J0)(n:l.length<=140737488355328):∀(d k fuel:Nat),k+d=l.length->d<fuel ->
  T6 l a.2.1 a.1 a.2.2 fuel (k:Int)=some (bif noC a (l.drop k)then .inr ()else .inl false)
 |d,k,0,g,hf=>by omega
 |0,k,fuel+1,g,hf=>by
  rw[T6.eq_2,if_neg (by simp;omega),D1 (by omega)]
  rfl
 |d+1,k,fuel+1,g,hf=>by
  have h:k<l.length:=by omega
  have b:=a5 h
  generalize l[k]=x at b
  obtain⟨c,e,f⟩:=a
  obtain⟨i,j,m⟩:=x
  rw[T6.eq_2,if_pos (by simp;omega),Z1 b,oB,G1 b]
  simp only[O0q,noC]
  cases hc:c05 (c,e,f) (i,j,m)with
  |true=>rfl
  |false =>
   rw[if_neg (by simp),P1 h (by omega),L0a l (c,e,f) n d (k+1) fuel (by omega) (by omega)]
   simp
theorem U02{a:Type}{xs:List a}{k:Nat}(h:k<=xs.length):m05 xs (k:Int) (xs.length:Int)=some (xs.drop k):=by
 unfold m05
 rw[if_pos ⟨by omega,by omega,by omega⟩]
 simp
theorem M0a(l:List J0)(h:l.length<=140737488355328):∀(d k fuel:Nat),k+d=l.length->d<fuel ->
  U6 l fuel (k:Int)=some (bif k09 (l.drop k)then .inr ()else .inl false)
 |d,k,0,b,hf=>by omega
 |0,k,fuel+1,b,hf=>by
  rw[U6.eq_2,if_neg (by simp;omega),D1 (by omega)]
  rfl
 |d+1,k,fuel+1,b,hf=>by
  have c:k<l.length:=by omega
  have a:=a5 c
  generalize l[k]=x at a
  have h0:=L0a (l.drop (k+1)) x (by simp;omega) (l.drop (k+1)).length 0 P0 (by omega) (W0 (by simp;omega))
  rw[show((0:Nat):Int)=0 from rfl,List.drop_zero]at h0
  obtain⟨e,f,g⟩:=x
  rw[U6.eq_2,if_pos (by simp;omega),Z1 a,oB,G1 a]
  simp only[P1 c (show l.length<=9223372036854775807 by omega),U02 (show k+1<=l.length by omega),oB]
  simp only at h0
  rw[h0,oB]
  simp only[k09]
  cases noC (e,f,g) (l.drop (k+1))with
  |false=>rfl
  |true =>
   simp only[cond_true,l0n,Bool.true_and]
   exact M0a l h d (k+1) fuel (by omega) (by omega)
theorem V8(g:j0)(a:g.2.2.length<=140737488355328):A6 g=some (K0 g):=by
 have b:=H00 g a
 obtain⟨r,n,es⟩:=g
 unfold A6 K0
 simp only[b,oB]
 cases Q0 (r,n,es)with
 |false=>rfl
 |true =>
  have h:=M0a es a es.length 0 P0 (by omega) (W0 a)
  rw[show((0:Nat):Int)=0 from rfl,List.drop_zero]at h
  rw[if_neg (by simp),h,oB]
  cases k09 es<;>rfl
theorem N0a(l:List J0)(q:l.length<=140737488355328){i:Nat}{a:J0}(b:l[i]?=some a):∀(d k fuel:Nat),k+d=i->d<fuel ->
  Q6 (i:Int) l fuel (k:Int)=some (bif noC a ((l.take i).drop k)then .inr ()else .inl false)
 |d,k,0,e,hf=>by omega
 |0,k,fuel+1,e,hf=>by
  have:=(List.getElem?_eq_some_iff.1 b).1
  rw[Q6.eq_2,if_neg (by simp;omega),D1 (by simp;omega)]
  rfl
 |d+1,k,fuel+1,e,hf=>by
  have t:=(List.getElem?_eq_some_iff.1 b).1
  have f:k<l.length:=by omega
  have c:=a5 f
  have g:(l.take i)[k]?=some l[k]:=by rw[List.getElem?_take,if_pos (by omega)];exact c
  have s:=N0a l q b d (k+1) fuel (by omega) (by omega)
  generalize l[k]=x at c g
  obtain⟨h,j,m⟩:=a
  obtain⟨n,o,p⟩:=x
  rw[Q6.eq_2,if_pos (by simp;omega),Z1 b,oB,G1 g]
  simp only[Z1 c,oB,O0q,noC]
  cases hc:c05 (h,j,m) (n,o,p)with
  |true=>rfl
  |false =>
   rw[if_neg (by simp),P1 f (by omega),s]
   simp
theorem k0m{a:Type}{xs:List a}{k:Nat}{x:a}(h:xs[k]?=some x):xs.take (k+1)=xs.take k ++ [x]:=by
 obtain⟨b,rfl⟩:=List.getElem?_eq_some_iff.1 h
 exact List.take_succ_eq_append_getElem b
theorem O0a(r n:Int)(l:List J0)(f:Q0 (r,n,l)=true)(b:l.length<=140737488355328):∀(d k fuel:Nat),k+d=l.length->d<fuel ->
  l5 l r n fuel (k:Int)=some (bif D0e (l.take k) (l.drop k)then .inr ()else .inl false)
 |d,k,0,c,hf=>by omega
 |0,k,fuel+1,c,hf=>by
  have e:decide ((k:Int)<(l.length:Int))=false:=by simp;omega
  rw[l5.eq_2,e,F1,oB,if_neg (by simp),D1 (by omega)]
  rfl
 |d+1,k,fuel+1,c,hf=>by
  have g:k<l.length:=by omega
  have a:=a5 g
  generalize l[k]=x at a
  have h0:=N0a l b a k 0 P0 (by omega) (W0 (by omega))
  rw[show((0:Nat):Int)=0 from rfl,List.drop_zero]at h0
  have e:decide ((k:Int)<(l.length:Int))=true:=by simp;omega
  rw[l5.eq_2,e,j1,S7 (r,n,l) b,oB,f,if_pos (show(bif true then true else false)=true from rfl),h0,oB,G1 a]
  simp only[D0e]
  cases noC x (l.take k)with
  |false=>rfl
  |true =>
   simp only[cond_true,l0n,Bool.true_and]
   rw[P1 g (by omega),←k0m a]
   exact O0a r n l f b d (k+1) fuel (by omega) (by omega)
theorem J5(g:j0)(a:g.2.2.length<=140737488355328):L3 g=some (K0 g):=by
 have b:=S7 g a
 obtain⟨r,n,es⟩:=g
 unfold L3 K0
 simp only[b,oB]
 cases hg:Q0 (r,n,es)with
 |false =>
  have c:l5 es r n P0 0=some (.inr ()):=by
   rw[show P0=(P0-1)+1 from rfl,l5.eq_2]
   by_cases e:decide ((0:Int)<(es.length:Int))=true
   ·rw[e,j1,b,oB,hg,if_neg (by simp)]
   ·rw[Bool.not_eq_true]at e
    rw[e,F1,oB,if_neg (by simp)]
  rw[c]
  rfl
 |true =>
  have h:=O0a r n es hg a es.length 0 P0 (by omega) (W0 a)
  rw[show((0:Nat):Int)=0 from rfl,List.drop_zero,List.take_zero,r0n]at h
  rw[h,oB]
  cases k09 es<;>rfl
def C2(g:j0):Int->List Int->Int×Nat
 |v,[]=>(v,0)
 |v,x::w=>if U0 g v x<0 then(v,0)else((C2 g (U0 g v x) w).1,(C2 g (U0 g v x) w).2+1)
theorem d05(g:j0):∀(w:List Int) (v:Int),(C2 g v w).2<=w.length
 | [],v=>by simp[C2]
 |x::w,v=>by
  have:=d05 g w (U0 g v x)
  unfold C2
  split
  ·simp
  ·simp only[List.length_cons];omega
theorem X07{g:j0}(a:inG g)(b:g.2.1<=40):∀(w:List Int) (v:Int),H0 v->H0 (C2 g v w).1
 | [],v,h=>h
 |x::w,v,h=>by
  unfold C2
  split
  ·exact h
  ·exact X07 a b w _ (M02 a b v x)
def v0q(q:Int×Nat)(n:Nat)(k:Nat):(Int×Int) ⊕ Int:=bif decide (q.2<n)then .inl (q.1,((k+q.2:Nat):Int))else .inr q.1
theorem L0c(r n:Int)(es:List J0)(f:inG (r,n,es))(g:n<=40)(e:es.length<=1099511627776)(w:List Int)(i:∀ x∈w,l4 x)(l:w.length<=140737488355328):∀(d k fuel:Nat) (v:Int),k+d=w.length->d<fuel ->
  P5 w r n es fuel v (k:Int)=some (v0q (C2 (r,n,es) v (w.drop k)) d k)
 |d,k,0,v,c,hf=>by omega
 |0,k,fuel+1,v,c,hf=>by
  rw[P5.eq_2,if_neg (by simp;omega),D1 (by omega)]
  rfl
 |d+1,k,fuel+1,v,c,hf=>by
  have a:k<w.length:=by omega
  have b:=a5 a
  have j:=i _ (List.getElem_mem a)
  generalize w[k]=x at b j
  rw[P5.eq_2,if_pos (by simp;omega),Z1 b,oB,b05 (r,n,es) v x j e,oB,D0 (M02 f g v x),oB,G1 b]
  unfold C2
  by_cases h:U0 (r,n,es) v x<0
  ·rw[if_pos (by simpa using h),if_pos h]
   simp[v0q]
  ·rw[if_neg (by simpa using h),if_neg h,P1 a (by omega),L0c r n es f g e w i l d (k+1) fuel _ (by omega) (by omega)]
   unfold v0q
   simp only[Nat.add_lt_add_iff_right]
   congr 2
   simp only[Nat.add_assoc,Nat.add_comm 1]
theorem Y0o(g:j0)(c:inG g)(d:g.2.1<=40)(b:g.2.2.length<=1099511627776)(v:Int)(w:List Int)(e:∀ x∈w,l4 x)(a:w.length<=140737488355328):j9 g v w=some ((C2 g v w).1,(((C2 g v w).2:Nat):Int)):=by
 obtain⟨r,n,es⟩:=g
 unfold j9
 have h:=L0c r n es c d b w e a w.length 0 P0 v (by omega) (W0 a)
 rw[show((0:Nat):Int)=0 from rfl,List.drop_zero]at h
 have f:=d05 (r,n,es) w v
 simp only[h,oB,v0q]
 by_cases hc:(C2 (r,n,es) v w).2<w.length
 ·simp[hc,i8]
 ·have:(C2 (r,n,es) v w).2=w.length:=by omega
  simp[this,i8]
theorem M0c(r n:Int)(es:List J0)(f:inG (r,n,es))(g:n<=40)(e:es.length<=1099511627776)(w:List Int)(i:∀ x∈w,l4 x)(l:w.length<=140737488355328):∀(d k fuel:Nat) (v:Int),k+d=w.length->d<fuel ->
  R6 w r n es fuel v (k:Int)=some (bif decide ((C2 (r,n,es) v (w.drop k)).2<d)then .inl (-1,false)else .inr (C2 (r,n,es) v (w.drop k)).1)
 |d,k,0,v,c,hf=>by omega
 |0,k,fuel+1,v,c,hf=>by
  rw[R6.eq_2,if_neg (by simp;omega),D1 (by omega)]
  rfl
 |d+1,k,fuel+1,v,c,hf=>by
  have a:k<w.length:=by omega
  have b:=a5 a
  have j:=i _ (List.getElem_mem a)
  generalize w[k]=x at b j
  rw[R6.eq_2,if_pos (by simp;omega),Z1 b,oB,L03 (r,n,es) v x j e,oB,D0 (M02 f g v x),oB,G1 b]
  unfold C2
  by_cases h:U0 (r,n,es) v x<0
  ·rw[if_pos (by simpa using h),if_pos h]
   simp
  ·rw[if_neg (by simpa using h),if_neg h,P1 a (by omega),M0c r n es f g e w i l d (k+1) fuel _ (by omega) (by omega)]
   simp only[Nat.add_lt_add_iff_right]
theorem Z0o(g:j0)(hf:K0 g=true)(v:Int)(j:0<=v/\v<g.2.1)(w:List Int)(k:∀ x∈w,l4 x)(a:w.length<=140737488355328):
  l00 g v w=some (bif decide ((C2 g v w).2<w.length)then(-1,false)else((C2 g v w).1,true)):=by
 have f:Q0 g=true:=by unfold K0 at hf;simp only[Bool.and_eq_true]at hf;exact hf.1
 obtain⟨e,_,b,d⟩:=A2 f
 have c:=J5 g (by omega)
 obtain⟨r,n,es⟩:=g
 simp only at j b d
 unfold l00
 have h:=M0c r n es e b.2 (by omega) w k a w.length 0 P0 v (by omega) (W0 a)
 rw[show((0:Nat):Int)=0 from rfl,List.drop_zero]at h
 have i:inR 0 (n-1) v=true:=by simp only[inR,Bool.and_eq_true,decide_eq_true_eq];omega
 simp only[c,hf,oB,Bool.not_true,Bool.not_false,j1,d01,w64 (show -9223372036854775808<=n-1 by omega) (show n-1<=9223372036854775807 by omega),i,cond_false,Bool.false_eq_true,if_false,h]
 cases decide ((C2 (r,n,es) v w).2<w.length)<;>rfl
theorem C1{g:j0}(h:K0 g=true):inG g/\(1<=g.1/\g.1<=3)/\(1<=g.2.1/\g.2.1<=40)/\g.2.2.length<=120:=by
 unfold K0 at h
 simp only[Bool.and_eq_true]at h
 exact A2 h.1
def a0p(v:Int)(e:J0):Nat:=(if e.1=v then 1 else 0)+(if e.2.2=v then 1 else 0)
def s03(v:Int):List J0->Nat
 | []=>0
 |e::r=>a0p v e+s03 v r
theorem w0q(v:Int)(e:J0):a0p v e<=2:=by unfold a0p;split<;>split<;>omega
theorem W0h(v:Int):∀ l,s03 v l<=2*l.length
 | []=>by simp[s03]
 |e::r=>by have:=w0q v e;have:=W0h v r;simp only[s03,List.length_cons];omega
theorem E0e(es:List J0)(v:Int)(o:es.length<=1099511627776):∀(d k fuel acc:Nat),k+d=es.length->d<fuel->acc<=2*k ->
  A3 es v fuel (acc:Int) (k:Int)=some ((acc+s03 v (es.drop k):Nat):Int)
 |d,k,0,acc,j,hf,i=>by omega
 |0,k,fuel+1,acc,j,hf,i=>by
  rw[A3.eq_2,if_neg (by simp;omega),D1 (by omega)];rfl
 |d+1,k,fuel+1,acc,j,hf,i=>by
  have m:k<es.length:=by omega
  have f:=a5 m
  generalize es[k]=e at f
  obtain⟨a,l,b⟩:=e
  have c:=λn h=>E0e es v o d (k+1) fuel n (by omega) (by omega) h
  have g:IntKind.i64.wrap ((acc:Int)+1)=((acc+1:Nat):Int):=by rw[w64 (by omega) (by omega)];rfl
  have p:IntKind.i64.wrap (((acc+1:Nat):Int)+1)=((acc+2:Nat):Int):=by rw[w64 (by omega) (by omega)];rfl
  rw[A3.eq_2,if_pos (by simp;omega),Z1 f,G1 f]
  simp only[oB,s03,a0p,P1 m (show es.length<=9223372036854775807 by omega)]
  by_cases c1:a=v
  ·rw[if_pos (by simpa using c1),if_pos c1]
   by_cases c2:b=v
   ·rw[if_pos (by simpa using c2),if_pos c2,g,p,c _ (by omega)];congr 2;omega
   ·rw[if_neg (by simpa using c2),if_neg c2,g,c _ (by omega)];congr 2;omega
  ·rw[if_neg (by simpa using c1),if_neg c1]
   by_cases c2:b=v
   ·rw[if_pos (by simpa using c2),if_pos c2,g,c _ (by omega)];congr 2;omega
   ·rw[if_neg (by simpa using c2),if_neg c2,c _ (by omega)];congr 2;omega
theorem F0e(es:List J0)(v:Int):∀(fuel:Nat) (x y:Int),n5 es v fuel x y=A3 es v fuel x y
 |0,x,y=>rfl
 |fuel+1,x,y=>by
  rw[n5.eq_2,A3.eq_2]
  simp only[F0e es v fuel]
  by_cases c:(decide (y<((es.length:Nat):Int)))=true
  ·rw[if_pos c,if_pos c]
   cases hg:gi es y with
   |none=>rfl
   |some e=>simp only[oB]
  ·rw[if_neg c,if_neg c]
theorem A0g(g:j0)(v:Int)(a:g.2.2.length<=1099511627776):m00 g v=some ((s03 v g.2.2:Nat):Int):=by
 obtain⟨r,n,es⟩:=g
 unfold m00
 have h:=E0e es v a es.length 0 P0 0 (by omega) (W0 (by simp only at a;omega)) (Nat.zero_le _)
 rw[show((0:Nat):Int)=0 from rfl,List.drop_zero,Nat.zero_add]at h
 simp only[h,oB]
theorem s0n(g:j0)(v:Int)(a:g.2.2.length<=1099511627776):j01 g v=some ((s03 v g.2.2:Nat):Int):=by
 have h:=A0g g v a
 obtain⟨r,n,es⟩:=g
 unfold j01
 unfold m00 at h
 simp only[F0e]at h ⊢
 exact h
def G0e(g h:j0):Bool:=decide (g=h)
theorem E0d(x y:J0):eqE x y=true↔x=y:=by simp[eqE]
theorem N0c(a b:List J0)(l:a.length=b.length)(j:a.length<=9223372036854775807):∀(d k fuel:Nat),k+d=a.length->d<fuel ->
  H1 a b fuel (k:Int)=some (if a.drop k=b.drop k then .inr ()else .inl false)
 |d,k,0,g,hf=>by omega
 |0,k,fuel+1,g,hf=>by
  rw[H1.eq_2,if_neg (by simp;omega),D1 (by omega),D1 (by omega)];rfl
 |d+1,k,fuel+1,g,hf=>by
  have i:k<a.length:=by omega
  have m:k<b.length:=by omega
  have e:=a5 i
  have f:=a5 m
  generalize a[k]=x at e
  generalize b[k]=y at f
  have o:=N0c a b l j d (k+1) fuel (by omega) (by omega)
  rw[H1.eq_2,if_pos (by simp;omega),Z1 e,Z1 f,G1 e,G1 f]
  simp only[oB,P1 i j,o]
  by_cases c:x=y
  ·subst c
   rw[if_neg (by simp[eqE])]
   simp
  ·have n:eqE x y=false:=Bool.eq_false_iff.2 λh=>c ((E0d x y).1 h)
   rw[if_pos (show(!eqE x y)=true by rw[n];rfl),if_neg (by simp[c])]
theorem H0e(a b:List J0)(d:a.length<=9223372036854775807):J2 a b=some (decide (a=b)):=by
 unfold J2
 by_cases hab:a.length=b.length
 ·have h:=N0c a b hab d a.length 0 P0 (by omega) (by unfold P0;omega)
  rw[if_neg (by simp;omega),show(0:Int)=((0:Nat):Int) from rfl,h,List.drop_zero,List.drop_zero]
  by_cases c:a=b
  ·rw[if_pos c];simp[i8,c]
  ·rw[if_neg c];simp[i8,c]
 ·rw[if_pos (by simp;omega)]
  congr 1
  symm
  simp
  intro h;exact hab (by rw[h])
theorem B0g(g h:j0)(b:g.2.2.length<=9223372036854775807):G8 g h=some (G0e g h):=by
 obtain⟨r,n,es⟩:=g
 obtain⟨d,c,a⟩:=h
 unfold G8 G0e
 simp only[Prod.mk.injEq]
 by_cases c1:r=d<;>by_cases c2:n=c<;>simp[c1,c2,j1,F1,H0e es a b]
theorem C0g(a b:List J0):∀(fuel:Nat) (k:Int),i6 a b fuel k=H1 a b fuel k
 |0,k=>rfl
 |fuel+1,k=>by
  rw[i6.eq_2,H1.eq_2]
  simp only[C0g a b fuel]
theorem D0g(g h:j0)(b:g.2.2.length<=9223372036854775807):F8 g h=some (G0e g h):=by
 have a:=H0e g.2.2 h.2.2 b
 obtain⟨r,n,es⟩:=g
 obtain⟨d,c,e⟩:=h
 unfold F8 G0e
 unfold J2 at a
 simp only[C0g,Prod.mk.injEq]at a ⊢
 by_cases c1:r=d
 ·by_cases c2:n=c
  ·simp only[c1,c2,decide_true,Bool.not_true,cond_false,true_and]
   rw[←a]
  ·simp[c1,c2]
 ·simp[c1]
def goE(x:J0):List J0->Bool×List J0
 | []=>(false,[])
 |y::l=>if O0 x y<0 then(true,x::y::l)else if O0 x y=0 then(true,y::l)else((goE x l).1,y::(goE x l).2)
theorem l0m(x:J0):∀ l,t00 O0 x l=bif(goE x l).1 then(goE x l).2 else(goE x l).2 ++ [x]
 | []=>rfl
 |y::l=>by
  have a:=l0m x l
  unfold t00 goE
  by_cases c1:O0 x y<0
  ·rw[if_pos c1,if_pos c1];rfl
  ·rw[if_neg c1,if_neg c1]
   by_cases c2:O0 x y=0
   ·rw[if_pos c2,if_pos c2];rfl
   ·rw[if_neg c2,if_neg c2,a];cases (goE x l).1<;>rfl
theorem V0b(l:List J0)(w0 i j:Int)(n:l.length<=1099511627776):∀(d k fuel:Nat) (acc:List J0),k+d=l.length->d<fuel->acc.length<=k+1 ->
  i4 l w0 i j fuel true (k:Int) acc=some (true,acc++l.drop k)
 |d,k,0,acc,g,hf,f=>by omega
 |0,k,fuel+1,acc,g,hf,f=>by
  rw[i4.eq_2,if_neg (by simp;omega),D1 (by omega),List.append_nil]
 |d+1,k,fuel+1,acc,g,hf,f=>by
  have h:k<l.length:=by omega
  have c:=a5 h
  generalize l[k]=e at c
  obtain⟨a,x,b⟩:=e
  have o:=V0b l w0 i j n d (k+1) fuel (acc ++ [(a,x,b)]) (by omega) (by omega) (by simp;omega)
  rw[i4.eq_2,if_pos (by simp;omega),G1 c]
  simp only[Z1 c,oB,T02,D0 (D0d _ _),P1 h (show l.length<=9223372036854775807 by omega),Bool.not_true]
  have m:∀ b:Bool,(bif b then false else false)=false:=λb=>by cases b<;>rfl
  simp only[m,Bool.false_eq_true,if_false]
  rw[D0 (by simp;omega),oB,o]
  simp
theorem I0e(l:List J0)(w0 c f:Int)(h:l.length<=1099511627776):∀(d k fuel:Nat) (acc:List J0),k+d=l.length->d<fuel->acc.length=k ->
  i4 l w0 c f fuel false (k:Int) acc=some ((goE (w0,c,f) (l.drop k)).1,acc++(goE (w0,c,f) (l.drop k)).2)
 |d,k,0,acc,j,hf,i=>by omega
 |0,k,fuel+1,acc,j,hf,i=>by
  rw[i4.eq_2,if_neg (by simp;omega),D1 (by omega)];simp[goE]
 |d+1,k,fuel+1,acc,j,hf,i=>by
  have m:k<l.length:=by omega
  have g:=a5 m
  generalize l[k]=e at g
  obtain⟨a,x,b⟩:=e
  have n:=I0e l w0 c f h d (k+1) fuel (acc ++ [(a,x,b)]) (by omega) (by omega) (by simp;omega)
  have o:=V0b l w0 c f h d (k+1) fuel (acc ++ [(a,x,b)]) (by omega) (by omega) (by simp;omega)
  have p:=V0b l w0 c f h d (k+1) fuel ((acc ++ [(w0,c,f)]) ++ [(a,x,b)]) (by omega) (by omega) (by simp;omega)
  rw[i4.eq_2,if_pos (by simp;omega),G1 g]
  simp only[Z1 g,oB,T02,D0 (D0d _ _),P1 m (show l.length<=9223372036854775807 by omega),Bool.not_true,Bool.not_false,goE]
  show _=_
  unfold y0e
  by_cases c1:O0 (w0,c,f) (a,x,b)=0
  ·rw[if_pos (by simpa using c1),if_neg (by simp[c1]),if_neg (by omega),if_pos c1]
   rw[D0 (by simp;omega),oB,o];simp
  ·rw[if_neg (by simpa using c1)]
   by_cases c2:O0 (w0,c,f) (a,x,b)<0
   ·rw[if_pos (by simp[c2]),if_pos c2,D0 (by simp;omega),oB,D0 (by simp;omega),oB,p];simp
   ·rw[if_neg (by simp[c2]),if_neg c2,if_neg c1,D0 (by simp;omega),oB,n];simp
theorem H05(l:List J0)(e:J0)(c:l.length<=1099511627776):w7 l e=some (t00 O0 e l):=by
 obtain⟨w0,a,b⟩:=e
 unfold w7
 have h:=I0e l w0 a b c l.length 0 P0 [] (by omega) (W0 (by omega)) rfl
 rw[show((0:Nat):Int)=0 from rfl,List.drop_zero,List.nil_append]at h
 simp only[h,oB,l0m]
 have d:∀ l:List J0,(goE (w0,a,b) l).2.length<=l.length+1:=λl=>by
  induction l with
  |nil=>simp[goE]
  |cons y l f =>
   unfold goE
   split
   ·simp
   ·split
    ·simp
    ·simp only[List.length_cons];omega
 have:=d l
 cases (goE (w0,a,b) l).1 with
 |true=>rfl
 |false =>
  simp only[Bool.not_false,if_true,cond_false]
  rw[D0 (by simp;omega),oB]
theorem u06(e:J0):∀ l:List J0,(t00 O0 e l).length<=l.length+1
 | []=>by simp[t00]
 |y::l=>by
  have:=u06 e l
  unfold t00
  split
  ·simp
  ·split
   ·simp
   ·simp only[List.length_cons];omega
theorem P0a(es:List J0)(a:es.length<=1099511627776):K9 es=some (w5 O0 [] es):=by
 unfold K9
 rw[D0 (by simp;omega),oB,D0 (by simp;omega),oB,List.nil_append]
 exact congrArg some (x0j K6 E0d es es λ_=>Iff.rfl)
theorem X01(g:j0)(a:g.2.2.length<=1099511627776):H4 g=some g:=by
 obtain⟨r,n,es⟩:=g
 unfold H4
 simp only
 rw[D0 (by simp only[List.length_nil,Nat.zero_add];simp only at a;omega)];rfl
theorem e01(g:j0)(a:g.2.2.length<=1099511627776):W3 g=some g:=by
 obtain⟨r,n,es⟩:=g
 unfold W3
 simp only
 rw[D0 (by simp only[List.length_nil,Nat.zero_add];simp only at a;omega)];rfl
inductive Rch (es:List J0) (v:Int):Int->Prop
 |base:Rch es v v
 |fwd {e:J0}:e∈es->Rch es v e.1->Rch es v e.2.2
 |bwd {e:J0}:e∈es->Rch es v e.2.2->Rch es v e.1
theorem Rch.closed{es:List J0}{v:Int}:∀ e∈es,Rch es v e.1↔Rch es v e.2.2:=λe a=>⟨.fwd a,.bwd a⟩
theorem Rch.sub{es:List J0}{v:Int}{P:Int->Prop}(c:P v)(a:∀ e∈es,P e.1↔P e.2.2):∀ {x},Rch es v x->P x
 |_,.base=>c
 |_,.fwd b h=>(a _ b).1 (Rch.sub c a h)
 |_,.bwd b h=>(a _ b).2 (Rch.sub c a h)
def P9(S:List Bool)(i:Int):Bool:=S.getD i.toNat false
def stJ(S:List Bool)(e:J0):List Bool:=(S.set e.1.toNat true).set e.2.2.toNat true
def pJ:List J0->Bool->List Bool->Bool×List Bool
 | [],c,S=>(c,S)
 |e::r,c,S=>bif P9 S e.1 == P9 S e.2.2 then pJ r c S else pJ r true (stJ S e)
def cF:List Bool->Nat
 | []=>0
 |b::r=>(bif b then 0 else 1)+cF r
theorem b0l:∀(S:List Bool) (i:Nat),cF (S.set i true)<=cF S
 | [],i=>by simp[cF]
 |b::r,0=>by simp[cF]
 |b::r,i+1=>by have:=b0l r i;simp only[List.set_cons_succ,cF];omega
theorem b0p:∀(S:List Bool) (i:Nat),S[i]?=some false->cF (S.set i true)<cF S
 | [],i,h=>by simp at h
 |b::r,0,h=>by simp at h;subst h;simp[cF]
 |b::r,i+1,h=>by have:=b0p r i (by simpa using h);simp only[List.set_cons_succ,cF];omega
theorem P0q:∀ S:List Bool,cF S<=S.length
 | []=>by simp[cF]
 |b::r=>by have:=P0q r;cases b<;>simp only[cF,List.length_cons,cond_true,cond_false]<;>omega
def inN(n:Nat)(es:List J0):Prop:=∀ e∈es,(0<=e.1/\e.1<(n:Int))/\(0<=e.2.2/\e.2.2<(n:Int))
theorem Y07{S:List Bool}{i:Nat}(h:i<S.length)(x:Int):P9 (S.set i true) x=(decide (x.toNat=i) || P9 S x):=by
 unfold P9
 rw[List.getD_eq_getElem?_getD,List.getD_eq_getElem?_getD,List.getElem?_set]
 by_cases c:i=x.toNat
 ·rw[if_pos c,if_pos (by omega)];simp[c]
 ·rw[if_neg c]
  have:decide (x.toNat=i)=false:=by simp;exact λe=>c e.symm
  rw[this];rfl
theorem c0l:∀(es:List J0) (c:Bool) (S:List Bool),(pJ es c S).2.length=S.length
 | [],c,S=>rfl
 |e::r,c,S=>by
  unfold pJ
  cases P9 S e.1 == P9 S e.2.2
  ·simp only[cond_false];rw[c0l r];simp[stJ]
  ·simp only[cond_true];exact c0l r c S
theorem X0h{n:Nat}:∀(es:List J0) (c:Bool) (a:List Bool),a.length=n->inN n es->∀ x,P9 a x=true->P9 (pJ es c a).2 x=true
 | [],c,a,b,d,x,h=>h
 |e::r,c,a,b,d,x,h=>by
  have f:=d e mS
  have g:inN n r:=λe f=>d e (mC _ f)
  unfold pJ
  cases P9 a e.1 == P9 a e.2.2
  ·simp only[cond_false]
   refine X0h r _ _ (by simp[stJ,b]) g x ?_
   rw[stJ,Y07 (by rw[List.length_set];omega),Y07 (by omega),h];simp
  ·simp only[cond_true];exact X0h r c a b g x h
theorem J0e{n:Nat}{P:Int->Prop}:∀(es:List J0) (c:Bool) (a:List Bool),a.length=n->inN n es->(∀ e∈es,P e.1↔P e.2.2)->(∀ x,0<=x->P9 a x=true->P x)->∀ x,0<=x->P9 (pJ es c a).2 x=true->P x
 | [],c,a,g,i,f,d,x,h0,h=>d x h0 h
 |e::r,c,a,g,i,f,d,x,h0,h=>by
  have b:=i e mS
  have m:inN n r:=λe b=>i e (mC _ b)
  have j:=λe b=>f e (mC _ b)
  have k:=f e mS
  unfold pJ at h
  cases hb:P9 a e.1 == P9 a e.2.2
  ·rw[hb]at h
   refine J0e r true (stJ a e) (by simp[stJ,g]) m j (λy o h=>?_) x h0 h
   rw[stJ,Y07 (by rw[List.length_set];omega),Y07 (by omega)]at h
   simp only[Bool.or_eq_true,decide_eq_true_eq]at h
   have l:P e.1∨P e.2.2:=by
    cases h1:P9 a e.1
    ·cases h2:P9 a e.2.2
     ·rw[h1,h2]at hb;cases hb
     ·exact .inr (d _ b.2.1 h2)
    ·exact .inl (d _ b.1.1 h1)
   rcases h with h|h|h
   ·have:y=e.2.2:=by omega
    subst this;exact l.elim k.1 id
   ·have:y=e.1:=by omega
    subst this;exact l.elim id k.2
   ·exact d y o h
  ·rw[hb]at h
   exact J0e r c a g m j d x h0 h
theorem d0l{n:Nat}:∀(es:List J0) (c:Bool) (a:List Bool),a.length=n->inN n es->cF (pJ es c a).2<=cF a/\((pJ es c a).1=true->c=true∨cF (pJ es c a).2<cF a)/\((pJ es c a).1=false->c=false/\(pJ es c a).2=a/\∀ e∈es,P9 a e.1=P9 a e.2.2)
 | [],c,a,k,l=>⟨Nat.le_refl _,λh => .inl h,λh=>⟨h,rfl,λe b=>nomatch b⟩⟩
 |e::r,c,a,k,l=>by
  have b:=l e mS
  have s:inN n r:=λe b=>l e (mC _ b)
  unfold pJ
  cases hb:P9 a e.1 == P9 a e.2.2
  ·simp only[cond_false]
   obtain⟨m,o,d⟩:=d0l r true (stJ a e) (by simp[stJ,k]) s
   have v:cF (stJ a e)<cF a:=by
    have g:∀(x:Int),0<=x->x<n->P9 a x=false->a[x.toNat]?=some false:=λx w y j=>by
     have p:x.toNat<a.length:=by omega
     unfold P9 at j
     rw[List.getD_eq_getElem?_getD,List.getElem?_eq_getElem p]at j
     rw[List.getElem?_eq_getElem p];simpa using j
    cases g1:P9 a e.1
    ·have:=b0p a _ (g _ b.1.1 b.1.2 g1)
     have:=b0l (a.set e.1.toNat true) e.2.2.toNat
     unfold stJ;omega
    ·have f:P9 a e.2.2=false:=by
      cases f:P9 a e.2.2
      ·rfl
      ·rw[g1,f]at hb;cases hb
     have u:(a.set e.1.toNat true)[e.2.2.toNat]?=some false:=by
      rw[List.getElem?_set]
      by_cases q:e.1.toNat=e.2.2.toNat
      ·exfalso
       have:e.1=e.2.2:=by omega
       rw[this,f]at g1;cases g1
      ·rw[if_neg q];exact g _ b.2.1 b.2.2 f
     have:=b0p _ _ u
     have:=b0l a e.1.toNat
     unfold stJ;omega
   refine⟨by omega,λ_ => .inr (by omega),λh=>?_⟩
   have:=(d h).1;cases this
  ·simp only[cond_true]
   obtain⟨m,o,d⟩:=d0l r c a k s
   refine⟨m,o,λh=>⟨(d h).1,(d h).2.1,λt i=>?_⟩⟩
   rcases List.mem_cons.1 i with rfl|i
   ·simpa using hb
   ·exact(d h).2.2 t i
theorem giB{a:List Bool}{n:Nat}(f:a.length=n){x:Int}(h0:0<=x)(d:x<n):gi a x=some (P9 a x):=by
 have c:x.toNat<a.length:=by omega
 have e:x=((x.toNat:Nat):Int):=by omega
 have b:gi a ((x.toNat:Nat):Int)=some (P9 a x):=by
  rw[Q0b,List.getElem?_eq_getElem c]
  unfold P9
  rw[List.getD_eq_getElem?_getD,List.getElem?_eq_getElem c];rfl
 rw[←e]at b;exact b
theorem E0g(es:List J0){n:Nat}(q:inN n es)(p:es.length<=9223372036854775807):∀(d k fuel:Nat) (c:Bool) (f:List Bool),f.length=n->k+d=es.length->d<fuel ->
  P3 es fuel c (k:Int) f=some (pJ (es.drop k) c f)
 |d,k,0,c,f,g,m,hf=>by omega
 |0,k,fuel+1,c,f,g,m,hf=>by
  rw[P3.eq_2,if_neg (by simp;omega),D1 (by omega)];rfl
 |d+1,k,fuel+1,c,f,g,m,hf=>by
  have o:k<es.length:=by omega
  have j:=a5 o
  have i:=q _ (List.mem_of_getElem? j)
  generalize es[k]=e at j i
  obtain⟨a,l,b⟩:=e
  have s:=λu t h=>E0g es q p d (k+1) fuel u t h (by omega) (by omega)
  rw[P3.eq_2,if_pos (by simp;omega),G1 j]
  simp only[Z1 j,oB,giB g i.1.1 i.1.2,giB g i.2.1 i.2.2,P1 o p,giB (show(f.set a.toNat true).length=n by simp[g]) i.2.1 i.2.2,pJ]
  cases hb:P9 f a == P9 f b
  ·simp only[Bool.not_false,if_true,cond_false]
   exact s _ _ (by simp[g])
  ·simp only[Bool.not_true,Bool.false_eq_true,if_false,cond_true]
   exact s _ _ g
theorem F0g(es:List J0){n:Nat}(f:inN n es)(z:es.length<=9223372036854775806):∀(m fuel:Nat) (a:List Bool),a.length=n->cF a<=m->m+1<fuel ->
  ∃ b,O4 es fuel true a=some b/\b.length=n/\(∀ x,P9 a x=true->P9 b x=true)/\(∀ e∈es,P9 b e.1=P9 b e.2.2) /\
   ∀ P:Int->Prop,(∀ e∈es,P e.1↔P e.2.2)->(∀ x,0<=x->P9 a x=true->P x)->∀ x,0<=x->P9 b x=true->P x
 |m,0,a,d,B,hf=>by omega
 |m,fuel+1,a,d,B,hf=>by
  have h0:=E0g es f (by omega) es.length 0 P0 false a d (by omega) (by unfold P0;omega)
  rw[show((0:Nat):Int)=0 from rfl,List.drop_zero]at h0
  obtain⟨p,i,j⟩:=d0l es false a d f
  have A:=c0l es false a
  rw[O4.eq_2,if_pos rfl,h0,oB]
  have l:=X0h es false a d f
  have o:=λP=>J0e (P:=P) es false a d f
  generalize pJ es false a=q at *
  obtain⟨c,b⟩:=q
  simp only at p i j A l o ⊢
  cases c with
  |true =>
   rcases i rfl with h|h
   ·cases h
   ·obtain⟨S2,s,t,u,v,w⟩:=F0g es f z (m-1) fuel b (by omega) (by omega) (by omega)
    exact⟨S2,s,t,λx C=>u x (l x C),v,λP k g=>w P k (o P k g)⟩
  |false =>
   obtain⟨_,e,y⟩:=j rfl
   subst e
   obtain _|fuel:=fuel
   ·omega
   ·rw[O4.eq_2,if_neg (by simp)]
    exact⟨_,rfl,d,λx h=>h,y,λP _ g=>g⟩
theorem B0j(r:Int)(n:Nat)(es:List J0)(p:inN n es)(o:es.length<=9223372036854775806)(s:1<=n)(t:n<=140737488355328):
  ∃ a,C9 (r,(n:Int),es) 0=some a/\a.length=n/\∀ x,0<=x->x<(n:Int)->(P9 a x=true↔Rch es 0 x):=by
 unfold C9
 simp only[Int.toNat_natCast]
 have m:gi (List.replicate n (false:Bool)) 0=some false:=by
  rw[U0h (x:=false)];rw[List.getElem?_replicate,if_pos (by omega)]
 rw[D0 (by omega),oB,m,oB]
 have k:((List.replicate n (false:Bool)).set (0:Int).toNat true).length=n:=by simp
 obtain⟨b,d,f,g,i,j⟩:=F0g es p o n P0 _ k (by have:=P0q ((List.replicate n (false:Bool)).set (0:Int).toNat true);omega) (by unfold P0;omega)
 rw[d]
 have c:∀ x,P9 ((List.replicate n (false:Bool)).set (0:Int).toNat true) x=decide (x.toNat=0):=λx=>by
  rw[Y07 (by simp;omega)]
  have:P9 (List.replicate n false) x=false:=by
   unfold P9
   rw[List.getD_eq_getElem?_getD,List.getElem?_replicate]
   split<;>rfl
  rw[this];simp
 refine⟨b,rfl,f,λx h0 q=>⟨λh=>?_,λh=>?_⟩⟩
 ·refine j (Rch es 0) Rch.closed (λy u h=>?_) x h0 h
  rw[c]at h
  have:y=0:=by simp at h;omega
  subst this;exact .base
 ·exact Rch.sub (P:=λx=>P9 b x=true) (g 0 (by rw[c];rfl)) (λe l=>by rw[i e l]) h
theorem Q0q(l:List Int)(w:Int)(g:l.length<=9223372036854775807):∀(d k fuel:Nat),k+d=l.length->d<fuel ->
  T8 l w fuel (k:Int)=some (if w∈l.drop k then .inl true else .inr ())
 |d,k,0,b,hf=>by omega
 |0,k,fuel+1,b,hf=>by
  rw[T8.eq_2,if_neg (by simp;omega),D1 (by omega)];simp
 |d+1,k,fuel+1,b,hf=>by
  have f:k<l.length:=by omega
  have a:=a5 f
  generalize l[k]=x at a
  have i:=Q0q l w g d (k+1) fuel (by omega) (by omega)
  rw[T8.eq_2,if_pos (by simp;omega),G1 a]
  simp only[Z1 a,oB,P1 f g,i,List.mem_cons]
  by_cases c:x=w
  ·rw[if_pos (by simpa using c),if_pos (.inl c.symm)]
  ·rw[if_neg (by simpa using c)]
   by_cases c2:w∈l.drop (k+1)
   ·rw[if_pos c2,if_pos (.inr c2)]
   ·rw[if_neg c2,if_neg (λh=>h.elim (λe=>c e.symm) c2)]
theorem L08(l:List Int)(w:Int)(a:l.length<=9223372036854775807):O8 l w=some (decide (w∈l)):=by
 unfold O8
 have h:=Q0q l w a l.length 0 P0 (by omega) (by unfold P0;omega)
 rw[show((0:Nat):Int)=0 from rfl,List.drop_zero]at h
 rw[h,oB]
 by_cases c:w∈l
 ·rw[if_pos c];simp[i8,c]
 ·rw[if_neg c];simp[i8,c]
def s1(u:List Int)(e:J0):List Int:=if e.1∈u then t00 d9 e.2.2 u else u
def s2(u:List Int)(e:J0):List Int:=if e.2.2∈u then t00 d9 e.1 u else u
def pS:List J0->List Int->List Int
 | [],u=>u
 |e::r,u=>pS r (s2 (s1 u e) e)
theorem W0b{u:List Int}{e:J0}{x:Int}:x∈s1 u e↔x∈u∨(e.1∈u/\x=e.2.2):=by
 unfold s1
 split
 ·rename_i h;rw[U07 E02];constructor
  ·rintro(a|a)
   ·exact .inr ⟨h,a⟩
   ·exact .inl a
  ·rintro(a|⟨_,a⟩)
   ·exact .inr a
   ·exact .inl a
 ·rename_i h;constructor
  ·exact .inl
  ·rintro(a|⟨a,_⟩)
   ·exact a
   ·exact absurd a h
theorem X0b{u:List Int}{e:J0}{x:Int}:x∈s2 u e↔x∈u∨(e.2.2∈u/\x=e.1):=by
 unfold s2
 split
 ·rename_i h;rw[U07 E02];constructor
  ·rintro(a|a)
   ·exact .inr ⟨h,a⟩
   ·exact .inl a
  ·rintro(a|⟨_,a⟩)
   ·exact .inr a
   ·exact .inl a
 ·rename_i h;constructor
  ·exact .inl
  ·rintro(a|⟨a,_⟩)
   ·exact a
   ·exact absurd a h
theorem c0p(u:List Int)(e:J0):(s1 u e).length<=u.length+1:=by
 unfold s1;split
 ·exact t06 _ _
 ·omega
theorem d0p(u:List Int)(e:J0):(s2 u e).length<=u.length+1:=by
 unfold s2;split
 ·exact t06 _ _
 ·omega
theorem e0l:∀(es:List J0) (u:List Int),(pS es u).length<=u.length+2*es.length
 | [],u=>by simp[pS]
 |e::r,u=>by
  have:=e0l r (s2 (s1 u e) e)
  have:=d0p (s1 u e) e
  have:=c0p u e
  simp only[pS,List.length_cons];omega
theorem a07:∀(es:List J0) (u:List Int) (x:Int),x∈u->x∈pS es u
 | [],u,x,h=>h
 |e::r,u,x,h=>a07 r _ x (X0b.2 (.inl (W0b.2 (.inl h))))
theorem K0e{P:Int->Prop}:∀(es:List J0) (u:List Int),(∀ e∈es,P e.1↔P e.2.2)->(∀ x∈u,P x)->∀ x∈pS es u,P x
 | [],u,b,a=>a
 |e::r,u,b,a=>K0e r _ (λe f=>b e (mC _ f)) λx g=>by
  have d:=b e mS
  have c:∀ y∈s1 u e,P y:=λy i=>by
   rcases W0b.1 i with h|⟨h,rfl⟩
   ·exact a y h
   ·exact d.1 (a _ h)
  rcases X0b.1 g with h|⟨h,rfl⟩
  ·exact c x h
  ·exact d.2 (c _ h)
theorem C0j:∀(es:List J0) (u:List Int) (e:J0),e∈es->e.1∈u∨e.2.2∈u->e.1∈pS es u/\e.2.2∈pS es u
 |c::r,u,e,a,h=>by
  simp only[pS]
  rcases List.mem_cons.1 a with rfl|a
  ·have b:e.2.2∈s1 u e:=by
    rcases h with h|h
    ·exact W0b.2 (.inr ⟨h,rfl⟩)
    ·exact W0b.2 (.inl h)
   exact⟨a07 r _ _ (X0b.2 (.inr ⟨b,rfl⟩)),a07 r _ _ (X0b.2 (.inl b))⟩
  ·exact C0j r _ e a (h.imp (λh=>X0b.2 (.inl (W0b.2 (.inl h)))) λh=>X0b.2 (.inl (W0b.2 (.inl h))))
def act(es:List J0)(u:List Int):Nat:=es.countP λe=>decide (e.1∈u)&&decide (e.2.2∈u)
def clo(es:List J0)(u:List Int):Prop:=∀ e∈es,e.1∈u↔e.2.2∈u
theorem s0r(es:List J0)(u:List Int):act es u<=es.length:=List.countP_le_length
theorem G0g{e:Type}{p q:e->Bool}:∀ {l:List e},(∀ x∈l,p x=true->q x=true)->(∃ x∈l,p x=false/\q x=true)->l.countP p<l.countP q
 | [],_,⟨x,a,_⟩=>nomatch a
 |y::l,h,⟨x,a,c,d⟩=>by
  have f:l.countP p<=l.countP q:=List.countP_mono_left λz b=>h z (mC _ b)
  rcases List.mem_cons.1 a with rfl|a
  ·rw[List.countP_cons_of_neg (by simp[c]),List.countP_cons_of_pos d];omega
  ·have g:=G0g (l:=l) (λz b=>h z (mC _ b)) ⟨x,a,c,d⟩
   cases hp:p y
   ·rw[List.countP_cons_of_neg (by simp[hp])]
    have:l.countP q<=(y::l).countP q:=by rw[List.countP_cons];omega
    omega
   ·rw[List.countP_cons_of_pos hp,List.countP_cons_of_pos (h y mS hp)];omega
theorem Q0a{es:List J0}{u:List Int}(h:clo es u)(x:Int):x∈pS es u↔x∈u :=
 ⟨K0e (P:=λx=>x∈u) es u h (λ_ h=>h) x,a07 es u x⟩
theorem e0p{es:List J0}{u:List Int}:clo es (pS es u)∨act es u<act es (pS es u):=by
 by_cases h:clo es u
 ·left
  intro e a
  rw[Q0a h,Q0a h];exact h e a
 ·right
  have:∃ e∈es,¬ (e.1∈u↔e.2.2∈u):=by
   refine Classical.byContradiction λb=>h λe a=>?_
   exact Classical.byContradiction λd=>b ⟨e,a,d⟩
  obtain⟨e,a,c⟩:=this
  refine G0g (λx g h=>?_) ⟨e,a,?_,?_⟩
  ·simp only[Bool.and_eq_true,decide_eq_true_eq]at h ⊢
   exact⟨a07 _ _ _ h.1,a07 _ _ _ h.2⟩
  ·rw[Bool.eq_false_iff]
   intro h
   simp only[Bool.and_eq_true,decide_eq_true_eq]at h
   exact c ⟨λ_=>h.2,λ_=>h.1⟩
  ·have f:e.1∈u∨e.2.2∈u:=by
    refine Classical.byContradiction λb=>c ⟨λh=>absurd (.inl h) b,λh=>absurd (.inr h) b⟩
   have:=C0j es u e a f
   simp only[Bool.and_eq_true,decide_eq_true_eq];exact this
def itS(es:List J0):Nat->List Int->List Int
 |0,u=>u
 |j+1,u=>itS es j (pS es u)
theorem m0m(es:List J0):∀(j:Nat) (u:List Int),(itS es j u).length<=u.length+j*(2*es.length)
 |0,u=>by simp[itS]
 |j+1,u=>by have:=m0m es j (pS es u);have:=e0l es u;simp only[itS,Nat.add_mul,Nat.one_mul];omega
theorem n0m(es:List J0):∀(j:Nat) (u:List Int),clo es u->clo es (itS es j u)
 |0,u,h=>h
 |j+1,u,h=>n0m es j _ λe a=>by rw[Q0a h,Q0a h];exact h e a
theorem o0m(es:List J0):∀(j:Nat) (u:List Int),clo es (itS es j u)∨act es u+j<=act es (itS es j u)
 |0,u => .inr (Nat.le_refl _)
 |j+1,u=>by
  rcases e0p (es:=es) (u:=u)with h|h
  ·exact .inl (n0m es j _ h)
  ·rcases o0m es j (pS es u)with a|a
   ·exact .inl a
   ·right;simp only[itS];omega
theorem D0j(es:List J0):∀(j:Nat) (u:List Int) (x:Int),x∈u->x∈itS es j u
 |0,u,x,h=>h
 |j+1,u,x,h=>D0j es j _ x (a07 es u x h)
theorem H0g{P:Int->Prop}(es:List J0)(b:∀ e∈es,P e.1↔P e.2.2):∀(j:Nat) (u:List Int),(∀ x∈u,P x)->∀ x∈itS es j u,P x
 |0,u,a=>a
 |j+1,u,a=>H0g es b j _ (K0e es u b a)
theorem R0a(es:List J0)(v x:Int):x∈itS es (es.length+1) [v]↔Rch es v x:=by
 constructor
 ·exact H0g (P:=Rch es v) es Rch.closed _ _ (λy a=>by simp at a;subst a;exact .base) x
 ·have b:clo es (itS es (es.length+1) [v]):=by
   rcases o0m es (es.length+1) [v]with h|h
   ·exact h
   ·have:=s0r es (itS es (es.length+1) [v]);omega
  exact Rch.sub (P:=λx=>x∈itS es (es.length+1) [v]) (D0j _ _ _ _ (by simp)) b
theorem L0e(es:List J0)(p:es.length<=9223372036854775807):∀(d k fuel:Nat) (u:List Int),k+d=es.length->d<fuel->u.length+2*d<=1099511627776 ->
  l3 es fuel u (k:Int)=some (pS (es.drop k) u)
 |d,k,0,u,n,hf,q=>by omega
 |0,k,fuel+1,u,n,hf,q=>by
  rw[l3.eq_2,if_neg (by simp;omega),D1 (by omega)];rfl
 |d+1,k,fuel+1,u,n,hf,q=>by
  have o:k<es.length:=by omega
  have m:=a5 o
  generalize es[k]=e at m
  obtain⟨a,l,b⟩:=e
  have i:=λt h=>L0e es p d (k+1) fuel t (by omega) (by omega) h
  have s:=c0p u (a,l,b)
  have g:=d0p (s1 u (a,l,b)) (a,l,b)
  rw[l3.eq_2,if_pos (by simp;omega),G1 m]
  simp only[Z1 m,oB,L08 u _ (by omega),P1 o p,pS]
  by_cases c:a∈u
  ·rw[if_pos (by simpa using c),I0a _ _ (by omega),oB]
   have j:s1 u (a,l,b)=t00 d9 b u:=if_pos c
   rw[j]at s g ⊢
   rw[L08 _ _ (by omega),oB]
   by_cases c2:b∈t00 d9 b u
   ·rw[if_pos (by simpa using c2),I0a _ _ (by omega),oB]
    have f:s2 (t00 d9 b u) (a,l,b)=t00 d9 a (t00 d9 b u):=if_pos c2
    rw[f]at g ⊢
    exact i _ (by omega)
   ·rw[if_neg (by simpa using c2)]
    have f:s2 (t00 d9 b u) (a,l,b)=t00 d9 b u:=if_neg c2
    rw[f]
    exact i _ (by omega)
  ·rw[if_neg (by simpa using c)]
   have j:s1 u (a,l,b)=u:=if_neg c
   rw[j]at g ⊢
   by_cases c2:b∈u
   ·rw[if_pos (by simpa using c2),I0a _ _ (by omega),oB]
    have f:s2 u (a,l,b)=t00 d9 a u:=if_pos c2
    rw[f]at g ⊢
    exact i _ (by omega)
   ·rw[if_neg (by simpa using c2)]
    have f:s2 u (a,l,b)=u:=if_neg c2
    rw[f]
    exact i _ (by omega)
theorem M0e(es:List J0)(c:es.length<=120):∀(d k fuel:Nat) (u:List Int),k+d=es.length+1->d<fuel->u.length<=1+k*240 ->
  A5 es fuel u (k:Int)=some (itS es d u)
 |d,k,0,u,a,hf,b=>by omega
 |0,k,fuel+1,u,a,hf,b=>by
  rw[A5.eq_2,if_neg (by rw[w64 (by omega) (by omega)];simp;omega)];rfl
 |d+1,k,fuel+1,u,a,hf,b=>by
  have h0:=L0e es (by omega) es.length 0 P0 u (by omega) (W0 (by omega)) (by omega)
  rw[show((0:Nat):Int)=0 from rfl,List.drop_zero]at h0
  have e:=M0e es c d (k+1) fuel (pS es u) (by omega) (by omega) (by have:=e0l es u;omega)
  rw[A5.eq_2,if_pos (by rw[w64 (by omega) (by omega)];simp;omega),h0,oB,P1 (show k<1000 by omega) (by omega),e]
  rfl
def getI(P:List Int)(v:Int):Int:=P.getD v.toNat (-1)
def f01:List Int->Nat->List Int->List Int
 |A,k,[]=>A
 |A,k,v::r=>f01 (A.set v.toNat (k:Int)) (k+1) r
def plc(n:Nat)(o:List Int):List Int:=f01 (List.replicate n (-1)) 0 o
theorem N0e:∀(o:List Int) (k:Nat) (A:List Int),(f01 A k o).length=A.length
 | [],k,A=>rfl
 |v::r,k,A=>by rw[f01,N0e r];simp
def inV(n:Nat)(o:List Int):Prop:=∀ v∈o,0<=v/\v<(n:Int)
theorem giI{P:List Int}{n:Nat}(d:P.length=n){x:Int}(h0:0<=x)(c:x<n):gi P x=some (getI P x):=by
 have b:x.toNat<P.length:=by omega
 have e:x=((x.toNat:Nat):Int):=by omega
 have a:gi P ((x.toNat:Nat):Int)=some (getI P x):=by
  rw[Q0b,List.getElem?_eq_getElem b]
  unfold getI
  rw[List.getD_eq_getElem?_getD,List.getElem?_eq_getElem b];rfl
 rw[←e]at a;exact a
theorem i04{A:List Int}{v x:Int}{y:Int}(h0:0<=v)(a:v.toNat<A.length)(b:0<=x):getI (A.set v.toNat y) x=if x=v then y else getI A x:=by
 unfold getI
 rw[List.getD_eq_getElem?_getD,List.getD_eq_getElem?_getD,List.getElem?_set]
 by_cases c:x=v
 ·rw[if_pos c,if_pos (by rw[c]),if_pos a];rfl
 ·rw[if_neg c,if_neg (by omega)]
theorem S0a{n:Nat}:∀(o:List Int) (k:Nat) (A:List Int),A.length=n->inV n o->(∀ x,0<=x -> -1<=getI A x/\getI A x<(k:Int))->∀ x,0<=x -> -1<=getI (f01 A k o) x/\getI (f01 A k o) x<((k+o.length:Nat):Int)
 | [],k,A,c,a,h,x,b=>h x b
 |v::r,k,A,c,a,h,x,b=>by
  have e:=a v mS
  have:=S0a r (k+1) (A.set v.toNat (k:Int)) (by simp[c]) (λw f=>a w (mC _ f)) (λy d=>by
   rw[i04 e.1 (by omega) d]
   have:=h y d
   split<;>omega) x b
  rw[f01,List.length_cons,show k+(r.length+1)=k+1+r.length by omega];exact this
theorem Z07(n:Nat)(x:Int):getI (List.replicate n (-1)) x = -1:=by
 unfold getI
 rw[List.getD_eq_getElem?_getD,List.getElem?_replicate]
 split<;>rfl
theorem v06{n:Nat}{o:List Int}(b:inV n o){x:Int}(a:0<=x): -1<=getI (plc n o) x/\getI (plc n o) x<(o.length:Int):=by
 have:=S0a o 0 (List.replicate n (-1)) (by simp) b (λx a=>by rw[Z07];omega) x a
 rw[Nat.zero_add]at this;exact this
theorem p0m(n:Nat)(o:List Int):(plc n o).length=n:=by unfold plc;rw[N0e];simp
def pE(P:List Int):List J0->List J0
 | []=>[]
 |e::r=>bif decide (0<=getI P e.1)&&decide (0<=getI P e.2.2)then(getI P e.1,e.2.1,getI P e.2.2)::pE P r else pE P r
theorem Y0h(P:List Int):∀ es,(pE P es).length<=es.length
 | []=>by simp[pE]
 |e::r=>by
  have:=Y0h P r
  unfold pE
  cases decide (0<=getI P e.1)&&decide (0<=getI P e.2.2)<;>simp only[cond_true,cond_false,List.length_cons]<;>omega
theorem R0q{n:Nat}{o:List Int}(d:inV n o):∀(es:List J0),inN n es->inN o.length (pE (plc n o) es)
 | [],c=>λe a=>nomatch a
 |e::r,c=>by
  have f:=R0q d r λe a=>c e (mC _ a)
  have a:=c e mS
  unfold pE
  cases hb:decide (0<=getI (plc n o) e.1)&&decide (0<=getI (plc n o) e.2.2)
  ·simpa only[cond_false] using f
  ·simp only[cond_true]
   simp only[Bool.and_eq_true,decide_eq_true_eq]at hb
   intro g b
   rcases List.mem_cons.1 b with rfl|b
   ·exact⟨⟨hb.1,(v06 d a.1.1).2⟩,hb.2,(v06 d a.2.1).2⟩
   ·exact f g b
def w8(g:j0)(o:List Int):j0:=(g.1,(o.length:Int),w5 O0 [] (pE (plc g.2.1.toNat o) g.2.2))
theorem Y01:∀(r l:List J0),(w5 O0 l r).length<=l.length+r.length
 | [],l=>by simp[w5]
 |e::r,l=>by have:=Y01 r (t00 O0 e l);have:=u06 e l;simp only[w5,List.length_cons];omega
theorem K09(g:j0)(o:List Int):(w8 g o).2.2.length<=g.2.2.length:=by
 have:=Y01 (pE (plc g.2.1.toNat o) g.2.2) []
 have:=Y0h (plc g.2.1.toNat o) g.2.2
 simp only[w8,List.length_nil]at *;omega
theorem I0g{n:Nat}{r:Int}{es:List J0}{o:List Int}(c:inV n o)(b:inN n es):inN o.length (w8 (r,(n:Int),es) o).2.2:=by
 intro e a
 simp only[w8,Int.toNat_natCast]at a
 rcases(w9 K6 e _ _).1 a with h|h
 ·cases h
 ·exact R0q c es b e h
theorem q0m(n:Nat)(c:n<=140737488355328):∀(d k fuel:Nat),k+d=n->d<fuel ->
  M9 n fuel (k:Int) (List.replicate k (-1)++List.replicate d 0)=some (List.replicate n (-1))
 |d,k,0,a,hf=>by omega
 |0,k,fuel+1,a,hf=>by
  rw[M9.eq_2,if_neg (by simp;omega),show k=n by omega];simp
 |d+1,k,fuel+1,a,hf=>by
  have b:gi (List.replicate k (-1)++List.replicate (d+1) (0:Int)) (k:Int)=some 0:=by
   rw[Q0b,List.getElem?_append_right (by simp)];simp
  have f:=q0m n c d (k+1) fuel (by omega) (by omega)
  rw[M9.eq_2,if_pos (by simp;omega),b,oB,P1 (show k<n by omega) (by omega),Int.toNat_natCast]
  have e:(List.replicate k (-1)++List.replicate (d+1) (0:Int)).set k (-1)=List.replicate (k+1) (-1)++List.replicate d 0:=by
   rw[List.set_append_right _ _ (by simp),List.length_replicate,Nat.sub_self,List.replicate_succ,List.set_cons_zero,List.replicate_succ']
   simp
  rw[e,f]
theorem r0m(o:List Int){n:Nat}(h:inV n o)(g:o.length<=9223372036854775807):∀(d k fuel:Nat) (A:List Int),A.length=n->k+d=o.length->d<fuel ->
  L9 o fuel (k:Int) A=some (f01 A k (o.drop k))
 |d,k,0,A,a,e,hf=>by omega
 |0,k,fuel+1,A,a,e,hf=>by
  rw[L9.eq_2,if_neg (by simp;omega),D1 (by omega)];rfl
 |d+1,k,fuel+1,A,a,e,hf=>by
  have f:k<o.length:=by omega
  have b:=a5 f
  have c:=h _ (List.mem_of_getElem? b)
  generalize o[k]=v at b c
  have i:=r0m o h g d (k+1) fuel (A.set v.toNat (k:Int)) (by simp[a]) (by omega) (by omega)
  rw[L9.eq_2,if_pos (by simp;omega),G1 b,Z1 b,oB,giI a c.1 c.2,oB,P1 f g,i]
  rfl
theorem s0m(es:List J0){n:Nat}(q:inN n es)(t:es.length<=1099511627776)(P:List Int)(g:P.length=n)(r m:Int):∀(d k fuel:Nat) (acc:List J0),k+d=es.length->d<fuel->acc.length<=k ->
  P8 es P fuel (k:Int) r m acc=some (r,m,acc++pE P (es.drop k))
 |d,k,0,acc,o,hf,j=>by omega
 |0,k,fuel+1,acc,o,hf,j=>by
  rw[P8.eq_2,if_neg (by simp;omega),D1 (by omega)];simp[pE]
 |d+1,k,fuel+1,acc,o,hf,j=>by
  have p:k<es.length:=by omega
  have f:=a5 p
  have c:=q _ (List.mem_of_getElem? f)
  generalize es[k]=e at f c
  obtain⟨a,l,b⟩:=e
  have i:=λs h=>s0m es q t P g r m d (k+1) fuel s (by omega) (by omega) h
  rw[P8.eq_2,if_pos (by simp;omega),G1 f]
  simp only[Z1 f,oB,giI g c.1.1 c.1.2,giI g c.2.1 c.2.2,P1 p (show es.length<=9223372036854775807 by omega),pE]
  by_cases c1:0<=getI P a
  ·simp only[show decide (getI P a ≥ 0)=true by simpa using c1,j1,oB,cond_true,show decide (0<=getI P a)=true by simpa using c1,Bool.true_and]
   by_cases c2:0<=getI P b
   ·rw[if_pos (by simpa using c2),D0 (by simp;omega),oB,i _ (by simp;omega)]
    simp[c2]
   ·rw[if_neg (by simpa using c2),i _ (by omega)]
    simp[c2]
  ·simp only[show decide (getI P a ≥ 0)=false by simpa using c1,F1,oB,cond_false,show decide (0<=getI P a)=false by simpa using c1,Bool.false_and]
   rw[if_neg (by simp),i _ (by omega)]
theorem Z0h(r:Int)(n:Nat)(es:List J0)(o:List Int)(d:inN n es)(e:inV n o)(g:n<=1000000)(c:es.length<=1099511627776)(f:o.length<=1099511627776):
  V01 (r,(n:Int),es) o=some (w8 (r,(n:Int),es) o):=by
 unfold V01
 have b:=q0m n (by omega) n 0 P0 (by omega) (W0 (by omega))
 have a:=r0m o e (by omega) o.length 0 P0 (List.replicate n (-1)) (by simp) (by omega) (W0 (by omega))
 have h0:=s0m es d c (plc n o) (p0m n o) r ((o.length:Nat):Int) es.length 0 P0 [] (by omega) (W0 (by omega)) (Nat.le_refl _)
 rw[show((0:Nat):Int)=0 from rfl]at h0 a b
 rw[List.replicate_zero,List.nil_append]at b
 rw[List.drop_zero]at a
 rw[List.drop_zero,List.nil_append]at h0
 simp only[Int.toNat_natCast]
 rw[D0 (by omega),oB,oB,List.length_replicate,D0 (by omega),oB,b,oB,a,oB]
 rw[show f01 (List.replicate n (-1)) 0 o=plc n o from rfl,h0]
 simp only[oB]
 rw[P0a _ (by have:=Y0h (plc n o) es;omega),oB]
 rfl
theorem f0p(A:List Int)(i k:Nat):(A.map (·+1)).set i (((k+1:Nat):Int))=(A.set i (k:Int)).map (·+1):=by
 rw[List.map_set];rfl
theorem O0e{A:List Int}{n:Nat}(d:A.length=n){x:Int}(h0:0<=x)(c:x<n):gi (A.map (·+1)) x=some (getI A x+1):=by
 have b:x.toNat<A.length:=by omega
 have e:x=((x.toNat:Nat):Int):=by omega
 have a:gi (A.map (·+1)) ((x.toNat:Nat):Int)=some (getI A x+1):=by
  rw[Q0b,List.getElem?_map,List.getElem?_eq_getElem b]
  unfold getI
  rw[List.getD_eq_getElem?_getD,List.getElem?_eq_getElem b];rfl
 rw[←e]at a;exact a
theorem P0e{n:Nat}:∀(o:List Int) (k:Nat) (A:List Int) (x:Int),A.length=n->inV n o->0<=x->x ∉ o->getI (f01 A k o) x=getI A x
 | [],k,A,x,c,a,b,h=>rfl
 |v::r,k,A,x,c,a,b,h=>by
  have f:=a v mS
  rw[f01,P0e r _ _ x (by simp[c]) (λw g=>a w (mC _ g)) b (λd=>h (mC _ d)),i04 f.1 (by omega) b,if_neg (λe=>h (by rw[e];exact mS))]
theorem g0p(r:Int)(n:Nat)(es:List J0)(o:List Int)(h:inV n o)(l:o.Nodup)(t:1<=n/\n<=1000000)(s:o.length<=1099511627776):∀(d k fuel:Nat) (A:List Int),A.length=n->(∀ x,0<=x -> -1<=getI A x/\getI A x<=1099511627776)->(∀ x∈o.drop k,getI A x = -1)->k+d=o.length->d<fuel ->
  j4 o (n:Int) r es fuel (k:Int) (A.map (·+1))=some (.inr ((f01 A k (o.drop k)).map (·+1)))
 |d,k,0,A,f,i,c,j,hf=>by omega
 |0,k,fuel+1,A,f,i,c,j,hf=>by
  rw[j4.eq_2,if_neg (by simp;omega),D1 (by omega)];rfl
 |d+1,k,fuel+1,A,f,i,c,j,hf=>by
  have m:k<o.length:=by omega
  have a:=a5 m
  have b:=h _ (List.mem_of_getElem? a)
  have g:=G1 a
  generalize o[k]=v at a b g
  have p:(o.drop k).Nodup:=l.sublist (List.drop_sublist _ _)
  rw[g]at p c
  have q:=c v mS
  have w:=g0p r n es o h l t s d (k+1) fuel (A.set v.toNat (k:Int)) (by simp[f]) (λx a=>by
   rw[i04 b.1 (by omega) a];have:=i x a;split<;>omega) (λx a=>by
   have u:=h x (List.mem_of_mem_drop a)
   rw[i04 b.1 (by omega) u.1,if_neg (λe=>(List.nodup_cons.1 p).1 (by rw[←e];exact a))]
   exact c x (mC _ a)) (by omega) (by omega)
  rw[j4.eq_2,if_pos (by simp;omega),g,Z1 a]
  simp only[oB,d01,w64 (show -9223372036854775808<=(n:Int)-1 by omega) (show(n:Int)-1<=9223372036854775807 by omega),inR,show decide (0<=v)=true by simpa using b.1,show decide (v<=(n:Int)-1)=true by simp;omega,Bool.and_self,Bool.not_true,Bool.not_false,j1,O0e f b.1 b.2,q,cond_false]
  rw[if_neg (by decide),P1 m (by omega),f0p,w]
  rfl
theorem h0p(es:List J0){n:Nat}(s:inN n es)(u:es.length<=1099511627776)(P:List Int)(g:P.length=n)(i:∀ x,0<=x -> -1<=getI P x/\getI P x<=1099511627776)(r m:Int):∀(d k fuel:Nat) (acc:List J0),k+d=es.length->d<fuel->acc.length<=k ->
  G3 es (P.map (·+1)) fuel (k:Int) r m acc=some (r,m,w5 O0 acc (pE P (es.drop k)))
 |d,k,0,acc,p,hf,o=>by omega
 |0,k,fuel+1,acc,p,hf,o=>by
  rw[G3.eq_2,if_neg (by simp;omega),D1 (by omega)];rfl
 |d+1,k,fuel+1,acc,p,hf,o=>by
  have q:k<es.length:=by omega
  have f:=a5 q
  have c:=s _ (List.mem_of_getElem? f)
  generalize es[k]=e at f c
  obtain⟨a,l,b⟩:=e
  have j:=λt h=>h0p es s u P g i r m d (k+1) fuel t (by omega) (by omega) h
  have v:=i a c.1.1
  have w:=i b c.2.1
  rw[G3.eq_2,if_pos (by simp;omega),G1 f]
  simp only[Z1 f,oB,O0e g c.1.1 c.1.2,O0e g c.2.1 c.2.2,P1 q (show es.length<=9223372036854775807 by omega),pE]
  by_cases c1:0<=getI P a
  ·simp only[show decide (getI P a+1>0)=true by simp;omega,j1,oB,cond_true,show decide (0<=getI P a)=true by simpa using c1,Bool.true_and]
   by_cases c2:0<=getI P b
   ·rw[if_pos (by simp;omega),w64 (by omega) (by omega),w64 (by omega) (by omega),show getI P a+1-1=getI P a by omega,show getI P b+1-1=getI P b by omega]
    rw[H05 _ _ (by omega),oB,j _ (by have:=u06 (getI P a,l,getI P b) acc;omega)]
    simp[c2,w5]
   ·rw[if_neg (by simp;omega),j _ (by omega)]
    simp[c2]
  ·simp only[show decide (getI P a+1>0)=false by simp;omega,F1,oB,cond_false,show decide (0<=getI P a)=false by simpa using c1,Bool.false_and]
   rw[if_neg (by simp),j _ (by omega)]
theorem L09(r:Int)(n:Nat)(es:List J0)(o:List Int)(f:Q0 (r,(n:Int),es)=true)(g:inV n o)(l:o.Nodup)(t:1<=o.length)(u:o.length<=n):
  j6 (r,(n:Int),es) o=some (w8 (r,(n:Int),es) o,true):=by
 obtain⟨h,p,q,s⟩:=A2 f
 simp only at p q s
 have m:inN n es:=λe d=>⟨(h e d).1,(h e d).2.1⟩
 have k:=S7 (r,(n:Int),es) (by simp only;omega)
 unfold j6
 have a:=g0p r n es o g l (by omega) (by omega) o.length 0 P0 (List.replicate n (-1)) (by simp) (λx b=>by rw[Z07];omega) (λx b=>Z07 n x) (by omega) (W0 (by omega))
 have c:=h0p es m (by omega) (plc n o) (p0m n o) (λx b=>by have:=v06 g b;omega) r ((o.length:Nat):Int) es.length 0 P0 [] (by omega) (W0 (by omega)) (Nat.le_refl _)
 rw[show((0:Nat):Int)=0 from rfl,List.drop_zero]at c a
 rw[show(List.replicate n (-1:Int)).map (·+1)=List.replicate n 0 by simp]at a
 rw[show f01 (List.replicate n (-1)) 0 o=plc n o from rfl]at a
 have i:decide (((o.length:Nat):Int)=0)=false:=decide_eq_false (by omega)
 have j:decide (((o.length:Nat):Int)>(n:Int))=false:=decide_eq_false (by omega)
 simp only[k,f,oB,Bool.not_true,cond_false,Int.toNat_natCast,i,j]
 rw[if_neg (by simp),D0 (by omega),oB,a]
 simp only[oB,i8,c]
 rfl
theorem z9:∀(n:Nat) (o:List Int),o.Nodup->inV n o->o.length<=n
 |0,[],_,_=>Nat.le_refl _
 |0,x::r,_,h=>by have:=h x mS;omega
 |n+1,o,c,h=>by
  have d:inV n (o.erase (n:Int)):=λx e=>by
   obtain⟨f,a⟩:=(List.Nodup.mem_erase_iff c).1 e
   have:=h x a;omega
  have b:=z9 n _ (c.erase _) d
  by_cases a:(n:Int)∈o
  ·rw[List.length_erase_of_mem a]at b;omega
  ·rw[List.erase_of_not_mem a]at b;omega
def G5:Nat->Nat->List Int
 |0,_=>[]
 |d+1,i=>(i:Int) :: -(i:Int)::G5 d (i+1)
theorem O00:∀ d i,(G5 d i).length=2*d
 |0,i=>rfl
 |d+1,i=>by simp only[G5,List.length_cons,O00 d];omega
theorem a0i:∀(d i:Nat),i+d<=1000->∀ x∈G5 d i,l4 x
 |0,i,h,x,a=>nomatch a
 |d+1,i,h,x,a=>by
  simp only[G5,List.mem_cons]at a
  rcases a with rfl|rfl|a
  ·exact⟨⟨by omega,by omega⟩,by omega⟩
  ·exact⟨⟨by omega,by omega⟩,by omega⟩
  ·exact a0i d (i+1) (by omega) x a
theorem i0p(R:Nat)(c:R<=900):∀(d i fuel:Nat) (acc:List Int),i+d=R+1->d<fuel->acc.length+2*d<=10000 ->
  F7 (R:Int) fuel (i:Int) acc=some (acc++G5 d i)
 |d,i,0,acc,b,hf,a=>by omega
 |0,i,fuel+1,acc,b,hf,a=>by
  rw[F7.eq_2,if_neg (by simp;omega)];simp[G5]
 |d+1,i,fuel+1,acc,b,hf,a=>by
  have e:=i0p R c d (i+1) fuel (acc ++ [(i:Int),-(i:Int)]) (by omega) (by omega) (by simp;omega)
  have f:IntKind.i64.wrap (0-(i:Int)) = -(i:Int):=by rw[w64 (by omega) (by omega)];omega
  rw[F7.eq_2,if_pos (by simp;omega),f,D0 (by simp;omega),oB,P1 (show i<1000 by omega) (by omega),e]
  simp[G5]
theorem j0p(R:Nat)(c:R<=900):∀(d i fuel:Nat) (acc:List Int),i+d=R+1->d<fuel->acc.length+2*d<=10000 ->
  l6 (R:Int) fuel (i:Int) acc=some (acc++G5 d i)
 |d,i,0,acc,b,hf,a=>by omega
 |0,i,fuel+1,acc,b,hf,a=>by
  rw[l6.eq_2,if_neg (by simp;omega)];simp[G5]
 |d+1,i,fuel+1,acc,b,hf,a=>by
  have e:=j0p R c d (i+1) fuel ((acc ++ [(i:Int)]) ++ [-(i:Int)]) (by omega) (by omega) (by simp;omega)
  have f:IntKind.i64.wrap (0-(i:Int)) = -(i:Int):=by rw[w64 (by omega) (by omega)];omega
  rw[l6.eq_2,if_pos (by simp;omega),f,D0 (by simp;omega),oB,D0 (by simp;omega),oB,P1 (show i<1000 by omega) (by omega),e]
  simp[G5]
theorem f0l(R:Nat)(a:R<=900):U8 (R:Int)=some (G5 R 1):=by
 unfold U8
 rw[show(1:Int)=((1:Nat):Int) from rfl,i0p R a R 1 P0 [] (by omega) (W0 (by omega)) (by simp;omega)];rfl
theorem b0i(R:Nat)(a:R<=900):D6 (R:Int)=some (G5 R 1):=by
 unfold D6
 rw[show(1:Int)=((1:Nat):Int) from rfl,j0p R a R 1 P0 [] (by omega) (W0 (by omega)) (by simp;omega)];rfl
def r07(u:List Int)(x:Int):List Int:=if 0<=x/\x ∉ u then u ++ [x]else u
def G02(g:j0)(v:Int):List Int->List Int->List Int
 | [],u=>u
 |x::r,u=>G02 g v r (r07 u (U0 g v x))
def W8(g:j0)(a:List Int):Nat->Nat->List Int->List Int
 |0,i,u=>u
 |f+1,i,u=>match u[i]? with
  |some v=>W8 g a f (i+1) (G02 g v a u)
  |none=>u
def gud(n:Nat)(u:List Int):Prop:=u.Nodup/\inV n u
theorem t0m{n:Nat}{u:List Int}{x:Int}(h:gud n u)(i:x = -1∨(0<=x/\x<(n:Int))):gud n (r07 u x):=by
 unfold r07
 split
 ·rename_i g
  refine⟨List.nodup_append.2 ⟨h.1,by simp,λa f b d=>?_⟩,λy c=>?_⟩
  ·simp at d;subst d;exact λe=>g.2 (e▸f)
  ·rcases List.mem_append.1 c with c|c
   ·exact h.2 y c
   ·simp at c;subst c;omega
 ·exact h
theorem Q0e(u:List Int)(x:Int):∃ t,r07 u x=u++t:=by
 unfold r07;split
 ·exact⟨_,rfl⟩
 ·exact⟨[],by simp⟩
theorem c03(g:j0)(v:Int):∀(c u:List Int),∃ t,G02 g v c u=u++t
 | [],u=>⟨[],by simp[G02]⟩
 |x::r,u=>by
  obtain⟨d,a⟩:=Q0e u (U0 g v x)
  obtain⟨e,b⟩:=c03 g v r (r07 u (U0 g v x))
  exact⟨d++e,by rw[G02,b,a,List.append_assoc]⟩
theorem G04{r:Int}{n:Nat}{es:List J0}(a:inG (r,(n:Int),es))(v:Int):∀(b u:List Int),gud n u->gud n (G02 (r,(n:Int),es) v b u)
 | [],u,h=>h
 |x::l,u,h=>G04 a v l _ (t0m h (r03 a v x))
theorem R0e{r:Int}{n:Nat}{es:List J0}(a:inG (r,(n:Int),es))(b:List Int):∀(f i:Nat) (u:List Int),gud n u->gud n (W8 (r,(n:Int),es) b f i u)
 |0,i,u,h=>h
 |f+1,i,u,h=>by
  unfold W8
  split
  ·exact R0e a b f _ _ (G04 a _ _ _ h)
  ·exact h
theorem S0e(g:j0)(a:List Int):∀(f i:Nat) (u:List Int),u.length<=(W8 g a f i u).length
 |0,i,u=>Nat.le_refl _
 |f+1,i,u=>by
  unfold W8
  split
  ·rename_i v _
   obtain⟨t,e⟩:=c03 g v a u
   have:=S0e g a f (i+1) (G02 g v a u)
   rw[e]at this ⊢;simp only[List.length_append]at this;omega
  ·exact Nat.le_refl _
theorem u0m(r:Int)(n:Nat)(es:List J0)(g:inG (r,(n:Int),es))(A:n<=40)(m:es.length<=1099511627776)(a:List Int)(p:∀ x∈a,l4 x)(z:a.length<=1000000)(i:Nat)(v:Int):∀(d k fuel:Nat) (u:List Int),gud n u->u[i]?=some v->k+d=a.length->d<fuel ->
  B3 a (i:Int) r (n:Int) es fuel (k:Int) u=some (G02 (r,(n:Int),es) v (a.drop k) u)
 |d,k,0,u,c,b,j,hf=>by omega
 |0,k,fuel+1,u,c,b,j,hf=>by
  rw[B3.eq_2,if_neg (by simp;omega),D1 (by omega)];rfl
 |d+1,k,fuel+1,u,c,b,j,hf=>by
  have o:k<a.length:=by omega
  have f:=a5 o
  have q:=p _ (List.mem_of_getElem? f)
  have l:=G1 f
  generalize a[k]=x at f q l
  have D:=z9 n u c.1 c.2
  have B:U0 (r,(n:Int),es) v x = -1∨(0<=U0 (r,(n:Int),es) v x/\U0 (r,(n:Int),es) v x<(n:Int)):=r03 g v x
  have s:=t0m c B
  have w:(r07 u (U0 (r,(n:Int),es) v x))[i]?=some v:=by
   obtain⟨t,e⟩:=Q0e u (U0 (r,(n:Int),es) v x)
   rw[e,List.getElem?_append_left (List.getElem?_eq_some_iff.1 b).1];exact b
  have C:=u0m r n es g A m a p z i v d (k+1) fuel _ s w (by omega) (by omega)
  rw[B3.eq_2,if_pos (by simp;omega),l]
  simp only[Z1 b,Z1 f,oB,L03 (r,(n:Int),es) v x q m,D0 (M02 g (show(n:Int)<=40 by omega) v x),P1 o (show a.length<=9223372036854775807 by omega),G02]
  rw[←C]
  generalize U0 (r,(n:Int),es) v x=y at *
  unfold r07
  by_cases c1:0<=y
  ·simp only[show decide (y ≥ 0)=true by simpa using c1,j1,L08 u y (by omega),oB,cond_true]
   by_cases c2:y∈u
   ·rw[if_neg (by simp[c2]),if_neg (by simp[c2])]
   ·rw[if_pos (by simp[c2]),if_pos ⟨c1,c2⟩,D0 (by simp;omega),oB]
  ·simp only[show decide (y ≥ 0)=false by simpa using c1,F1,oB,cond_false]
   rw[if_neg (by simp),if_neg (λh=>c1 h.1)]
theorem v0m(r:Int)(n:Nat)(es:List J0)(d:inG (r,(n:Int),es))(m:n<=40)(h:es.length<=1099511627776)(a:List Int)(l:∀ x∈a,l4 x)(k:a.length<=1000000):∀(f i fuel:Nat) (u:List Int),gud n u->i<=u.length->n+1<=i+f->f<fuel ->
  Z4 a r (n:Int) es fuel (i:Int) u=some (W8 (r,(n:Int),es) a f i u)
 |f,i,0,u,b,j,g,hf=>by omega
 |0,i,fuel+1,u,b,j,g,hf=>by have:=z9 n u b.1 b.2;omega
 |f+1,i,fuel+1,u,b,j,g,hf=>by
  have p:=z9 n u b.1 b.2
  rw[Z4.eq_2,oB,D0 (by omega),oB]
  by_cases hk:i<u.length
  ·have c:=a5 hk
   generalize u[i]=v at c
   have h0:=u0m r n es d m h a l k i v a.length 0 P0 u b c (by omega) (W0 (by omega))
   rw[show((0:Nat):Int)=0 from rfl,List.drop_zero]at h0
   obtain⟨t,e⟩:=c03 (r,(n:Int),es) v a u
   have o:=v0m r n es d m h a l k f (i+1) fuel _ (G04 d v a u b) (by rw[e,List.length_append];omega) (by omega) (by omega)
   rw[if_pos (by simpa using hk),h0,oB,P1 hk (by omega),o]
   simp only[W8,c]
  ·have c:u[i]?=none:=List.getElem?_eq_none (by omega)
   rw[if_neg (by simpa using hk)]
   simp only[W8,c]
def U5(g:j0):List Int:=W8 g (G5 g.1.toNat 1) (g.2.1.toNat+1) 0 [0]
theorem M08{g:j0}(hf:K0 g=true):gud g.2.1.toNat (U5 g)/\1<=(U5 g).length:=by
 obtain⟨b,c,d,e⟩:=C1 hf
 obtain⟨r,n,es⟩:=g
 simp only at c d e
 obtain⟨N,rfl⟩:∃ N:Nat,n=(N:Int):=⟨n.toNat,by omega⟩
 refine⟨?_,?_⟩
 ·exact R0e b _ _ _ _ ⟨by simp,λx a=>by simp at a;subst a;show(0:Int)<=0/\(0:Int)<(((N:Int).toNat:Nat):Int);omega⟩
 ·exact S0e _ _ _ _ [0]
theorem E0j(g:j0)(hf:K0 g=true):A8 g=some (U5 g):=by
 obtain⟨b,c,d,e⟩:=C1 hf
 have f:=J5 g (by omega)
 obtain⟨r,n,es⟩:=g
 simp only at c d e
 obtain⟨N,rfl⟩:∃ N:Nat,n=(N:Int):=⟨n.toNat,by omega⟩
 obtain⟨R,rfl⟩:∃ R:Nat,r=(R:Int):=⟨r.toNat,by omega⟩
 unfold A8
 have h0:=v0m (R:Int) N es b (by omega) (by omega) (G5 R 1) (a0i R 1 (by omega)) (by rw[O00];omega) (N+1) 0 P0 [0] ⟨by simp,λx a=>by simp at a;subst a;omega⟩ (by simp) (by omega) (W0 (by omega))
 simp only[f,hf,oB,Bool.not_true,b0i R (by omega)]
 rw[show((0:Nat):Int)=0 from rfl]at h0
 rw[if_neg (by simp),h0]
 rfl
theorem w0m{a:List Int}(b:a.length<=1099511627776):k01 a=some a:=by
 unfold k01
 rw[D0 (by simp;omega)];rfl
def L6(W:List (Option (List Int)))(x:Int):Option (List Int):=W.getD x.toNat none
theorem giO{a:List (Option (List Int))}{n:Nat}(f:a.length=n){x:Int}(h0:0<=x)(d:x<n):gi a x=some (L6 a x):=by
 have c:x.toNat<a.length:=by omega
 have e:x=((x.toNat:Nat):Int):=by omega
 have b:gi a ((x.toNat:Nat):Int)=some (L6 a x):=by
  rw[Q0b,List.getElem?_eq_getElem c]
  unfold L6
  rw[List.getD_eq_getElem?_getD,List.getElem?_eq_getElem c];rfl
 rw[←e]at b;exact b
theorem P00{A:List (Option (List Int))}{v x:Int}{y:Option (List Int)}(h0:0<=v)(a:v.toNat<A.length)(b:0<=x):L6 (A.set v.toNat y) x=if x=v then y else L6 A x:=by
 unfold L6
 rw[List.getD_eq_getElem?_getD,List.getD_eq_getElem?_getD,List.getElem?_set]
 by_cases c:x=v
 ·rw[if_pos c,if_pos (by rw[c]),if_pos a];rfl
 ·rw[if_neg c,if_neg (by omega)]
structure WOk (n:Nat) (W:List (Option (List Int))) (u:List Int):Prop where
 len:W.length=n
 iff:∀ x,0<=x->x<(n:Int)->((L6 W x).isNone=true↔x ∉ u)
 short:∀ x,((L6 W x).getD []).length<=u.length
theorem x0m(r:Int)(n:Nat)(es:List J0)(m:inG (r,(n:Int),es))(G:n<=40)(t:es.length<=1099511627776)(f:List Int)(A:∀ x∈f,l4 x)(F:f.length<=1000000)(v:Int)(o:0<=v/\v<(n:Int)):∀(d k fuel:Nat) (b:List (Option (List Int))) (u:List Int),gud n u->WOk n b u->k+d=f.length->d<fuel ->
  ∃ j,Y2 f r (n:Int) es v fuel (k:Int) b u=some (j,G02 (r,(n:Int),es) v (f.drop k) u)/\WOk n j (G02 (r,(n:Int),es) v (f.drop k) u)
 |d,k,0,b,u,i,a,q,hf=>by omega
 |0,k,fuel+1,b,u,i,a,q,hf=>by
  rw[Y2.eq_2,if_neg (by simp;omega),D1 (by omega)];exact⟨b,rfl,a⟩
 |d+1,k,fuel+1,b,u,i,a,q,hf=>by
  have w:k<f.length:=by omega
  have l:=a5 w
  have C:=A _ (List.mem_of_getElem? l)
  have s:=G1 l
  generalize f[k]=x at l C s
  have J:=z9 n u i.1 i.2
  have H:U0 (r,(n:Int),es) v x = -1∨(0<=U0 (r,(n:Int),es) v x/\U0 (r,(n:Int),es) v x<(n:Int)):=r03 m v x
  have E:=t0m i H
  have g:=λj h=>x0m r n es m G t f A F v o d (k+1) fuel j _ E h (by omega) (by omega)
  rw[Y2.eq_2,if_pos (by simp;omega),s]
  simp only[Z1 l,oB,b05 (r,(n:Int),es) v x C t,D0 (M02 m (show(n:Int)<=40 by omega) v x),P1 w (show f.length<=9223372036854775807 by omega),G02]
  generalize U0 (r,(n:Int),es) v x=y at *
  by_cases c1:0<=y
  ·have p:y<(n:Int):=by omega
   simp only[show decide (y ≥ 0)=true by simpa using c1,j1,giO a.len c1 p,oB,cond_true]
   by_cases c2:y∈u
   ·have : ¬ ((L6 b y).isNone=true):=λh=>(a.iff y c1 p).1 h c2
    have e:r07 u y=u:=if_neg λh=>h.2 c2
    rw[if_neg this]
    rw[e]at g ⊢
    exact g b a
   ·have:(L6 b y).isNone=true:=(a.iff y c1 p).2 c2
    have e:r07 u y=u ++ [y]:=if_pos ⟨c1,c2⟩
    have B:=a.short v
    rw[if_pos this,giO a.len o.1 o.2,oB,w0m (by omega),oB,D0 (by simp;omega),oB,D0 (by simp;omega),oB]
    rw[e]at g ⊢
    refine g _ ⟨by simp[a.len],λz h0 D=>?_,λz=>?_⟩
    ·rw[P00 c1 (by have:=a.len;omega) h0]
     by_cases c:z=y
     ·rw[if_pos c];simp[c]
     ·rw[if_neg c,a.iff z h0 D];simp[c]
    ·by_cases hz:0<=z
     ·rw[P00 c1 (by have:=a.len;omega) hz]
      by_cases c:z=y
      ·rw[if_pos c];simp;exact B
      ·rw[if_neg c];have:=a.short z;simp only[List.length_append];omega
     ·have I:L6 (b.set y.toNat (some ((L6 b v).getD [] ++ [x]))) z=L6 (b.set y.toNat (some ((L6 b v).getD [] ++ [x]))) 0:=by
       unfold L6;rw[show z.toNat=(0:Int).toNat by omega]
      rw[I,P00 c1 (by have:=a.len;omega) (iR 0)]
      by_cases c:(0:Int)=y
      ·rw[if_pos c];simp;exact B
      ·rw[if_neg c];have:=a.short 0;simp only[List.length_append];omega
  ·have e:r07 u y=u:=if_neg λh=>c1 h.1
   simp only[show decide (y ≥ 0)=false by simpa using c1,F1,oB,cond_false]
   rw[if_neg (by simp)]
   rw[e]at g ⊢
   exact g b a
theorem y0m(R n:Nat)(h:R<=900)(es:List J0)(d:inG ((R:Int),(n:Int),es))(m:n<=40)(k:es.length<=1099511627776):∀(f i fuel:Nat) (b:List (Option (List Int))) (u:List Int),gud n u->WOk n b u->i<=u.length->n+1<=i+f->f<fuel ->
  ∃ q,S4 (R:Int) (n:Int) es fuel (i:Int) b u=some (q,W8 ((R:Int),(n:Int),es) (G5 R 1) f i u)
 |f,i,0,b,u,a,g,l,j,hf=>by omega
 |0,i,fuel+1,b,u,a,g,l,j,hf=>by have:=z9 n u a.1 a.2;omega
 |f+1,i,fuel+1,b,u,a,g,l,j,hf=>by
  have y:=z9 n u a.1 a.2
  rw[S4.eq_2,oB,D0 (by omega),oB]
  by_cases hk:i<u.length
  ·have c:=a5 hk
   have o:=a.2 _ (List.mem_of_getElem? c)
   generalize u[i]=v at c o
   obtain⟨s,h0,p⟩:=x0m (R:Int) n es d m k (G5 R 1) (a0i R 1 (by omega)) (by rw[O00];omega) v o (G5 R 1).length 0 P0 b u a g (by omega) (W0 (by rw[O00];omega))
   rw[show((0:Nat):Int)=0 from rfl,List.drop_zero]at h0
   rw[List.drop_zero]at p
   obtain⟨t,e⟩:=c03 ((R:Int),(n:Int),es) v (G5 R 1) u
   obtain⟨x,w⟩:=y0m R n h es d m k f (i+1) fuel s _ (G04 d v _ u a) p (by rw[e,List.length_append];omega) (by omega) (by omega)
   rw[if_pos (by simpa using hk),Z1 c,oB,f0l R h,oB,h0,oB]
   simp only[P1 hk (show u.length<=9223372036854775807 by omega),w,W8,c]
   exact⟨_,rfl⟩
  ·have c:u[i]?=none:=List.getElem?_eq_none (by omega)
   rw[if_neg (by simpa using hk)]
   simp only[W8,c]
   exact⟨_,rfl⟩
theorem F0j(g:j0)(hf:K0 g=true):B8 g=some (U5 g):=by
 obtain⟨a,e,f,h⟩:=C1 hf
 have i:=V8 g (by omega)
 obtain⟨r,n,es⟩:=g
 simp only at e f h
 obtain⟨N,rfl⟩:∃ N:Nat,n=(N:Int):=⟨n.toNat,by omega⟩
 obtain⟨R,rfl⟩:∃ R:Nat,r=(R:Int):=⟨r.toNat,by omega⟩
 unfold B8
 have b:∀ x,L6 (List.replicate N (none:Option (List Int))) x=none:=λx=>by
  unfold L6
  rw[List.getD_eq_getElem?_getD,List.getElem?_replicate];split<;>rfl
 have j:WOk N ((List.replicate N (none:Option (List Int))).set (0:Int).toNat (some [])) [0]:=by
  refine⟨by simp,λx h0 a=>?_,λx=>?_⟩
  ·rw[P00 (iR 0) (by simp;omega) h0]
   by_cases c:x=0
   ·rw[if_pos c];simp[c]
   ·rw[if_neg c,b];simp[c]
  ·by_cases hz:0<=x
   ·rw[P00 (iR 0) (by simp;omega) hz]
    split
    ·simp
    ·rw[b];simp
   ·have:L6 ((List.replicate N (none:Option (List Int))).set (0:Int).toNat (some [])) x=L6 ((List.replicate N (none:Option (List Int))).set (0:Int).toNat (some [])) 0:=by
     unfold L6;rw[show x.toNat=(0:Int).toNat by omega]
    rw[this,P00 (iR 0) (by simp;omega) (iR 0),if_pos rfl];simp
 obtain⟨l,h0⟩:=y0m R N (by omega) es a (by omega) (by omega) (N+1) 0 P0 _ [0] ⟨by simp,λx d=>by simp at d;subst d;omega⟩ j (by simp) (by omega) (W0 (by omega))
 have k:gi (List.replicate N (none:Option (List Int))) 0=some none:=by
  rw[U0h (x:=none)];rw[List.getElem?_replicate,if_pos (by omega)]
 simp only[i,hf,oB,Bool.not_true,V6,Int.toNat_natCast]
 rw[if_neg (by simp),D0 (by omega),oB,k,oB]
 rw[show((0:Nat):Int)=0 from rfl]at h0
 rw[h0]
 rfl
def Z2(g:j0):j0:=w8 g (U5 g)
theorem a08(g:j0)(hf:K0 g=true):i7 g=some (Z2 g):=by
 obtain⟨b,d,f,h⟩:=C1 hf
 have i:=V8 g (by omega)
 have j:=F0j g hf
 obtain⟨a,m⟩:=M08 hf
 have k:=z9 _ _ a.1 a.2
 obtain⟨r,n,es⟩:=g
 simp only at d f h
 obtain⟨N,rfl⟩:∃ N:Nat,n=(N:Int):=⟨n.toNat,by omega⟩
 simp only[Int.toNat_natCast]at a k
 have l:=Z0h r N es (U5 (r,(N:Int),es)) (λe c=>⟨(b e c).1,(b e c).2.1⟩) a.2 (by omega) (by omega) (by omega)
 unfold i7
 simp only[i,hf,oB,Bool.not_true,j,l]
 rfl
theorem b08(g:j0)(hf:K0 g=true):g7 g=some (Z2 g):=by
 obtain⟨l,d,e,f⟩:=C1 hf
 have i:Q0 g=true:=by
  unfold K0 at hf;exact(Bool.and_eq_true _ _▸hf).1
 have j:=E0j g hf
 obtain⟨a,b⟩:=M08 hf
 have c:=z9 _ _ a.1 a.2
 obtain⟨r,n,es⟩:=g
 simp only at d e f
 obtain⟨N,rfl⟩:∃ N:Nat,n=(N:Int):=⟨n.toNat,by omega⟩
 simp only[Int.toNat_natCast]at a c
 have k:=L09 r N es (U5 (r,(N:Int),es)) i a.2 a.1 b c
 unfold g7
 simp only[oB,j,k]
 rw[if_neg (by simp;intro h;rw[h]at b;simp at b)]
 rfl
def lf(a:Nat->Bool):Nat->Nat->Option Nat
 |0,v=>none
 |d+1,v=>bif a v then some v else lf a d (v+1)
theorem c08{a:Nat->Bool}:∀(d v k:Nat),lf a d v=some k->v<=k/\k<v+d
 |0,v,k,h=>by cases h
 |d+1,v,k,h=>by
  unfold lf at h
  cases hb:a v
  ·rw[hb]at h;have:=c08 d (v+1) k h;omega
  ·rw[hb]at h;cases h;omega
theorem T0e{a b:Nat->Bool}:∀(d v:Nat),(∀ k,v<=k->k<v+d->a k=b k)->lf a d v=lf b d v
 |0,v,h=>rfl
 |d+1,v,h=>by unfold lf;rw[h v (Nat.le_refl _) (by omega),T0e d (v+1) λk c e=>h k (by omega) (by omega)]
def t0n(es:List J0):List Int:=itS es (es.length+1) [0]
def Y0b(es:List J0)(v:Nat):Bool:=decide (s03 (v:Int) es<2) || !decide ((v:Int)∈t0n es)
def G9(g:j0):Option Nat:=lf (Y0b g.2.2) (g.2.1.toNat-1) 1
theorem g0l(g:j0)(b:Q0 g=true):Z9 g 0=some (t0n g.2.2)/\(t0n g.2.2).length<=100000:=by
 obtain⟨i,d,e,a⟩:=A2 b
 have h:=S7 g (by omega)
 obtain⟨r,n,es⟩:=g
 simp only at d e a
 unfold Z9 t0n
 have c:=M0e es a (es.length+1) 0 P0 [0] (by omega) (W0 (by omega)) (by simp)
 have f:=m0m es (es.length+1) [0]
 refine⟨?_,?_⟩
 ·rw[show((0:Nat):Int)=0 from rfl]at c
  simp only[h,b,oB,Bool.not_true,Bool.not_false,j1,d01,inR,w64 (show -9223372036854775808<=n-1 by omega) (show n-1<=9223372036854775807 by omega)]
  rw[if_neg (by simp;omega),c];rfl
 ·have:(es.length+1)*(2*es.length)<=121*240:=Nat.mul_le_mul (by omega) (by omega)
  simp only[List.length_singleton]at f
  simp only
  omega
theorem k0p(r:Int)(n:Nat)(es:List J0)(e:es.length<=1000)(u:List Int)(g:u.length<=100000)(f:n<=40):∀(d v fuel:Nat),v+d=n∨(d=0/\n<=v)->v<=1000->d<fuel ->
  o8 (n:Int) r es u fuel (v:Int)=some (match lf (λv=>decide (s03 (v:Int) es<2) || !decide ((v:Int)∈u)) d v with|some k => .inl (k:Int)|none => .inr ())
 |d,v,0,b,c,hf=>by omega
 |0,v,fuel+1,b,c,hf=>by
  rw[o8.eq_2,if_neg (by simp;omega)];rfl
 |d+1,v,fuel+1,b,c,hf=>by
  have h:=k0p r n es e u g f d (v+1) fuel (by omega) (by omega) (by omega)
  have i:=W0h (v:Int) es
  rw[o8.eq_2,if_pos (by simp;omega),A0g (r,(n:Int),es) _ (by simp only;omega),oB,D0 (c64 (by simp only;omega) (by simp only;omega)),oB,P1 (show v<10000 by omega) (by omega)]
  unfold lf
  by_cases c1:s03 (v:Int) es<2
  ·have a:decide (((s03 (v:Int) es:Nat):Int)<2)=true:=decide_eq_true (by omega)
   simp only[a,Bool.not_true,F1,oB,cond_true,if_true,decide_eq_true c1,Bool.true_or]
  ·have a:decide (((s03 (v:Int) es:Nat):Int)<2)=false:=decide_eq_false (by omega)
   simp only[a,Bool.not_false,j1,L08 u _ (show u.length<=9223372036854775807 by omega),oB,cond_false,decide_eq_false c1,Bool.false_or]
   by_cases c2:(v:Int)∈u
   ·simp only[decide_eq_true c2,Bool.not_true,Bool.false_eq_true,if_false,cond_false];exact h
   ·simp only[decide_eq_false c2,Bool.not_false,if_true,cond_true]
theorem l0p(g:j0)(c:Q0 g=true):z01 g=some (match G9 g with|some k=>(k:Int)|none => -1):=by
 obtain⟨a,b⟩:=g0l g c
 obtain⟨i,d,e,f⟩:=A2 c
 obtain⟨r,n,es⟩:=g
 simp only at d e f a b
 obtain⟨N,rfl⟩:∃ N:Nat,n=(N:Int):=⟨n.toNat,by omega⟩
 unfold z01 G9
 have h:=k0p r N es (by omega) (t0n es) b (by omega) (N-1) 1 P0 (by omega) (by omega) (W0 (by omega))
 simp only[a,oB,Int.toNat_natCast]
 rw[show(1:Int)=((1:Nat):Int) from rfl,h]
 rw[show(λv:Nat=>decide (s03 (v:Int) es<2) || !decide ((v:Int)∈t0n es))=Y0b es from rfl]
 cases lf (Y0b es) (N-1) 1<;>rfl
theorem c0i(r:Int)(n:Nat)(es:List J0)(o:es.length<=1000)(a:List Bool)(g:a.length=n)(p:n<=40):∀(d v fuel:Nat),1<=v->v+d=n∨(d=0/\n<=v)->v<=1000->d+1<fuel ->
  O3 (n:Int) r es a fuel 0 (v:Int)=some (match lf (λv=>decide (s03 (v:Int) es<2) || !P9 a (v:Int)) d v with|some k=>(k:Int)|none=>0)
 |d,v,0,f,h,j,hf=>by omega
 |0,v,fuel+1,f,h,j,hf=>by
  have e:decide ((v:Int)<(n:Int))=false:=decide_eq_false (by omega)
  rw[O3.eq_2,if_neg (by rw[e];simp)];rfl
 |d+1,v,fuel+1,f,h,j,hf=>by
  have q:=c0i r n es o a g p d (v+1) fuel (by omega) (by omega) (by omega) (by omega)
  have s:=W0h (v:Int) es
  have e:decide ((v:Int)<(n:Int))=true:=decide_eq_true (by omega)
  have i:∀ w:Int,O3 (n:Int) r es a fuel (v:Int) w=some (v:Int):=λw=>by
   obtain _|fuel:=fuel
   ·omega
   ·have l:decide ((v:Int)=0)=false:=decide_eq_false (by omega)
    have m:∀ b:Bool,(bif b then false else false)=false:=λb=>by cases b<;>rfl
    rw[O3.eq_2,if_neg (by rw[l,m];simp)]
  rw[O3.eq_2,if_pos (by rw[e];rfl),s0n (r,(n:Int),es) _ (by simp only;omega),oB,D0 (c64 (by simp only;omega) (by simp only;omega)),oB,P1 (show v<10000 by omega) (by omega)]
  unfold lf
  by_cases c1:s03 (v:Int) es<2
  ·have c:decide (((s03 (v:Int) es:Nat):Int)<2)=true:=decide_eq_true (by omega)
   simp only[c,Bool.not_true,F1,oB,cond_true,if_true,decide_eq_true c1,Bool.true_or,i]
  ·have c:decide (((s03 (v:Int) es:Nat):Int)<2)=false:=decide_eq_false (by omega)
   simp only[c,Bool.not_false,j1,giB g (show(0:Int)<=(v:Int) by omega) (show(v:Int)<(n:Int) by omega),oB,cond_false,decide_eq_false c1,Bool.false_or]
   cases hb:P9 a (v:Int)
   ·simp only[Bool.not_false,if_true,cond_true,i]
   ·simp only[Bool.not_true,Bool.false_eq_true,if_false,cond_false];exact q
def wo(g:Nat):Nat->Nat->List Int
 |0,k=>[]
 |d+1,k=>if k=g then wo g d (k+1)else(k:Int)::wo g d (k+1)
theorem U0e(g:Nat):∀(d k:Nat),(wo g d k).length=d-(if k<=g/\g<k+d then 1 else 0)
 |0,k=>by simp[wo]
 |d+1,k=>by
  have a:=U0e g d (k+1)
  unfold wo
  by_cases c:k=g
  ·rw[if_pos c,a,if_neg (by omega),if_pos (by omega)];omega
  ·rw[if_neg c,List.length_cons,a]
   by_cases c2:k+1<=g/\g<k+1+d
   ·rw[if_pos c2,if_pos (by omega)];omega
   ·rw[if_neg c2,if_neg (by omega)];omega
theorem G0j(g n:Nat):∀(d k:Nat),k+d<=n->inV n (wo g d k)
 |0,k,h=>λx a=>nomatch a
 |d+1,k,h=>by
  have b:=G0j g n d (k+1) (by omega)
  unfold wo
  split
  ·exact b
  ·intro x a
   rcases List.mem_cons.1 a with rfl|a
   ·omega
   ·exact b x a
theorem d0i(n g:Nat)(j:n<=1000):∀(d k fuel:Nat) (acc:List Int),k+d=n->d<fuel->acc.length<=k ->
  D5 (n:Int) (g:Int) fuel (k:Int) acc=some (acc++wo g d k)
 |d,k,0,acc,b,hf,a=>by omega
 |0,k,fuel+1,acc,b,hf,a=>by
  rw[D5.eq_2,if_neg (by simp;omega)];simp[wo]
 |d+1,k,fuel+1,acc,b,hf,a=>by
  have f:=λi h=>d0i n g j d (k+1) fuel i (by omega) (by omega) h
  rw[D5.eq_2,if_pos (by simp;omega),P1 (show k<10000 by omega) (by omega)]
  unfold wo
  by_cases c:k=g
  ·have e:decide ((k:Int)=(g:Int))=true:=decide_eq_true (by omega)
   rw[e,if_neg (by simp),if_pos c,f _ (by omega)]
  ·have e:decide ((k:Int)=(g:Int))=false:=decide_eq_false (by omega)
   rw[e,if_pos (show(!false)=true from rfl),if_neg c,D0 (by simp;omega),oB,f _ (by simp;omega)]
   simp
theorem e0i(n:Nat)(f:n<=1000):∀(d k fuel:Nat) (acc:List Int),k+d=n->d<fuel->acc.length=k ->
  ∃ u,o6 (n:Int) fuel (k:Int) acc=some u/\u.length=n
 |d,k,0,acc,b,hf,a=>by omega
 |0,k,fuel+1,acc,b,hf,a=>by
  rw[o6.eq_2,if_neg (by simp;omega)];exact⟨_,rfl,by omega⟩
 |d+1,k,fuel+1,acc,b,hf,a=>by
  obtain⟨u,c,e⟩:=e0i n f d (k+1) fuel (acc ++ [(k:Int)]) (by omega) (by omega) (by simp;omega)
  rw[o6.eq_2,if_pos (by simp;omega),P1 (show k<10000 by omega) (by omega),D0 (by simp;omega),oB,c]
  exact⟨u,rfl,e⟩
theorem d08{a:Type}{xs:List a}{k:Nat}(h:k<=xs.length):m05 xs 0 (k:Int)=some (xs.take k):=by
 unfold m05
 rw[if_pos (by omega)];rfl
theorem z0m:∀(n fuel:Nat) (left:List Int) (r:Int) (es:List J0),1<=n->n<=40->inN n es->es.length<=120->left.length=n->n<fuel ->
  ∃(a:j0) (e:List Int),E5 fuel left r (n:Int) es=some (.inl (a,e))/\a.2.1<=(n:Int)/\(a.2.1=(n:Int)↔lf (Y0b es) (n-1) 1=none)
 |n,0,left,r,es,f,g,b,u,w,hf=>by omega
 |n,fuel+1,left,r,es,f,g,b,u,w,hf=>by
  obtain⟨c,q,A,s⟩:=B0j r n es b (by omega) f (by omega)
  have o:=c0i r n es (by omega) c A g (n-1) 1 P0 (Nat.le_refl _) (by omega) (by omega) (W0 (by omega))
  have t:lf (λv=>decide (s03 (v:Int) es<2) || !P9 c (v:Int)) (n-1) 1=lf (Y0b es) (n-1) 1:=T0e _ _ λk D E=>by
   unfold Y0b
   have:=s (k:Int) (by omega) (by omega)
   have i:=R0a es 0 (k:Int)
   congr 2
   cases hb:P9 c (k:Int)
   ·symm;exact decide_eq_false λh=>by rw[this.2 (i.1 h)]at hb;cases hb
   ·symm;exact decide_eq_true (i.2 (this.1 hb))
  rw[t]at o
  rw[E5.eq_2,q,oB,show(1:Int)=((1:Nat):Int) from rfl,o,oB]
  cases hlf:lf (Y0b es) (n-1) 1 with
  |none =>
   exact⟨(r,(n:Int),es),left,by rw[if_pos (by rfl)],iR _,by simp⟩
  |some k =>
   have C:=c08 _ _ _ hlf
   have p:decide ((k:Int)=0)=false:=decide_eq_false (by omega)
   have j:=G0j k n n 0 (by omega)
   have d:=U0e k n 0
   rw[if_pos (by omega)]at d
   have m:=d0i n k (by omega) n 0 P0 [] (by omega) (W0 (by omega)) (Nat.le_refl _)
   rw[show((0:Nat):Int)=0 from rfl,List.nil_append]at m
   have x:=Z0h r n es (wo k n 0) b j (by omega) (by omega) (by omega)
   have y:=K09 (r,(n:Int),es) (wo k n 0)
   have l:=I0g (r:=r) j b
   have z:IntKind.i64.wrap ((k:Int)+((1:Nat):Int))=((k+1:Nat):Int):=by rw[w64 (by omega) (by omega)];rfl
   obtain⟨a,e,B,F,G⟩:=z0m (n-1) fuel (left.take k++left.drop (k+1)) r (w8 (r,(n:Int),es) (wo k n 0)).2.2 (by omega) (by omega) (by rw[d]at l;exact l) (by simp only at y;omega) (by simp only[List.length_append,List.length_take,List.length_drop];omega) (by omega)
   refine⟨a,e,?_,by omega,?_⟩
   ·simp only[p,Bool.false_eq_true,if_false,m,oB,x]
    rw[show w8 (r,(n:Int),es) (wo k n 0)=(r,((n-1:Nat):Int),(w8 (r,(n:Int),es) (wo k n 0)).2.2) by rw[←d];rfl]
    simp only[z]
    rw[d08 (by omega),oB,U02 (by omega),oB,D0 (by simp only[List.length_take,List.length_drop];omega),oB,B]
   ·constructor
    ·intro h;omega
    ·intro h;cases h
theorem h0l(g:j0)(i:Q0 g=true):∃(a:j0) (b:List Int),G7 g=some (a,b)/\(a.2.1=g.2.1↔G9 g=none):=by
 obtain⟨d,k,l,f⟩:=A2 i
 have p:=H00 g (by omega)
 have m:=e01 g (by omega)
 obtain⟨r,n,es⟩:=g
 simp only at k l f
 obtain⟨N,rfl⟩:∃ N:Nat,n=(N:Int):=⟨n.toNat,by omega⟩
 have o:inN N es:=λe h=>⟨(d e h).1,(d e h).2.1⟩
 obtain⟨u,c,j⟩:=e0i N (by omega) N 0 P0 [] (by omega) (W0 (by omega)) rfl
 obtain⟨a,b,q,t,s⟩:=z0m N P0 u r es (by omega) (by omega) o f j (W0 (by omega))
 refine⟨a,b,?_,?_⟩
 ·unfold G7
  rw[show((0:Nat):Int)=0 from rfl]at c
  simp only[m,oB,p,i,Bool.not_true,Bool.false_eq_true,if_false,c,q,i8]
 ·simp only[G9,Int.toNat_natCast];exact s
def M1(g:j0):Bool:=K0 g&&((G9 g).isNone&&G0e (Z2 g) g)
theorem Q3{g:j0}(h:K0 g=true):Q0 g=true:=by
 unfold K0 at h;exact(Bool.and_eq_true _ _▸h).1
theorem J0g{g:j0}(hf:K0 g=true):(Z2 g).2.2.length<=120:=by
 have:=K09 g (U5 g)
 have:=(C1 hf).2.2.2
 unfold Z2;omega
theorem u00(g:j0)(j:g.2.2.length<=140737488355328):L5 g=some (M1 g):=by
 have b:=V8 g j
 unfold M1
 by_cases hf:K0 g=true
 ·obtain⟨e,t,d,a⟩:=h0l g (Q3 hf)
  have f:=a08 g hf
  have h:=B0g (Z2 g) g (by have:=J0g hf;omega)
  obtain⟨r,n,es⟩:=g
  obtain⟨u,m,s⟩:=e
  unfold L5
  simp only at a
  generalize Z2 (r,n,es)=C at *
  obtain⟨o,p,q⟩:=C
  simp only[b,hf,oB,Bool.not_true,Bool.false_eq_true,if_false,d,f]
  by_cases c:m=n
  ·have:=a.1 c
   simp only[decide_eq_true c,j1,oB,h,cond_true,this,Option.isNone_none,Bool.true_and]
  ·have l:(G9 (r,n,es)).isNone=false:=by
    cases hq:G9 (r,n,es)with
    |none=>exact absurd (a.2 hq) c
    |some k=>rfl
   simp only[decide_eq_false c,F1,oB,cond_false,l,Bool.false_and,Bool.and_false]
 ·have i:K0 g=false:=Bool.eq_false_iff.2 hf
  obtain⟨r,n,es⟩:=g
  unfold L5
  simp only[b,i,oB,Bool.not_false,if_true,Bool.false_and]
theorem b07(g:j0)(j:g.2.2.length<=140737488355328):G00 g=some (M1 g):=by
 have a:=J5 g j
 unfold M1
 by_cases hf:K0 g=true
 ·have f:=l0p g (Q3 hf)
  have d:=b08 g hf
  have e:=D0g (Z2 g) g (by have:=J0g hf;omega)
  obtain⟨p,q,c,s⟩:=C1 hf
  obtain⟨r,n,es⟩:=g
  unfold G00
  generalize Z2 (r,n,es)=C at *
  obtain⟨l,m,o⟩:=C
  simp only[a,hf,oB,j1,f,cond_true]
  cases hq:G9 (r,n,es)with
  |none =>
   simp only[D0 (show H0 (-1) by decide),oB,show decide ((-1:Int)<0)=true from rfl,j1,d,e,cond_true,Option.isNone_none,Bool.true_and]
  |some k =>
   have i:=c08 _ _ _ hq
   simp only at c
   simp only at i
   have b:decide ((k:Int)<0)=false:=decide_eq_false (by omega)
   simp only[D0 (show H0 (k:Int) from c64 (by omega) (by omega)),oB,b,F1,cond_false,Option.isNone_some,Bool.false_and,Bool.and_false]
 ·have h:K0 g=false:=Bool.eq_false_iff.2 hf
  obtain⟨r,n,es⟩:=g
  unfold G00
  simp only[a,h,oB,F1,D0 (show H0 0 by decide),cond_false,Bool.false_and]
def t0r(l:B0d):Prop:=l.length<=140737488355328/\∀ e∈l,e.1.size<=140737488355328/\e.2.2.2.length<=140737488355328
def m0p(l:B0d):Prop:=l.length<=1048576/\∀ e∈l,e.1.size<=1048576/\e.2.2.2.length<=1048576
theorem m0p.ok{l:B0d}(h:m0p l):t0r l:=⟨by have:=h.1;omega,λe a=>by have:=h.2 e a;omega⟩
theorem H0j{e:Type}{c:e->e->Int}(h:g00 c):∀ {l:List e},(∀ i x y,l[i]?=some x->l[i+1]?=some y->c x y<0)->Asc c l
 | [],_=>List.Pairwise.nil
 | [x],_=>List.pairwise_singleton _ _
 |x::y::l,f=>by
  have j:Asc c (y::l):=H0j h λi a b k m=>f (i+1) a b (by simpa using k) (by simpa using m)
  have g:=f 0 x y rfl rfl
  refine List.pairwise_cons.2 ⟨λz d=>?_,j⟩
  rcases List.mem_cons.1 d with rfl|d
  ·exact g
  ·exact h.trans _ _ _ g ((List.pairwise_cons.1 j).1 z d)
theorem n0p{d:Type}{e:d->d->Int}:∀ {l:List d},Asc e l->∀ {i:Nat} {x y:d},l[i]?=some x->l[i+1]?=some y->e x y<0
 | [],_,i,x,y,b,_=>by simp at b
 |a::l,h,0,x,y,b,c=>by
  simp at b c;subst b
  exact(List.pairwise_cons.1 h).1 y (List.mem_of_getElem? c)
 |a::l,h,i+1,x,y,b,c=>n0p (List.pairwise_cons.1 h).2 (i:=i) (by simpa using b) (by simpa using c)
theorem o0p{r a:Int}{es:List J0}:∀ {d k:Nat},(∀ i,k<=i->i<k+d->X0o r a es i=false)->okE r a es d k=true
 |0,k,h=>rfl
 |d+1,k,h=>by
  simp only[okE,Bool.and_eq_true,Bool.not_eq_true']
  exact⟨h k (Nat.le_refl _) (by omega),o0p λi b c=>h i (by omega) (by omega)⟩
theorem A01(g:j0):Q0 g=true↔inG g/\(1<=g.1/\g.1<=3)/\(1<=g.2.1/\g.2.1<=40)/\g.2.2.length<=120/\Asc O0 g.2.2:=by
 constructor
 ·intro h
  obtain⟨m,c,d,k⟩:=A2 h
  refine⟨m,c,d,k,H0j K6 λi x y a b=>?_⟩
  simp only[Q0,Bool.and_eq_true]at h
  have l:=a0l h.1.1.1 (i+1) (Nat.zero_le _) (by have:=(List.getElem?_eq_some_iff.1 b).1;omega)
  rw[H0a b]at l
  simp only[Nat.add_sub_cancel,a,Bool.or_eq_false_iff]at l
  have:=l.2
  simp only[show decide (0<i+1)=true by simp,Bool.true_and,decide_eq_false_iff_not]at this
  have e:y0e x y=O0 x y:=rfl
  omega
 ·rintro⟨m,c,d,k,o⟩
  obtain⟨r,n,es⟩:=g
  simp only at c d k o
  simp only[Q0,inR,Bool.and_eq_true,decide_eq_true_eq]
  refine⟨⟨⟨o0p λi _ s=>?_,c⟩,d⟩,k⟩
  have a:=a5 (show i<es.length by omega)
  generalize es[i]=e at a
  rw[H0a a]
  have q:=m e (List.mem_of_getElem? a)
  simp only at q
  simp only[Bool.or_eq_false_iff,Bool.not_eq_false',S05,inR,Bool.and_eq_true,decide_eq_true_eq]
  rw[w64 (by omega) (by omega)]
  refine⟨⟨⟨⟨by omega,by omega⟩,by omega,by omega⟩,by omega,by omega⟩,?_⟩
  cases i with
  |zero=>rfl
  |succ j =>
   have b:=a5 (show j<es.length by omega)
   generalize es[j]=f at b
   have:=n0p o b a
   simp only[Nat.add_sub_cancel,b]
   have p:y0e f e=O0 f e:=rfl
   simp[p];omega
theorem T0a{r:Int}{n:Int}{es:List J0}(d:1<=r/\r<=3)(c:1<=n/\n<=40)(f:es.length<=120)(b:inG (r,n,es)):Q0 (r,n,w5 O0 [] es)=true:=by
 refine(A01 _).2 ⟨λe a=>b e ?_,d,c,?_,R02 K6 _ _ List.Pairwise.nil⟩
 ·rcases(w9 K6 e es []).1 a with h|h
  ·simp at h
  ·exact h
 ·have:=Y01 es []
  simp only[List.length_nil]at this
  simp only;omega
def U0a(a b:J0):List (Int×Int) :=
 bif decide (a.2.1=b.2.1)then(bif decide (a.1=b.1)then [(if b.2.2<a.2.2 then b.2.2 else a.2.2,if b.2.2>a.2.2 then b.2.2 else a.2.2)]else [])++(bif decide (a.2.2=b.2.2)then [(if b.1<a.1 then b.1 else a.1,if b.1>a.1 then b.1 else a.1)]else [])else []
def d03(a:J0):List J0->List (Int×Int)
 | []=>[]
 |b::r=>U0a a b++d03 a r
def L8:List J0->List (Int×Int)
 | []=>[]
 |a::r=>d03 a r++L8 r
theorem u0n(a b:J0):(U0a a b).length<=2:=by
 unfold U0a
 cases decide (a.2.1=b.2.1)<;>cases decide (a.1=b.1)<;>cases decide (a.2.2=b.2.2)<;>simp
theorem Z0b(a:J0):∀ l,(d03 a l).length<=2*l.length
 | []=>by simp[d03]
 |b::r=>by have:=u0n a b;have:=Z0b a r;simp only[d03,List.length_append,List.length_cons];omega
def mvV(f:Int×Int)(v:Int):Int:=if v=f.2 then f.1 else if v>f.2 then v-1 else v
def mvE(f:Int×Int)(e:J0):J0:=(mvV f e.1,e.2.1,mvV f e.2.2)
def H01(g:j0)(f:Int×Int):j0:=(g.1,g.2.1-1,w5 O0 [] (g.2.2.map (mvE f)))
def okF(g:j0)(f:Int×Int):Prop:=0<=f.1/\f.1<f.2/\f.2<g.2.1
theorem I05{g:j0}{f:Int×Int}(k:Q0 g=true)(hf:okF g f):Q0 (H01 g f)=true:=by
 obtain⟨l,m,q,n,_⟩:=(A01 g).1 k
 obtain⟨o,f2,f3⟩:=hf
 refine T0a m ⟨by omega,by omega⟩ (by simpa using n) λe i=>?_
 obtain⟨h,j,rfl⟩:=List.mem_map.1 i
 obtain⟨b,c,d⟩:=l h j
 have a:∀ v:Int,0<=v/\v<g.2.1->0<=mvV f v/\mvV f v<g.2.1-1:=λv p=>by
  unfold mvV;split
  ·omega
  ·split<;>omega
 exact⟨a _ b,a _ c,d⟩
theorem I0j{g:j0}(j:inG g){a:J0}(m:a∈g.2.2):∀ {l:List J0},(∀ b∈l,b∈g.2.2/\a≠b)->∀ f∈d03 a l,okF g f
 | [],_,f,hf=>by simp[d03]at hf
 |b::r,h,f,hf=>by
  rcases List.mem_append.1 (show f∈U0a a b++d03 a r from hf)with hf|hf
  ·have s:=j b (h b mS).1
   have q:=j a m
   have u:=(h b mS).2
   obtain⟨c,n,d⟩:=a
   obtain⟨e,p,i⟩:=b
   simp only at q s
   unfold U0a at hf
   simp only at hf
   by_cases c1:n=p
   ·have k : ¬ (c=e/\d=i):=λ⟨x,y⟩=>u (by rw[x,c1,y])
    simp only[c1,decide_true,cond_true,List.mem_append]at hf
    rcases hf with hf|hf
    ·by_cases c2:c=e
     ·simp only[c2,decide_true,cond_true,List.mem_singleton]at hf
      subst hf
      have:d≠i:=λy=>k ⟨c2,y⟩
      unfold okF
      simp only
      split<;>split<;>omega
     ·simp[c2]at hf
    ·by_cases c2:d=i
     ·simp only[c2,decide_true,cond_true,List.mem_singleton]at hf
      subst hf
      have:c≠e:=λy=>k ⟨y,c2⟩
      unfold okF
      simp only
      split<;>split<;>omega
     ·simp[c2]at hf
   ·simp[c1]at hf
  ·exact I0j j m (λo t=>h o (mC _ t)) f hf
theorem J0j{g:j0}(i:inG g):∀ {l:List J0},(∀ b∈l,b∈g.2.2)->Asc O0 l->∀ f∈L8 l,okF g f
 | [],_,_,f,hf=>by simp[L8]at hf
 |a::r,h,d,f,hf=>by
  rcases List.mem_append.1 (show f∈d03 a r++L8 r from hf)with hf|hf
  ·refine I0j i (h a mS) (λb c=>⟨h b (mC _ c),λe=>?_⟩) f hf
   have:=(List.pairwise_cons.1 d).1 b c
   rw[e,K6.refl]at this;omega
  ·exact J0j i (λb c=>h b (mC _ c)) (List.pairwise_cons.1 d).2 f hf
theorem e05{g:j0}(a:Q0 g=true):∀ f∈L8 g.2.2,okF g f:=by
 obtain⟨b,_,_,_,c⟩:=(A01 g).1 a
 exact J0j b (λ_ h=>h) c
def I01:Nat->j0->j0×List (Int×Int)
 |0,g=>(g,[])
 |n+1,g=>match L8 g.2.2 with
  | []=>(g,[])
  |f::_=>((I01 n (H01 g f)).1,f::(I01 n (H01 g f)).2)
def Q9(g:j0):j0×List (Int×Int):=bif Q0 g then I01 40 g else(g,[])
theorem O0c:∀(n:Nat) {g:j0},Q0 g=true->Q0 (I01 n g).1=true
 |0,g,h=>h
 |n+1,g,h=>by
  unfold I01
  cases e:L8 g.2.2 with
  |nil=>exact h
  |cons f l=>exact O0c n (I05 h (e05 h f (by rw[e];exact mS)))
theorem M09:∀(n:Nat) {g:j0},Q0 g=true->g.2.1<=(n:Int)+1->L8 (I01 n g).1.2.2 = []
 |0,g,h,a=>by
  cases e:L8 g.2.2 with
  |nil=>exact e
  |cons f l =>
   have:=e05 h f (by rw[e];exact mS)
   unfold okF at this
   omega
 |n+1,g,h,a=>by
  unfold I01
  cases e:L8 g.2.2 with
  |nil=>exact e
  |cons f l=>exact M09 n (I05 h (e05 h f (by rw[e];exact mS))) (by show g.2.1-1<=_;omega)
theorem v0n(a b:J0):U0a a b = []↔c05 a b=false:=by
 unfold U0a c05
 cases decide (a.2.1=b.2.1)<;>cases decide (a.1=b.1)<;>cases decide (a.2.2=b.2.2)<;>simp
theorem K0g(a:J0):∀ l,d03 a l = []↔∀ b∈l,c05 a b=false
 | []=>by simp[d03]
 |b::r=>by
  rw[d03,List.append_eq_nil_iff,v0n,K0g a r]
  simp
theorem a0c:∀ l,L8 l = []↔l.Pairwise λa b=>c05 a b=false
 | []=>by simp[L8]
 |a::r=>by rw[L8,List.append_eq_nil_iff,K0g,a0c r,List.pairwise_cons]
theorem f05(g:j0):K0 g=true↔Q0 g=true/\L8 g.2.2 = []:=by
 unfold K0
 rw[Bool.and_eq_true,U0b,a0c]
theorem e08{g:j0}(h:Q0 g=true):K0 (Q9 g).1=true:=by
 have a:=(A2 h).2.2.1
 unfold Q9
 rw[h]
 exact(f05 _).2 ⟨O0c 40 h,M09 40 h (by omega)⟩
theorem L0g(l:List J0)(a c e:Int)(s:l.length<=1000):∀(d k fuel:Nat) (acc:List O5),k+d=l.length->d<fuel->acc.length+2*d<=4000000 ->
  d5 l c a e fuel (k:Int) acc=some (acc++d03 (a,c,e) (l.drop k))
 |d,k,0,acc,m,hf,j=>by omega
 |0,k,fuel+1,acc,m,hf,j=>by
  rw[d5.eq_2,if_neg (by simp;omega),D1 (by omega)]
  simp[d03]
 |d+1,k,fuel+1,acc,m,hf,j=>by
  have n:k<l.length:=by omega
  have i:=a5 n
  generalize l[k]=b at i
  obtain⟨o,p,q⟩:=b
  have g:∀ f:List O5,f.length+2*d<=4000000->d5 l c a e fuel ((k+1:Nat):Int) f=some (f++d03 (a,c,e) (l.drop (k+1))):=λf h=>L0g l a c e s d (k+1) fuel f (by omega) (by omega) h
  rw[d5.eq_2,if_pos (by simp;omega),Z1 i,oB,P1 n (by omega),G1 i]
  simp only[d03,U0a]
  cases decide (c=p)
  ·simp only[Bool.not_false,if_true,cond_false,List.nil_append]
   exact g acc (by omega)
  ·cases decide (a=o)<;>cases decide (e=q)
   all_goals simp only[Bool.not_true,Bool.false_eq_true,if_false,if_true,cond_true,cond_false,List.nil_append,List.append_nil]
   ·exact g acc (by omega)
   ·rw[D0 (by simp;omega),oB,g _ (by simp;omega)];simp
   ·rw[D0 (by simp;omega),oB,g _ (by simp;omega)];simp
   ·rw[D0 (by simp;omega),oB,D0 (by simp;omega),oB,g _ (by simp;omega)];simp
theorem M0g(l:List J0)(m:l.length<=1000):∀(d k fuel:Nat) (acc:List O5),k+d=l.length->d<fuel->acc.length+2000*d<=3000000 ->
  Y8 l fuel (k:Int) acc=some (acc++L8 (l.drop k))
 |d,k,0,acc,h,hf,g=>by omega
 |0,k,fuel+1,acc,h,hf,g=>by
  rw[Y8.eq_2,if_neg (by simp;omega),D1 (by omega)]
  simp[L8]
 |d+1,k,fuel+1,acc,h,hf,g=>by
  have i:k<l.length:=by omega
  have a:=a5 i
  generalize l[k]=b at a
  obtain⟨c,e,f⟩:=b
  have h0:=L0g (l.drop (k+1)) c e f (by simp;omega) (l.length-(k+1)) 0 P0 acc (by simp) (W0 (by omega)) (by omega)
  have j:=Z0b (c,e,f) (l.drop (k+1))
  simp only[List.length_drop]at j
  rw[Y8.eq_2,if_pos (by simp;omega),Z1 a,oB]
  simp only[P1 i (show l.length<=9223372036854775807 by omega)]
  rw[U02 (by omega),oB,show(0:Int)=((0:Nat):Int) from rfl,h0,oB,M0g l m d (k+1) fuel _ (by omega) (by omega) (by simp only[List.length_append,List.drop_zero,List.length_drop]at j ⊢;omega),G1 a,L8]
  simp
theorem N0g(l:List J0)(u:l.length<=1000)(i:Nat)(a c e:Int)(o:l[i]?=some (a,c,e)):∀(d k fuel:Nat) (acc:List O5),k+d=l.length->d<fuel->acc.length+2*d<=4000000 ->
  Y3 l (i:Int) fuel (k:Int) acc=some (acc++d03 (a,c,e) (l.drop k))
 |d,k,0,acc,n,hf,m=>by omega
 |0,k,fuel+1,acc,n,hf,m=>by
  rw[Y3.eq_2,if_neg (by simp;omega),D1 (by omega)]
  simp[d03]
 |d+1,k,fuel+1,acc,n,hf,m=>by
  have p:k<l.length:=by omega
  have j:=a5 p
  generalize l[k]=b at j
  obtain⟨q,s,t⟩:=b
  have g:∀ f:List O5,f.length+2*d<=4000000->Y3 l (i:Int) fuel ((k+1:Nat):Int) f=some (f++d03 (a,c,e) (l.drop (k+1))):=λf h=>N0g l u i a c e o d (k+1) fuel f (by omega) (by omega) h
  rw[Y3.eq_2,if_pos (by simp;omega),Z1 o,oB]
  simp only[]
  rw[Z1 j,oB,P1 p (by omega),G1 j]
  simp only[d03,U0a]
  cases decide (c=s)
  ·simp only[Bool.false_eq_true,if_false,cond_false,List.nil_append]
   exact g acc (by omega)
  ·cases decide (a=q)<;>cases decide (e=t)
   all_goals simp only[Bool.not_true,Bool.false_eq_true,if_false,if_true,cond_true,cond_false,List.nil_append,List.append_nil]
   ·exact g acc (by omega)
   ·rw[D0 (by simp;omega),oB,g _ (by simp;omega)];simp
   ·rw[D0 (by simp;omega),oB,g _ (by simp;omega)];simp
   ·rw[D0 (by simp;omega),oB,D0 (by simp;omega),oB,g _ (by simp;omega)];simp
theorem O0g(l:List J0)(j:l.length<=1000):∀(d k fuel:Nat) (acc:List O5),k+d=l.length->d<fuel->acc.length+2000*d<=3000000 ->
  H7 l fuel (k:Int) acc=some (acc++L8 (l.drop k))
 |d,k,0,acc,h,hf,g=>by omega
 |0,k,fuel+1,acc,h,hf,g=>by
  rw[H7.eq_2,if_neg (by simp;omega),D1 (by omega)]
  simp[L8]
 |d+1,k,fuel+1,acc,h,hf,g=>by
  have i:k<l.length:=by omega
  have a:=a5 i
  generalize l[k]=b at a
  obtain⟨c,e,f⟩:=b
  have h0:=N0g l j k c e f a (l.length-(k+1)) (k+1) P0 acc (by omega) (W0 (by omega)) (by omega)
  have m:=Z0b (c,e,f) (l.drop (k+1))
  simp only[List.length_drop]at m
  rw[H7.eq_2,if_pos (by simp;omega),P1 i (by omega),h0,oB,O0g l j d (k+1) fuel _ (by omega) (by omega) (by simp only[List.length_append,List.length_drop]at m ⊢;omega),G1 a,L8]
  simp
theorem K0j(g:j0)(a:g.2.2.length<=1000):t03 g=some (L8 g.2.2):=by
 obtain⟨r,n,es⟩:=g
 unfold t03
 simp only
 rw[show(0:Int)=((0:Nat):Int) from rfl,M0g es a es.length 0 P0 [] (by omega) (W0 (by simp only at a;omega)) (by simp only at a;simp;omega)]
 rfl
theorem L0j(g:j0)(a:g.2.2.length<=1000):Z01 g=some (L8 g.2.2):=by
 obtain⟨r,n,es⟩:=g
 unfold Z01
 simp only
 rw[show(0:Int)=((0:Nat):Int) from rfl,O0g es a es.length 0 P0 [] (by omega) (W0 (by simp only at a;omega)) (by simp only at a;simp;omega)]
 rfl
def e03(g:j0):O5×Bool:=bif Q0 g then(match L8 g.2.2 with
 | []=>((0,0),false)
 |f::_=>(f,true))else((0,0),false)
theorem c0d(g:j0)(c:g.2.2.length<=140737488355328):S9 g=some (e03 g):=by
 have b:=H00 g c
 have a:=K0j g
 unfold e03
 cases hg:Q0 g with
 |false =>
  obtain⟨r,n,es⟩:=g
  unfold S9
  simp only[b,hg,oB];rfl
 |true =>
  have a:=a (by have:=(A2 hg).2.2.2;omega)
  obtain⟨r,n,es⟩:=g
  unfold S9
  simp only[b,hg,a,oB,cond_true]
  simp only at a
  cases L8 es with
  |nil=>rfl
  |cons f l =>
   rw[if_neg (by simp),if_neg (by simp;omega),U0h rfl]
   rfl
theorem d0d(g:j0)(c:g.2.2.length<=140737488355328):R9 g=some (e03 g):=by
 have b:=S7 g c
 have a:=L0j g
 unfold e03
 cases hg:Q0 g with
 |false =>
  obtain⟨r,n,es⟩:=g
  unfold R9
  simp only[b,hg,oB];rfl
 |true =>
  have a:=a (by have:=(A2 hg).2.2.2;omega)
  obtain⟨r,n,es⟩:=g
  unfold R9
  simp only[b,hg,a,oB,cond_true]
  simp only at a
  cases L8 es with
  |nil=>rfl
  |cons f l =>
   rw[if_neg (by simp),if_neg (by simp;omega),U0h rfl]
   rfl
theorem A0m(v:Int)(f:O5)(d:0<=v/\v<1000)(hf:0<=f.1/\f.1<f.2):q02 v f=some (mvV f v):=by
 obtain⟨a,b⟩:=f
 simp only at hf
 unfold q02 mvV
 simp only
 by_cases c:v=b
 ·rw[if_pos (by simp[c]),if_neg (by simp;omega),if_pos c]
 ·rw[if_neg (by simp[c]),if_neg c]
  by_cases c2:v>b
  ·rw[if_pos (by simp[c2]),if_pos c2,w64 (by omega) (by omega)]
  ·rw[if_neg (by simp;omega),if_neg c2]
theorem M0j(v:Int)(f:O5)(d:0<=v/\v<1000):F6 v f=some (mvV f v):=by
 obtain⟨a,b⟩:=f
 unfold F6 mvV
 simp only
 by_cases c:v=b
 ·rw[if_pos (by simp[c]),if_pos c]
 ·rw[if_neg (by simp[c]),if_neg c]
  by_cases c2:v>b
  ·rw[if_pos (by simp[c2]),if_pos c2,w64 (by omega) (by omega)]
  ·rw[if_neg (by simp;omega),if_neg c2]
theorem f0i{f:O5}{v:Int}(a:0<=v/\v<1000)(hf:0<=f.1/\f.1<1000):H0 (mvV f v):=by
 unfold mvV
 split
 ·exact⟨by omega,by omega⟩
 ·split
  ·exact⟨by omega,by omega⟩
  ·exact⟨by omega,by omega⟩
theorem N0j(es:List J0)(f:O5)(r n:Int)(s:es.length<=1000)(o:∀ e∈es,(0<=e.1/\e.1<1000)/\(0<=e.2.2/\e.2.2<1000))(hf:0<=f.1/\f.1<f.2)(q:f.2<1000):∀(d k fuel:Nat) (acc:List J0),k+d=es.length->d<fuel->acc.length<=k ->
  w4 es f.1 f.2 fuel (k:Int) r n acc=some (r,n,w5 O0 acc ((es.drop k).map (mvE f)))
 |d,k,0,acc,l,m,j=>by omega
 |0,k,fuel+1,acc,l,m,j=>by
  rw[w4.eq_2,if_neg (by simp;omega),D1 (by omega)]
  rfl
 |d+1,k,fuel+1,acc,l,m,j=>by
  have c:k<es.length:=by omega
  have g:=a5 c
  have a:=o _ (List.getElem_mem c)
  generalize es[k]=b at g a
  obtain⟨h,p,i⟩:=b
  simp only at a
  have t:=u06 (mvE f (h,p,i)) acc
  rw[w4.eq_2,if_pos (by simp;omega),Z1 g,oB]
  simp only[]
  rw[A0m h (f.1,f.2) a.1 hf,oB,D0 (f0i a.1 ⟨hf.1,by show f.1<1000;omega⟩),oB,A0m i (f.1,f.2) a.2 hf,oB,D0 (f0i a.2 ⟨hf.1,by show f.1<1000;omega⟩),oB,
   H05 acc _ (by omega),oB,P1 c (by omega),G1 g,List.map_cons]
  exact N0j es f r n s o hf q d (k+1) fuel _ (by omega) (by omega) (Nat.le_trans t (by omega))
theorem O0j{g:j0}{f:O5}(d:Q0 g=true)(hf:okF g f):I7 g f=some (H01 g f,true):=by
 obtain⟨k,o,l,m⟩:=A2 d
 have i:=S7 g (by omega)
 obtain⟨c,f2,f3⟩:=hf
 obtain⟨r,n,es⟩:=g
 obtain⟨a,b⟩:=f
 simp only at c f2 f3 l m
 have h:=N0j es (a,b) r (IntKind.i64.wrap (n-1)) (by omega) (λe j=>by
  have:=k e j
  simp only at this
  exact⟨⟨by omega,by omega⟩,by omega,by omega⟩) ⟨c,f2⟩ (by simp only;omega) es.length 0 P0 [] (by omega) (W0 (by omega)) (Nat.le_refl _)
 unfold I7
 simp only[i,d,oB]
 rw[if_neg (by simp;omega),show(0:Int)=((0:Nat):Int) from rfl,h,w64 (by omega) (by omega)]
 rfl
theorem P0j(es:List J0)(f:O5)(s:es.length<=1000)(n:∀ e∈es,(0<=e.1/\e.1<1000)/\(0<=e.2.2/\e.2.2<1000))(hf:0<=f.1/\f.1<1000):∀(d k fuel:Nat),k+d=es.length->d<fuel ->
  A4 es f.1 f.2 fuel (k:Int) ((es.take k).map (mvE f)++es.drop k)=some (es.map (mvE f))
 |d,k,0,j,l=>by omega
 |0,k,fuel+1,j,l=>by
  rw[A4.eq_2,if_neg (by simp;omega),D1 (by omega),List.append_nil,List.take_of_length_le (by omega)]
 |d+1,k,fuel+1,j,l=>by
  have g:k<es.length:=by omega
  have c:=a5 g
  have a:=n _ (List.getElem_mem g)
  generalize es[k]=b at c a
  have m:((es.take k).map (mvE f)).length=k:=by simp;omega
  have q:((es.take k).map (mvE f)++es.drop k)[k]?=some b:=by
   rw[List.getElem?_append_right (by omega),m,G1 c];simp
  have t:∀ y,((es.take k).map (mvE f)++es.drop k).set k y=(es.take k).map (mvE f)++y::es.drop (k+1):=λy=>by
   rw[List.set_append_right _ _ (by omega),m,G1 c];simp
  obtain⟨h,p,i⟩:=b
  simp only at a
  have e:(es.take (k+1)).map (mvE f)++es.drop (k+1)=(es.take k).map (mvE f)++mvE f (h,p,i)::es.drop (k+1):=by
   rw[k0m c];simp
  have o:=P0j es f s n hf d (k+1) fuel (by omega) (by omega)
  rw[e]at o
  rw[A4.eq_2,if_pos (by simp;omega),Z1 q,oB]
  simp only[]
  rw[M0j h (f.1,f.2) a.1,oB,D0 (f0i a.1 hf),oB,M0j i (f.1,f.2) a.2,oB,D0 (f0i a.2 hf),oB]
  simp only[oB]
  rw[show((k:Nat):Int).toNat=k from Int.toNat_natCast k,t,P1 g (by omega)]
  exact o
theorem Q0j{g:j0}{f:O5}(d:Q0 g=true)(hf:okF g f):J7 g f=some (H01 g f,true):=by
 obtain⟨l,p,m,o⟩:=A2 d
 have i:=H00 g (by omega)
 have j:=e01 g (by omega)
 obtain⟨c,f2,f3⟩:=hf
 obtain⟨r,n,es⟩:=g
 obtain⟨a,b⟩:=f
 simp only at c f2 f3 m o
 have h:=P0j es (a,b) (by omega) (λe k=>by
  have:=l e k
  simp only at this
  exact⟨⟨by omega,by omega⟩,by omega,by omega⟩) ⟨c,by simp only;omega⟩ es.length 0 P0 (by omega) (W0 (by omega))
 simp only[List.take_zero,List.map_nil,List.nil_append,List.drop_zero]at h
 unfold J7
 simp only[i,j,d,oB]
 rw[if_neg (by simp;omega),show(0:Int)=((0:Nat):Int) from rfl,h,oB,P0a _ (by simp;omega),oB,w64 (by omega) (by omega)]
 rfl
def d02(g:j0):j0×O5×Bool:=bif Q0 g then(match L8 g.2.2 with
 | []=>(g,(0,0),false)
 |f::_=>(H01 g f,f,true))else(g,(0,0),false)
theorem f08(g:j0)(j:g.2.2.length<=1099511627776):o01 g=some (d02 g):=by
 have c:=d0d g (by omega)
 have d:=X01 g j
 have i:∀ f,Q0 g=true->okF g f->I7 g f=some (H01 g f,true):=λf a b=>O0j a b
 have h:Q0 g=true->∀ f∈L8 g.2.2,okF g f:=e05
 unfold e03 at c
 unfold d02
 obtain⟨r,n,es⟩:=g
 unfold o01
 simp only[c,oB]
 cases hg:Q0 (r,n,es)with
 |false=>simp only[cond_false,Bool.not_false,if_true,d,oB]
 |true =>
  simp only[cond_true]
  simp only at h
  cases e:L8 es with
  |nil=>simp only[Bool.not_false,if_true,d,oB]
  |cons f l =>
   simp only[Bool.not_true,Bool.false_eq_true,if_false,i f hg (h hg f (by rw[e];exact mS)),oB]
theorem g08(g:j0)(j:g.2.2.length<=1099511627776):t01 g=some (d02 g):=by
 have c:=c0d g (by omega)
 have d:=e01 g j
 have i:∀ f,Q0 g=true->okF g f->J7 g f=some (H01 g f,true):=λf a b=>Q0j a b
 have h:Q0 g=true->∀ f∈L8 g.2.2,okF g f:=e05
 unfold e03 at c
 unfold d02
 obtain⟨r,n,es⟩:=g
 unfold t01
 simp only[c,oB]
 cases hg:Q0 (r,n,es)with
 |false=>simp only[cond_false,Bool.not_false,if_true,d,oB]
 |true =>
  simp only[cond_true]
  simp only at h
  cases e:L8 es with
  |nil=>simp only[Bool.not_false,if_true,d,oB]
  |cons f l =>
   simp only[Bool.not_true,Bool.false_eq_true,if_false,i f hg (h hg f (by rw[e];exact mS)),oB]
def u0r:(j0×R8) ⊕ (Int×Int×M0×(List O5))->Option (j0×R8):=λX=>i8 X (λS=>match S with
 |(a,b,c,e)=>some ((a,b,c),e))
theorem V0e:∀(d k fuel:Nat) (g:j0) (acc:List O5),k+d=40->d<fuel->Q0 g=true->acc.length=k ->
  (E6 fuel (k:Int) g.1 g.2.1 g.2.2 acc).bind u0r=some ((I01 d g).1,acc++(I01 d g).2)
 |d,k,0,g,acc,h,hf,a,c=>by omega
 |0,k,fuel+1,g,acc,h,hf,a,c=>by
  rw[E6.eq_2,if_neg (by simp;omega)]
  simp[u0r,i8,I01]
 |d+1,k,fuel+1,g,acc,h,hf,a,c=>by
  have b:=f08 g (by have:=(A2 a).2.2.2;omega)
  have i:=e05 a
  unfold d02 at b
  rw[a]at b
  simp only[cond_true]at b
  rw[E6.eq_2,if_pos (by simp;omega),show(g.1,g.2.1,g.2.2)=g from rfl,b]
  unfold I01
  cases e:L8 g.2.2 with
  |nil=>simp[u0r,i8]
  |cons f l =>
   have j:=V0e d (k+1) fuel (H01 g f) (acc ++ [f]) (by omega) (by omega) (I05 a (i f (by rw[e];exact mS))) (by simp[c])
   simp only[oB,Bool.not_true,Bool.false_eq_true,if_false]
   rw[D0 (by simp;omega),oB,P1 (show k<1000 by omega) (by omega)]
   refine j.trans ?_
   simp
theorem l09(g:j0)(b:g.2.2.length<=1099511627776):a02 g=some (Q9 g):=by
 have a:=f08 g b
 have c:=X01 g b
 have d:=V0e 40 0 P0 g [] rfl (W0 (by omega))
 unfold Q9
 obtain⟨r,n,es⟩:=g
 unfold a02
 simp only[c,oB]
 cases hg:Q0 (r,n,es)with
 |false =>
  unfold d02 at a
  rw[hg]at a
  simp only[cond_false]at a
  rw[show P0=(P0-1)+1 from rfl,E6.eq_2,if_pos (by simp),a]
  rfl
 |true=>exact d hg rfl
theorem W0e:∀(d fuel:Nat) (g:j0) (acc:List O5),d<fuel->Q0 g=true->L8 (I01 d g).1.2.2 = []->acc.length+d<=1000 ->
  K7 fuel g.1 g.2.1 g.2.2 acc=some (.inl ((I01 d g).1,acc++(I01 d g).2))
 |d,0,g,acc,hf,a,c,j=>by omega
 |d,fuel+1,g,acc,hf,a,c,j=>by
  have b:=g08 g (by have:=(A2 a).2.2.2;omega)
  have i:=e05 a
  unfold d02 at b
  rw[a]at b
  simp only[cond_true]at b
  rw[K7.eq_2,show(g.1,g.2.1,g.2.2)=g from rfl,b]
  cases e:L8 g.2.2 with
  |nil =>
   have h:I01 d g=(g,[]):=by
    cases d with
    |zero=>rfl
    |succ d=>unfold I01;rw[e]
   rw[h]
   simp
  |cons f l =>
   cases d with
   |zero=>exact absurd e (by rw[show L8 g.2.2 = [] from c];simp)
   |succ d =>
    have h:I01 (d+1) g=((I01 d (H01 g f)).1,f::(I01 d (H01 g f)).2):=by
     show(match L8 g.2.2 with | []=>(g,[])|f::_=>((I01 d (H01 g f)).1,f::(I01 d (H01 g f)).2))=_
     rw[e]
    rw[h]at c ⊢
    have k:=W0e d fuel (H01 g f) (acc ++ [f]) (by omega) (I05 a (i f (by rw[e];exact mS))) c (by simp;omega)
    simp only[oB,Bool.not_true,Bool.false_eq_true,if_false]
    rw[D0 (by simp;omega),oB]
    refine k.trans ?_
    simp
theorem m09(g:j0)(c:g.2.2.length<=1099511627776):c02 g=some (Q9 g):=by
 have b:=g08 g c
 have d:=e01 g c
 have e:=W0e 40 P0 g [] (W0 (by omega))
 have f:Q0 g=true->L8 (I01 40 g).1.2.2 = []:=λa=>M09 40 a (by have:=(A2 a).2.2.1;omega)
 unfold Q9
 obtain⟨r,n,es⟩:=g
 unfold c02
 simp only[d,oB]
 cases a:Q0 (r,n,es)with
 |false =>
  unfold d02 at b
  rw[a]at b
  simp only[cond_false]at b
  rw[show P0=(P0-1)+1 from rfl,K7.eq_2,b]
  rfl
 |true =>
  have h:=e a (f a) (by simp)
  simp only at h
  rw[h]
  rfl
theorem b0c{g:j0}(h:Q0 g=true):Asc O0 g.2.2:=((A01 g).1 h).2.2.2.2
def stp(u x v:Int):J0:=if x<0 then(v,-x,u)else(u,x,v)
def H02(v:Int):List Int->Int->Int->List J0
 | [],_,_=>[]
 | [x],u,_=>[stp u x v]
 |x::y::r,u,n=>stp u x n::H02 v (y::r) n (n+1)
theorem N08(v:Int):∀(w:List Int) (u n:Int),(H02 v w u n).length=w.length
 | [],_,_=>rfl
 | [x],_,_=>rfl
 |x::y::r,u,n=>by simp only[H02,List.length_cons,N08 v (y::r)]
theorem i0l(u x v:Int)(a:l4 x):b02 u x v=some (stp u x v):=by
 unfold b02 stp
 by_cases c:x<0
 ·rw[if_pos (by simp[c]),if_pos c,E0a a.1 a.2]
 ·rw[if_neg (by simp;omega),if_neg c]
theorem g0i(w:List Int)(v:Int)(r:Int)(e:∀ x∈w,l4 x)(l:w.length<=1000):∀(d k fuel:Nat) (u n:Int) (es:List J0),k+d=w.length->d<fuel->0<=n->n<=1000+k->es.length<=1000+k ->
  G6 w v fuel u (k:Int) r n es=some (r,n+((d-1:Nat):Int),es++H02 v (w.drop k) u n)
 |d,k,0,u,n,es,j,hf,h0,h,i=>by omega
 |0,k,fuel+1,u,n,es,j,hf,h0,h,i=>by
  rw[G6.eq_2,if_neg (by simp;omega),D1 (by omega)]
  simp[H02]
 |d+1,k,fuel+1,u,n,es,j,hf,h0,h,i=>by
  have a:k<w.length:=by omega
  have f:=a5 a
  have b:=e _ (List.getElem_mem a)
  generalize w[k]=x at f b
  rw[G6.eq_2,if_pos (by simp;omega),Z1 f,oB,w0e (by omega) (by omega),G1 f]
  by_cases c:k+1<w.length
  ·rw[if_pos (by simp;omega),i0l u x n b,oB]
   have m:=a5 c
   generalize w[k+1]=y at m
   have g:=g0i w v r e l d (k+1) fuel n (n+1) (es ++ [stp u x n]) (by omega) (by omega) (by omega) (by omega) (by simp;omega)
   simp only[]
   rw[D0 (by simp;omega),oB,P1 a (by omega),w64 (show(-9223372036854775808:Int)<=n+1 by omega) (by omega)]
   refine g.trans ?_
   rw[G1 m]
   simp only[H02,List.append_assoc,List.singleton_append]
   congr 3
   omega
  ·have o:d=0:=by omega
   subst o
   rw[if_neg (by simp;omega),i0l u x v b,oB]
   have g:=g0i w v r e l 0 (k+1) fuel v n (es ++ [stp u x v]) (by omega) (by omega) h0 (by omega) (by simp;omega)
   simp only[]
   rw[D0 (by simp;omega),oB,P1 a (by omega)]
   refine g.trans ?_
   rw[D1 (show k+1=w.length by omega)]
   simp[H02]
theorem h0i(w:List Int)(v:Int)(r:Int)(h:∀ x∈w,l4 x/\x≠0)(o:w.length<=1000):∀(d k fuel:Nat) (u n:Int) (es:List J0),k+d=w.length->d<fuel->0<=n->n<=1000+k->es.length<=1000+k ->
  c5 w v fuel u (k:Int) r n es=some (r,n+((d-1:Nat):Int),w5 O0 es (H02 v (w.drop k) u n))
 |d,k,0,u,n,es,m,hf,h0,j,l=>by omega
 |0,k,fuel+1,u,n,es,m,hf,h0,j,l=>by
  rw[c5.eq_2,if_neg (by simp;omega),D1 (by omega)]
  simp[H02,w5]
 |d+1,k,fuel+1,u,n,es,m,hf,h0,j,l=>by
  have f:k<w.length:=by omega
  have g:=a5 f
  have b:=h _ (List.getElem_mem f)
  generalize w[k]=x at g b
  have p:∀ e,(t00 O0 e es).length<=1000+(k+1):=λe=>by have:=u06 e es;omega
  rw[c5.eq_2,if_pos (by simp;omega),G1 g]
  by_cases c:k+1<w.length
  ·have i:=a5 c
   generalize w[k+1]=y at i
   have a:=h0i w v r h o d (k+1) fuel n (n+1) (t00 O0 (stp u x n) es) (by omega) (by omega) (by omega) (by omega) (p _)
   rw[G1 i]at a
   rw[P1 f (by omega),if_pos (by simp;omega),Z1 g,oB,w64 (show(-9223372036854775808:Int)<=n+1 by omega) (by omega),G1 i]
   have fin:some (r,n+1+((d-1:Nat):Int),w5 O0 (t00 O0 (stp u x n) es) (H02 v (y::w.drop (k+1+1)) n (n+1)))=some (r,n+((d+1-1:Nat):Int),w5 O0 es (H02 v (x::y::w.drop (k+1+1)) u n)):=by
    simp only[H02,w5]
    congr 3
    omega
   by_cases c2:x>0
   ·have e:stp u x n=(u,x,n):=by unfold stp;rw[if_neg (by omega)]
    rw[if_pos (by simp[c2])]
    simp only[oB]
    rw[H05 es _ (by omega),oB,←e]
    exact a.trans fin
   ·have e:stp u x n=(n,-x,u):=by unfold stp;rw[if_pos (by omega)]
    rw[if_neg (by simp;omega)]
    simp only[oB]
    rw[E0a b.1.1 b.1.2,H05 es _ (by omega),oB,←e]
    exact a.trans fin
  ·have q:d=0:=by omega
   subst q
   have a:=h0i w v r h o 0 (k+1) fuel v n (t00 O0 (stp u x v) es) (by omega) (by omega) h0 (by omega) (p _)
   rw[D1 (show k+1=w.length by omega)]at a ⊢
   rw[P1 f (by omega),if_neg (by simp;omega),Z1 g,oB]
   have fin:some (r,n+((0-1:Nat):Int),w5 O0 (t00 O0 (stp u x v) es) (H02 v [] v n))=some (r,n+((0+1-1:Nat):Int),w5 O0 es (H02 v [x] u n)):=by
    simp[H02,w5]
   by_cases c2:x>0
   ·have e:stp u x v=(u,x,v):=by unfold stp;rw[if_neg (by omega)]
    rw[if_pos (by simp[c2])]
    simp only[oB]
    rw[H05 es _ (by omega),oB,←e]
    exact a.trans fin
   ·have e:stp u x v=(v,-x,u):=by unfold stp;rw[if_pos (by omega)]
    rw[if_neg (by simp;omega)]
    simp only[oB]
    rw[E0a b.1.1 b.1.2,H05 es _ (by omega),oB,←e]
    exact a.trans fin
theorem j0l{es p:List J0}(a:Asc O0 es):w5 O0 [] (es++p)=w5 O0 es p :=
 I09 K6 (R02 K6 _ _ .nil) (R02 K6 _ _ a) λx=>by
  rw[w9 K6,w9 K6];simp
def M4(g:j0)(u:Int)(w:List Int)(v:Int):j0×Bool :=
 bif !w.isEmpty&&decide (g.2.1+(w.length:Int)-1<=40)&&decide (g.2.2.length+w.length<=120)then((g.1,g.2.1+((w.length-1:Nat):Int),w5 O0 g.2.2 (H02 v w u g.2.1)),true)else(g,false)
theorem T03{r:Int}{w:List Int}(h:G2 r w=true):w.length<=24/\∀ x∈w,l4 x/\x≠0 /\ -r<=x/\x<=r:=by
 have a:=h
 simp only[G2,Bool.and_eq_true,decide_eq_true_eq]at a
 refine⟨a.1.2,λx c=>?_⟩
 obtain⟨i,b⟩:=List.getElem?_of_mem c
 have:=y0j h b
 exact⟨⟨⟨by omega,by omega⟩,by omega⟩,this.2.2⟩
theorem n09{g:j0}{u v:Int}{w:List Int}(d:Q0 g=true)(f:0<=u/\u<g.2.1)(i:0<=v/\v<g.2.1)(j:G2 g.1 w=true):Q00 g u w v=some (M4 g u w v):=by
 obtain⟨y,z,p,q⟩:=A2 d
 obtain⟨A,k⟩:=T03 j
 have l:=S7 g (by omega)
 have m:=X01 g (by omega)
 have b:=B04 g.1 w (by omega)
 obtain⟨r,n,es⟩:=g
 simp only at p q f i b
 have o:IntKind.i64.wrap (n-1)=n-1:=w64 (by omega) (by omega)
 have e:∀ x:Int,0<=x/\x<n->inR 0 (n-1) x=true:=λx a=>by simp[inR];omega
 have h:=h0i w v r (λx a=>⟨(k x a).1,(k x a).2.1⟩) (by omega) w.length 0 P0 u n es (by omega) (W0 (by omega)) (by omega) (by omega) (by omega)
 unfold Q00 M4
 simp only[l,m,d,oB,Bool.not_true,Bool.not_false,j1,cond_false,o,d01,e u f,e v i,b,j]
 rw[w64 (show(-9223372036854775808:Int)<=n+((w.length:Nat):Int) by omega) (by omega),w64 (show(-9223372036854775808:Int)<=n+((w.length:Nat):Int)-1 by omega) (by omega),w64 (show(-9223372036854775808:Int)<=((es.length:Nat):Int)+((w.length:Nat):Int) by omega) (by omega)]
 by_cases c:(w≠[]/\n+(w.length:Int)-1<=40)/\es.length+w.length<=120
 ·have t:w.length≠0:=by simpa using c.1.1
  rw[if_neg (by simp only[Bool.not_eq_true];simp[c.1.1];omega),show(0:Int)=((0:Nat):Int) from rfl,h,oB]
  rw[show(!w.isEmpty&&decide (n+(w.length:Int)-1<=40)&&decide (es.length+w.length<=120))=true by simp[c.1.1,c.1.2,c.2]]
  rfl
 ·rw[show(!w.isEmpty&&decide (n+(w.length:Int)-1<=40)&&decide (es.length+w.length<=120))=false by
   rw[←Bool.not_eq_true];simpa using c]
  rw[if_pos ?_]
  ·rfl
  ·by_cases d1:w = []
   ·simp[d1]
   ·by_cases d2:n+(w.length:Int)-1<=40
    ·have s : ¬ es.length+w.length<=120:=λh=>c ⟨⟨d1,d2⟩,h⟩
     have:decide (((es.length:Nat):Int)+((w.length:Nat):Int)>120)=true:=by simp;omega
     rw[this];simp
    ·have:decide (n+((w.length:Nat):Int)-1>40)=true:=by simp;omega
     rw[this];simp
theorem p0p{g:j0}(a:Q0 g=true){u:Int}(b:0<=u/\u<g.2.1):V3 g u=some true:=by
 obtain⟨d,e,c,f⟩:=A2 a
 obtain⟨r,n,es⟩:=g
 simp only at c b
 unfold V3
 simp only[W01]
 rw[w64 (by omega) (by omega)]
 simp[inR];omega
theorem o09{g:j0}{u v:Int}{w:List Int}(a:Q0 g=true)(e:0<=u/\u<g.2.1)(f:0<=v/\v<g.2.1)(i:G2 g.1 w=true):S00 g u w v=some (M4 g u w v):=by
 obtain⟨z,A,p,q⟩:=A2 a
 obtain⟨B,s⟩:=T03 i
 have j:=H00 g (by omega)
 have k:=e01 g (by omega)
 have b:=C04 g.1 w (by omega)
 have l:=p0p a e
 have m:=p0p a f
 have d:=b0c a
 obtain⟨r,n,es⟩:=g
 simp only at p q e f b d
 have h:=g0i w v r (λx o=>(s x o).1) (by omega) w.length 0 P0 u n es (by omega) (W0 (by omega)) (by omega) (by omega) (by omega)
 have y:=N08 v w u n
 unfold S00 M4
 simp only[j,k,a,oB,Bool.not_true,Bool.not_false,j1,cond_false,l,m]
 rw[w64 (show(-9223372036854775808:Int)<=n+((w.length:Nat):Int) by omega) (by omega),w64 (show(-9223372036854775808:Int)<=n+((w.length:Nat):Int)-1 by omega) (by omega),w64 (show(-9223372036854775808:Int)<=((es.length:Nat):Int)+((w.length:Nat):Int) by omega) (by omega)]
 by_cases d1:w = []
 ·subst d1
  simp[chk]
 rw[show decide (((w.length:Nat):Int)=0)=false by simp[d1],show(!false)=true from rfl,j1,b,oB,i]
 by_cases c:n+(w.length:Int)-1<=40/\es.length+w.length<=120
 ·rw[if_neg (by simp only[Bool.not_eq_true];simp;omega),show(0:Int)=((0:Nat):Int) from rfl,h,oB]
  rw[show(!w.isEmpty&&decide (n+(w.length:Int)-1<=40)&&decide (es.length+w.length<=120))=true by simp[d1,c.1,c.2]]
  simp only[List.drop_zero,cond_true]
  rw[P0a _ (by simp;omega),j0l d]
  rfl
 ·rw[show(!w.isEmpty&&decide (n+(w.length:Int)-1<=40)&&decide (es.length+w.length<=120))=false by
   rw[←Bool.not_eq_true];simp only[Bool.and_eq_true,decide_eq_true_eq,Bool.not_eq_true'];omega]
  rw[if_pos ?_]
  ·rfl
  ·by_cases d2:n+(w.length:Int)-1<=40
   ·have t : ¬ es.length+w.length<=120:=λh=>c ⟨d2,h⟩
    have:decide (((es.length:Nat):Int)+((w.length:Nat):Int)>120)=true:=by simp;omega
    rw[this];simp
   ·have:decide (n+((w.length:Nat):Int)-1>40)=true:=by simp;omega
    rw[this];simp
def ng(x:Int):Int:=IntKind.i64.wrap (0-x)
def inv(w:List Int):List Int:=(w.map ng).reverse
theorem D04(w:List Int):(inv w).length=w.length:=by simp[inv]
def r09(w:List Int):Prop:=∀ x∈w,H0 x
theorem u0p{w:List Int}{k:Nat}{x:Int}(a:w[k]?=some x):inv (w.drop k)=inv (w.drop (k+1)) ++ [ng x]:=by
 rw[G1 a]
 simp[inv]
theorem j04(w:List Int)(c:w.length<=1099511627776):∀(k fuel:Nat),k<=w.length->k<fuel ->
  S3 w fuel ((k:Int)-1) (inv (w.drop k))=some (inv w)
 |k,0,b,hf=>by omega
 |0,fuel+1,b,hf=>by
  rw[S3.eq_2,if_neg (by simp)]
  rfl
 |k+1,fuel+1,b,hf=>by
  have a:=a5 (show k<w.length by omega)
  have next:=j04 w c k fuel (by omega) (by omega)
  generalize w[k]=x at a
  rw[u0p a]at next
  have d:=D04 (w.drop (k+1))
  rw[List.length_drop]at d
  rw[show(((k+1:Nat):Int)-1)=(k:Int) by omega,S3.eq_2,if_pos (by simp),Z1 a,oB,D0 (by simp only[List.length_singleton];omega),oB,
   w64 (by omega) (by omega)]
  exact next
theorem s02(w:List Int)(a:w.length<=1099511627776):Y6 w=some (inv w):=by
 unfold Y6
 have h:=j04 w a w.length P0 (Nat.le_refl _) (W0 (by omega))
 rw[List.drop_length]at h
 rw[w64 (by omega) (by omega),show([]:C0)=inv [] from rfl,h]
 rfl
theorem u03(w:List Int):∀(fuel:Nat) (k:Int) (u:List Int),M6 w fuel k u=S3 w fuel k u
 |0,k,u=>rfl
 |fuel+1,k,u=>by
  rw[M6.eq_2,S3.eq_2]
  simp only[u03 w fuel]
theorem M03(w:List Int)(a:w.length<=1099511627776):Y7 w=some (inv w):=by
 rw[←s02 w a]
 unfold Y7 Y6
 rw[D0 (by omega),oB,u03]
 rfl
def Y0a(l x:Int):Bool := !(l == 0) && !(l == -9223372036854775808)&&(x == ng l)
def z02(s:List Int)(x:Int):List Int:=match s with
 | []=>[x]
 |l::t=>bif Y0a l x then t else x::l::t
def V02(s w:List Int):List Int:=w.foldl z02 s
def Red:List Int->Bool
 | []=>true
 | [_]=>true
 |x::l::t => !Y0a l x&&Red (l::t)
theorem e0f(s a b:List Int):V02 s (a++b)=V02 (V02 s a) b:=List.foldl_append
theorem g0c(s:List Int)(x:Int):(z02 s x).length<=s.length+1:=by
 cases s with
 |nil=>simp[z02]
 |cons l t =>
  simp only[z02]
  cases Y0a l x<;>simp<;>omega
theorem y06:∀(w s:List Int),(V02 s w).length<=s.length+w.length
 | [],s=>by simp[V02]
 |x::w,s=>by
  have:=y06 w (z02 s x)
  have:=g0c s x
  simp only[V02,List.foldl_cons,List.length_cons]at *
  omega
theorem v0p{b:List Int}{x:Int}(h:r09 b)(c:H0 x):r09 (z02 b x):=by
 cases b with
 |nil=>intro y a;simp[z02]at a;subst a;exact c
 |cons l t =>
  simp only[z02]
  cases Y0a l x with
  |true=>exact λy a=>h y (mC _ a)
  |false =>
   intro y a
   rcases List.mem_cons.1 a with rfl|a
   ·exact c
   ·exact h y a
theorem A0n{l x:Int}(b:H0 l)(c:H0 x):(!(x == 0)&&(l == ng x) && !(l == x))=Y0a l x:=by
 unfold Y0a ng
 have e:∀ {z:Int},H0 z->IntKind.i64.wrap (0-z)=if z = -9223372036854775808 then -9223372036854775808 else -z:=λ{z} a=>by
  split
  ·rename_i h;subst h;decide
  ·rw[w64 (by have:=a.1;have:=a.2;omega) (by have:=a.1;have:=a.2;omega)];omega
 rw[e b,e c]
 have d:=b.1
 have f:=b.2
 have g:=c.1
 have i:=c.2
 rw[Bool.eq_iff_iff]
 simp only[Bool.and_eq_true,Bool.not_eq_true',beq_iff_eq,beq_eq_false_iff_ne,ne_eq]
 split<;>split<;>omega
theorem f0f{l:Int}{t:List Int}:(l::t).reverse[t.length]?=some l:=by
 rw[List.reverse_cons,List.getElem?_append_right (by simp)]
 simp
theorem V0g(l:Int)(t:List Int):(l::t).reverse.take t.length=t.reverse:=by
 rw[List.reverse_cons,List.take_append_of_le_length (by simp),List.take_of_length_le (by simp)]
theorem f03(w:List Int)(hw:r09 w)(hl:w.length<=1099511627776):∀(d k fuel:Nat) (s:List Int),k+d=w.length->d<fuel->r09 s->s.length<=k ->
  I3 w fuel (k:Int) s.reverse=some (V02 s (w.drop k)).reverse
 |d,k,0,s,hk,hf,hs,hsl=>by omega
 |0,k,fuel+1,s,hk,hf,hs,hsl=>by
  rw[I3.eq_2,if_neg (by simp;omega),D1 (by omega)]
  rfl
 |d+1,k,fuel+1,s,hk,hf,hs,hsl=>by
  have hkl:k<w.length:=by omega
  have hx:=a5 hkl
  have hx64:=hw _ (List.mem_of_getElem? hx)
  generalize w[k]=x at hx hx64
  have next:=f03 w hw hl d (k+1) fuel (z02 s x) (by omega) (by omega) (v0p hs hx64) (by have:=g0c s x;omega)
  rw[G1 hx]
  show _=some (V02 (z02 s x) (w.drop (k+1))).reverse
  rw[←next,I3.eq_2,if_pos (by simp;omega),oB,D0 (by rw[List.length_reverse];omega),oB]
  rw[P1 hkl (by omega:w.length<=9223372036854775807)]
  have e0:decide (x=0)=(x == 0):=by rw[Bool.eq_iff_iff];simp
  cases s with
  |nil =>
   have hz:decide ((((([]:List Int).reverse).length:Nat):Int)>0)=false:=rfl
   simp only[hz,F1,oB,cond_false,Bool.false_eq_true,if_false,Z1 hx]
   rw[D0 (by simp)]
   rfl
  |cons l t =>
   have hl64:=hs l mS
   have hp:decide ((((l::t).reverse.length:Nat):Int)>0)=true:=by simp
   have hpr:IntKind.i64.wrap ((((l::t).reverse.length:Nat):Int)-1)=((t.length:Nat):Int):=by
    rw[w0e (by simp) (by simp only[List.length_reverse,List.length_cons]at *;omega)];simp
   have hc:=A0n hl64 hx64
   have e1:decide (l=IntKind.i64.wrap (0-x))=(l == ng x):=by rw[Bool.eq_iff_iff];simp[ng]
   have e2:decide (l=x)=(l == x):=by rw[Bool.eq_iff_iff];simp
   have hpush:(grd (((l::t).reverse.length + [x].length)*8<=140737488355328))=some ():=D0 (by simp only[List.length_cons]at hsl;simp only[List.length_reverse,List.length_cons,List.length_nil];omega)
   simp only[hp,hpr,j1,oB,cond_true,Z1 hx,Z1 f0f,e0,z02]
   cases h0:(x == 0)with
   |true =>
    rw[h0]at hc
    simp only[Bool.not_true,Bool.false_and]at hc
    simp only[←hc,Bool.not_true,F1,cond_false,oB,Bool.false_eq_true,if_false,hpush]
    exact congrArg _ (List.reverse_cons ..).symm
   |false =>
    rw[h0]at hc
    simp only[Bool.not_false,Bool.true_and]at hc
    simp only[Bool.not_false,j1,cond_true,oB,e1]
    cases h1:(l == ng x)with
    |false =>
     rw[h1]at hc
     simp only[Bool.false_and]at hc
     simp only[←hc,F1,cond_false,oB,Bool.false_eq_true,if_false,hpush]
     exact congrArg _ (List.reverse_cons ..).symm
    |true =>
     rw[h1]at hc
     simp only[Bool.true_and]at hc
     simp only[j1,cond_true,oB,e2]
     cases h2:(l == x)with
     |true =>
      rw[h2]at hc
      simp only[Bool.not_true]at hc
      simp only[←hc,Bool.not_true,Bool.false_eq_true,if_false,cond_false,oB,hpush]
      exact congrArg _ (List.reverse_cons ..).symm
     |false =>
      rw[h2]at hc
      simp only[Bool.not_false]at hc
      simp only[←hc,Bool.not_false,if_true,cond_true]
      rw[D0 (by simp only[List.length_reverse,List.length_cons]at *;omega),oB,Int.toNat_natCast,V0g]
theorem A02(w:List Int)(b:r09 w)(a:w.length<=1099511627776):t6 w=some (V02 [] w).reverse:=by
 unfold t6
 have h:=f03 w b a w.length 0 P0 [] (by omega) (W0 (by omega)) (λx c=>by cases c) (by simp)
 rw[show((0:Nat):Int)=0 from rfl,List.drop_zero,List.reverse_nil]at h
 rw[h,oB,D0 (by have:=y06 w [];simp only[List.length_reverse,List.length_nil]at *;omega),oB,List.nil_append]
end Go.Proofs.YtkjhghloldgioaaGreat
