/- Texts of the claim, joined: Plain laws: words and presentations, as the spec and the cod and others. -/
import Derived.Test.YtkjhghloldgioaaGreatPart18
import Derived.Test.YtkjhghloldgioaaGreatH33
import Derived.Test.YtkjhghloldgioaaGreatH36
import Derived.Test.YtkjhghloldgioaaGreatPart17
namespace Go.Proofs.YtkjhghloldgioaaGreat
open Go.H
set_option linter.unusedVariables false
set_option linter.unusedSimpArgs false
theorem C1{n:Nat}(h:n<=140737488355328):n<Q0:=by unfold Q0;omega
theorem D0{p:Prop}[Decidable p](h:p):grd p=some ():=by unfold grd;rw[if_pos h]
theorem H1{a:Type}(o:Option a)(d:a):chk true o d=o:=rfl
theorem L1{a:Type}(o:Option a)(d:a):chk false o d=some d:=rfl
theorem J2{a:Type}{xs:List a}{k:Nat}{x:a}(h:xs[k]?=some x):gi xs (k:Int)=some x:=by rw[U0c];exact h
theorem e0j{a:Type}{xs:List a}{x:a}(h:xs[0]?=some x):gi xs 0=some x:=J2 (k:=0) h
theorem K0b{x:Int}(h:J0 x)(a:x ≠ -9223372036854775808):IntKind.i64.wrap (0-x) = -x:=by rw[w64 (by have:=h.1;have:=h.2;omega) (by have:=h.1;have:=h.2;omega)];omega
theorem C0f{n:Nat}(h:0<n)(a:n<=9223372036854775807):IntKind.i64.wrap ((n:Int)-1)=((n-1:Nat):Int):=by rw[w64 (by omega) (by omega)];omega
theorem O5{a:Type}{xs:List a}{k:Nat}(h:k<xs.length):xs[k]?=some xs[k]:=List.getElem?_eq_getElem h
def inR(b a x:Int):Bool:=decide (b<=x)&&decide (x<=a)
def n05(b a:Int)(w:List Int)(i:Nat):Bool :=
 match w[i]? with
 |none=>true
 |some x=>x == 0 || !inR b a x || (decide (0<i)&&match w[i-1]? with
  |none=>true
  |some y=>x == IntKind.i64.wrap (0-y))
def J03(b a:Int)(w:List Int):Nat->Nat->Bool
 |0,_=>true
 |d+1,k => !n05 b a w k&&J03 b a w d (k+1)
def U2(r:Int)(w:List Int):Bool:=inR 1 3 r&&decide (w.length<=24)&&J03 (-r) r w w.length 0
theorem y02(a b c:Int):R3 a b c=some (inR b c a):=by
 unfold R3 inR
 by_cases h:b<=a<;>simp[h]
theorem v03(a b c:Int):C6 a b c=some (inR b c a):=y02 a b c
theorem o07(r:Int)(w:List Int)(n:w.length<=140737488355328):∀(d k fuel:Nat),k+d=w.length->d<fuel ->
  j9 w r fuel (k:Int)=some (bif J03 (IntKind.i64.wrap (0-r)) r w d k then .inr ()else .inl false)
 |d,k,0,j,hf=>by omega
 |0,k,fuel+1,j,hf=>by
  rw[j9.eq_2,if_neg (by simp;omega)]
  simp[J03]
 |d+1,k,fuel+1,j,hf=>by
  have l:k<w.length:=by omega
  have a:=O5 l
  generalize w[k]=x at a
  have next:=o07 r w n d (k+1) fuel (by omega) (by omega)
  rw[j9.eq_2,if_pos (by simp;omega)]
  generalize IntKind.i64.wrap (0-r)=lo at next ⊢
  simp only[J2 a,oB,y02,Y1 l (by omega:w.length<=9223372036854775807),next]
  have m:n05 lo r w k=(x == 0 || !inR lo r x || (decide (0<k)&&match w[k-1]? with
   |none=>true
   |some y=>x == IntKind.i64.wrap (0-y))):=by unfold n05;rw[a]
  simp only[J03,m]
  by_cases h0:x=0
  ·simp[h0,chk]
  have f:decide (x=0)=false:=by simpa using h0
  have b:(x == 0)=false:=by simpa using h0
  cases hin:inR lo r x with
  |false=>simp[f,b,hin,chk]
  |true =>
   by_cases hk0:k=0
   ·have h:decide ((k:Int)>0)=false:=by simp;omega
    have e:decide (0<k)=false:=by simp;omega
    simp only[f,b,hin,h,e,H1,L1,Bool.not_true,Bool.not_false,Bool.and_true,Bool.false_and,Bool.or_self,Bool.true_and,cond_true,cond_false,oB,Bool.or_false,Bool.and_false,Bool.false_eq_true,if_false,cond_true,cond_false]
   ·have i:=O5 (show k-1<w.length by omega)
    generalize w[k-1]=y at i
    have o:IntKind.i64.wrap ((k:Int)-1)=((k-1:Nat):Int):=C0f (by omega) (by omega)
    have h:decide ((k:Int)>0)=true:=by simp;omega
    have e:decide (0<k)=true:=by simp;omega
    simp only[f,b,hin,h,e,o,i,J2 a,J2 i,H1,L1,Bool.not_true,Bool.not_false,Bool.and_true,Bool.false_and,Bool.or_self,Bool.true_and,cond_true,cond_false,oB,Bool.or_false,Bool.and_false,Bool.false_or]
    by_cases hxy:x=IntKind.i64.wrap (0-y)
    ·have g:decide (x=IntKind.i64.wrap (0-y))=true:=by simpa using hxy
     have c:(x == IntKind.i64.wrap (0-y))=true:=by simpa using hxy
     simp only[g,c,if_true,Bool.not_true,Bool.false_and,Bool.false_eq_true,if_false,cond_true,cond_false]
    ·have g:decide (x=IntKind.i64.wrap (0-y))=false:=by simpa using hxy
     have c:(x == IntKind.i64.wrap (0-y))=false:=by simpa using hxy
     simp only[g,c,Bool.false_eq_true,if_false,Bool.not_false,Bool.true_and]
theorem w05(r:Int)(w:List Int)(a:w.length<=140737488355328):E00 r w=some (U2 r w):=by
 unfold E00
 have h:=o07 r w a w.length 0 Q0 (by omega) (C1 a)
 rw[show((0:Nat):Int)=0 from rfl]at h
 rw[h,y02]
 unfold U2
 by_cases hr:inR 1 3 r=true
 ·have:IntKind.i64.wrap (0-r) = -r:=by
   simp only[inR,Bool.and_eq_true,decide_eq_true_eq]at hr
   rw[w64 (by omega) (by omega)];omega
  rw[this,hr]
  cases J03 (-r) r w w.length 0<;>simp[g9]<;>omega
 ·simp only[Bool.not_eq_true]at hr
  rw[hr]
  cases J03 (IntKind.i64.wrap (0-r)) r w w.length 0<;>simp[g9]
theorem m0m(r x:Int)(b:inR 1 3 r=true):f02 r x=some (!(x == 0)&&inR (-r) r x):=by
 have a:IntKind.i64.wrap (0-r) = -r:=by
  simp only[inR,Bool.and_eq_true,decide_eq_true_eq]at b
  rw[w64 (by omega) (by omega)];omega
 unfold f02
 rw[a,v03]
 by_cases h0:x=0
 ·simp[h0,chk]
 ·simp[h0,chk]
theorem L0b(y x:Int):k00 y x=some (!(y == 0) && !(y == -9223372036854775808)&&(x == IntKind.i64.wrap (0-y))):=by
 unfold k00
 by_cases h0:y=0
 ·simp[h0]
 ·by_cases h1:y = -9223372036854775808
  ·simp[h1]
  ·simp only[h0,h1,decide_false,Bool.not_false,cond_true,Option.some.injEq]
   have a:(y == 0)=false:=by simpa using h0
   have b:(y == -9223372036854775808)=false:=by simpa using h1
   rw[a,b]
   rfl
theorem p07(r:Int)(w:List Int)(hr:inR 1 3 r=true)(hl:w.length<=140737488355328):∀(d k fuel:Nat),k+d=w.length->d<fuel ->
  (∀ i,i<k->n05 (-r) r w i=false) ->
  l9 w r fuel (k:Int)=some (bif J03 (-r) r w d k then .inr ()else .inl false)
 |d,k,0,hk,hf,hp=>by omega
 |0,k,fuel+1,hk,hf,hp=>by
  rw[l9.eq_2,if_neg (by simp;omega)]
  simp[J03]
 |d+1,k,fuel+1,hk,hf,hp=>by
  have hkl:k<w.length:=by omega
  have hx:=O5 hkl
  generalize w[k]=x at hx
  have next:=λ(hb:n05 (-r) r w k=false)=>p07 r w hr hl d (k+1) fuel (by omega) (by omega) (λi hi=>by
   by_cases e:i=k
   ·subst e;exact hb
   ·exact hp i (by omega))
  rw[l9.eq_2,if_pos (by simp;omega)]
  rw[J2 hx,oB,m0m r x hr,Y1 hkl (by omega:w.length<=9223372036854775807)]
  have hbad:n05 (-r) r w k=(x == 0 || !inR (-r) r x || (decide (0<k)&&match w[k-1]? with
   |none=>true
   |some y=>x == IntKind.i64.wrap (0-y))):=by unfold n05;rw[hx]
  simp only[J03]
  by_cases h0:x=0
  ·simp[h0,chk,hbad]
  have b0:(x == 0)=false:=by simpa using h0
  cases hin:inR (-r) r x with
  |false=>simp[b0,hin,chk,hbad]
  |true =>
   by_cases hk0:k=0
   ·have hb:n05 (-r) r w k=false:=by rw[hbad];simp[h0,hin,hk0]
    rw[next hb,hb]
    have ek:decide ((k:Int)>0)=false:=by simp;omega
    simp only[b0,ek,H1,L1,Bool.not_true,Bool.not_false,Bool.and_true,Bool.false_and,Bool.or_self,Bool.true_and,cond_true,cond_false,oB,Bool.or_false,Bool.and_false,Bool.false_eq_true,if_false,cond_true,cond_false]
   ·have hy:=O5 (show k-1<w.length by omega)
    have hpy:=hp (k-1) (by omega)
    generalize w[k-1]=y at hy
    have hy0:y≠0/\y ≠ -9223372036854775808:=by
     unfold n05 at hpy
     rw[hy]at hpy
     simp only[Bool.or_eq_false_iff,Bool.not_eq_false']at hpy
     have h1:=hpy.1.2
     simp only[inR,Bool.and_eq_true,decide_eq_true_eq]at h1 hr
     exact⟨by simpa using hpy.1.1,by omega⟩
    have b2:(y == 0)=false:=by simpa using hy0.1
    have b3:(y == -9223372036854775808)=false:=by simpa using hy0.2
    have hpr:IntKind.i64.wrap ((k:Int)-1)=((k-1:Nat):Int):=C0f (by omega) (by omega)
    have ek:decide ((k:Int)>0)=true:=by simp;omega
    have bk:decide (0<k)=true:=by simp;omega
    simp only[b0,ek,hpr,J2 hy,L0b,b2,b3,H1,L1,Bool.not_true,Bool.not_false,Bool.and_true,Bool.false_and,Bool.or_self,Bool.true_and,cond_true,cond_false,oB,Bool.or_false,Bool.and_false,Bool.false_or]
    cases b1:(x == IntKind.i64.wrap (0-y))with
    |true =>
     have hb:n05 (-r) r w k=true:=by rw[hbad,hy,bk,b0,hin];exact b1
     simp only[hb,if_true,Bool.not_true,Bool.false_and,Bool.false_eq_true,if_false,cond_true,cond_false]
    |false =>
     have hb:n05 (-r) r w k=false:=by rw[hbad,hy,bk,b0,hin];exact b1
     simp only[hb,next hb,Bool.false_eq_true,if_false,Bool.not_false,Bool.true_and]
theorem x05(r:Int)(w:List Int)(b:w.length<=140737488355328):F00 r w=some (U2 r w):=by
 unfold F00
 rw[v03]
 unfold U2
 cases hr:inR 1 3 r with
 |false=>simp
 |true =>
  by_cases h24:w.length<=24
  ·have h:=p07 r w hr b w.length 0 Q0 (by omega) (C1 b) (λi c=>by omega)
   rw[show((0:Nat):Int)=0 from rfl]at h
   have a : ¬ (24:Int)<(w.length:Int):=by omega
   simp only[oB,h,a]
   cases J03 (-r) r w w.length 0<;>simp[g9,h24]
  ·have a:(24:Int)<(w.length:Int):=by omega
   simp[h24,a]
def tot:List (List Int)->Nat
 | []=>0
 |w::r=>w.length+tot r
theorem M1{a:Type}{xs:List a}{k:Nat}{x:a}(h:xs[k]?=some x):xs.drop k=x::xs.drop (k+1):=by
 obtain⟨b,rfl⟩:=List.getElem?_eq_some_iff.1 h
 exact List.drop_eq_getElem_cons b
theorem J1{a:Type}{xs:List a}{k:Nat}(h:k=xs.length):xs.drop k = []:=by rw[h];exact List.drop_length
theorem w04(ws:List (List Int))(g:ws.length<=140737488355328):∀(d k fuel a:Nat),k+d=ws.length->d<fuel->a+tot (ws.drop k)<=9223372036854775807 ->
  V3 ws fuel (a:Int) (k:Int)=some ((a+tot (ws.drop k):Nat):Int)
 |d,k,0,a,e,hf,b=>by omega
 |0,k,fuel+1,a,e,hf,b=>by
  rw[V3.eq_2,if_neg (by simp;omega),J1 (by omega)]
  rfl
 |d+1,k,fuel+1,a,e,hf,b=>by
  have f:k<ws.length:=by omega
  have c:=O5 f
  generalize ws[k]=x at c
  rw[M1 c]at b ⊢
  simp only[tot]at b ⊢
  rw[V3.eq_2,if_pos (by simp;omega),J2 c,oB,Y1 f (by omega:ws.length<=9223372036854775807),
   show IntKind.i64.wrap ((a:Int)+((x.length:Nat):Int))=((a+x.length:Nat):Int) by rw[w64 (by omega) (by omega)];omega,
   w04 ws g d (k+1) fuel (a+x.length) (by omega) (by omega) (by omega)]
  rw[Nat.add_assoc]
theorem B06(ws:List (List Int))(a:ws.length<=140737488355328)(b:tot ws<=9223372036854775807):G9 ws=some ((tot ws:Nat):Int):=by
 unfold G9
 have h:=w04 ws a ws.length 0 Q0 0 (by omega) (C1 a) (by simpa using b)
 rw[show((0:Nat):Int)=0 from rfl]at h
 rw[h]
 simp
theorem S03(ws:List (List Int)):∀(fuel:Nat) (a k:Int),T6 ws fuel a k=V3 ws fuel a k
 |0,a,k=>rfl
 |fuel+1,a,k=>by
  rw[T6.eq_2,V3.eq_2]
  simp only[S03 ws fuel]
theorem M0b(ws:List (List Int))(a:ws.length<=140737488355328)(b:tot ws<=9223372036854775807):T00 ws=some ((tot ws:Nat):Int):=by
 rw[←B06 ws a b]
 unfold T00 G9
 rw[S03]
def e0e(r:Int):List (List Int)->Bool
 | []=>true
 |w::l=>U2 r w&&e0e r l
def L6(r:Int)(ws:List (List Int)):Bool:=inR 1 3 r&&decide (ws.length<=6)&&e0e r ws&&decide (tot ws<40)
theorem D0f{r:Int}:∀ {ws:List (List Int)},e0e r ws=true->tot ws<=24*ws.length
 | [],_=>by simp[tot]
 |w::l,h=>by
  simp only[e0e,Bool.and_eq_true]at h
  have a:=h.1
  simp only[U2,Bool.and_eq_true,decide_eq_true_eq]at a
  have:=D0f h.2
  simp only[tot,List.length_cons]
  omega
def T8(ws:List (List Int)):Prop:=∀ w∈ws,w.length<=140737488355328
theorem V05(r:Int)(ws:List (List Int))(g:ws.length<=140737488355328)(e:T8 ws):∀(d k fuel:Nat),k+d=ws.length->d<fuel ->
  H7 ws r fuel (k:Int)=some (bif e0e r (ws.drop k)then .inr ()else .inl false)
 |d,k,0,b,hf=>by omega
 |0,k,fuel+1,b,hf=>by
  rw[H7.eq_2,if_neg (by simp;omega),J1 (by omega)]
  rfl
 |d+1,k,fuel+1,b,hf=>by
  have c:k<ws.length:=by omega
  have a:=O5 c
  have f:=e _ (List.mem_of_getElem? a)
  generalize ws[k]=x at a f
  rw[M1 a,H7.eq_2,if_pos (by simp;omega),J2 a,oB,w05 r x f,oB,Y1 c (by omega:ws.length<=9223372036854775807),
   V05 r ws g e d (k+1) fuel (by omega) (by omega)]
  simp only[e0e]
  cases U2 r x<;>simp
theorem U08(r:Int)(ws:List (List Int))(c:ws.length<=140737488355328)(d:T8 ws):c01 r ws=some (L6 r ws):=by
 unfold c01
 have h:=V05 r ws c d ws.length 0 Q0 (by omega) (C1 c)
 rw[show((0:Nat):Int)=0 from rfl,List.drop_zero]at h
 rw[h,oB]
 unfold L6
 cases ha:e0e r ws with
 |false=>simp[g9]
 |true =>
  rw[cond_true,T0,y02,oB]
  have:=D0f ha
  cases hr:inR 1 3 r with
  |false=>simp[chk,grd,J0]
  |true =>
   by_cases h6:ws.length<=6
   ·rw[B06 ws c (by omega)]
    have a:decide (((ws.length:Nat):Int)<=6)=true:=by simp;omega
    have b:decide (ws.length<=6)=true:=by simpa using h6
    rw[a,b,cond_true,H1,oB,D0 (by constructor<;>omega)]
    simp
    omega
   ·have a:decide (((ws.length:Nat):Int)<=6)=false:=by simp;omega
    have b:decide (ws.length<=6)=false:=by simpa using h6
    rw[a,b]
    simp[chk,grd,J0]
theorem W05(r:Int)(ws:List (List Int))(g:ws.length<=140737488355328)(e:T8 ws):∀(d k fuel:Nat),k+d=ws.length->d<fuel ->
  I7 ws r fuel (k:Int)=some (bif e0e r (ws.drop k)then .inr ()else .inl false)
 |d,k,0,b,hf=>by omega
 |0,k,fuel+1,b,hf=>by
  rw[I7.eq_2,if_neg (by simp;omega),J1 (by omega)]
  rfl
 |d+1,k,fuel+1,b,hf=>by
  have c:k<ws.length:=by omega
  have a:=O5 c
  have f:=e _ (List.mem_of_getElem? a)
  generalize ws[k]=x at a f
  rw[M1 a,I7.eq_2,if_pos (by simp;omega),J2 a,oB,x05 r x f,oB,Y1 c (by omega:ws.length<=9223372036854775807),
   W05 r ws g e d (k+1) fuel (by omega) (by omega)]
  simp only[e0e]
  cases U2 r x<;>simp
theorem V08(r:Int)(ws:List (List Int))(c:ws.length<=140737488355328)(d:T8 ws):d01 r ws=some (L6 r ws):=by
 unfold d01
 rw[v03,oB]
 unfold L6
 cases hr:inR 1 3 r with
 |false=>simp
 |true =>
  by_cases h6:ws.length<=6
  ·have a:decide (((ws.length:Nat):Int)>6)=false:=by simp;omega
   have b:decide (ws.length<=6)=true:=by simpa using h6
   have h:=W05 r ws c d ws.length 0 Q0 (by omega) (C1 c)
   rw[show((0:Nat):Int)=0 from rfl,List.drop_zero]at h
   rw[a,b,h,oB]
   cases ha:e0e r ws with
   |false=>simp[g9]
   |true =>
    have:=D0f ha
    simp only[cond_true,T0,M0b ws c (by omega),oB,D0 (show J0 ((tot ws:Nat):Int) by constructor<;>omega)]
    simp
    omega
  ·have a:decide (((ws.length:Nat):Int)>6)=true:=by simp;omega
   have b:decide (ws.length<=6)=false:=by simpa using h6
   rw[a,b]
   simp
theorem L09{b a:Int}{w:List Int}:∀ {d k:Nat},J03 b a w d k=true->∀ i,k<=i->i<k+d->n05 b a w i=false
 |0,k,h,i,c,f=>by omega
 |d+1,k,h,i,c,f=>by
  simp only[J03,Bool.and_eq_true,Bool.not_eq_true']at h
  by_cases e:i=k
  ·subst e;exact h.1
  ·exact L09 h.2 i (by omega) (by omega)
theorem H0k{r:Int}{w:List Int}(h:U2 r w=true){i:Nat}{x:Int}(d:w[i]?=some x):(1<=r/\r<=3)/\w.length<=24/\x≠0 /\ -r<=x/\x<=r:=by
 simp only[U2,Bool.and_eq_true,decide_eq_true_eq]at h
 have c:=h.1.1
 simp only[inR,Bool.and_eq_true,decide_eq_true_eq]at c
 have a:=L09 h.2 i (Nat.zero_le _) (by have:=(List.getElem?_eq_some_iff.1 d).1;omega)
 unfold n05 at a
 rw[d]at a
 simp only[Bool.or_eq_false_iff,Bool.not_eq_false']at a
 have b:=a.1.2
 simp only[inR,Bool.and_eq_true,decide_eq_true_eq]at b
 exact⟨c,h.1.2,by simpa using a.1.1,b⟩
def P06(r a:Int)(e:K0):Bool:=inR 0 a e.1&&inR 0 a e.2.2&&inR 1 r e.2.1
def E0f(e f:K0):Int:=P0 e f
theorem F0f(e f:K0):E0f e f=if g00 e.1 f.1≠0 then g00 e.1 f.1 else if g00 e.2.1 f.2.1≠0 then g00 e.2.1 f.2.1 else g00 e.2.2 f.2.2:=rfl
theorem Z07(a b:Int):(a<b/\g00 a b = -1)∨(a>b/\g00 a b=1)∨(a=b/\g00 a b=0):=by
 unfold g00
 split
 ·omega
 ·split<;>omega
theorem H0e(e f:K0):J0 (E0f e f):=by
 rw[F0f]
 split
 ·exact d0j _ _
 ·split<;>exact d0j _ _
theorem q0q(g:j0)(e:K0):u03 g e=some (P06 g.1 (IntKind.i64.wrap (g.2.1-1)) e):=by
 obtain⟨r,n,es⟩:=g
 obtain⟨a,l,b⟩:=e
 unfold u03 P06
 simp only[y02,oB]
 cases inR 0 (IntKind.i64.wrap (n-1)) a with
 |false=>rfl
 |true =>
  cases inR 0 (IntKind.i64.wrap (n-1)) b with
  |false=>rfl
  |true=>simp[chk]
theorem f0e(g:j0)(e:K0):U9 g e=some (P06 g.1 (IntKind.i64.wrap (g.2.1-1)) e):=by
 obtain⟨r,n,es⟩:=g
 obtain⟨a,l,b⟩:=e
 unfold U9 J4 P06
 simp only[v03,oB]
 cases inR 0 (IntKind.i64.wrap (n-1)) a with
 |false=>rfl
 |true =>
  cases inR 0 (IntKind.i64.wrap (n-1)) b with
  |false=>rfl
  |true=>simp[chk]
theorem K03(e f:K0):b9 e f=some (E0f e f):=by
 obtain⟨a,l,b⟩:=e
 obtain⟨g,j,i⟩:=f
 unfold b9
 rw[show Q0=(Q0-4)+1+1+1+1 from rfl]
 have s:IntKind.i64.wrap (0+1)=1:=by decide
 have t:IntKind.i64.wrap (1+1)=2:=by decide
 have u:IntKind.i64.wrap (2+1)=3:=by decide
 have o:∀ x y z:Int,gi [x,y,z] 0=some x:=λ_ _ _=>rfl
 have p:∀ x y z:Int,gi [x,y,z] 1=some y:=λ_ _ _=>rfl
 have q:∀ x y z:Int,gi [x,y,z] 2=some z:=λ_ _ _=>rfl
 have d0:decide ((0:Int)<3)=true:=rfl
 have k:decide ((1:Int)<3)=true:=rfl
 have m:decide ((2:Int)<3)=true:=rfl
 have n:decide ((3:Int)<3)=false:=rfl
 simp only[U7.eq_2,s,t,u,o,p,q,d0,k,m,n,if_true,oB,Bool.false_eq_true,if_false]
 rw[F0f]
 simp only
 rcases Z07 a g with⟨h,e⟩|⟨h,e⟩|⟨h,e⟩
 ·simp[e,h,g9]
 ·have : ¬ a<g:=by omega
  simp[e,h,this,g9]
 ·subst h
  rcases Z07 l j with⟨h,c⟩|⟨h,c⟩|⟨h,c⟩
  ·simp[e,c,h,g9]
  ·have : ¬ l<j:=by omega
   simp[e,c,h,this,g9]
  ·subst h
   rcases Z07 b i with⟨h,d⟩|⟨h,d⟩|⟨h,d⟩
   ·simp[e,c,d,h,g9]
   ·have : ¬ b<i:=by omega
    simp[e,c,d,h,this,g9]
   ·subst h
    simp[e,c,d,g9]
theorem F0o(a b:Int):i8 a b=some (g00 a b):=by
 unfold i8 g00
 by_cases h:a<b
 ·simp[h]
 ·by_cases h2:a>b<;>simp[h,h2]
theorem X05(e f:K0):u00 e f=some (E0f e f):=by
 obtain⟨a,l,b⟩:=e
 obtain⟨c,d,g⟩:=f
 rw[F0f]
 unfold u00
 simp only[F0o,oB,D0 (d0j _ _)]
 by_cases h1:g00 a c=0
 ·by_cases h2:g00 l d=0
  ·simp[h1,h2]
  ·simp[h1,h2]
 ·simp[h1]
def r0q(r a:Int)(es:List K0)(k:Nat):Bool:=match es[k]? with
 |none=>true
 |some e => !P06 r a e || (decide (0<k)&&match es[k-1]? with
  |none=>true
  |some f=>decide (E0f f e ≥ 0))
def okE(r a:Int)(es:List K0):Nat->Nat->Bool
 |0,_=>true
 |d+1,k => !r0q r a es k&&okE r a es d (k+1)
def S0(g:j0):Bool:=okE g.1 (IntKind.i64.wrap (g.2.1-1)) g.2.2 g.2.2.length 0&&inR 1 3 g.1&&inR 1 40 g.2.1&&decide (g.2.2.length<=120)
theorem N0b{r a:Int}{es:List K0}{k:Nat}{e:K0}(b:es[k]?=some e):r0q r a es k=(!P06 r a e || (decide (0<k)&&match es[k-1]? with
  |none=>true
  |some f=>decide (E0f f e ≥ 0))):=by unfold r0q;rw[b]
theorem C06(r n:Int)(es:List K0)(q:es.length<=140737488355328):∀(d k fuel:Nat),k+d=es.length->d<fuel ->
  p8 es r n fuel (k:Int)=some (bif okE r (IntKind.i64.wrap (n-1)) es d k then .inr ()else .inl false)
 |d,k,0,l,hf=>by omega
 |0,k,fuel+1,l,hf=>by
  rw[p8.eq_2,if_neg (by simp;omega)]
  simp[okE]
 |d+1,k,fuel+1,l,hf=>by
  have m:k<es.length:=by omega
  have a:=O5 m
  generalize es[k]=e at a
  obtain⟨h,i,j⟩:=e
  have next:=C06 r n es q d (k+1) fuel (by omega) (by omega)
  rw[p8.eq_2,if_pos (by simp;omega),J2 a,oB]
  simp only[q0q,oB,Y1 m (by omega:es.length<=9223372036854775807),next,okE,N0b a]
  generalize IntKind.i64.wrap (n-1)=hi
  cases hin:P06 r hi (h,i,j)with
  |false=>simp[chk,grd,J0]
  |true =>
   by_cases hk0:k=0
   ·have c:decide ((k:Int)>0)=false:=by simp;omega
    have b:decide (0<k)=false:=by simp;omega
    simp only[c,b,L1,Bool.not_true,Bool.not_false,Bool.and_true,Bool.false_and,Bool.or_self,Bool.true_and,cond_true,cond_false,oB,Bool.or_false,Bool.false_eq_true,if_false,D0 (show J0 0 by decide)]
   ·have g:=O5 (show k-1<es.length by omega)
    generalize es[k-1]=f at g
    obtain⟨o,p,f2⟩:=f
    have s:IntKind.i64.wrap ((k:Int)-1)=((k-1:Nat):Int):=C0f (by omega) (by omega)
    have c:decide ((k:Int)>0)=true:=by simp;omega
    have b:decide (0<k)=true:=by simp;omega
    simp only[c,b,s,g,J2 a,J2 g,H1,Bool.not_true,Bool.not_false,Bool.and_true,Bool.false_and,Bool.or_self,Bool.true_and,cond_true,cond_false,oB,Bool.or_false,Bool.false_or,K03,D0 (H0e _ _)]
    cases decide (E0f (o,p,f2) (h,i,j) ≥ 0)<;>rfl
theorem O8(g:j0)(a:g.2.2.length<=140737488355328):O4 g=some (S0 g):=by
 obtain⟨r,n,es⟩:=g
 unfold O4 S0
 simp only at a ⊢
 have h:=C06 r n es a es.length 0 Q0 (by omega) (C1 a)
 rw[show((0:Nat):Int)=0 from rfl]at h
 rw[h,oB]
 cases okE r (IntKind.i64.wrap (n-1)) es es.length 0 with
 |false=>simp[g9]
 |true =>
  rw[cond_true,T0,y02,y02,oB]
  cases inR 1 3 r with
  |false=>simp[chk]
  |true =>
   simp only[H1,oB,cond_true,Bool.true_and]
   cases inR 1 40 n with
   |false=>simp
   |true=>simp;omega
theorem D06(r n:Int)(es:List K0)(q:es.length<=140737488355328):∀(d k fuel:Nat),k+d=es.length->d<fuel ->
  r8 es r n fuel (k:Int)=some (bif okE r (IntKind.i64.wrap (n-1)) es d k then .inr ()else .inl false)
 |d,k,0,l,hf=>by omega
 |0,k,fuel+1,l,hf=>by
  rw[r8.eq_2,if_neg (by simp;omega)]
  simp[okE]
 |d+1,k,fuel+1,l,hf=>by
  have m:k<es.length:=by omega
  have a:=O5 m
  generalize es[k]=e at a
  obtain⟨h,i,j⟩:=e
  have next:=D06 r n es q d (k+1) fuel (by omega) (by omega)
  rw[r8.eq_2,if_pos (by simp;omega),J2 a,oB]
  simp only[f0e,oB,Y1 m (by omega:es.length<=9223372036854775807),next,okE,N0b a]
  generalize IntKind.i64.wrap (n-1)=hi
  cases hin:P06 r hi (h,i,j)with
  |false=>simp[chk,grd,J0]
  |true =>
   by_cases hk0:k=0
   ·have c:decide ((k:Int)>0)=false:=by simp;omega
    have b:decide (0<k)=false:=by simp;omega
    simp only[c,b,L1,Bool.not_true,Bool.not_false,Bool.and_true,Bool.false_and,Bool.or_self,Bool.true_and,cond_true,cond_false,oB,Bool.or_false,Bool.false_eq_true,if_false,D0 (show J0 0 by decide)]
   ·have g:=O5 (show k-1<es.length by omega)
    generalize es[k-1]=f at g
    obtain⟨o,p,f2⟩:=f
    have s:IntKind.i64.wrap ((k:Int)-1)=((k-1:Nat):Int):=C0f (by omega) (by omega)
    have c:decide ((k:Int)>0)=true:=by simp;omega
    have b:decide (0<k)=true:=by simp;omega
    simp only[c,b,s,g,J2 a,J2 g,H1,Bool.not_true,Bool.not_false,Bool.and_true,Bool.false_and,Bool.or_self,Bool.true_and,cond_true,cond_false,oB,Bool.or_false,Bool.false_or,X05,D0 (H0e _ _)]
    cases decide (E0f (o,p,f2) (h,i,j) ≥ 0)<;>rfl
theorem D01(g:j0)(c:g.2.2.length<=140737488355328):a8 g=some (S0 g):=by
 obtain⟨r,n,es⟩:=g
 unfold a8 S0
 simp only at c ⊢
 rw[v03,v03,oB]
 cases hr:inR 1 3 r with
 |false=>simp[chk]
 |true =>
  simp only[Bool.not_true,Bool.not_false,H1,oB,cond_false]
  cases hn:inR 1 40 n with
  |false=>simp
  |true =>
   by_cases h120:es.length<=120
   ·have h:=D06 r n es c es.length 0 Q0 (by omega) (C1 c)
    rw[show((0:Nat):Int)=0 from rfl]at h
    have a:decide (((es.length:Nat):Int)>120)=false:=by simp;omega
    have b:decide (es.length<=120)=true:=by simpa using h120
    simp only[a,b,Bool.not_true,cond_false,Bool.false_eq_true,if_false,h,oB]
    cases okE r (IntKind.i64.wrap (n-1)) es es.length 0<;>rfl
   ·have a:decide (((es.length:Nat):Int)>120)=true:=by simp;omega
    have b:decide (es.length<=120)=false:=by simpa using h120
    simp only[a,b,Bool.not_true,cond_false,if_true,Bool.and_false]
theorem n0m{r a:Int}{es:List K0}:∀ {d k:Nat},okE r a es d k=true->∀ i,k<=i->i<k+d->r0q r a es i=false
 |0,k,h,i,b,c=>by omega
 |d+1,k,h,i,b,c=>by
  simp only[okE,Bool.and_eq_true,Bool.not_eq_true']at h
  by_cases e:i=k
  ·subst e;exact h.1
  ·exact n0m h.2 i (by omega) (by omega)
theorem G0f{n:Nat}(h:n<=9223372036854775807):n<Q0:=by unfold Q0;omega
def goI(x:Int):List Int->Bool×List Int
 | []=>(false,[])
 |y::l=>if x<y then(true,x::y::l)else if y=x then(true,y::l)else((goI x l).1,y::(goI x l).2)
theorem y0n(x:Int):∀ l,o01 g00 x l=bif(goI x l).1 then(goI x l).2 else(goI x l).2 ++ [x]
 | []=>rfl
 |y::l=>by
  have a:=y0n x l
  unfold o01 goI
  rcases Z07 x y with⟨h,e⟩|⟨h,e⟩|⟨h,e⟩
  ·rw[e,if_pos (by omega),if_pos h];rfl
  ·rw[e,if_neg (by omega),if_neg (by omega),if_neg (by omega),if_neg (by omega),a]
   cases (goI x l).1<;>rfl
  ·rw[e,if_neg (by omega),if_pos rfl,if_neg (by omega),if_pos h.symm];rfl
theorem H0f(l:List Int)(w:Int)(h:l.length<=1099511627776):∀(d k fuel:Nat) (acc:List Int),k+d=l.length->d<fuel->acc.length<=k+1 ->
  P4 l w fuel true (k:Int) acc=some (true,acc++l.drop k)
 |d,k,0,acc,e,hf,b=>by omega
 |0,k,fuel+1,acc,e,hf,b=>by
  rw[P4.eq_2,if_neg (by simp;omega),J1 (by omega),List.append_nil]
 |d+1,k,fuel+1,acc,e,hf,b=>by
  have f:k<l.length:=by omega
  have a:=O5 f
  generalize l[k]=x at a
  have i:=H0f l w h d (k+1) fuel (acc ++ [x]) (by omega) (by omega) (by simp;omega)
  rw[P4.eq_2,if_pos (by simp;omega),J2 a,oB]
  have g:∀ c:Bool,(bif c then(!true)else false)=false:=λc=>by cases c<;>rfl
  simp only[g,Bool.false_eq_true,if_false,oB,Y1 f (show l.length<=9223372036854775807 by omega),i,D0 (show(acc.length + [x].length)*8<=140737488355328 by simp;omega)]
  rw[M1 a]
  split<;>simp
theorem E0h(l:List Int)(w:Int)(b:l.length<=1099511627776):∀(d k fuel:Nat) (acc:List Int),k+d=l.length->d<fuel->acc.length=k ->
  P4 l w fuel false (k:Int) acc=some ((goI w (l.drop k)).1,acc++(goI w (l.drop k)).2)
 |d,k,0,acc,g,hf,f=>by omega
 |0,k,fuel+1,acc,g,hf,f=>by
  rw[P4.eq_2,if_neg (by simp;omega),J1 (by omega)]
  simp[goI]
 |d+1,k,fuel+1,acc,g,hf,f=>by
  have a:k<l.length:=by omega
  have e:=O5 a
  generalize l[k]=x at e
  have j:=E0h l w b d (k+1) fuel (acc ++ [x]) (by omega) (by omega) (by simp;omega)
  have m:=H0f l w b d (k+1) fuel (acc ++ [x]) (by omega) (by omega) (by simp;omega)
  have n:=H0f l w b d (k+1) fuel (acc ++ [w] ++ [x]) (by omega) (by omega) (by simp;omega)
  rw[P4.eq_2,if_pos (by simp;omega),J2 e,oB,M1 e]
  unfold goI
  have h:∀ c:Bool,(bif c then(!true)else false)=false:=λc=>by cases c<;>rfl
  have i:∀ c:Bool,(bif c then(!false)else false)=c:=λc=>by cases c<;>rfl
  by_cases h0:x=w
  ·rw[if_pos (by simpa using h0),oB,h,if_neg (by simp),oB,D0 (by simp;omega),oB,Y1 a (by omega),m,if_neg (by omega),if_pos h0]
   simp
  ·rw[if_neg (by simpa using h0),oB,i]
   by_cases h1:w<x
   ·rw[if_pos (by simpa using h1),D0 (by simp;omega),oB,oB,D0 (by simp;omega),oB,Y1 a (by omega),n,if_pos h1]
    simp
   ·rw[if_neg (by simpa using h1),oB,D0 (by simp;omega),oB,Y1 a (by omega),j,if_neg h1,if_neg h0]
    simp
theorem O0b(l:List Int)(w:Int)(a:l.length<=1099511627776):P9 l w=some (o01 g00 w l):=by
 unfold P9
 have h:=E0h l w a l.length 0 Q0 [] (by omega) (C1 (by omega)) rfl
 rw[show((0:Nat):Int)=0 from rfl,List.drop_zero,List.nil_append]at h
 rw[h,oB,y0n]
 have b:∀ l:List Int,(goI w l).2.length<=l.length+1:=λl=>by
  induction l with
  |nil=>simp[goI]
  |cons y l c =>
   unfold goI
   split
   ·simp
   ·split
    ·simp
    ·simp only[List.length_cons];omega
 have:=b l
 cases (goI w l).1 with
 |true=>rfl
 |false =>
  simp only[Bool.not_false,if_true,cond_false]
  rw[D0 (by simp;omega),oB]
def F0h(v x:Int)(e:K0):List Int :=
 if 0<x/\e.2.1=x/\e.1=v then [e.2.2]else if x<0/\e.2.1 = -x/\e.2.2=v then [e.1]else []
def V00(v x:Int):List K0->List Int
 | []=>[]
 |e::es=>F0h v x e++V00 v x es
theorem G0o(v x:Int)(e:K0):(F0h v x e).length<=1:=by unfold F0h;split<;>(try split)<;>simp
theorem I0f(v x:Int):∀ es,(V00 v x es).length<=es.length
 | []=>by simp[V00]
 |e::es=>by
  have a:=G0o v x e
  have b:=I0f v x es
  simp only[V00,List.length_append,List.length_cons]
  omega
def S4(x:Int):Prop:=J0 x/\x ≠ -9223372036854775808
theorem P0b(es:List K0)(v x:Int)(f:S4 x)(t:es.length<=1099511627776):∀(d k fuel:Nat) (acc:List Int),k+d=es.length->d<fuel->acc.length<=k ->
  a5 es x v fuel (k:Int) acc=some (acc++V00 v x (es.drop k))
 |d,k,0,acc,p,hf,o=>by omega
 |0,k,fuel+1,acc,p,hf,o=>by
  rw[a5.eq_2,if_neg (by simp;omega),J1 (by omega)]
  simp[V00]
 |d+1,k,fuel+1,acc,p,hf,o=>by
  have q:k<es.length:=by omega
  have m:=O5 q
  generalize es[k]=e at m
  obtain⟨a,l,b⟩:=e
  have n:=λs h=>P0b es v x f t d (k+1) fuel s (by omega) (by omega) h
  have u:decide (x = -9223372036854775808)=false:=by simp;exact f.2
  rw[a5.eq_2,if_pos (by simp;omega),J2 m,oB,M1 m]
  simp only[V00,F0h,K0b f.1 f.2,u,Bool.not_false,Y1 q (show es.length<=9223372036854775807 by omega)]
  by_cases c:0<x/\l=x/\a=v
  ·obtain⟨c,rfl,rfl⟩:=c
   rw[if_pos (by simp[c]),if_pos ⟨c,rfl,rfl⟩,D0 (by simp;omega),oB,n _ (by simp;omega)]
   simp
  ·rw[if_neg c,if_neg (by simp only[Bool.cond_eq_ite];simp;intro g i j;exact c ⟨g,i,j⟩)]
   by_cases c2:x<0/\l = -x/\b=v
   ·rw[if_pos c2,if_pos (by simp[c2.1,c2.2.1,c2.2.2]),D0 (by simp;omega),oB,n _ (by simp;omega)]
    simp
   ·rw[if_neg c2,if_neg (by simp only[Bool.cond_eq_ite];simp;intro g i j;exact c2 ⟨g,i,j⟩),n _ (by omega)]
    simp
theorem q07(w:Int):∀ l:List Int,(o01 g00 w l).length<=l.length+1
 | []=>by simp[o01]
 |y::l=>by
  have:=q07 w l
  unfold o01
  split
  ·simp
  ·split
   ·simp
   ·simp only[List.length_cons];omega
theorem Q0b(es:List K0)(v x:Int)(m:S4 x)(s:es.length<=1099511627776):∀(d k fuel:Nat) (u:List Int),k+d=es.length->d<fuel->u.length<=k ->
  d4 es x v fuel u (k:Int)=some (Y5 g00 u (V00 v x (es.drop k)))
 |d,k,0,u,p,hf,o=>by omega
 |0,k,fuel+1,u,p,hf,o=>by
  rw[d4.eq_2,if_neg (by simp;omega),J1 (by omega)]
  rfl
 |d+1,k,fuel+1,u,p,hf,o=>by
  have q:k<es.length:=by omega
  have j:=O5 q
  generalize es[k]=e at j
  obtain⟨a,l,b⟩:=e
  have n:=λw h=>Q0b es v x m s d (k+1) fuel w (by omega) (by omega) h
  rw[d4.eq_2,if_pos (by simp;omega),J2 j,oB,M1 j]
  simp only[V00,F0h,K0b m.1 m.2,Y1 q (show es.length<=9223372036854775807 by omega)]
  by_cases c:0<x/\l=x/\a=v
  ·obtain⟨c,rfl,rfl⟩:=c
   have t:decide (l<0)=false:=by simp;omega
   have:=q07 b u
   rw[if_pos (by simp[c]),if_pos ⟨c,rfl,rfl⟩,O0b u b (by omega),oB,t,if_neg (by simp),n _ (by omega)]
   rfl
  ·rw[if_neg c,if_neg (by simp only[Bool.cond_eq_ite];simp;intro f g i;exact c ⟨f,g,i⟩)]
   by_cases c2:x<0/\l = -x/\b=v
   ·have:=q07 a u
    rw[if_pos c2,if_pos (by simp[c2.1,c2.2.1,c2.2.2]),O0b u a (by omega),oB,n _ (by omega)]
    rfl
   ·rw[if_neg c2,if_neg (by simp only[Bool.cond_eq_ite];simp;intro f g i;exact c2 ⟨f,g,i⟩),n _ (by omega)]
    rfl
def B03(g:j0)(v x:Int):List Int:=Y5 g00 [] (V00 v x g.2.2)
theorem R0r(x y:Int):eqI x y=true↔x=y:=by simp[eqI]
theorem I0k(g:j0)(v x:Int)(b:S4 x)(a:g.2.2.length<=1099511627776):H01 g v x=some (B03 g v x):=by
 obtain⟨r,n,es⟩:=g
 unfold H01 B03
 have h:=Q0b es v x b a es.length 0 Q0 [] (by omega) (G0f (by simp only at a;omega)) (by simp)
 rw[show((0:Nat):Int)=0 from rfl,List.drop_zero]at h
 simp only[h,oB]
theorem J0k(g:j0)(v x:Int)(b:S4 x)(a:g.2.2.length<=1099511627776):I01 g v x=some (B03 g v x):=by
 obtain⟨r,n,es⟩:=g
 unfold I01 B03
 have h:=P0b es v x b a es.length 0 Q0 [] (by omega) (G0f (by simp only at a;omega)) (by simp)
 rw[show((0:Nat):Int)=0 from rfl,List.drop_zero,List.nil_append]at h
 have c:=I0f v x es
 simp only at a
 simp only[h,oB,D0 (show(V00 v x es).length<4611686018427387904 by omega)]
 rw[←G0k t03 R0r (V00 v x es) (V00 v x es) λ_=>Iff.rfl]
 rfl
def Y0(g:j0)(v x:Int):Int:=match B03 g v x with
 | [] => -1
 |a::_=>a
theorem G04(g:j0)(v x:Int)(c:S4 x)(b:g.2.2.length<=1099511627776):R5 g v x=some (Y0 g v x):=by
 have h:=I0k g v x c b
 obtain⟨r,n,es⟩:=g
 unfold R5 Y0
 simp only[h,oB]
 cases B03 (r,n,es) v x with
 |nil=>rfl
 |cons a l=>rfl
theorem Y05(g:j0)(v x:Int)(c:S4 x)(b:g.2.2.length<=1099511627776):L7 g v x=some (Y0 g v x):=by
 have h:=J0k g v x c b
 obtain⟨r,n,es⟩:=g
 unfold L7 Y0
 simp only[h,oB]
 cases B03 (r,n,es) v x with
 |nil=>rfl
 |cons a l=>rfl
theorem G0h{g:j0}{v x y:Int}(h:y∈B03 g v x):y∈V00 v x g.2.2:=by
 rcases(r00 t03 y _ []).1 h with h|h
 ·cases h
 ·exact h
theorem U8{v x y:Int}:∀ {es:List K0},y∈V00 v x es↔∃ e∈es,(0<x/\e.2.1=x/\e.1=v/\y=e.2.2)∨(x<0/\e.2.1 = -x/\e.2.2=v/\y=e.1)
 | []=>by simp[V00]
 |e::es=>by
  simp only[V00,List.mem_append,U8 (es:=es),List.mem_cons,exists_eq_or_imp]
  refine or_congr ?_ Iff.rfl
  unfold F0h
  split
  ·rename_i h
   simp only[List.mem_singleton]
   constructor
   ·rintro rfl;exact .inl ⟨h.1,h.2.1,h.2.2,rfl⟩
   ·rintro(⟨_,_,_,a⟩|⟨f,_⟩)
    ·exact a
    ·omega
  ·rename_i h
   split
   ·rename_i b
    simp only[List.mem_singleton]
    constructor
    ·rintro rfl;exact .inr ⟨b.1,b.2.1,b.2.2,rfl⟩
    ·rintro(⟨f,_⟩|⟨_,_,_,a⟩)
     ·omega
     ·exact a
   ·rename_i b
    constructor
    ·intro h;cases h
    ·rintro(⟨c,a,d,_⟩|⟨c,a,d,_⟩)
     ·exact absurd ⟨c,a,d⟩ h
     ·exact absurd ⟨c,a,d⟩ b
def inG(g:j0):Prop:=∀ e∈g.2.2,(0<=e.1/\e.1<g.2.1)/\(0<=e.2.2/\e.2.2<g.2.1)/\1<=e.2.1/\e.2.1<=g.1
theorem M2{g:j0}(h:S0 g=true):inG g/\(1<=g.1/\g.1<=3)/\(1<=g.2.1/\g.2.1<=40)/\g.2.2.length<=120:=by
 obtain⟨r,n,es⟩:=g
 simp only[S0,inR,Bool.and_eq_true,decide_eq_true_eq]at h
 obtain⟨⟨⟨m,o⟩,p⟩,q⟩:=h
 refine⟨λe s=>?_,o,p,q⟩
 obtain⟨i,b⟩:=List.getElem?_of_mem s
 have a:=n0m m i (Nat.zero_le _) (by have:=(List.getElem?_eq_some_iff.1 b).1;simp only at this;omega)
 rw[N0b b]at a
 simp only[Bool.or_eq_false_iff,Bool.not_eq_false',P06,inR,Bool.and_eq_true,decide_eq_true_eq]at a
 obtain⟨⟨⟨⟨c,d⟩,f,j⟩,k,l⟩,_⟩:=a
 rw[w64 (by omega) (by omega)]at d j
 simp only
 exact⟨⟨c,by omega⟩,⟨f,by omega⟩,k,l⟩
theorem j04{g:j0}(d:inG g)(v x:Int):Y0 g v x = -1∨(0<=Y0 g v x/\Y0 g v x<g.2.1):=by
 unfold Y0
 cases hs:B03 g v x with
 |nil=>exact .inl rfl
 |cons a l =>
  right
  have b:a∈B03 g v x:=by rw[hs];exact mS
  obtain⟨e,c,h⟩:=U8.1 (G0h b)
  have:=d e c
  rcases h with⟨_,_,_,rfl⟩|⟨_,_,_,rfl⟩
  ·exact this.2.1
  ·exact this.1
theorem C03{g:j0}(a:inG g)(b:g.2.1<=40)(v x:Int):J0 (Y0 g v x):=by
 rcases j04 a v x with h|h
 ·rw[h];decide
 ·constructor<;>omega
def Z05(a b:K0):Bool:=decide (a.2.1=b.2.1)&&(decide (a.1=b.1) || decide (a.2.2=b.2.2))
theorem Y0c(a b:K0):Z05 a b=Z05 b a:=by
 unfold Z05
 have h:∀ x y:Int,decide (x=y)=decide (y=x):=λx y=>decide_eq_decide.2 ⟨Eq.symm,Eq.symm⟩
 rw[h a.2.1,h a.1,h a.2.2]
def noC(a:K0):List K0->Bool
 | []=>true
 |b::l => !Z05 a b&&noC a l
def l0a:List K0->Bool
 | []=>true
 |a::l=>noC a l&&l0a l
theorem f0j(a:K0):∀ l,noC a l=true↔∀ b∈l,Z05 a b=false
 | []=>by simp[noC]
 |b::l=>by simp[noC,f0j a l]
theorem Z0c:∀ l,l0a l=true↔l.Pairwise λa b=>Z05 a b=false
 | []=>by simp[l0a]
 |a::l=>by simp[l0a,Z0c l,f0j,List.pairwise_cons]
def J0f:List K0->List K0->Bool
 |_,[]=>true
 |b,a::l=>noC a b&&J0f (b ++ [a]) l
theorem H0h:∀(l f:List K0),J0f f l=true↔l.Pairwise (λa b=>Z05 a b=false)/\∀ a∈l,∀ b∈f,Z05 a b=false
 | [],f=>by simp[J0f]
 |a::l,f=>by
  simp only[J0f,Bool.and_eq_true,f0j,H0h l,List.pairwise_cons]
  constructor
  ·rintro⟨g,h,e⟩
   refine⟨⟨λb c=>by rw[Y0c];exact e b c a (by simp),h⟩,λx d b c=>?_⟩
   rcases List.mem_cons.1 d with rfl|d
   ·exact g b c
   ·exact e x d b (by simp[c])
  ·rintro⟨⟨g,h⟩,e⟩
   refine⟨λb c=>e a mS b c,h,λx d b c=>?_⟩
   rcases List.mem_append.1 c with c|c
   ·exact e x (mC _ d) b c
   ·rw[List.mem_singleton.1 c,Y0c];exact g x d
theorem H0o(l:List K0):J0f [] l=l0a l:=by
 rw[Bool.eq_iff_iff,H0h,Z0c]
 simp
def O0(g:j0):Bool:=S0 g&&l0a g.2.2
theorem l0s(a b e c d f:Int):(bif decide (b=d)then(bif decide (a=c)then true else decide (e=f))else false)=Z05 (a,b,e) (c,d,f):=by
 unfold Z05
 cases decide (b=d)<;>cases decide (a=c)<;>rfl
theorem R0b(l:List K0)(a:K0)(n:l.length<=140737488355328):∀(d k fuel:Nat),k+d=l.length->d<fuel ->
  M7 l a.2.1 a.1 a.2.2 fuel (k:Int)=some (bif noC a (l.drop k)then .inr ()else .inl false)
 |d,k,0,g,hf=>by omega
 |0,k,fuel+1,g,hf=>by
  rw[M7.eq_2,if_neg (by simp;omega),J1 (by omega)]
  rfl
 |d+1,k,fuel+1,g,hf=>by
  have h:k<l.length:=by omega
  have b:=O5 h
  generalize l[k]=x at b
  obtain⟨c,e,f⟩:=a
  obtain⟨i,j,m⟩:=x
  rw[M7.eq_2,if_pos (by simp;omega),J2 b,oB,M1 b]
  simp only[l0s,noC]
  cases hc:Z05 (c,e,f) (i,j,m)with
  |true=>rfl
  |false =>
   rw[if_neg (by simp),Y1 h (by omega),R0b l (c,e,f) n d (k+1) fuel (by omega) (by omega)]
   simp
theorem L03{a:Type}{xs:List a}{k:Nat}(h:k<=xs.length):j06 xs (k:Int) (xs.length:Int)=some (xs.drop k):=by
 unfold j06
 rw[if_pos ⟨by omega,by omega,by omega⟩]
 simp
theorem S0b(l:List K0)(h:l.length<=140737488355328):∀(d k fuel:Nat),k+d=l.length->d<fuel ->
  N7 l fuel (k:Int)=some (bif l0a (l.drop k)then .inr ()else .inl false)
 |d,k,0,b,hf=>by omega
 |0,k,fuel+1,b,hf=>by
  rw[N7.eq_2,if_neg (by simp;omega),J1 (by omega)]
  rfl
 |d+1,k,fuel+1,b,hf=>by
  have c:k<l.length:=by omega
  have a:=O5 c
  generalize l[k]=x at a
  have h0:=R0b (l.drop (k+1)) x (by simp;omega) (l.drop (k+1)).length 0 Q0 (by omega) (C1 (by simp;omega))
  rw[show((0:Nat):Int)=0 from rfl,List.drop_zero]at h0
  obtain⟨e,f,g⟩:=x
  rw[N7.eq_2,if_pos (by simp;omega),J2 a,oB,M1 a]
  simp only[Y1 c (show l.length<=9223372036854775807 by omega),L03 (show k+1<=l.length by omega),oB]
  simp only at h0
  rw[h0,oB]
  simp only[l0a]
  cases noC (e,f,g) (l.drop (k+1))with
  |false=>rfl
  |true =>
   simp only[cond_true,B0o,Bool.true_and]
   exact S0b l h d (k+1) fuel (by omega) (by omega)
theorem Z9(g:j0)(a:g.2.2.length<=140737488355328):i7 g=some (O0 g):=by
 have b:=D01 g a
 obtain⟨r,n,es⟩:=g
 unfold i7 O0
 simp only[b,oB]
 cases S0 (r,n,es)with
 |false=>rfl
 |true =>
  have h:=S0b es a es.length 0 Q0 (by omega) (C1 a)
  rw[show((0:Nat):Int)=0 from rfl,List.drop_zero]at h
  rw[if_neg (by simp),h,oB]
  cases l0a es<;>rfl
theorem T0b(l:List K0)(q:l.length<=140737488355328){i:Nat}{a:K0}(b:l[i]?=some a):∀(d k fuel:Nat),k+d=i->d<fuel ->
  J7 (i:Int) l fuel (k:Int)=some (bif noC a ((l.take i).drop k)then .inr ()else .inl false)
 |d,k,0,e,hf=>by omega
 |0,k,fuel+1,e,hf=>by
  have:=(List.getElem?_eq_some_iff.1 b).1
  rw[J7.eq_2,if_neg (by simp;omega),J1 (by simp;omega)]
  rfl
 |d+1,k,fuel+1,e,hf=>by
  have t:=(List.getElem?_eq_some_iff.1 b).1
  have f:k<l.length:=by omega
  have c:=O5 f
  have g:(l.take i)[k]?=some l[k]:=by rw[List.getElem?_take,if_pos (by omega)];exact c
  have s:=T0b l q b d (k+1) fuel (by omega) (by omega)
  generalize l[k]=x at c g
  obtain⟨h,j,m⟩:=a
  obtain⟨n,o,p⟩:=x
  rw[J7.eq_2,if_pos (by simp;omega),J2 b,oB,M1 g]
  simp only[J2 c,oB,l0s,noC]
  cases hc:Z05 (h,j,m) (n,o,p)with
  |true=>rfl
  |false =>
   rw[if_neg (by simp),Y1 f (by omega),s]
   simp
theorem z0n{a:Type}{xs:List a}{k:Nat}{x:a}(h:xs[k]?=some x):xs.take (k+1)=xs.take k ++ [x]:=by
 obtain⟨b,rfl⟩:=List.getElem?_eq_some_iff.1 h
 exact List.take_succ_eq_append_getElem b
theorem U0b(r n:Int)(l:List K0)(f:S0 (r,n,l)=true)(b:l.length<=140737488355328):∀(d k fuel:Nat),k+d=l.length->d<fuel ->
  S5 l r n fuel (k:Int)=some (bif J0f (l.take k) (l.drop k)then .inr ()else .inl false)
 |d,k,0,c,hf=>by omega
 |0,k,fuel+1,c,hf=>by
  have e:decide ((k:Int)<(l.length:Int))=false:=by simp;omega
  rw[S5.eq_2,e,L1,oB,if_neg (by simp),J1 (by omega)]
  rfl
 |d+1,k,fuel+1,c,hf=>by
  have g:k<l.length:=by omega
  have a:=O5 g
  generalize l[k]=x at a
  have h0:=T0b l b a k 0 Q0 (by omega) (C1 (by omega))
  rw[show((0:Nat):Int)=0 from rfl,List.drop_zero]at h0
  have e:decide ((k:Int)<(l.length:Int))=true:=by simp;omega
  rw[S5.eq_2,e,H1,O8 (r,n,l) b,oB,f,if_pos (show(bif true then true else false)=true from rfl),h0,oB,M1 a]
  simp only[J0f]
  cases noC x (l.take k)with
  |false=>rfl
  |true =>
   simp only[cond_true,B0o,Bool.true_and]
   rw[Y1 g (by omega),←z0n a]
   exact U0b r n l f b d (k+1) fuel (by omega) (by omega)
theorem A6(g:j0)(a:g.2.2.length<=140737488355328):Z3 g=some (O0 g):=by
 have b:=O8 g a
 obtain⟨r,n,es⟩:=g
 unfold Z3 O0
 simp only[b,oB]
 cases hg:S0 (r,n,es)with
 |false =>
  have c:S5 es r n Q0 0=some (.inr ()):=by
   rw[show Q0=(Q0-1)+1 from rfl,S5.eq_2]
   by_cases e:decide ((0:Int)<(es.length:Int))=true
   ·rw[e,H1,b,oB,hg,if_neg (by simp)]
   ·rw[Bool.not_eq_true]at e
    rw[e,L1,oB,if_neg (by simp)]
  rw[c]
  rfl
 |true =>
  have h:=U0b r n es hg a es.length 0 Q0 (by omega) (C1 a)
  rw[show((0:Nat):Int)=0 from rfl,List.drop_zero,List.take_zero,H0o]at h
  rw[h,oB]
  cases l0a es<;>rfl
def O2(g:j0):Int->List Int->Int×Nat
 |v,[]=>(v,0)
 |v,x::w=>if Y0 g v x<0 then(v,0)else((O2 g (Y0 g v x) w).1,(O2 g (Y0 g v x) w).2+1)
theorem a06(g:j0):∀(w:List Int) (v:Int),(O2 g v w).2<=w.length
 | [],v=>by simp[O2]
 |x::w,v=>by
  have:=a06 g w (Y0 g v x)
  unfold O2
  split
  ·simp
  ·simp only[List.length_cons];omega
theorem W08{g:j0}(a:inG g)(b:g.2.1<=40):∀(w:List Int) (v:Int),J0 v->J0 (O2 g v w).1
 | [],v,h=>h
 |x::w,v,h=>by
  unfold O2
  split
  ·exact h
  ·exact W08 a b w _ (C03 a b v x)
def S0r(q:Int×Nat)(n:Nat)(k:Nat):(Int×Int) ⊕ Int:=bif decide (q.2<n)then .inl (q.1,((k+q.2:Nat):Int))else .inr q.1
theorem P0d(r n:Int)(es:List K0)(f:inG (r,n,es))(g:n<=40)(e:es.length<=1099511627776)(w:List Int)(i:∀ x∈w,S4 x)(l:w.length<=140737488355328):∀(d k fuel:Nat) (v:Int),k+d=w.length->d<fuel ->
  I6 w r n es fuel v (k:Int)=some (S0r (O2 (r,n,es) v (w.drop k)) d k)
 |d,k,0,v,c,hf=>by omega
 |0,k,fuel+1,v,c,hf=>by
  rw[I6.eq_2,if_neg (by simp;omega),J1 (by omega)]
  rfl
 |d+1,k,fuel+1,v,c,hf=>by
  have a:k<w.length:=by omega
  have b:=O5 a
  have j:=i _ (List.getElem_mem a)
  generalize w[k]=x at b j
  rw[I6.eq_2,if_pos (by simp;omega),J2 b,oB,Y05 (r,n,es) v x j e,oB,D0 (C03 f g v x),oB,M1 b]
  unfold O2
  by_cases h:Y0 (r,n,es) v x<0
  ·rw[if_pos (by simpa using h),if_pos h]
   simp[S0r]
  ·rw[if_neg (by simpa using h),if_neg h,Y1 a (by omega),P0d r n es f g e w i l d (k+1) fuel _ (by omega) (by omega)]
   unfold S0r
   simp only[Nat.add_lt_add_iff_right]
   congr 2
   simp only[Nat.add_assoc,Nat.add_comm 1]
theorem s0q(g:j0)(c:inG g)(d:g.2.1<=40)(b:g.2.2.length<=1099511627776)(v:Int)(w:List Int)(e:∀ x∈w,S4 x)(a:w.length<=140737488355328):l00 g v w=some ((O2 g v w).1,(((O2 g v w).2:Nat):Int)):=by
 obtain⟨r,n,es⟩:=g
 unfold l00
 have h:=P0d r n es c d b w e a w.length 0 Q0 v (by omega) (C1 a)
 rw[show((0:Nat):Int)=0 from rfl,List.drop_zero]at h
 have f:=a06 (r,n,es) w v
 simp only[h,oB,S0r]
 by_cases hc:(O2 (r,n,es) v w).2<w.length
 ·simp[hc,g9]
 ·have:(O2 (r,n,es) v w).2=w.length:=by omega
  simp[this,g9]
theorem Q0d(r n:Int)(es:List K0)(f:inG (r,n,es))(g:n<=40)(e:es.length<=1099511627776)(w:List Int)(i:∀ x∈w,S4 x)(l:w.length<=140737488355328):∀(d k fuel:Nat) (v:Int),k+d=w.length->d<fuel ->
  K7 w r n es fuel v (k:Int)=some (bif decide ((O2 (r,n,es) v (w.drop k)).2<d)then .inl (-1,false)else .inr (O2 (r,n,es) v (w.drop k)).1)
 |d,k,0,v,c,hf=>by omega
 |0,k,fuel+1,v,c,hf=>by
  rw[K7.eq_2,if_neg (by simp;omega),J1 (by omega)]
  rfl
 |d+1,k,fuel+1,v,c,hf=>by
  have a:k<w.length:=by omega
  have b:=O5 a
  have j:=i _ (List.getElem_mem a)
  generalize w[k]=x at b j
  rw[K7.eq_2,if_pos (by simp;omega),J2 b,oB,G04 (r,n,es) v x j e,oB,D0 (C03 f g v x),oB,M1 b]
  unfold O2
  by_cases h:Y0 (r,n,es) v x<0
  ·rw[if_pos (by simpa using h),if_pos h]
   simp
  ·rw[if_neg (by simpa using h),if_neg h,Y1 a (by omega),Q0d r n es f g e w i l d (k+1) fuel _ (by omega) (by omega)]
   simp only[Nat.add_lt_add_iff_right]
theorem t0q(g:j0)(hf:O0 g=true)(v:Int)(j:0<=v/\v<g.2.1)(w:List Int)(k:∀ x∈w,S4 x)(a:w.length<=140737488355328):
  e01 g v w=some (bif decide ((O2 g v w).2<w.length)then(-1,false)else((O2 g v w).1,true)):=by
 have f:S0 g=true:=by unfold O0 at hf;simp only[Bool.and_eq_true]at hf;exact hf.1
 obtain⟨e,_,b,d⟩:=M2 f
 have c:=A6 g (by omega)
 obtain⟨r,n,es⟩:=g
 simp only at j b d
 unfold e01
 have h:=Q0d r n es e b.2 (by omega) w k a w.length 0 Q0 v (by omega) (C1 a)
 rw[show((0:Nat):Int)=0 from rfl,List.drop_zero]at h
 have i:inR 0 (n-1) v=true:=by simp only[inR,Bool.and_eq_true,decide_eq_true_eq];omega
 simp only[c,hf,oB,Bool.not_true,Bool.not_false,H1,y02,w64 (show -9223372036854775808<=n-1 by omega) (show n-1<=9223372036854775807 by omega),i,cond_false,Bool.false_eq_true,if_false,h]
 cases decide ((O2 (r,n,es) v w).2<w.length)<;>rfl
theorem I1{g:j0}(h:O0 g=true):inG g/\(1<=g.1/\g.1<=3)/\(1<=g.2.1/\g.2.1<=40)/\g.2.2.length<=120:=by
 unfold O0 at h
 simp only[Bool.and_eq_true]at h
 exact M2 h.1
def u0q(v:Int)(e:K0):Nat:=(if e.1=v then 1 else 0)+(if e.2.2=v then 1 else 0)
def k04(v:Int):List K0->Nat
 | []=>0
 |e::r=>u0q v e+k04 v r
theorem T0r(v:Int)(e:K0):u0q v e<=2:=by unfold u0q;split<;>split<;>omega
theorem g0j(v:Int):∀ l,k04 v l<=2*l.length
 | []=>by simp[k04]
 |e::r=>by have:=T0r v e;have:=g0j v r;simp only[k04,List.length_cons];omega
theorem K0f(es:List K0)(v:Int)(o:es.length<=1099511627776):∀(d k fuel acc:Nat),k+d=es.length->d<fuel->acc<=2*k ->
  M3 es v fuel (acc:Int) (k:Int)=some ((acc+k04 v (es.drop k):Nat):Int)
 |d,k,0,acc,j,hf,i=>by omega
 |0,k,fuel+1,acc,j,hf,i=>by
  rw[M3.eq_2,if_neg (by simp;omega),J1 (by omega)];rfl
 |d+1,k,fuel+1,acc,j,hf,i=>by
  have m:k<es.length:=by omega
  have f:=O5 m
  generalize es[k]=e at f
  obtain⟨a,l,b⟩:=e
  have c:=λn h=>K0f es v o d (k+1) fuel n (by omega) (by omega) h
  have g:IntKind.i64.wrap ((acc:Int)+1)=((acc+1:Nat):Int):=by rw[w64 (by omega) (by omega)];rfl
  have p:IntKind.i64.wrap (((acc+1:Nat):Int)+1)=((acc+2:Nat):Int):=by rw[w64 (by omega) (by omega)];rfl
  rw[M3.eq_2,if_pos (by simp;omega),J2 f,M1 f]
  simp only[oB,k04,u0q,Y1 m (show es.length<=9223372036854775807 by omega)]
  by_cases c1:a=v
  ·rw[if_pos (by simpa using c1),if_pos c1]
   by_cases c2:b=v
   ·rw[if_pos (by simpa using c2),if_pos c2,g,p,c _ (by omega)];congr 2;omega
   ·rw[if_neg (by simpa using c2),if_neg c2,g,c _ (by omega)];congr 2;omega
  ·rw[if_neg (by simpa using c1),if_neg c1]
   by_cases c2:b=v
   ·rw[if_pos (by simpa using c2),if_pos c2,g,c _ (by omega)];congr 2;omega
   ·rw[if_neg (by simpa using c2),if_neg c2,c _ (by omega)];congr 2;omega
theorem L0f(es:List K0)(v:Int):∀(fuel:Nat) (x y:Int),T5 es v fuel x y=M3 es v fuel x y
 |0,x,y=>rfl
 |fuel+1,x,y=>by
  rw[T5.eq_2,M3.eq_2]
  simp only[L0f es v fuel]
  by_cases c:(decide (y<((es.length:Nat):Int)))=true
  ·rw[if_pos c,if_pos c]
   cases hg:gi es y with
   |none=>rfl
   |some e=>simp only[oB]
  ·rw[if_neg c,if_neg c]
theorem I0h(g:j0)(v:Int)(a:g.2.2.length<=1099511627776):f01 g v=some ((k04 v g.2.2:Nat):Int):=by
 obtain⟨r,n,es⟩:=g
 unfold f01
 have h:=K0f es v a es.length 0 Q0 0 (by omega) (C1 (by simp only at a;omega)) (Nat.zero_le _)
 rw[show((0:Nat):Int)=0 from rfl,List.drop_zero,Nat.zero_add]at h
 simp only[h,oB]
theorem I0o(g:j0)(v:Int)(a:g.2.2.length<=1099511627776):g02 g v=some ((k04 v g.2.2:Nat):Int):=by
 have h:=I0h g v a
 obtain⟨r,n,es⟩:=g
 unfold g02
 unfold f01 at h
 simp only[L0f]at h ⊢
 exact h
def M0f(g h:j0):Bool:=decide (g=h)
theorem I0e(x y:K0):eqE x y=true↔x=y:=by simp[eqE]
theorem R0d(a b:List K0)(l:a.length=b.length)(j:a.length<=9223372036854775807):∀(d k fuel:Nat),k+d=a.length->d<fuel ->
  O1 a b fuel (k:Int)=some (if a.drop k=b.drop k then .inr ()else .inl false)
 |d,k,0,g,hf=>by omega
 |0,k,fuel+1,g,hf=>by
  rw[O1.eq_2,if_neg (by simp;omega),J1 (by omega),J1 (by omega)];rfl
 |d+1,k,fuel+1,g,hf=>by
  have i:k<a.length:=by omega
  have m:k<b.length:=by omega
  have e:=O5 i
  have f:=O5 m
  generalize a[k]=x at e
  generalize b[k]=y at f
  have o:=R0d a b l j d (k+1) fuel (by omega) (by omega)
  rw[O1.eq_2,if_pos (by simp;omega),J2 e,J2 f,M1 e,M1 f]
  simp only[oB,Y1 i j,o]
  by_cases c:x=y
  ·subst c
   rw[if_neg (by simp[eqE])]
   simp
  ·have n:eqE x y=false:=Bool.eq_false_iff.2 λh=>c ((I0e x y).1 h)
   rw[if_pos (show(!eqE x y)=true by rw[n];rfl),if_neg (by simp[c])]
theorem N0f(a b:List K0)(d:a.length<=9223372036854775807):Y2 a b=some (decide (a=b)):=by
 unfold Y2
 by_cases hab:a.length=b.length
 ·have h:=R0d a b hab d a.length 0 Q0 (by omega) (by unfold Q0;omega)
  rw[if_neg (by simp;omega),show(0:Int)=((0:Nat):Int) from rfl,h,List.drop_zero,List.drop_zero]
  by_cases c:a=b
  ·rw[if_pos c];simp[g9,c]
  ·rw[if_neg c];simp[g9,c]
 ·rw[if_pos (by simp;omega)]
  congr 1
  symm
  simp
  intro h;exact hab (by rw[h])
theorem J0h(g h:j0)(b:g.2.2.length<=9223372036854775807):I9 g h=some (M0f g h):=by
 obtain⟨r,n,es⟩:=g
 obtain⟨d,c,a⟩:=h
 unfold I9 M0f
 simp only[Prod.mk.injEq]
 by_cases c1:r=d<;>by_cases c2:n=c<;>simp[c1,c2,H1,L1,N0f es a b]
theorem K0h(a b:List K0):∀(fuel:Nat) (k:Int),U6 a b fuel k=O1 a b fuel k
 |0,k=>rfl
 |fuel+1,k=>by
  rw[U6.eq_2,O1.eq_2]
  simp only[K0h a b fuel]
theorem L0h(g h:j0)(b:g.2.2.length<=9223372036854775807):H9 g h=some (M0f g h):=by
 have a:=N0f g.2.2 h.2.2 b
 obtain⟨r,n,es⟩:=g
 obtain⟨d,c,e⟩:=h
 unfold H9 M0f
 unfold Y2 at a
 simp only[K0h,Prod.mk.injEq]at a ⊢
 by_cases c1:r=d
 ·by_cases c2:n=c
  ·simp only[c1,c2,decide_true,Bool.not_true,cond_false,true_and]
   rw[←a]
  ·simp[c1,c2]
 ·simp[c1]
def goE(x:K0):List K0->Bool×List K0
 | []=>(false,[])
 |y::l=>if P0 x y<0 then(true,x::y::l)else if P0 x y=0 then(true,y::l)else((goE x l).1,y::(goE x l).2)
theorem A0n(x:K0):∀ l,o01 P0 x l=bif(goE x l).1 then(goE x l).2 else(goE x l).2 ++ [x]
 | []=>rfl
 |y::l=>by
  have a:=A0n x l
  unfold o01 goE
  by_cases c1:P0 x y<0
  ·rw[if_pos c1,if_pos c1];rfl
  ·rw[if_neg c1,if_neg c1]
   by_cases c2:P0 x y=0
   ·rw[if_pos c2,if_pos c2];rfl
   ·rw[if_neg c2,if_neg c2,a];cases (goE x l).1<;>rfl
theorem a0d(l:List K0)(w0 i j:Int)(n:l.length<=1099511627776):∀(d k fuel:Nat) (acc:List K0),k+d=l.length->d<fuel->acc.length<=k+1 ->
  Q4 l w0 i j fuel true (k:Int) acc=some (true,acc++l.drop k)
 |d,k,0,acc,g,hf,f=>by omega
 |0,k,fuel+1,acc,g,hf,f=>by
  rw[Q4.eq_2,if_neg (by simp;omega),J1 (by omega),List.append_nil]
 |d+1,k,fuel+1,acc,g,hf,f=>by
  have h:k<l.length:=by omega
  have c:=O5 h
  generalize l[k]=e at c
  obtain⟨a,x,b⟩:=e
  have o:=a0d l w0 i j n d (k+1) fuel (acc ++ [(a,x,b)]) (by omega) (by omega) (by simp;omega)
  rw[Q4.eq_2,if_pos (by simp;omega),M1 c]
  simp only[J2 c,oB,K03,D0 (H0e _ _),Y1 h (show l.length<=9223372036854775807 by omega),Bool.not_true]
  have m:∀ b:Bool,(bif b then false else false)=false:=λb=>by cases b<;>rfl
  simp only[m,Bool.false_eq_true,if_false]
  rw[D0 (by simp;omega),oB,o]
  simp
theorem O0f(l:List K0)(w0 c f:Int)(h:l.length<=1099511627776):∀(d k fuel:Nat) (acc:List K0),k+d=l.length->d<fuel->acc.length=k ->
  Q4 l w0 c f fuel false (k:Int) acc=some ((goE (w0,c,f) (l.drop k)).1,acc++(goE (w0,c,f) (l.drop k)).2)
 |d,k,0,acc,j,hf,i=>by omega
 |0,k,fuel+1,acc,j,hf,i=>by
  rw[Q4.eq_2,if_neg (by simp;omega),J1 (by omega)];simp[goE]
 |d+1,k,fuel+1,acc,j,hf,i=>by
  have m:k<l.length:=by omega
  have g:=O5 m
  generalize l[k]=e at g
  obtain⟨a,x,b⟩:=e
  have n:=O0f l w0 c f h d (k+1) fuel (acc ++ [(a,x,b)]) (by omega) (by omega) (by simp;omega)
  have o:=a0d l w0 c f h d (k+1) fuel (acc ++ [(a,x,b)]) (by omega) (by omega) (by simp;omega)
  have p:=a0d l w0 c f h d (k+1) fuel ((acc ++ [(w0,c,f)]) ++ [(a,x,b)]) (by omega) (by omega) (by simp;omega)
  rw[Q4.eq_2,if_pos (by simp;omega),M1 g]
  simp only[J2 g,oB,K03,D0 (H0e _ _),Y1 m (show l.length<=9223372036854775807 by omega),Bool.not_true,Bool.not_false,goE]
  show _=_
  unfold E0f
  by_cases c1:P0 (w0,c,f) (a,x,b)=0
  ·rw[if_pos (by simpa using c1),if_neg (by simp[c1]),if_neg (by omega),if_pos c1]
   rw[D0 (by simp;omega),oB,o];simp
  ·rw[if_neg (by simpa using c1)]
   by_cases c2:P0 (w0,c,f) (a,x,b)<0
   ·rw[if_pos (by simp[c2]),if_pos c2,D0 (by simp;omega),oB,D0 (by simp;omega),oB,p];simp
   ·rw[if_neg (by simp[c2]),if_neg c2,if_neg c1,D0 (by simp;omega),oB,n];simp
theorem E06(l:List K0)(e:K0)(c:l.length<=1099511627776):f8 l e=some (o01 P0 e l):=by
 obtain⟨w0,a,b⟩:=e
 unfold f8
 have h:=O0f l w0 a b c l.length 0 Q0 [] (by omega) (C1 (by omega)) rfl
 rw[show((0:Nat):Int)=0 from rfl,List.drop_zero,List.nil_append]at h
 simp only[h,oB,A0n]
 have d:∀ l:List K0,(goE (w0,a,b) l).2.length<=l.length+1:=λl=>by
  induction l with
  |nil=>simp[goE]
  |cons y l f =>
   unfold goE
   split
   ·simp
   ·split
    ·simp
    ·simp only[List.length_cons];omega
 have:=d l
 cases (goE (w0,a,b) l).1 with
 |true=>rfl
 |false =>
  simp only[Bool.not_false,if_true,cond_false]
  rw[D0 (by simp;omega),oB]
theorem r07(e:K0):∀ l:List K0,(o01 P0 e l).length<=l.length+1
 | []=>by simp[o01]
 |y::l=>by
  have:=r07 e l
  unfold o01
  split
  ·simp
  ·split
   ·simp
   ·simp only[List.length_cons];omega
theorem V0b(es:List K0)(a:es.length<=1099511627776):G00 es=some (Y5 P0 [] es):=by
 unfold G00
 rw[D0 (by simp;omega),oB,D0 (by simp;omega),oB,List.nil_append]
 exact congrArg some (G0k B7 I0e es es λ_=>Iff.rfl)
theorem M02(g:j0)(a:g.2.2.length<=1099511627776):c5 g=some g:=by
 obtain⟨r,n,es⟩:=g
 unfold c5
 simp only
 rw[D0 (by simp only[List.length_nil,Nat.zero_add];simp only at a;omega)];rfl
theorem Z01(g:j0)(a:g.2.2.length<=1099511627776):K4 g=some g:=by
 obtain⟨r,n,es⟩:=g
 unfold K4
 simp only
 rw[D0 (by simp only[List.length_nil,Nat.zero_add];simp only at a;omega)];rfl
inductive Rch (es:List K0) (v:Int):Int->Prop
 |base:Rch es v v
 |fwd {e:K0}:e∈es->Rch es v e.1->Rch es v e.2.2
 |bwd {e:K0}:e∈es->Rch es v e.2.2->Rch es v e.1
theorem Rch.closed{es:List K0}{v:Int}:∀ e∈es,Rch es v e.1↔Rch es v e.2.2:=λe a=>⟨.fwd a,.bwd a⟩
theorem Rch.sub{es:List K0}{v:Int}{P:Int->Prop}(c:P v)(a:∀ e∈es,P e.1↔P e.2.2):∀ {x},Rch es v x->P x
 |_,.base=>c
 |_,.fwd b h=>(a _ b).1 (Rch.sub c a h)
 |_,.bwd b h=>(a _ b).2 (Rch.sub c a h)
def L00(S:List Bool)(i:Int):Bool:=S.getD i.toNat false
def stJ(S:List Bool)(e:K0):List Bool:=(S.set e.1.toNat true).set e.2.2.toNat true
def pJ:List K0->Bool->List Bool->Bool×List Bool
 | [],c,S=>(c,S)
 |e::r,c,S=>bif L00 S e.1 == L00 S e.2.2 then pJ r c S else pJ r true (stJ S e)
def cF:List Bool->Nat
 | []=>0
 |b::r=>(bif b then 0 else 1)+cF r
theorem o0m:∀(S:List Bool) (i:Nat),cF (S.set i true)<=cF S
 | [],i=>by simp[cF]
 |b::r,0=>by simp[cF]
 |b::r,i+1=>by have:=o0m r i;simp only[List.set_cons_succ,cF];omega
theorem v0q:∀(S:List Bool) (i:Nat),S[i]?=some false->cF (S.set i true)<cF S
 | [],i,h=>by simp at h
 |b::r,0,h=>by simp at h;subst h;simp[cF]
 |b::r,i+1,h=>by have:=v0q r i (by simpa using h);simp only[List.set_cons_succ,cF];omega
theorem m0s:∀ S:List Bool,cF S<=S.length
 | []=>by simp[cF]
 |b::r=>by have:=m0s r;cases b<;>simp only[cF,List.length_cons,cond_true,cond_false]<;>omega
def inN(n:Nat)(es:List K0):Prop:=∀ e∈es,(0<=e.1/\e.1<(n:Int))/\(0<=e.2.2/\e.2.2<(n:Int))
theorem X08{S:List Bool}{i:Nat}(h:i<S.length)(x:Int):L00 (S.set i true) x=(decide (x.toNat=i) || L00 S x):=by
 unfold L00
 rw[List.getD_eq_getElem?_getD,List.getD_eq_getElem?_getD,List.getElem?_set]
 by_cases c:i=x.toNat
 ·rw[if_pos c,if_pos (by omega)];simp[c]
 ·rw[if_neg c]
  have:decide (x.toNat=i)=false:=by simp;exact λe=>c e.symm
  rw[this];rfl
theorem p0m:∀(es:List K0) (c:Bool) (S:List Bool),(pJ es c S).2.length=S.length
 | [],c,S=>rfl
 |e::r,c,S=>by
  unfold pJ
  cases L00 S e.1 == L00 S e.2.2
  ·simp only[cond_false];rw[p0m r];simp[stJ]
  ·simp only[cond_true];exact p0m r c S
theorem h0j{n:Nat}:∀(es:List K0) (c:Bool) (a:List Bool),a.length=n->inN n es->∀ x,L00 a x=true->L00 (pJ es c a).2 x=true
 | [],c,a,b,d,x,h=>h
 |e::r,c,a,b,d,x,h=>by
  have f:=d e mS
  have g:inN n r:=λe f=>d e (mC _ f)
  unfold pJ
  cases L00 a e.1 == L00 a e.2.2
  ·simp only[cond_false]
   refine h0j r _ _ (by simp[stJ,b]) g x ?_
   rw[stJ,X08 (by rw[List.length_set];omega),X08 (by omega),h];simp
  ·simp only[cond_true];exact h0j r c a b g x h
theorem P0f{n:Nat}{P:Int->Prop}:∀(es:List K0) (c:Bool) (a:List Bool),a.length=n->inN n es->(∀ e∈es,P e.1↔P e.2.2)->(∀ x,0<=x->L00 a x=true->P x)->∀ x,0<=x->L00 (pJ es c a).2 x=true->P x
 | [],c,a,g,i,f,d,x,h0,h=>d x h0 h
 |e::r,c,a,g,i,f,d,x,h0,h=>by
  have b:=i e mS
  have m:inN n r:=λe b=>i e (mC _ b)
  have j:=λe b=>f e (mC _ b)
  have k:=f e mS
  unfold pJ at h
  cases hb:L00 a e.1 == L00 a e.2.2
  ·rw[hb]at h
   refine P0f r true (stJ a e) (by simp[stJ,g]) m j (λy o h=>?_) x h0 h
   rw[stJ,X08 (by rw[List.length_set];omega),X08 (by omega)]at h
   simp only[Bool.or_eq_true,decide_eq_true_eq]at h
   have l:P e.1∨P e.2.2:=by
    cases h1:L00 a e.1
    ·cases h2:L00 a e.2.2
     ·rw[h1,h2]at hb;cases hb
     ·exact .inr (d _ b.2.1 h2)
    ·exact .inl (d _ b.1.1 h1)
   rcases h with h|h|h
   ·have:y=e.2.2:=by omega
    subst this;exact l.elim k.1 id
   ·have:y=e.1:=by omega
    subst this;exact l.elim id k.2
   ·exact d y o h
  ·rw[hb]at h
   exact P0f r c a g m j d x h0 h
theorem q0m{n:Nat}:∀(es:List K0) (c:Bool) (a:List Bool),a.length=n->inN n es->cF (pJ es c a).2<=cF a/\((pJ es c a).1=true->c=true∨cF (pJ es c a).2<cF a)/\((pJ es c a).1=false->c=false/\(pJ es c a).2=a/\∀ e∈es,L00 a e.1=L00 a e.2.2)
 | [],c,a,k,l=>⟨Nat.le_refl _,λh => .inl h,λh=>⟨h,rfl,λe b=>nomatch b⟩⟩
 |e::r,c,a,k,l=>by
  have b:=l e mS
  have s:inN n r:=λe b=>l e (mC _ b)
  unfold pJ
  cases hb:L00 a e.1 == L00 a e.2.2
  ·simp only[cond_false]
   obtain⟨m,o,d⟩:=q0m r true (stJ a e) (by simp[stJ,k]) s
   have v:cF (stJ a e)<cF a:=by
    have g:∀(x:Int),0<=x->x<n->L00 a x=false->a[x.toNat]?=some false:=λx w y j=>by
     have p:x.toNat<a.length:=by omega
     unfold L00 at j
     rw[List.getD_eq_getElem?_getD,List.getElem?_eq_getElem p]at j
     rw[List.getElem?_eq_getElem p];simpa using j
    cases g1:L00 a e.1
    ·have:=v0q a _ (g _ b.1.1 b.1.2 g1)
     have:=o0m (a.set e.1.toNat true) e.2.2.toNat
     unfold stJ;omega
    ·have f:L00 a e.2.2=false:=by
      cases f:L00 a e.2.2
      ·rfl
      ·rw[g1,f]at hb;cases hb
     have u:(a.set e.1.toNat true)[e.2.2.toNat]?=some false:=by
      rw[List.getElem?_set]
      by_cases q:e.1.toNat=e.2.2.toNat
      ·exfalso
       have:e.1=e.2.2:=by omega
       rw[this,f]at g1;cases g1
      ·rw[if_neg q];exact g _ b.2.1 b.2.2 f
     have:=v0q _ _ u
     have:=o0m a e.1.toNat
     unfold stJ;omega
   refine⟨by omega,λ_ => .inr (by omega),λh=>?_⟩
   have:=(d h).1;cases this
  ·simp only[cond_true]
   obtain⟨m,o,d⟩:=q0m r c a k s
   refine⟨m,o,λh=>⟨(d h).1,(d h).2.1,λt i=>?_⟩⟩
   rcases List.mem_cons.1 i with rfl|i
   ·simpa using hb
   ·exact(d h).2.2 t i
theorem giB{a:List Bool}{n:Nat}(f:a.length=n){x:Int}(h0:0<=x)(d:x<n):gi a x=some (L00 a x):=by
 have c:x.toNat<a.length:=by omega
 have e:x=((x.toNat:Nat):Int):=by omega
 have b:gi a ((x.toNat:Nat):Int)=some (L00 a x):=by
  rw[U0c,List.getElem?_eq_getElem c]
  unfold L00
  rw[List.getD_eq_getElem?_getD,List.getElem?_eq_getElem c];rfl
 rw[←e]at b;exact b
theorem M0h(es:List K0){n:Nat}(q:inN n es)(p:es.length<=9223372036854775807):∀(d k fuel:Nat) (c:Bool) (f:List Bool),f.length=n->k+d=es.length->d<fuel ->
  j4 es fuel c (k:Int) f=some (pJ (es.drop k) c f)
 |d,k,0,c,f,g,m,hf=>by omega
 |0,k,fuel+1,c,f,g,m,hf=>by
  rw[j4.eq_2,if_neg (by simp;omega),J1 (by omega)];rfl
 |d+1,k,fuel+1,c,f,g,m,hf=>by
  have o:k<es.length:=by omega
  have j:=O5 o
  have i:=q _ (List.mem_of_getElem? j)
  generalize es[k]=e at j i
  obtain⟨a,l,b⟩:=e
  have s:=λu t h=>M0h es q p d (k+1) fuel u t h (by omega) (by omega)
  rw[j4.eq_2,if_pos (by simp;omega),M1 j]
  simp only[J2 j,oB,giB g i.1.1 i.1.2,giB g i.2.1 i.2.2,Y1 o p,giB (show(f.set a.toNat true).length=n by simp[g]) i.2.1 i.2.2,pJ]
  cases hb:L00 f a == L00 f b
  ·simp only[Bool.not_false,if_true,cond_false]
   exact s _ _ (by simp[g])
  ·simp only[Bool.not_true,Bool.false_eq_true,if_false,cond_true]
   exact s _ _ g
theorem N0h(es:List K0){n:Nat}(f:inN n es)(z:es.length<=9223372036854775806):∀(m fuel:Nat) (a:List Bool),a.length=n->cF a<=m->m+1<fuel ->
  ∃ b,p5 es fuel true a=some b/\b.length=n/\(∀ x,L00 a x=true->L00 b x=true)/\(∀ e∈es,L00 b e.1=L00 b e.2.2) /\
   ∀ P:Int->Prop,(∀ e∈es,P e.1↔P e.2.2)->(∀ x,0<=x->L00 a x=true->P x)->∀ x,0<=x->L00 b x=true->P x
 |m,0,a,d,B,hf=>by omega
 |m,fuel+1,a,d,B,hf=>by
  have h0:=M0h es f (by omega) es.length 0 Q0 false a d (by omega) (by unfold Q0;omega)
  rw[show((0:Nat):Int)=0 from rfl,List.drop_zero]at h0
  obtain⟨p,i,j⟩:=q0m es false a d f
  have A:=p0m es false a
  rw[p5.eq_2,if_pos rfl,h0,oB]
  have l:=h0j es false a d f
  have o:=λP=>P0f (P:=P) es false a d f
  generalize pJ es false a=q at *
  obtain⟨c,b⟩:=q
  simp only at p i j A l o ⊢
  cases c with
  |true =>
   rcases i rfl with h|h
   ·cases h
   ·obtain⟨S2,s,t,u,v,w⟩:=N0h es f z (m-1) fuel b (by omega) (by omega) (by omega)
    exact⟨S2,s,t,λx C=>u x (l x C),v,λP k g=>w P k (o P k g)⟩
  |false =>
   obtain⟨_,e,y⟩:=j rfl
   subst e
   obtain _|fuel:=fuel
   ·omega
   ·rw[p5.eq_2,if_neg (by simp)]
    exact⟨_,rfl,d,λx h=>h,y,λP _ g=>g⟩
theorem K0k(r:Int)(n:Nat)(es:List K0)(p:inN n es)(o:es.length<=9223372036854775806)(s:1<=n)(t:n<=140737488355328):
  ∃ a,v00 (r,(n:Int),es) 0=some a/\a.length=n/\∀ x,0<=x->x<(n:Int)->(L00 a x=true↔Rch es 0 x):=by
 unfold v00
 simp only[Int.toNat_natCast]
 have m:gi (List.replicate n (false:Bool)) 0=some false:=by
  rw[e0j (x:=false)];rw[List.getElem?_replicate,if_pos (by omega)]
 rw[D0 (by omega),oB,m,oB]
 have k:((List.replicate n (false:Bool)).set (0:Int).toNat true).length=n:=by simp
 obtain⟨b,d,f,g,i,j⟩:=N0h es p o n Q0 _ k (by have:=m0s ((List.replicate n (false:Bool)).set (0:Int).toNat true);omega) (by unfold Q0;omega)
 rw[d]
 have c:∀ x,L00 ((List.replicate n (false:Bool)).set (0:Int).toNat true) x=decide (x.toNat=0):=λx=>by
  rw[X08 (by simp;omega)]
  have:L00 (List.replicate n false) x=false:=by
   unfold L00
   rw[List.getD_eq_getElem?_getD,List.getElem?_replicate]
   split<;>rfl
  rw[this];simp
 refine⟨b,rfl,f,λx h0 q=>⟨λh=>?_,λh=>?_⟩⟩
 ·refine j (Rch es 0) Rch.closed (λy u h=>?_) x h0 h
  rw[c]at h
  have:y=0:=by simp at h;omega
  subst this;exact .base
 ·exact Rch.sub (P:=λx=>L00 b x=true) (g 0 (by rw[c];rfl)) (λe l=>by rw[i e l]) h
theorem n0s(l:List Int)(w:Int)(g:l.length<=9223372036854775807):∀(d k fuel:Nat),k+d=l.length->d<fuel ->
  V9 l w fuel (k:Int)=some (if w∈l.drop k then .inl true else .inr ())
 |d,k,0,b,hf=>by omega
 |0,k,fuel+1,b,hf=>by
  rw[V9.eq_2,if_neg (by simp;omega),J1 (by omega)];simp
 |d+1,k,fuel+1,b,hf=>by
  have f:k<l.length:=by omega
  have a:=O5 f
  generalize l[k]=x at a
  have i:=n0s l w g d (k+1) fuel (by omega) (by omega)
  rw[V9.eq_2,if_pos (by simp;omega),M1 a]
  simp only[J2 a,oB,Y1 f g,i,List.mem_cons]
  by_cases c:x=w
  ·rw[if_pos (by simpa using c),if_pos (.inl c.symm)]
  ·rw[if_neg (by simpa using c)]
   by_cases c2:w∈l.drop (k+1)
   ·rw[if_pos c2,if_pos (.inr c2)]
   ·rw[if_neg c2,if_neg (λh=>h.elim (λe=>c e.symm) c2)]
theorem M09(l:List Int)(w:Int)(a:l.length<=9223372036854775807):Q9 l w=some (decide (w∈l)):=by
 unfold Q9
 have h:=n0s l w a l.length 0 Q0 (by omega) (by unfold Q0;omega)
 rw[show((0:Nat):Int)=0 from rfl,List.drop_zero]at h
 rw[h,oB]
 by_cases c:w∈l
 ·rw[if_pos c];simp[g9,c]
 ·rw[if_neg c];simp[g9,c]
def s1(u:List Int)(e:K0):List Int:=if e.1∈u then o01 g00 e.2.2 u else u
def s2(u:List Int)(e:K0):List Int:=if e.2.2∈u then o01 g00 e.1 u else u
def pS:List K0->List Int->List Int
 | [],u=>u
 |e::r,u=>pS r (s2 (s1 u e) e)
theorem b0d{u:List Int}{e:K0}{x:Int}:x∈s1 u e↔x∈u∨(e.1∈u/\x=e.2.2):=by
 unfold s1
 split
 ·rename_i h;rw[T08 t03];constructor
  ·rintro(a|a)
   ·exact .inr ⟨h,a⟩
   ·exact .inl a
  ·rintro(a|⟨_,a⟩)
   ·exact .inr a
   ·exact .inl a
 ·rename_i h;constructor
  ·exact .inl
  ·rintro(a|⟨a,_⟩)
   ·exact a
   ·exact absurd a h
theorem c0d{u:List Int}{e:K0}{x:Int}:x∈s2 u e↔x∈u∨(e.2.2∈u/\x=e.1):=by
 unfold s2
 split
 ·rename_i h;rw[T08 t03];constructor
  ·rintro(a|a)
   ·exact .inr ⟨h,a⟩
   ·exact .inl a
  ·rintro(a|⟨_,a⟩)
   ·exact .inr a
   ·exact .inl a
 ·rename_i h;constructor
  ·exact .inl
  ·rintro(a|⟨a,_⟩)
   ·exact a
   ·exact absurd a h
theorem w0q(u:List Int)(e:K0):(s1 u e).length<=u.length+1:=by
 unfold s1;split
 ·exact q07 _ _
 ·omega
theorem x0q(u:List Int)(e:K0):(s2 u e).length<=u.length+1:=by
 unfold s2;split
 ·exact q07 _ _
 ·omega
theorem r0m:∀(es:List K0) (u:List Int),(pS es u).length<=u.length+2*es.length
 | [],u=>by simp[pS]
 |e::r,u=>by
  have:=r0m r (s2 (s1 u e) e)
  have:=x0q (s1 u e) e
  have:=w0q u e
  simp only[pS,List.length_cons];omega
theorem a08:∀(es:List K0) (u:List Int) (x:Int),x∈u->x∈pS es u
 | [],u,x,h=>h
 |e::r,u,x,h=>a08 r _ x (c0d.2 (.inl (b0d.2 (.inl h))))
theorem Q0f{P:Int->Prop}:∀(es:List K0) (u:List Int),(∀ e∈es,P e.1↔P e.2.2)->(∀ x∈u,P x)->∀ x∈pS es u,P x
 | [],u,b,a=>a
 |e::r,u,b,a=>Q0f r _ (λe f=>b e (mC _ f)) λx g=>by
  have d:=b e mS
  have c:∀ y∈s1 u e,P y:=λy i=>by
   rcases b0d.1 i with h|⟨h,rfl⟩
   ·exact a y h
   ·exact d.1 (a _ h)
  rcases c0d.1 g with h|⟨h,rfl⟩
  ·exact c x h
  ·exact d.2 (c _ h)
theorem L0k:∀(es:List K0) (u:List Int) (e:K0),e∈es->e.1∈u∨e.2.2∈u->e.1∈pS es u/\e.2.2∈pS es u
 |c::r,u,e,a,h=>by
  simp only[pS]
  rcases List.mem_cons.1 a with rfl|a
  ·have b:e.2.2∈s1 u e:=by
    rcases h with h|h
    ·exact b0d.2 (.inr ⟨h,rfl⟩)
    ·exact b0d.2 (.inl h)
   exact⟨a08 r _ _ (c0d.2 (.inr ⟨b,rfl⟩)),a08 r _ _ (c0d.2 (.inl b))⟩
  ·exact L0k r _ e a (h.imp (λh=>c0d.2 (.inl (b0d.2 (.inl h)))) λh=>c0d.2 (.inl (b0d.2 (.inl h))))
def act(es:List K0)(u:List Int):Nat:=es.countP λe=>decide (e.1∈u)&&decide (e.2.2∈u)
def clo(es:List K0)(u:List Int):Prop:=∀ e∈es,e.1∈u↔e.2.2∈u
theorem P0s(es:List K0)(u:List Int):act es u<=es.length:=List.countP_le_length
theorem O0h{e:Type}{p q:e->Bool}:∀ {l:List e},(∀ x∈l,p x=true->q x=true)->(∃ x∈l,p x=false/\q x=true)->l.countP p<l.countP q
 | [],_,⟨x,a,_⟩=>nomatch a
 |y::l,h,⟨x,a,c,d⟩=>by
  have f:l.countP p<=l.countP q:=List.countP_mono_left λz b=>h z (mC _ b)
  rcases List.mem_cons.1 a with rfl|a
  ·rw[List.countP_cons_of_neg (by simp[c]),List.countP_cons_of_pos d];omega
  ·have g:=O0h (l:=l) (λz b=>h z (mC _ b)) ⟨x,a,c,d⟩
   cases hp:p y
   ·rw[List.countP_cons_of_neg (by simp[hp])]
    have:l.countP q<=(y::l).countP q:=by rw[List.countP_cons];omega
    omega
   ·rw[List.countP_cons_of_pos hp,List.countP_cons_of_pos (h y mS hp)];omega
theorem W0b{es:List K0}{u:List Int}(h:clo es u)(x:Int):x∈pS es u↔x∈u :=
 ⟨Q0f (P:=λx=>x∈u) es u h (λ_ h=>h) x,a08 es u x⟩
theorem y0q{es:List K0}{u:List Int}:clo es (pS es u)∨act es u<act es (pS es u):=by
 by_cases h:clo es u
 ·left
  intro e a
  rw[W0b h,W0b h];exact h e a
 ·right
  have:∃ e∈es,¬ (e.1∈u↔e.2.2∈u):=by
   refine Classical.byContradiction λb=>h λe a=>?_
   exact Classical.byContradiction λd=>b ⟨e,a,d⟩
  obtain⟨e,a,c⟩:=this
  refine O0h (λx g h=>?_) ⟨e,a,?_,?_⟩
  ·simp only[Bool.and_eq_true,decide_eq_true_eq]at h ⊢
   exact⟨a08 _ _ _ h.1,a08 _ _ _ h.2⟩
  ·rw[Bool.eq_false_iff]
   intro h
   simp only[Bool.and_eq_true,decide_eq_true_eq]at h
   exact c ⟨λ_=>h.2,λ_=>h.1⟩
  ·have f:e.1∈u∨e.2.2∈u:=by
    refine Classical.byContradiction λb=>c ⟨λh=>absurd (.inl h) b,λh=>absurd (.inr h) b⟩
   have:=L0k es u e a f
   simp only[Bool.and_eq_true,decide_eq_true_eq];exact this
def itS(es:List K0):Nat->List Int->List Int
 |0,u=>u
 |j+1,u=>itS es j (pS es u)
theorem B0n(es:List K0):∀(j:Nat) (u:List Int),(itS es j u).length<=u.length+j*(2*es.length)
 |0,u=>by simp[itS]
 |j+1,u=>by have:=B0n es j (pS es u);have:=r0m es u;simp only[itS,Nat.add_mul,Nat.one_mul];omega
theorem C0n(es:List K0):∀(j:Nat) (u:List Int),clo es u->clo es (itS es j u)
 |0,u,h=>h
 |j+1,u,h=>C0n es j _ λe a=>by rw[W0b h,W0b h];exact h e a
theorem D0n(es:List K0):∀(j:Nat) (u:List Int),clo es (itS es j u)∨act es u+j<=act es (itS es j u)
 |0,u => .inr (Nat.le_refl _)
 |j+1,u=>by
  rcases y0q (es:=es) (u:=u)with h|h
  ·exact .inl (C0n es j _ h)
  ·rcases D0n es j (pS es u)with a|a
   ·exact .inl a
   ·right;simp only[itS];omega
theorem M0k(es:List K0):∀(j:Nat) (u:List Int) (x:Int),x∈u->x∈itS es j u
 |0,u,x,h=>h
 |j+1,u,x,h=>M0k es j _ x (a08 es u x h)
theorem P0h{P:Int->Prop}(es:List K0)(b:∀ e∈es,P e.1↔P e.2.2):∀(j:Nat) (u:List Int),(∀ x∈u,P x)->∀ x∈itS es j u,P x
 |0,u,a=>a
 |j+1,u,a=>P0h es b j _ (Q0f es u b a)
theorem X0b(es:List K0)(v x:Int):x∈itS es (es.length+1) [v]↔Rch es v x:=by
 constructor
 ·exact P0h (P:=Rch es v) es Rch.closed _ _ (λy a=>by simp at a;subst a;exact .base) x
 ·have b:clo es (itS es (es.length+1) [v]):=by
   rcases D0n es (es.length+1) [v]with h|h
   ·exact h
   ·have:=P0s es (itS es (es.length+1) [v]);omega
  exact Rch.sub (P:=λx=>x∈itS es (es.length+1) [v]) (M0k _ _ _ _ (by simp)) b
theorem R0f(es:List K0)(p:es.length<=9223372036854775807):∀(d k fuel:Nat) (u:List Int),k+d=es.length->d<fuel->u.length+2*d<=1099511627776 ->
  L3 es fuel u (k:Int)=some (pS (es.drop k) u)
 |d,k,0,u,n,hf,q=>by omega
 |0,k,fuel+1,u,n,hf,q=>by
  rw[L3.eq_2,if_neg (by simp;omega),J1 (by omega)];rfl
 |d+1,k,fuel+1,u,n,hf,q=>by
  have o:k<es.length:=by omega
  have m:=O5 o
  generalize es[k]=e at m
  obtain⟨a,l,b⟩:=e
  have i:=λt h=>R0f es p d (k+1) fuel t (by omega) (by omega) h
  have s:=w0q u (a,l,b)
  have g:=x0q (s1 u (a,l,b)) (a,l,b)
  rw[L3.eq_2,if_pos (by simp;omega),M1 m]
  simp only[J2 m,oB,M09 u _ (by omega),Y1 o p,pS]
  by_cases c:a∈u
  ·rw[if_pos (by simpa using c),O0b _ _ (by omega),oB]
   have j:s1 u (a,l,b)=o01 g00 b u:=if_pos c
   rw[j]at s g ⊢
   rw[M09 _ _ (by omega),oB]
   by_cases c2:b∈o01 g00 b u
   ·rw[if_pos (by simpa using c2),O0b _ _ (by omega),oB]
    have f:s2 (o01 g00 b u) (a,l,b)=o01 g00 a (o01 g00 b u):=if_pos c2
    rw[f]at g ⊢
    exact i _ (by omega)
   ·rw[if_neg (by simpa using c2)]
    have f:s2 (o01 g00 b u) (a,l,b)=o01 g00 b u:=if_neg c2
    rw[f]
    exact i _ (by omega)
  ·rw[if_neg (by simpa using c)]
   have j:s1 u (a,l,b)=u:=if_neg c
   rw[j]at g ⊢
   by_cases c2:b∈u
   ·rw[if_pos (by simpa using c2),O0b _ _ (by omega),oB]
    have f:s2 u (a,l,b)=o01 g00 a u:=if_pos c2
    rw[f]at g ⊢
    exact i _ (by omega)
   ·rw[if_neg (by simpa using c2)]
    have f:s2 u (a,l,b)=u:=if_neg c2
    rw[f]
    exact i _ (by omega)
theorem S0f(es:List K0)(c:es.length<=120):∀(d k fuel:Nat) (u:List Int),k+d=es.length+1->d<fuel->u.length<=1+k*240 ->
  Z5 es fuel u (k:Int)=some (itS es d u)
 |d,k,0,u,a,hf,b=>by omega
 |0,k,fuel+1,u,a,hf,b=>by
  rw[Z5.eq_2,if_neg (by rw[w64 (by omega) (by omega)];simp;omega)];rfl
 |d+1,k,fuel+1,u,a,hf,b=>by
  have h0:=R0f es (by omega) es.length 0 Q0 u (by omega) (C1 (by omega)) (by omega)
  rw[show((0:Nat):Int)=0 from rfl,List.drop_zero]at h0
  have e:=S0f es c d (k+1) fuel (pS es u) (by omega) (by omega) (by have:=r0m es u;omega)
  rw[Z5.eq_2,if_pos (by rw[w64 (by omega) (by omega)];simp;omega),h0,oB,Y1 (show k<1000 by omega) (by omega),e]
  rfl
def getI(P:List Int)(v:Int):Int:=P.getD v.toNat (-1)
def a02:List Int->Nat->List Int->List Int
 |A,k,[]=>A
 |A,k,v::r=>a02 (A.set v.toNat (k:Int)) (k+1) r
def plc(n:Nat)(o:List Int):List Int:=a02 (List.replicate n (-1)) 0 o
theorem T0f:∀(o:List Int) (k:Nat) (A:List Int),(a02 A k o).length=A.length
 | [],k,A=>rfl
 |v::r,k,A=>by rw[a02,T0f r];simp
def inV(n:Nat)(o:List Int):Prop:=∀ v∈o,0<=v/\v<(n:Int)
theorem giI{P:List Int}{n:Nat}(d:P.length=n){x:Int}(h0:0<=x)(c:x<n):gi P x=some (getI P x):=by
 have b:x.toNat<P.length:=by omega
 have e:x=((x.toNat:Nat):Int):=by omega
 have a:gi P ((x.toNat:Nat):Int)=some (getI P x):=by
  rw[U0c,List.getElem?_eq_getElem b]
  unfold getI
  rw[List.getD_eq_getElem?_getD,List.getElem?_eq_getElem b];rfl
 rw[←e]at a;exact a
theorem d05{A:List Int}{v x:Int}{y:Int}(h0:0<=v)(a:v.toNat<A.length)(b:0<=x):getI (A.set v.toNat y) x=if x=v then y else getI A x:=by
 unfold getI
 rw[List.getD_eq_getElem?_getD,List.getD_eq_getElem?_getD,List.getElem?_set]
 by_cases c:x=v
 ·rw[if_pos c,if_pos (by rw[c]),if_pos a];rfl
 ·rw[if_neg c,if_neg (by omega)]
theorem Y0b{n:Nat}:∀(o:List Int) (k:Nat) (A:List Int),A.length=n->inV n o->(∀ x,0<=x -> -1<=getI A x/\getI A x<(k:Int))->∀ x,0<=x -> -1<=getI (a02 A k o) x/\getI (a02 A k o) x<((k+o.length:Nat):Int)
 | [],k,A,c,a,h,x,b=>h x b
 |v::r,k,A,c,a,h,x,b=>by
  have e:=a v mS
  have:=Y0b r (k+1) (A.set v.toNat (k:Int)) (by simp[c]) (λw f=>a w (mC _ f)) (λy d=>by
   rw[d05 e.1 (by omega) d]
   have:=h y d
   split<;>omega) x b
  rw[a02,List.length_cons,show k+(r.length+1)=k+1+r.length by omega];exact this
theorem Y08(n:Nat)(x:Int):getI (List.replicate n (-1)) x = -1:=by
 unfold getI
 rw[List.getD_eq_getElem?_getD,List.getElem?_replicate]
 split<;>rfl
theorem s07{n:Nat}{o:List Int}(b:inV n o){x:Int}(a:0<=x): -1<=getI (plc n o) x/\getI (plc n o) x<(o.length:Int):=by
 have:=Y0b o 0 (List.replicate n (-1)) (by simp) b (λx a=>by rw[Y08];omega) x a
 rw[Nat.zero_add]at this;exact this
theorem E0n(n:Nat)(o:List Int):(plc n o).length=n:=by unfold plc;rw[T0f];simp
def pE(P:List Int):List K0->List K0
 | []=>[]
 |e::r=>bif decide (0<=getI P e.1)&&decide (0<=getI P e.2.2)then(getI P e.1,e.2.1,getI P e.2.2)::pE P r else pE P r
theorem i0j(P:List Int):∀ es,(pE P es).length<=es.length
 | []=>by simp[pE]
 |e::r=>by
  have:=i0j P r
  unfold pE
  cases decide (0<=getI P e.1)&&decide (0<=getI P e.2.2)<;>simp only[cond_true,cond_false,List.length_cons]<;>omega
theorem o0s{n:Nat}{o:List Int}(d:inV n o):∀(es:List K0),inN n es->inN o.length (pE (plc n o) es)
 | [],c=>λe a=>nomatch a
 |e::r,c=>by
  have f:=o0s d r λe a=>c e (mC _ a)
  have a:=c e mS
  unfold pE
  cases hb:decide (0<=getI (plc n o) e.1)&&decide (0<=getI (plc n o) e.2.2)
  ·simpa only[cond_false] using f
  ·simp only[cond_true]
   simp only[Bool.and_eq_true,decide_eq_true_eq]at hb
   intro g b
   rcases List.mem_cons.1 b with rfl|b
   ·exact⟨⟨hb.1,(s07 d a.1.1).2⟩,hb.2,(s07 d a.2.1).2⟩
   ·exact f g b
def z9(g:j0)(o:List Int):j0:=(g.1,(o.length:Int),Y5 P0 [] (pE (plc g.2.1.toNat o) g.2.2))
theorem N02:∀(r l:List K0),(Y5 P0 l r).length<=l.length+r.length
 | [],l=>by simp[Y5]
 |e::r,l=>by have:=N02 r (o01 P0 e l);have:=r07 e l;simp only[Y5,List.length_cons];omega
theorem M0a(g:j0)(o:List Int):(z9 g o).2.2.length<=g.2.2.length:=by
 have:=N02 (pE (plc g.2.1.toNat o) g.2.2) []
 have:=i0j (plc g.2.1.toNat o) g.2.2
 simp only[z9,List.length_nil]at *;omega
theorem Q0h{n:Nat}{r:Int}{es:List K0}{o:List Int}(c:inV n o)(b:inN n es):inN o.length (z9 (r,(n:Int),es) o).2.2:=by
 intro e a
 simp only[z9,Int.toNat_natCast]at a
 rcases(r00 B7 e _ _).1 a with h|h
 ·cases h
 ·exact o0s c es b e h
theorem F0n(n:Nat)(c:n<=140737488355328):∀(d k fuel:Nat),k+d=n->d<fuel ->
  I00 n fuel (k:Int) (List.replicate k (-1)++List.replicate d 0)=some (List.replicate n (-1))
 |d,k,0,a,hf=>by omega
 |0,k,fuel+1,a,hf=>by
  rw[I00.eq_2,if_neg (by simp;omega),show k=n by omega];simp
 |d+1,k,fuel+1,a,hf=>by
  have b:gi (List.replicate k (-1)++List.replicate (d+1) (0:Int)) (k:Int)=some 0:=by
   rw[U0c,List.getElem?_append_right (by simp)];simp
  have f:=F0n n c d (k+1) fuel (by omega) (by omega)
  rw[I00.eq_2,if_pos (by simp;omega),b,oB,Y1 (show k<n by omega) (by omega),Int.toNat_natCast]
  have e:(List.replicate k (-1)++List.replicate (d+1) (0:Int)).set k (-1)=List.replicate (k+1) (-1)++List.replicate d 0:=by
   rw[List.set_append_right _ _ (by simp),List.length_replicate,Nat.sub_self,List.replicate_succ,List.set_cons_zero,List.replicate_succ']
   simp
  rw[e,f]
theorem G0n(o:List Int){n:Nat}(h:inV n o)(g:o.length<=9223372036854775807):∀(d k fuel:Nat) (A:List Int),A.length=n->k+d=o.length->d<fuel ->
  H00 o fuel (k:Int) A=some (a02 A k (o.drop k))
 |d,k,0,A,a,e,hf=>by omega
 |0,k,fuel+1,A,a,e,hf=>by
  rw[H00.eq_2,if_neg (by simp;omega),J1 (by omega)];rfl
 |d+1,k,fuel+1,A,a,e,hf=>by
  have f:k<o.length:=by omega
  have b:=O5 f
  have c:=h _ (List.mem_of_getElem? b)
  generalize o[k]=v at b c
  have i:=G0n o h g d (k+1) fuel (A.set v.toNat (k:Int)) (by simp[a]) (by omega) (by omega)
  rw[H00.eq_2,if_pos (by simp;omega),M1 b,J2 b,oB,giI a c.1 c.2,oB,Y1 f g,i]
  rfl
theorem H0n(es:List K0){n:Nat}(q:inN n es)(t:es.length<=1099511627776)(P:List Int)(g:P.length=n)(r m:Int):∀(d k fuel:Nat) (acc:List K0),k+d=es.length->d<fuel->acc.length<=k ->
  R9 es P fuel (k:Int) r m acc=some (r,m,acc++pE P (es.drop k))
 |d,k,0,acc,o,hf,j=>by omega
 |0,k,fuel+1,acc,o,hf,j=>by
  rw[R9.eq_2,if_neg (by simp;omega),J1 (by omega)];simp[pE]
 |d+1,k,fuel+1,acc,o,hf,j=>by
  have p:k<es.length:=by omega
  have f:=O5 p
  have c:=q _ (List.mem_of_getElem? f)
  generalize es[k]=e at f c
  obtain⟨a,l,b⟩:=e
  have i:=λs h=>H0n es q t P g r m d (k+1) fuel s (by omega) (by omega) h
  rw[R9.eq_2,if_pos (by simp;omega),M1 f]
  simp only[J2 f,oB,giI g c.1.1 c.1.2,giI g c.2.1 c.2.2,Y1 p (show es.length<=9223372036854775807 by omega),pE]
  by_cases c1:0<=getI P a
  ·simp only[show decide (getI P a ≥ 0)=true by simpa using c1,H1,oB,cond_true,show decide (0<=getI P a)=true by simpa using c1,Bool.true_and]
   by_cases c2:0<=getI P b
   ·rw[if_pos (by simpa using c2),D0 (by simp;omega),oB,i _ (by simp;omega)]
    simp[c2]
   ·rw[if_neg (by simpa using c2),i _ (by omega)]
    simp[c2]
  ·simp only[show decide (getI P a ≥ 0)=false by simpa using c1,L1,oB,cond_false,show decide (0<=getI P a)=false by simpa using c1,Bool.false_and]
   rw[if_neg (by simp),i _ (by omega)]
theorem j0j(r:Int)(n:Nat)(es:List K0)(o:List Int)(d:inN n es)(e:inV n o)(g:n<=1000000)(c:es.length<=1099511627776)(f:o.length<=1099511627776):
  L02 (r,(n:Int),es) o=some (z9 (r,(n:Int),es) o):=by
 unfold L02
 have b:=F0n n (by omega) n 0 Q0 (by omega) (C1 (by omega))
 have a:=G0n o e (by omega) o.length 0 Q0 (List.replicate n (-1)) (by simp) (by omega) (C1 (by omega))
 have h0:=H0n es d c (plc n o) (E0n n o) r ((o.length:Nat):Int) es.length 0 Q0 [] (by omega) (C1 (by omega)) (Nat.le_refl _)
 rw[show((0:Nat):Int)=0 from rfl]at h0 a b
 rw[List.replicate_zero,List.nil_append]at b
 rw[List.drop_zero]at a
 rw[List.drop_zero,List.nil_append]at h0
 simp only[Int.toNat_natCast]
 rw[D0 (by omega),oB,oB,List.length_replicate,D0 (by omega),oB,b,oB,a,oB]
 rw[show a02 (List.replicate n (-1)) 0 o=plc n o from rfl,h0]
 simp only[oB]
 rw[V0b _ (by have:=i0j (plc n o) es;omega),oB]
 rfl
theorem z0q(A:List Int)(i k:Nat):(A.map (·+1)).set i (((k+1:Nat):Int))=(A.set i (k:Int)).map (·+1):=by
 rw[List.map_set];rfl
theorem U0f{A:List Int}{n:Nat}(d:A.length=n){x:Int}(h0:0<=x)(c:x<n):gi (A.map (·+1)) x=some (getI A x+1):=by
 have b:x.toNat<A.length:=by omega
 have e:x=((x.toNat:Nat):Int):=by omega
 have a:gi (A.map (·+1)) ((x.toNat:Nat):Int)=some (getI A x+1):=by
  rw[U0c,List.getElem?_map,List.getElem?_eq_getElem b]
  unfold getI
  rw[List.getD_eq_getElem?_getD,List.getElem?_eq_getElem b];rfl
 rw[←e]at a;exact a
theorem V0f{n:Nat}:∀(o:List Int) (k:Nat) (A:List Int) (x:Int),A.length=n->inV n o->0<=x->x ∉ o->getI (a02 A k o) x=getI A x
 | [],k,A,x,c,a,b,h=>rfl
 |v::r,k,A,x,c,a,b,h=>by
  have f:=a v mS
  rw[a02,V0f r _ _ x (by simp[c]) (λw g=>a w (mC _ g)) b (λd=>h (mC _ d)),d05 f.1 (by omega) b,if_neg (λe=>h (by rw[e];exact mS))]
theorem A0q(r:Int)(n:Nat)(es:List K0)(o:List Int)(h:inV n o)(l:o.Nodup)(t:1<=n/\n<=1000000)(s:o.length<=1099511627776):∀(d k fuel:Nat) (A:List Int),A.length=n->(∀ x,0<=x -> -1<=getI A x/\getI A x<=1099511627776)->(∀ x∈o.drop k,getI A x = -1)->k+d=o.length->d<fuel ->
  R4 o (n:Int) r es fuel (k:Int) (A.map (·+1))=some (.inr ((a02 A k (o.drop k)).map (·+1)))
 |d,k,0,A,f,i,c,j,hf=>by omega
 |0,k,fuel+1,A,f,i,c,j,hf=>by
  rw[R4.eq_2,if_neg (by simp;omega),J1 (by omega)];rfl
 |d+1,k,fuel+1,A,f,i,c,j,hf=>by
  have m:k<o.length:=by omega
  have a:=O5 m
  have b:=h _ (List.mem_of_getElem? a)
  have g:=M1 a
  generalize o[k]=v at a b g
  have p:(o.drop k).Nodup:=l.sublist (List.drop_sublist _ _)
  rw[g]at p c
  have q:=c v mS
  have w:=A0q r n es o h l t s d (k+1) fuel (A.set v.toNat (k:Int)) (by simp[f]) (λx a=>by
   rw[d05 b.1 (by omega) a];have:=i x a;split<;>omega) (λx a=>by
   have u:=h x (List.mem_of_mem_drop a)
   rw[d05 b.1 (by omega) u.1,if_neg (λe=>(List.nodup_cons.1 p).1 (by rw[←e];exact a))]
   exact c x (mC _ a)) (by omega) (by omega)
  rw[R4.eq_2,if_pos (by simp;omega),g,J2 a]
  simp only[oB,y02,w64 (show -9223372036854775808<=(n:Int)-1 by omega) (show(n:Int)-1<=9223372036854775807 by omega),inR,show decide (0<=v)=true by simpa using b.1,show decide (v<=(n:Int)-1)=true by simp;omega,Bool.and_self,Bool.not_true,Bool.not_false,H1,U0f f b.1 b.2,q,cond_false]
  rw[if_neg (by decide),Y1 m (by omega),z0q,w]
  rfl
theorem B0q(es:List K0){n:Nat}(s:inN n es)(u:es.length<=1099511627776)(P:List Int)(g:P.length=n)(i:∀ x,0<=x -> -1<=getI P x/\getI P x<=1099511627776)(r m:Int):∀(d k fuel:Nat) (acc:List K0),k+d=es.length->d<fuel->acc.length<=k ->
  T3 es (P.map (·+1)) fuel (k:Int) r m acc=some (r,m,Y5 P0 acc (pE P (es.drop k)))
 |d,k,0,acc,p,hf,o=>by omega
 |0,k,fuel+1,acc,p,hf,o=>by
  rw[T3.eq_2,if_neg (by simp;omega),J1 (by omega)];rfl
 |d+1,k,fuel+1,acc,p,hf,o=>by
  have q:k<es.length:=by omega
  have f:=O5 q
  have c:=s _ (List.mem_of_getElem? f)
  generalize es[k]=e at f c
  obtain⟨a,l,b⟩:=e
  have j:=λt h=>B0q es s u P g i r m d (k+1) fuel t (by omega) (by omega) h
  have v:=i a c.1.1
  have w:=i b c.2.1
  rw[T3.eq_2,if_pos (by simp;omega),M1 f]
  simp only[J2 f,oB,U0f g c.1.1 c.1.2,U0f g c.2.1 c.2.2,Y1 q (show es.length<=9223372036854775807 by omega),pE]
  by_cases c1:0<=getI P a
  ·simp only[show decide (getI P a+1>0)=true by simp;omega,H1,oB,cond_true,show decide (0<=getI P a)=true by simpa using c1,Bool.true_and]
   by_cases c2:0<=getI P b
   ·rw[if_pos (by simp;omega),w64 (by omega) (by omega),w64 (by omega) (by omega),show getI P a+1-1=getI P a by omega,show getI P b+1-1=getI P b by omega]
    rw[E06 _ _ (by omega),oB,j _ (by have:=r07 (getI P a,l,getI P b) acc;omega)]
    simp[c2,Y5]
   ·rw[if_neg (by simp;omega),j _ (by omega)]
    simp[c2]
  ·simp only[show decide (getI P a+1>0)=false by simp;omega,L1,oB,cond_false,show decide (0<=getI P a)=false by simpa using c1,Bool.false_and]
   rw[if_neg (by simp),j _ (by omega)]
theorem N0a(r:Int)(n:Nat)(es:List K0)(o:List Int)(f:S0 (r,(n:Int),es)=true)(g:inV n o)(l:o.Nodup)(t:1<=o.length)(u:o.length<=n):
  V6 (r,(n:Int),es) o=some (z9 (r,(n:Int),es) o,true):=by
 obtain⟨h,p,q,s⟩:=M2 f
 simp only at p q s
 have m:inN n es:=λe d=>⟨(h e d).1,(h e d).2.1⟩
 have k:=O8 (r,(n:Int),es) (by simp only;omega)
 unfold V6
 have a:=A0q r n es o g l (by omega) (by omega) o.length 0 Q0 (List.replicate n (-1)) (by simp) (λx b=>by rw[Y08];omega) (λx b=>Y08 n x) (by omega) (C1 (by omega))
 have c:=B0q es m (by omega) (plc n o) (E0n n o) (λx b=>by have:=s07 g b;omega) r ((o.length:Nat):Int) es.length 0 Q0 [] (by omega) (C1 (by omega)) (Nat.le_refl _)
 rw[show((0:Nat):Int)=0 from rfl,List.drop_zero]at c a
 rw[show(List.replicate n (-1:Int)).map (·+1)=List.replicate n 0 by simp]at a
 rw[show a02 (List.replicate n (-1)) 0 o=plc n o from rfl]at a
 have i:decide (((o.length:Nat):Int)=0)=false:=decide_eq_false (by omega)
 have j:decide (((o.length:Nat):Int)>(n:Int))=false:=decide_eq_false (by omega)
 simp only[k,f,oB,Bool.not_true,cond_false,Int.toNat_natCast,i,j]
 rw[if_neg (by simp),D0 (by omega),oB,a]
 simp only[oB,g9,c]
 rfl
theorem s00:∀(n:Nat) (o:List Int),o.Nodup->inV n o->o.length<=n
 |0,[],_,_=>Nat.le_refl _
 |0,x::r,_,h=>by have:=h x mS;omega
 |n+1,o,c,h=>by
  have d:inV n (o.erase (n:Int)):=λx e=>by
   obtain⟨f,a⟩:=(List.Nodup.mem_erase_iff c).1 e
   have:=h x a;omega
  have b:=s00 n _ (c.erase _) d
  by_cases a:(n:Int)∈o
  ·rw[List.length_erase_of_mem a]at b;omega
  ·rw[List.erase_of_not_mem a]at b;omega
def r6:Nat->Nat->List Int
 |0,_=>[]
 |d+1,i=>(i:Int) :: -(i:Int)::r6 d (i+1)
theorem J01:∀ d i,(r6 d i).length=2*d
 |0,i=>rfl
 |d+1,i=>by simp only[r6,List.length_cons,J01 d];omega
theorem k0j:∀(d i:Nat),i+d<=1000->∀ x∈r6 d i,S4 x
 |0,i,h,x,a=>nomatch a
 |d+1,i,h,x,a=>by
  simp only[r6,List.mem_cons]at a
  rcases a with rfl|rfl|a
  ·exact⟨⟨by omega,by omega⟩,by omega⟩
  ·exact⟨⟨by omega,by omega⟩,by omega⟩
  ·exact k0j d (i+1) (by omega) x a
theorem C0q(R:Nat)(c:R<=900):∀(d i fuel:Nat) (acc:List Int),i+d=R+1->d<fuel->acc.length+2*d<=10000 ->
  t8 (R:Int) fuel (i:Int) acc=some (acc++r6 d i)
 |d,i,0,acc,b,hf,a=>by omega
 |0,i,fuel+1,acc,b,hf,a=>by
  rw[t8.eq_2,if_neg (by simp;omega)];simp[r6]
 |d+1,i,fuel+1,acc,b,hf,a=>by
  have e:=C0q R c d (i+1) fuel (acc ++ [(i:Int),-(i:Int)]) (by omega) (by omega) (by simp;omega)
  have f:IntKind.i64.wrap (0-(i:Int)) = -(i:Int):=by rw[w64 (by omega) (by omega)];omega
  rw[t8.eq_2,if_pos (by simp;omega),f,D0 (by simp;omega),oB,Y1 (show i<1000 by omega) (by omega),e]
  simp[r6]
theorem D0q(R:Nat)(c:R<=900):∀(d i fuel:Nat) (acc:List Int),i+d=R+1->d<fuel->acc.length+2*d<=10000 ->
  Y6 (R:Int) fuel (i:Int) acc=some (acc++r6 d i)
 |d,i,0,acc,b,hf,a=>by omega
 |0,i,fuel+1,acc,b,hf,a=>by
  rw[Y6.eq_2,if_neg (by simp;omega)];simp[r6]
 |d+1,i,fuel+1,acc,b,hf,a=>by
  have e:=D0q R c d (i+1) fuel ((acc ++ [(i:Int)]) ++ [-(i:Int)]) (by omega) (by omega) (by simp;omega)
  have f:IntKind.i64.wrap (0-(i:Int)) = -(i:Int):=by rw[w64 (by omega) (by omega)];omega
  rw[Y6.eq_2,if_pos (by simp;omega),f,D0 (by simp;omega),oB,D0 (by simp;omega),oB,Y1 (show i<1000 by omega) (by omega),e]
  simp[r6]
theorem s0m(R:Nat)(a:R<=900):Y9 (R:Int)=some (r6 R 1):=by
 unfold Y9
 rw[show(1:Int)=((1:Nat):Int) from rfl,C0q R a R 1 Q0 [] (by omega) (C1 (by omega)) (by simp;omega)];rfl
theorem l0j(R:Nat)(a:R<=900):o7 (R:Int)=some (r6 R 1):=by
 unfold o7
 rw[show(1:Int)=((1:Nat):Int) from rfl,D0q R a R 1 Q0 [] (by omega) (C1 (by omega)) (by simp;omega)];rfl
def r08(u:List Int)(x:Int):List Int:=if 0<=x/\x ∉ u then u ++ [x]else u
def w03(g:j0)(v:Int):List Int->List Int->List Int
 | [],u=>u
 |x::r,u=>w03 g v r (r08 u (Y0 g v x))
def a00(g:j0)(a:List Int):Nat->Nat->List Int->List Int
 |0,i,u=>u
 |f+1,i,u=>match u[i]? with
  |some v=>a00 g a f (i+1) (w03 g v a u)
  |none=>u
def gud(n:Nat)(u:List Int):Prop:=u.Nodup/\inV n u
theorem I0n{n:Nat}{u:List Int}{x:Int}(h:gud n u)(i:x = -1∨(0<=x/\x<(n:Int))):gud n (r08 u x):=by
 unfold r08
 split
 ·rename_i g
  refine⟨List.nodup_append.2 ⟨h.1,by simp,λa f b d=>?_⟩,λy c=>?_⟩
  ·simp at d;subst d;exact λe=>g.2 (e▸f)
  ·rcases List.mem_append.1 c with c|c
   ·exact h.2 y c
   ·simp at c;subst c;omega
 ·exact h
theorem W0f(u:List Int)(x:Int):∃ t,r08 u x=u++t:=by
 unfold r08;split
 ·exact⟨_,rfl⟩
 ·exact⟨[],by simp⟩
theorem T03(g:j0)(v:Int):∀(c u:List Int),∃ t,w03 g v c u=u++t
 | [],u=>⟨[],by simp[w03]⟩
 |x::r,u=>by
  obtain⟨d,a⟩:=W0f u (Y0 g v x)
  obtain⟨e,b⟩:=T03 g v r (r08 u (Y0 g v x))
  exact⟨d++e,by rw[w03,b,a,List.append_assoc]⟩
theorem C05{r:Int}{n:Nat}{es:List K0}(a:inG (r,(n:Int),es))(v:Int):∀(b u:List Int),gud n u->gud n (w03 (r,(n:Int),es) v b u)
 | [],u,h=>h
 |x::l,u,h=>C05 a v l _ (I0n h (j04 a v x))
theorem X0f{r:Int}{n:Nat}{es:List K0}(a:inG (r,(n:Int),es))(b:List Int):∀(f i:Nat) (u:List Int),gud n u->gud n (a00 (r,(n:Int),es) b f i u)
 |0,i,u,h=>h
 |f+1,i,u,h=>by
  unfold a00
  split
  ·exact X0f a b f _ _ (C05 a _ _ _ h)
  ·exact h
theorem Y0f(g:j0)(a:List Int):∀(f i:Nat) (u:List Int),u.length<=(a00 g a f i u).length
 |0,i,u=>Nat.le_refl _
 |f+1,i,u=>by
  unfold a00
  split
  ·rename_i v _
   obtain⟨t,e⟩:=T03 g v a u
   have:=Y0f g a f (i+1) (w03 g v a u)
   rw[e]at this ⊢;simp only[List.length_append]at this;omega
  ·exact Nat.le_refl _
theorem J0n(r:Int)(n:Nat)(es:List K0)(g:inG (r,(n:Int),es))(A:n<=40)(m:es.length<=1099511627776)(a:List Int)(p:∀ x∈a,S4 x)(z:a.length<=1000000)(i:Nat)(v:Int):∀(d k fuel:Nat) (u:List Int),gud n u->u[i]?=some v->k+d=a.length->d<fuel ->
  O3 a (i:Int) r (n:Int) es fuel (k:Int) u=some (w03 (r,(n:Int),es) v (a.drop k) u)
 |d,k,0,u,c,b,j,hf=>by omega
 |0,k,fuel+1,u,c,b,j,hf=>by
  rw[O3.eq_2,if_neg (by simp;omega),J1 (by omega)];rfl
 |d+1,k,fuel+1,u,c,b,j,hf=>by
  have o:k<a.length:=by omega
  have f:=O5 o
  have q:=p _ (List.mem_of_getElem? f)
  have l:=M1 f
  generalize a[k]=x at f q l
  have D:=s00 n u c.1 c.2
  have B:Y0 (r,(n:Int),es) v x = -1∨(0<=Y0 (r,(n:Int),es) v x/\Y0 (r,(n:Int),es) v x<(n:Int)):=j04 g v x
  have s:=I0n c B
  have w:(r08 u (Y0 (r,(n:Int),es) v x))[i]?=some v:=by
   obtain⟨t,e⟩:=W0f u (Y0 (r,(n:Int),es) v x)
   rw[e,List.getElem?_append_left (List.getElem?_eq_some_iff.1 b).1];exact b
  have C:=J0n r n es g A m a p z i v d (k+1) fuel _ s w (by omega) (by omega)
  rw[O3.eq_2,if_pos (by simp;omega),l]
  simp only[J2 b,J2 f,oB,G04 (r,(n:Int),es) v x q m,D0 (C03 g (show(n:Int)<=40 by omega) v x),Y1 o (show a.length<=9223372036854775807 by omega),w03]
  rw[←C]
  generalize Y0 (r,(n:Int),es) v x=y at *
  unfold r08
  by_cases c1:0<=y
  ·simp only[show decide (y ≥ 0)=true by simpa using c1,H1,M09 u y (by omega),oB,cond_true]
   by_cases c2:y∈u
   ·rw[if_neg (by simp[c2]),if_neg (by simp[c2])]
   ·rw[if_pos (by simp[c2]),if_pos ⟨c1,c2⟩,D0 (by simp;omega),oB]
  ·simp only[show decide (y ≥ 0)=false by simpa using c1,L1,oB,cond_false]
   rw[if_neg (by simp),if_neg (λh=>c1 h.1)]
theorem K0n(r:Int)(n:Nat)(es:List K0)(d:inG (r,(n:Int),es))(m:n<=40)(h:es.length<=1099511627776)(a:List Int)(l:∀ x∈a,S4 x)(k:a.length<=1000000):∀(f i fuel:Nat) (u:List Int),gud n u->i<=u.length->n+1<=i+f->f<fuel ->
  M5 a r (n:Int) es fuel (i:Int) u=some (a00 (r,(n:Int),es) a f i u)
 |f,i,0,u,b,j,g,hf=>by omega
 |0,i,fuel+1,u,b,j,g,hf=>by have:=s00 n u b.1 b.2;omega
 |f+1,i,fuel+1,u,b,j,g,hf=>by
  have p:=s00 n u b.1 b.2
  rw[M5.eq_2,oB,D0 (by omega),oB]
  by_cases hk:i<u.length
  ·have c:=O5 hk
   generalize u[i]=v at c
   have h0:=J0n r n es d m h a l k i v a.length 0 Q0 u b c (by omega) (C1 (by omega))
   rw[show((0:Nat):Int)=0 from rfl,List.drop_zero]at h0
   obtain⟨t,e⟩:=T03 (r,(n:Int),es) v a u
   have o:=K0n r n es d m h a l k f (i+1) fuel _ (C05 d v a u b) (by rw[e,List.length_append];omega) (by omega) (by omega)
   rw[if_pos (by simpa using hk),h0,oB,Y1 hk (by omega),o]
   simp only[a00,c]
  ·have c:u[i]?=none:=List.getElem?_eq_none (by omega)
   rw[if_neg (by simpa using hk)]
   simp only[a00,c]
def N6(g:j0):List Int:=a00 g (r6 g.1.toNat 1) (g.2.1.toNat+1) 0 [0]
theorem N09{g:j0}(hf:O0 g=true):gud g.2.1.toNat (N6 g)/\1<=(N6 g).length:=by
 obtain⟨b,c,d,e⟩:=I1 hf
 obtain⟨r,n,es⟩:=g
 simp only at c d e
 obtain⟨N,rfl⟩:∃ N:Nat,n=(N:Int):=⟨n.toNat,by omega⟩
 refine⟨?_,?_⟩
 ·exact X0f b _ _ _ _ ⟨by simp,λx a=>by simp at a;subst a;show(0:Int)<=0/\(0:Int)<(((N:Int).toNat:Nat):Int);omega⟩
 ·exact Y0f _ _ _ _ [0]
theorem N0k(g:j0)(hf:O0 g=true):B9 g=some (N6 g):=by
 obtain⟨b,c,d,e⟩:=I1 hf
 have f:=A6 g (by omega)
 obtain⟨r,n,es⟩:=g
 simp only at c d e
 obtain⟨N,rfl⟩:∃ N:Nat,n=(N:Int):=⟨n.toNat,by omega⟩
 obtain⟨R,rfl⟩:∃ R:Nat,r=(R:Int):=⟨r.toNat,by omega⟩
 unfold B9
 have h0:=K0n (R:Int) N es b (by omega) (by omega) (r6 R 1) (k0j R 1 (by omega)) (by rw[J01];omega) (N+1) 0 Q0 [0] ⟨by simp,λx a=>by simp at a;subst a;omega⟩ (by simp) (by omega) (C1 (by omega))
 simp only[f,hf,oB,Bool.not_true,l0j R (by omega)]
 rw[show((0:Nat):Int)=0 from rfl]at h0
 rw[if_neg (by simp),h0]
 rfl
theorem L0n{a:List Int}(la:a.length<=1099511627776):h02 a=some a:=by
 unfold h02
 rw[D0 (by simp;omega)];rfl
def C7(W:List (Option (List Int)))(x:Int):Option (List Int):=W.getD x.toNat none
theorem giO{a:List (Option (List Int))}{n:Nat}(f:a.length=n){x:Int}(h0:0<=x)(d:x<n):gi a x=some (C7 a x):=by
 have c:x.toNat<a.length:=by omega
 have e:x=((x.toNat:Nat):Int):=by omega
 have b:gi a ((x.toNat:Nat):Int)=some (C7 a x):=by
  rw[U0c,List.getElem?_eq_getElem c]
  unfold C7
  rw[List.getD_eq_getElem?_getD,List.getElem?_eq_getElem c];rfl
 rw[←e]at b;exact b
theorem K01{A:List (Option (List Int))}{v x:Int}{y:Option (List Int)}(h0:0<=v)(a:v.toNat<A.length)(b:0<=x):C7 (A.set v.toNat y) x=if x=v then y else C7 A x:=by
 unfold C7
 rw[List.getD_eq_getElem?_getD,List.getD_eq_getElem?_getD,List.getElem?_set]
 by_cases c:x=v
 ·rw[if_pos c,if_pos (by rw[c]),if_pos a];rfl
 ·rw[if_neg c,if_neg (by omega)]
structure WOk (n:Nat) (W:List (Option (List Int))) (u:List Int):Prop where
 len:W.length=n
 iff:∀ x,0<=x->x<(n:Int)->((C7 W x).isNone=true↔x ∉ u)
 short:∀ x,((C7 W x).getD []).length<=u.length
theorem M0n(r:Int)(n:Nat)(es:List K0)(m:inG (r,(n:Int),es))(G:n<=40)(t:es.length<=1099511627776)(f:List Int)(A:∀ x∈f,S4 x)(F:f.length<=1000000)(v:Int)(o:0<=v/\v<(n:Int)):∀(d k fuel:Nat) (b:List (Option (List Int))) (u:List Int),gud n u->WOk n b u->k+d=f.length->d<fuel ->
  ∃ j,I3 f r (n:Int) es v fuel (k:Int) b u=some (j,w03 (r,(n:Int),es) v (f.drop k) u)/\WOk n j (w03 (r,(n:Int),es) v (f.drop k) u)
 |d,k,0,b,u,i,a,q,hf=>by omega
 |0,k,fuel+1,b,u,i,a,q,hf=>by
  rw[I3.eq_2,if_neg (by simp;omega),J1 (by omega)];exact⟨b,rfl,a⟩
 |d+1,k,fuel+1,b,u,i,a,q,hf=>by
  have w:k<f.length:=by omega
  have l:=O5 w
  have C:=A _ (List.mem_of_getElem? l)
  have s:=M1 l
  generalize f[k]=x at l C s
  have J:=s00 n u i.1 i.2
  have H:Y0 (r,(n:Int),es) v x = -1∨(0<=Y0 (r,(n:Int),es) v x/\Y0 (r,(n:Int),es) v x<(n:Int)):=j04 m v x
  have E:=I0n i H
  have g:=λj h=>M0n r n es m G t f A F v o d (k+1) fuel j _ E h (by omega) (by omega)
  rw[I3.eq_2,if_pos (by simp;omega),s]
  simp only[J2 l,oB,Y05 (r,(n:Int),es) v x C t,D0 (C03 m (show(n:Int)<=40 by omega) v x),Y1 w (show f.length<=9223372036854775807 by omega),w03]
  generalize Y0 (r,(n:Int),es) v x=y at *
  by_cases c1:0<=y
  ·have p:y<(n:Int):=by omega
   simp only[show decide (y ≥ 0)=true by simpa using c1,H1,giO a.len c1 p,oB,cond_true]
   by_cases c2:y∈u
   ·have : ¬ ((C7 b y).isNone=true):=λh=>(a.iff y c1 p).1 h c2
    have e:r08 u y=u:=if_neg λh=>h.2 c2
    rw[if_neg this]
    rw[e]at g ⊢
    exact g b a
   ·have:(C7 b y).isNone=true:=(a.iff y c1 p).2 c2
    have e:r08 u y=u ++ [y]:=if_pos ⟨c1,c2⟩
    have B:=a.short v
    rw[if_pos this,giO a.len o.1 o.2,oB,L0n (by omega),oB,D0 (by simp;omega),oB,D0 (by simp;omega),oB]
    rw[e]at g ⊢
    refine g _ ⟨by simp[a.len],λz h0 D=>?_,λz=>?_⟩
    ·rw[K01 c1 (by have:=a.len;omega) h0]
     by_cases c:z=y
     ·rw[if_pos c];simp[c]
     ·rw[if_neg c,a.iff z h0 D];simp[c]
    ·by_cases hz:0<=z
     ·rw[K01 c1 (by have:=a.len;omega) hz]
      by_cases c:z=y
      ·rw[if_pos c];simp;exact B
      ·rw[if_neg c];have:=a.short z;simp only[List.length_append];omega
     ·have I:C7 (b.set y.toNat (some ((C7 b v).getD [] ++ [x]))) z=C7 (b.set y.toNat (some ((C7 b v).getD [] ++ [x]))) 0:=by
       unfold C7;rw[show z.toNat=(0:Int).toNat by omega]
      rw[I,K01 c1 (by have:=a.len;omega) (iR 0)]
      by_cases c:(0:Int)=y
      ·rw[if_pos c];simp;exact B
      ·rw[if_neg c];have:=a.short 0;simp only[List.length_append];omega
  ·have e:r08 u y=u:=if_neg λh=>c1 h.1
   simp only[show decide (y ≥ 0)=false by simpa using c1,L1,oB,cond_false]
   rw[if_neg (by simp)]
   rw[e]at g ⊢
   exact g b a
theorem N0n(R n:Nat)(h:R<=900)(es:List K0)(d:inG ((R:Int),(n:Int),es))(m:n<=40)(k:es.length<=1099511627776):∀(f i fuel:Nat) (b:List (Option (List Int))) (u:List Int),gud n u->WOk n b u->i<=u.length->n+1<=i+f->f<fuel ->
  ∃ q,E5 (R:Int) (n:Int) es fuel (i:Int) b u=some (q,a00 ((R:Int),(n:Int),es) (r6 R 1) f i u)
 |f,i,0,b,u,a,g,l,j,hf=>by omega
 |0,i,fuel+1,b,u,a,g,l,j,hf=>by have:=s00 n u a.1 a.2;omega
 |f+1,i,fuel+1,b,u,a,g,l,j,hf=>by
  have y:=s00 n u a.1 a.2
  rw[E5.eq_2,oB,D0 (by omega),oB]
  by_cases hk:i<u.length
  ·have c:=O5 hk
   have o:=a.2 _ (List.mem_of_getElem? c)
   generalize u[i]=v at c o
   obtain⟨s,h0,p⟩:=M0n (R:Int) n es d m k (r6 R 1) (k0j R 1 (by omega)) (by rw[J01];omega) v o (r6 R 1).length 0 Q0 b u a g (by omega) (C1 (by rw[J01];omega))
   rw[show((0:Nat):Int)=0 from rfl,List.drop_zero]at h0
   rw[List.drop_zero]at p
   obtain⟨t,e⟩:=T03 ((R:Int),(n:Int),es) v (r6 R 1) u
   obtain⟨x,w⟩:=N0n R n h es d m k f (i+1) fuel s _ (C05 d v _ u a) p (by rw[e,List.length_append];omega) (by omega) (by omega)
   rw[if_pos (by simpa using hk),J2 c,oB,s0m R h,oB,h0,oB]
   simp only[Y1 hk (show u.length<=9223372036854775807 by omega),w,a00,c]
   exact⟨_,rfl⟩
  ·have c:u[i]?=none:=List.getElem?_eq_none (by omega)
   rw[if_neg (by simpa using hk)]
   simp only[a00,c]
   exact⟨_,rfl⟩
theorem O0k(g:j0)(hf:O0 g=true):C9 g=some (N6 g):=by
 obtain⟨a,e,f,h⟩:=I1 hf
 have i:=Z9 g (by omega)
 obtain⟨r,n,es⟩:=g
 simp only at e f h
 obtain⟨N,rfl⟩:∃ N:Nat,n=(N:Int):=⟨n.toNat,by omega⟩
 obtain⟨R,rfl⟩:∃ R:Nat,r=(R:Int):=⟨r.toNat,by omega⟩
 unfold C9
 have b:∀ x,C7 (List.replicate N (none:Option (List Int))) x=none:=λx=>by
  unfold C7
  rw[List.getD_eq_getElem?_getD,List.getElem?_replicate];split<;>rfl
 have j:WOk N ((List.replicate N (none:Option (List Int))).set (0:Int).toNat (some [])) [0]:=by
  refine⟨by simp,λx h0 a=>?_,λx=>?_⟩
  ·rw[K01 (iR 0) (by simp;omega) h0]
   by_cases c:x=0
   ·rw[if_pos c];simp[c]
   ·rw[if_neg c,b];simp[c]
  ·by_cases hz:0<=x
   ·rw[K01 (iR 0) (by simp;omega) hz]
    split
    ·simp
    ·rw[b];simp
   ·have:C7 ((List.replicate N (none:Option (List Int))).set (0:Int).toNat (some [])) x=C7 ((List.replicate N (none:Option (List Int))).set (0:Int).toNat (some [])) 0:=by
     unfold C7;rw[show x.toNat=(0:Int).toNat by omega]
    rw[this,K01 (iR 0) (by simp;omega) (iR 0),if_pos rfl];simp
 obtain⟨l,h0⟩:=N0n R N (by omega) es a (by omega) (by omega) (N+1) 0 Q0 _ [0] ⟨by simp,λx d=>by simp at d;subst d;omega⟩ j (by simp) (by omega) (C1 (by omega))
 have k:gi (List.replicate N (none:Option (List Int))) 0=some none:=by
  rw[e0j (x:=none)];rw[List.getElem?_replicate,if_pos (by omega)]
 simp only[i,hf,oB,Bool.not_true,O7,Int.toNat_natCast]
 rw[if_neg (by simp),D0 (by omega),oB,k,oB]
 rw[show((0:Nat):Int)=0 from rfl]at h0
 rw[h0]
 rfl
def J3(g:j0):j0:=z9 g (N6 g)
theorem Z08(g:j0)(hf:O0 g=true):Y7 g=some (J3 g):=by
 obtain⟨b,d,f,h⟩:=I1 hf
 have i:=Z9 g (by omega)
 have j:=O0k g hf
 obtain⟨a,m⟩:=N09 hf
 have k:=s00 _ _ a.1 a.2
 obtain⟨r,n,es⟩:=g
 simp only at d f h
 obtain⟨N,rfl⟩:∃ N:Nat,n=(N:Int):=⟨n.toNat,by omega⟩
 simp only[Int.toNat_natCast]at a k
 have l:=j0j r N es (N6 (r,(N:Int),es)) (λe c=>⟨(b e c).1,(b e c).2.1⟩) a.2 (by omega) (by omega) (by omega)
 unfold Y7
 simp only[i,hf,oB,Bool.not_true,j,l]
 rfl
theorem a09(g:j0)(hf:O0 g=true):V7 g=some (J3 g):=by
 obtain⟨l,d,e,f⟩:=I1 hf
 have i:S0 g=true:=by
  unfold O0 at hf;exact(Bool.and_eq_true _ _▸hf).1
 have j:=N0k g hf
 obtain⟨a,b⟩:=N09 hf
 have c:=s00 _ _ a.1 a.2
 obtain⟨r,n,es⟩:=g
 simp only at d e f
 obtain⟨N,rfl⟩:∃ N:Nat,n=(N:Int):=⟨n.toNat,by omega⟩
 simp only[Int.toNat_natCast]at a c
 have k:=N0a r N es (N6 (r,(N:Int),es)) i a.2 a.1 b c
 unfold V7
 simp only[oB,j,k]
 rw[if_neg (by simp;intro h;rw[h]at b;simp at b)]
 rfl
def lf(a:Nat->Bool):Nat->Nat->Option Nat
 |0,v=>none
 |d+1,v=>bif a v then some v else lf a d (v+1)
theorem b09{a:Nat->Bool}:∀(d v k:Nat),lf a d v=some k->v<=k/\k<v+d
 |0,v,k,h=>by cases h
 |d+1,v,k,h=>by
  unfold lf at h
  cases hb:a v
  ·rw[hb]at h;have:=b09 d (v+1) k h;omega
  ·rw[hb]at h;cases h;omega
theorem Z0f{a b:Nat->Bool}:∀(d v:Nat),(∀ k,v<=k->k<v+d->a k=b k)->lf a d v=lf b d v
 |0,v,h=>rfl
 |d+1,v,h=>by unfold lf;rw[h v (Nat.le_refl _) (by omega),Z0f d (v+1) λk c e=>h k (by omega) (by omega)]
def J0o(es:List K0):List Int:=itS es (es.length+1) [0]
def d0d(es:List K0)(v:Nat):Bool:=decide (k04 (v:Int) es<2) || !decide ((v:Int)∈J0o es)
def B00(g:j0):Option Nat:=lf (d0d g.2.2) (g.2.1.toNat-1) 1
theorem t0m(g:j0)(b:S0 g=true):U00 g 0=some (J0o g.2.2)/\(J0o g.2.2).length<=100000:=by
 obtain⟨i,d,e,a⟩:=M2 b
 have h:=O8 g (by omega)
 obtain⟨r,n,es⟩:=g
 simp only at d e a
 unfold U00 J0o
 have c:=S0f es a (es.length+1) 0 Q0 [0] (by omega) (C1 (by omega)) (by simp)
 have f:=B0n es (es.length+1) [0]
 refine⟨?_,?_⟩
 ·rw[show((0:Nat):Int)=0 from rfl]at c
  simp only[h,b,oB,Bool.not_true,Bool.not_false,H1,y02,inR,w64 (show -9223372036854775808<=n-1 by omega) (show n-1<=9223372036854775807 by omega)]
  rw[if_neg (by simp;omega),c];rfl
 ·have:(es.length+1)*(2*es.length)<=121*240:=Nat.mul_le_mul (by omega) (by omega)
  simp only[List.length_singleton]at f
  simp only
  omega
theorem E0q(r:Int)(n:Nat)(es:List K0)(e:es.length<=1000)(u:List Int)(g:u.length<=100000)(f:n<=40):∀(d v fuel:Nat),v+d=n∨(d=0/\n<=v)->v<=1000->d<fuel ->
  n9 (n:Int) r es u fuel (v:Int)=some (match lf (λv=>decide (k04 (v:Int) es<2) || !decide ((v:Int)∈u)) d v with|some k => .inl (k:Int)|none => .inr ())
 |d,v,0,b,c,hf=>by omega
 |0,v,fuel+1,b,c,hf=>by
  rw[n9.eq_2,if_neg (by simp;omega)];rfl
 |d+1,v,fuel+1,b,c,hf=>by
  have h:=E0q r n es e u g f d (v+1) fuel (by omega) (by omega) (by omega)
  have i:=g0j (v:Int) es
  rw[n9.eq_2,if_pos (by simp;omega),I0h (r,(n:Int),es) _ (by simp only;omega),oB,D0 (c64 (by simp only;omega) (by simp only;omega)),oB,Y1 (show v<10000 by omega) (by omega)]
  unfold lf
  by_cases c1:k04 (v:Int) es<2
  ·have a:decide (((k04 (v:Int) es:Nat):Int)<2)=true:=decide_eq_true (by omega)
   simp only[a,Bool.not_true,L1,oB,cond_true,if_true,decide_eq_true c1,Bool.true_or]
  ·have a:decide (((k04 (v:Int) es:Nat):Int)<2)=false:=decide_eq_false (by omega)
   simp only[a,Bool.not_false,H1,M09 u _ (show u.length<=9223372036854775807 by omega),oB,cond_false,decide_eq_false c1,Bool.false_or]
   by_cases c2:(v:Int)∈u
   ·simp only[decide_eq_true c2,Bool.not_true,Bool.false_eq_true,if_false,cond_false];exact h
   ·simp only[decide_eq_false c2,Bool.not_false,if_true,cond_true]
theorem F0q(g:j0)(c:S0 g=true):t02 g=some (match B00 g with|some k=>(k:Int)|none => -1):=by
 obtain⟨a,b⟩:=t0m g c
 obtain⟨i,d,e,f⟩:=M2 c
 obtain⟨r,n,es⟩:=g
 simp only at d e f a b
 obtain⟨N,rfl⟩:∃ N:Nat,n=(N:Int):=⟨n.toNat,by omega⟩
 unfold t02 B00
 have h:=E0q r N es (by omega) (J0o es) b (by omega) (N-1) 1 Q0 (by omega) (by omega) (C1 (by omega))
 simp only[a,oB,Int.toNat_natCast]
 rw[show(1:Int)=((1:Nat):Int) from rfl,h]
 rw[show(λv:Nat=>decide (k04 (v:Int) es<2) || !decide ((v:Int)∈J0o es))=d0d es from rfl]
 cases lf (d0d es) (N-1) 1<;>rfl
theorem m0j(r:Int)(n:Nat)(es:List K0)(o:es.length<=1000)(a:List Bool)(g:a.length=n)(p:n<=40):∀(d v fuel:Nat),1<=v->v+d=n∨(d=0/\n<=v)->v<=1000->d+1<fuel ->
  i4 (n:Int) r es a fuel 0 (v:Int)=some (match lf (λv=>decide (k04 (v:Int) es<2) || !L00 a (v:Int)) d v with|some k=>(k:Int)|none=>0)
 |d,v,0,f,h,j,hf=>by omega
 |0,v,fuel+1,f,h,j,hf=>by
  have e:decide ((v:Int)<(n:Int))=false:=decide_eq_false (by omega)
  rw[i4.eq_2,if_neg (by rw[e];simp)];rfl
 |d+1,v,fuel+1,f,h,j,hf=>by
  have q:=m0j r n es o a g p d (v+1) fuel (by omega) (by omega) (by omega) (by omega)
  have s:=g0j (v:Int) es
  have e:decide ((v:Int)<(n:Int))=true:=decide_eq_true (by omega)
  have i:∀ w:Int,i4 (n:Int) r es a fuel (v:Int) w=some (v:Int):=λw=>by
   obtain _|fuel:=fuel
   ·omega
   ·have l:decide ((v:Int)=0)=false:=decide_eq_false (by omega)
    have m:∀ b:Bool,(bif b then false else false)=false:=λb=>by cases b<;>rfl
    rw[i4.eq_2,if_neg (by rw[l,m];simp)]
  rw[i4.eq_2,if_pos (by rw[e];rfl),I0o (r,(n:Int),es) _ (by simp only;omega),oB,D0 (c64 (by simp only;omega) (by simp only;omega)),oB,Y1 (show v<10000 by omega) (by omega)]
  unfold lf
  by_cases c1:k04 (v:Int) es<2
  ·have c:decide (((k04 (v:Int) es:Nat):Int)<2)=true:=decide_eq_true (by omega)
   simp only[c,Bool.not_true,L1,oB,cond_true,if_true,decide_eq_true c1,Bool.true_or,i]
  ·have c:decide (((k04 (v:Int) es:Nat):Int)<2)=false:=decide_eq_false (by omega)
   simp only[c,Bool.not_false,H1,giB g (show(0:Int)<=(v:Int) by omega) (show(v:Int)<(n:Int) by omega),oB,cond_false,decide_eq_false c1,Bool.false_or]
   cases hb:L00 a (v:Int)
   ·simp only[Bool.not_false,if_true,cond_true,i]
   ·simp only[Bool.not_true,Bool.false_eq_true,if_false,cond_false];exact q
def wo(g:Nat):Nat->Nat->List Int
 |0,k=>[]
 |d+1,k=>if k=g then wo g d (k+1)else(k:Int)::wo g d (k+1)
theorem a0g(g:Nat):∀(d k:Nat),(wo g d k).length=d-(if k<=g/\g<k+d then 1 else 0)
 |0,k=>by simp[wo]
 |d+1,k=>by
  have a:=a0g g d (k+1)
  unfold wo
  by_cases c:k=g
  ·rw[if_pos c,a,if_neg (by omega),if_pos (by omega)];omega
  ·rw[if_neg c,List.length_cons,a]
   by_cases c2:k+1<=g/\g<k+1+d
   ·rw[if_pos c2,if_pos (by omega)];omega
   ·rw[if_neg c2,if_neg (by omega)];omega
theorem P0k(g n:Nat):∀(d k:Nat),k+d<=n->inV n (wo g d k)
 |0,k,h=>λx a=>nomatch a
 |d+1,k,h=>by
  have b:=P0k g n d (k+1) (by omega)
  unfold wo
  split
  ·exact b
  ·intro x a
   rcases List.mem_cons.1 a with rfl|a
   ·omega
   ·exact b x a
theorem n0j(n g:Nat)(j:n<=1000):∀(d k fuel:Nat) (acc:List Int),k+d=n->d<fuel->acc.length<=k ->
  l6 (n:Int) (g:Int) fuel (k:Int) acc=some (acc++wo g d k)
 |d,k,0,acc,b,hf,a=>by omega
 |0,k,fuel+1,acc,b,hf,a=>by
  rw[l6.eq_2,if_neg (by simp;omega)];simp[wo]
 |d+1,k,fuel+1,acc,b,hf,a=>by
  have f:=λi h=>n0j n g j d (k+1) fuel i (by omega) (by omega) h
  rw[l6.eq_2,if_pos (by simp;omega),Y1 (show k<10000 by omega) (by omega)]
  unfold wo
  by_cases c:k=g
  ·have e:decide ((k:Int)=(g:Int))=true:=decide_eq_true (by omega)
   rw[e,if_neg (by simp),if_pos c,f _ (by omega)]
  ·have e:decide ((k:Int)=(g:Int))=false:=decide_eq_false (by omega)
   rw[e,if_pos (show(!false)=true from rfl),if_neg c,D0 (by simp;omega),oB,f _ (by simp;omega)]
   simp
theorem o0j(n:Nat)(f:n<=1000):∀(d k fuel:Nat) (acc:List Int),k+d=n->d<fuel->acc.length=k ->
  ∃ u,Z6 (n:Int) fuel (k:Int) acc=some u/\u.length=n
 |d,k,0,acc,b,hf,a=>by omega
 |0,k,fuel+1,acc,b,hf,a=>by
  rw[Z6.eq_2,if_neg (by simp;omega)];exact⟨_,rfl,by omega⟩
 |d+1,k,fuel+1,acc,b,hf,a=>by
  obtain⟨u,c,e⟩:=o0j n f d (k+1) fuel (acc ++ [(k:Int)]) (by omega) (by omega) (by simp;omega)
  rw[Z6.eq_2,if_pos (by simp;omega),Y1 (show k<10000 by omega) (by omega),D0 (by simp;omega),oB,c]
  exact⟨u,rfl,e⟩
theorem c09{a:Type}{xs:List a}{k:Nat}(h:k<=xs.length):j06 xs 0 (k:Int)=some (xs.take k):=by
 unfold j06
 rw[if_pos (by omega)];rfl
theorem O0n:∀(n fuel:Nat) (left:List Int) (r:Int) (es:List K0),1<=n->n<=40->inN n es->es.length<=120->left.length=n->n<fuel ->
  ∃(a:j0) (e:List Int),o6 fuel left r (n:Int) es=some (.inl (a,e))/\a.2.1<=(n:Int)/\(a.2.1=(n:Int)↔lf (d0d es) (n-1) 1=none)
 |n,0,left,r,es,f,g,b,u,w,hf=>by omega
 |n,fuel+1,left,r,es,f,g,b,u,w,hf=>by
  obtain⟨c,q,A,s⟩:=K0k r n es b (by omega) f (by omega)
  have o:=m0j r n es (by omega) c A g (n-1) 1 Q0 (Nat.le_refl _) (by omega) (by omega) (C1 (by omega))
  have t:lf (λv=>decide (k04 (v:Int) es<2) || !L00 c (v:Int)) (n-1) 1=lf (d0d es) (n-1) 1:=Z0f _ _ λk D E=>by
   unfold d0d
   have:=s (k:Int) (by omega) (by omega)
   have i:=X0b es 0 (k:Int)
   congr 2
   cases hb:L00 c (k:Int)
   ·symm;exact decide_eq_false λh=>by rw[this.2 (i.1 h)]at hb;cases hb
   ·symm;exact decide_eq_true (i.2 (this.1 hb))
  rw[t]at o
  rw[o6.eq_2,q,oB,show(1:Int)=((1:Nat):Int) from rfl,o,oB]
  cases hlf:lf (d0d es) (n-1) 1 with
  |none =>
   exact⟨(r,(n:Int),es),left,by rw[if_pos (by rfl)],iR _,by simp⟩
  |some k =>
   have C:=b09 _ _ _ hlf
   have p:decide ((k:Int)=0)=false:=decide_eq_false (by omega)
   have j:=P0k k n n 0 (by omega)
   have d:=a0g k n 0
   rw[if_pos (by omega)]at d
   have m:=n0j n k (by omega) n 0 Q0 [] (by omega) (C1 (by omega)) (Nat.le_refl _)
   rw[show((0:Nat):Int)=0 from rfl,List.nil_append]at m
   have x:=j0j r n es (wo k n 0) b j (by omega) (by omega) (by omega)
   have y:=M0a (r,(n:Int),es) (wo k n 0)
   have l:=Q0h (r:=r) j b
   have z:IntKind.i64.wrap ((k:Int)+((1:Nat):Int))=((k+1:Nat):Int):=by rw[w64 (by omega) (by omega)];rfl
   obtain⟨a,e,B,F,G⟩:=O0n (n-1) fuel (left.take k++left.drop (k+1)) r (z9 (r,(n:Int),es) (wo k n 0)).2.2 (by omega) (by omega) (by rw[d]at l;exact l) (by simp only at y;omega) (by simp only[List.length_append,List.length_take,List.length_drop];omega) (by omega)
   refine⟨a,e,?_,by omega,?_⟩
   ·simp only[p,Bool.false_eq_true,if_false,m,oB,x]
    rw[show z9 (r,(n:Int),es) (wo k n 0)=(r,((n-1:Nat):Int),(z9 (r,(n:Int),es) (wo k n 0)).2.2) by rw[←d];rfl]
    simp only[z]
    rw[c09 (by omega),oB,L03 (by omega),oB,D0 (by simp only[List.length_take,List.length_drop];omega),oB,B]
   ·constructor
    ·intro h;omega
    ·intro h;cases h
theorem u0m(g:j0)(i:S0 g=true):∃(a:j0) (b:List Int),z8 g=some (a,b)/\(a.2.1=g.2.1↔B00 g=none):=by
 obtain⟨d,k,l,f⟩:=M2 i
 have p:=D01 g (by omega)
 have m:=Z01 g (by omega)
 obtain⟨r,n,es⟩:=g
 simp only at k l f
 obtain⟨N,rfl⟩:∃ N:Nat,n=(N:Int):=⟨n.toNat,by omega⟩
 have o:inN N es:=λe h=>⟨(d e h).1,(d e h).2.1⟩
 obtain⟨u,c,j⟩:=o0j N (by omega) N 0 Q0 [] (by omega) (C1 (by omega)) rfl
 obtain⟨a,b,q,t,s⟩:=O0n N Q0 u r es (by omega) (by omega) o f j (C1 (by omega))
 refine⟨a,b,?_,?_⟩
 ·unfold z8
  rw[show((0:Nat):Int)=0 from rfl]at c
  simp only[m,oB,p,i,Bool.not_true,Bool.false_eq_true,if_false,c,q,g9]
 ·simp only[B00,Int.toNat_natCast];exact s
def j2(g:j0):Bool:=O0 g&&((B00 g).isNone&&M0f (J3 g) g)
theorem l4{g:j0}(h:O0 g=true):S0 g=true:=by
 unfold O0 at h;exact(Bool.and_eq_true _ _▸h).1
theorem R0h{g:j0}(hf:O0 g=true):(J3 g).2.2.length<=120:=by
 have:=M0a g (N6 g)
 have:=(I1 hf).2.2.2
 unfold J3;omega
theorem p01(g:j0)(j:g.2.2.length<=140737488355328):D6 g=some (j2 g):=by
 have b:=Z9 g j
 unfold j2
 by_cases hf:O0 g=true
 ·obtain⟨e,t,d,a⟩:=u0m g (l4 hf)
  have f:=Z08 g hf
  have h:=J0h (J3 g) g (by have:=R0h hf;omega)
  obtain⟨r,n,es⟩:=g
  obtain⟨u,m,s⟩:=e
  unfold D6
  simp only at a
  generalize J3 (r,n,es)=C at *
  obtain⟨o,p,q⟩:=C
  simp only[b,hf,oB,Bool.not_true,Bool.false_eq_true,if_false,d,f]
  by_cases c:m=n
  ·have:=a.1 c
   simp only[decide_eq_true c,H1,oB,h,cond_true,this,Option.isNone_none,Bool.true_and]
  ·have l:(B00 (r,n,es)).isNone=false:=by
    cases hq:B00 (r,n,es)with
    |none=>exact absurd (a.2 hq) c
    |some k=>rfl
   simp only[decide_eq_false c,L1,oB,cond_false,l,Bool.false_and,Bool.and_false]
 ·have i:O0 g=false:=Bool.eq_false_iff.2 hf
  obtain⟨r,n,es⟩:=g
  unfold D6
  simp only[b,i,oB,Bool.not_false,if_true,Bool.false_and]
theorem b08(g:j0)(j:g.2.2.length<=140737488355328):C01 g=some (j2 g):=by
 have a:=A6 g j
 unfold j2
 by_cases hf:O0 g=true
 ·have f:=F0q g (l4 hf)
  have d:=a09 g hf
  have e:=L0h (J3 g) g (by have:=R0h hf;omega)
  obtain⟨p,q,c,s⟩:=I1 hf
  obtain⟨r,n,es⟩:=g
  unfold C01
  generalize J3 (r,n,es)=C at *
  obtain⟨l,m,o⟩:=C
  simp only[a,hf,oB,H1,f,cond_true]
  cases hq:B00 (r,n,es)with
  |none =>
   simp only[D0 (show J0 (-1) by decide),oB,show decide ((-1:Int)<0)=true from rfl,H1,d,e,cond_true,Option.isNone_none,Bool.true_and]
  |some k =>
   have i:=b09 _ _ _ hq
   simp only at c
   simp only at i
   have b:decide ((k:Int)<0)=false:=decide_eq_false (by omega)
   simp only[D0 (show J0 (k:Int) from c64 (by omega) (by omega)),oB,b,L1,cond_false,Option.isNone_some,Bool.false_and,Bool.and_false]
 ·have h:O0 g=false:=Bool.eq_false_iff.2 hf
  obtain⟨r,n,es⟩:=g
  unfold C01
  simp only[a,h,oB,L1,D0 (show J0 0 by decide),cond_false,Bool.false_and]
def Q0s(l:F0e):Prop:=l.length<=140737488355328/\∀ e∈l,e.1.size<=140737488355328/\e.2.2.2.length<=140737488355328
def G0q(l:F0e):Prop:=l.length<=1048576/\∀ e∈l,e.1.size<=1048576/\e.2.2.2.length<=1048576
theorem G0q.ok{l:F0e}(h:G0q l):Q0s l:=⟨by have:=h.1;omega,λe a=>by have:=h.2 e a;omega⟩
theorem Q0k{e:Type}{c:e->e->Int}(h:a01 c):∀ {l:List e},(∀ i x y,l[i]?=some x->l[i+1]?=some y->c x y<0)->Asc c l
 | [],_=>List.Pairwise.nil
 | [x],_=>List.pairwise_singleton _ _
 |x::y::l,f=>by
  have j:Asc c (y::l):=Q0k h λi a b k m=>f (i+1) a b (by simpa using k) (by simpa using m)
  have g:=f 0 x y rfl rfl
  refine List.pairwise_cons.2 ⟨λz d=>?_,j⟩
  rcases List.mem_cons.1 d with rfl|d
  ·exact g
  ·exact h.trans _ _ _ g ((List.pairwise_cons.1 j).1 z d)
theorem H0q{d:Type}{e:d->d->Int}:∀ {l:List d},Asc e l->∀ {i:Nat} {x y:d},l[i]?=some x->l[i+1]?=some y->e x y<0
 | [],_,i,x,y,b,_=>by simp at b
 |a::l,h,0,x,y,b,c=>by
  simp at b c;subst b
  exact(List.pairwise_cons.1 h).1 y (List.mem_of_getElem? c)
 |a::l,h,i+1,x,y,b,c=>H0q (List.pairwise_cons.1 h).2 (i:=i) (by simpa using b) (by simpa using c)
theorem I0q{r a:Int}{es:List K0}:∀ {d k:Nat},(∀ i,k<=i->i<k+d->r0q r a es i=false)->okE r a es d k=true
 |0,k,h=>rfl
 |d+1,k,h=>by
  simp only[okE,Bool.and_eq_true,Bool.not_eq_true']
  exact⟨h k (Nat.le_refl _) (by omega),I0q λi b c=>h i (by omega) (by omega)⟩
theorem u02(g:j0):S0 g=true↔inG g/\(1<=g.1/\g.1<=3)/\(1<=g.2.1/\g.2.1<=40)/\g.2.2.length<=120/\Asc P0 g.2.2:=by
 constructor
 ·intro h
  obtain⟨m,c,d,k⟩:=M2 h
  refine⟨m,c,d,k,Q0k B7 λi x y a b=>?_⟩
  simp only[S0,Bool.and_eq_true]at h
  have l:=n0m h.1.1.1 (i+1) (Nat.zero_le _) (by have:=(List.getElem?_eq_some_iff.1 b).1;omega)
  rw[N0b b]at l
  simp only[Nat.add_sub_cancel,a,Bool.or_eq_false_iff]at l
  have:=l.2
  simp only[show decide (0<i+1)=true by simp,Bool.true_and,decide_eq_false_iff_not]at this
  have e:E0f x y=P0 x y:=rfl
  omega
 ·rintro⟨m,c,d,k,o⟩
  obtain⟨r,n,es⟩:=g
  simp only at c d k o
  simp only[S0,inR,Bool.and_eq_true,decide_eq_true_eq]
  refine⟨⟨⟨I0q λi _ s=>?_,c⟩,d⟩,k⟩
  have a:=O5 (show i<es.length by omega)
  generalize es[i]=e at a
  rw[N0b a]
  have q:=m e (List.mem_of_getElem? a)
  simp only at q
  simp only[Bool.or_eq_false_iff,Bool.not_eq_false',P06,inR,Bool.and_eq_true,decide_eq_true_eq]
  rw[w64 (by omega) (by omega)]
  refine⟨⟨⟨⟨by omega,by omega⟩,by omega,by omega⟩,by omega,by omega⟩,?_⟩
  cases i with
  |zero=>rfl
  |succ j =>
   have b:=O5 (show j<es.length by omega)
   generalize es[j]=f at b
   have:=H0q o b a
   simp only[Nat.add_sub_cancel,b]
   have p:E0f f e=P0 f e:=rfl
   simp[p];omega
theorem Z0b{r:Int}{n:Int}{es:List K0}(d:1<=r/\r<=3)(c:1<=n/\n<=40)(f:es.length<=120)(b:inG (r,n,es)):S0 (r,n,Y5 P0 [] es)=true:=by
 refine(u02 _).2 ⟨λe a=>b e ?_,d,c,?_,I03 B7 _ _ List.Pairwise.nil⟩
 ·rcases(r00 B7 e es []).1 a with h|h
  ·simp at h
  ·exact h
 ·have:=N02 es []
  simp only[List.length_nil]at this
  simp only;omega
def a0c(a b:K0):List (Int×Int) :=
 bif decide (a.2.1=b.2.1)then(bif decide (a.1=b.1)then [(if b.2.2<a.2.2 then b.2.2 else a.2.2,if b.2.2>a.2.2 then b.2.2 else a.2.2)]else [])++(bif decide (a.2.2=b.2.2)then [(if b.1<a.1 then b.1 else a.1,if b.1>a.1 then b.1 else a.1)]else [])else []
def U03(a:K0):List K0->List (Int×Int)
 | []=>[]
 |b::r=>a0c a b++U03 a r
def N9:List K0->List (Int×Int)
 | []=>[]
 |a::r=>U03 a r++N9 r
theorem K0o(a b:K0):(a0c a b).length<=2:=by
 unfold a0c
 cases decide (a.2.1=b.2.1)<;>cases decide (a.1=b.1)<;>cases decide (a.2.2=b.2.2)<;>simp
theorem e0d(a:K0):∀ l,(U03 a l).length<=2*l.length
 | []=>by simp[U03]
 |b::r=>by have:=K0o a b;have:=e0d a r;simp only[U03,List.length_append,List.length_cons];omega
def mvV(f:Int×Int)(v:Int):Int:=if v=f.2 then f.1 else if v>f.2 then v-1 else v
def mvE(f:Int×Int)(e:K0):K0:=(mvV f e.1,e.2.1,mvV f e.2.2)
def A02(g:j0)(f:Int×Int):j0:=(g.1,g.2.1-1,Y5 P0 [] (g.2.2.map (mvE f)))
def okF(g:j0)(f:Int×Int):Prop:=0<=f.1/\f.1<f.2/\f.2<g.2.1
theorem F06{g:j0}{f:Int×Int}(k:S0 g=true)(hf:okF g f):S0 (A02 g f)=true:=by
 obtain⟨l,m,q,n,_⟩:=(u02 g).1 k
 obtain⟨o,f2,f3⟩:=hf
 refine Z0b m ⟨by omega,by omega⟩ (by simpa using n) λe i=>?_
 obtain⟨h,j,rfl⟩:=List.mem_map.1 i
 obtain⟨b,c,d⟩:=l h j
 have a:∀ v:Int,0<=v/\v<g.2.1->0<=mvV f v/\mvV f v<g.2.1-1:=λv p=>by
  unfold mvV;split
  ·omega
  ·split<;>omega
 exact⟨a _ b,a _ c,d⟩
theorem R0k{g:j0}(j:inG g){a:K0}(m:a∈g.2.2):∀ {l:List K0},(∀ b∈l,b∈g.2.2/\a≠b)->∀ f∈U03 a l,okF g f
 | [],_,f,hf=>by simp[U03]at hf
 |b::r,h,f,hf=>by
  rcases List.mem_append.1 (show f∈a0c a b++U03 a r from hf)with hf|hf
  ·have s:=j b (h b mS).1
   have q:=j a m
   have u:=(h b mS).2
   obtain⟨c,n,d⟩:=a
   obtain⟨e,p,i⟩:=b
   simp only at q s
   unfold a0c at hf
   simp only at hf
   by_cases c1:n=p
   ·have k : ¬ (c=e/\d=i):=λ⟨x,y⟩=>u (by rw[x,c1,y])
    simp only[c1,decide_true,cond_true,List.mem_append]at hf
    rcases hf with hf|hf
    ·by_cases c2:c=e
     ·simp only[c2,decide_true,cond_true,List.mem_singleton]at hf
      subst hf
      have:d≠i:=λy=>k ⟨c2,y⟩
      unfold okF
      simp only
      split<;>split<;>omega
     ·simp[c2]at hf
    ·by_cases c2:d=i
     ·simp only[c2,decide_true,cond_true,List.mem_singleton]at hf
      subst hf
      have:c≠e:=λy=>k ⟨y,c2⟩
      unfold okF
      simp only
      split<;>split<;>omega
     ·simp[c2]at hf
   ·simp[c1]at hf
  ·exact R0k j m (λo t=>h o (mC _ t)) f hf
theorem S0k{g:j0}(i:inG g):∀ {l:List K0},(∀ b∈l,b∈g.2.2)->Asc P0 l->∀ f∈N9 l,okF g f
 | [],_,_,f,hf=>by simp[N9]at hf
 |a::r,h,d,f,hf=>by
  rcases List.mem_append.1 (show f∈U03 a r++N9 r from hf)with hf|hf
  ·refine R0k i (h a mS) (λb c=>⟨h b (mC _ c),λe=>?_⟩) f hf
   have:=(List.pairwise_cons.1 d).1 b c
   rw[e,B7.refl]at this;omega
  ·exact S0k i (λb c=>h b (mC _ c)) (List.pairwise_cons.1 d).2 f hf
theorem b06{g:j0}(a:S0 g=true):∀ f∈N9 g.2.2,okF g f:=by
 obtain⟨b,_,_,_,c⟩:=(u02 g).1 a
 exact S0k b (λ_ h=>h) c
def B02:Nat->j0->j0×List (Int×Int)
 |0,g=>(g,[])
 |n+1,g=>match N9 g.2.2 with
  | []=>(g,[])
  |f::_=>((B02 n (A02 g f)).1,f::(B02 n (A02 g f)).2)
def M00(g:j0):j0×List (Int×Int):=bif S0 g then B02 40 g else(g,[])
theorem S0d:∀(n:Nat) {g:j0},S0 g=true->S0 (B02 n g).1=true
 |0,g,h=>h
 |n+1,g,h=>by
  unfold B02
  cases e:N9 g.2.2 with
  |nil=>exact h
  |cons f l=>exact S0d n (F06 h (b06 h f (by rw[e];exact mS)))
theorem O0a:∀(n:Nat) {g:j0},S0 g=true->g.2.1<=(n:Int)+1->N9 (B02 n g).1.2.2 = []
 |0,g,h,a=>by
  cases e:N9 g.2.2 with
  |nil=>exact e
  |cons f l =>
   have:=b06 h f (by rw[e];exact mS)
   unfold okF at this
   omega
 |n+1,g,h,a=>by
  unfold B02
  cases e:N9 g.2.2 with
  |nil=>exact e
  |cons f l=>exact O0a n (F06 h (b06 h f (by rw[e];exact mS))) (by show g.2.1-1<=_;omega)
theorem L0o(a b:K0):a0c a b = []↔Z05 a b=false:=by
 unfold a0c Z05
 cases decide (a.2.1=b.2.1)<;>cases decide (a.1=b.1)<;>cases decide (a.2.2=b.2.2)<;>simp
theorem S0h(a:K0):∀ l,U03 a l = []↔∀ b∈l,Z05 a b=false
 | []=>by simp[U03]
 |b::r=>by
  rw[U03,List.append_eq_nil_iff,L0o,S0h a r]
  simp
theorem f0d:∀ l,N9 l = []↔l.Pairwise λa b=>Z05 a b=false
 | []=>by simp[N9]
 |a::r=>by rw[N9,List.append_eq_nil_iff,S0h,f0d r,List.pairwise_cons]
theorem c06(g:j0):O0 g=true↔S0 g=true/\N9 g.2.2 = []:=by
 unfold O0
 rw[Bool.and_eq_true,Z0c,f0d]
theorem d09{g:j0}(h:S0 g=true):O0 (M00 g).1=true:=by
 have a:=(M2 h).2.2.1
 unfold M00
 rw[h]
 exact(c06 _).2 ⟨S0d 40 h,O0a 40 h (by omega)⟩
theorem T0h(l:List K0)(a c e:Int)(s:l.length<=1000):∀(d k fuel:Nat) (acc:List H6),k+d=l.length->d<fuel->acc.length+2*d<=4000000 ->
  Q5 l c a e fuel (k:Int) acc=some (acc++U03 (a,c,e) (l.drop k))
 |d,k,0,acc,m,hf,j=>by omega
 |0,k,fuel+1,acc,m,hf,j=>by
  rw[Q5.eq_2,if_neg (by simp;omega),J1 (by omega)]
  simp[U03]
 |d+1,k,fuel+1,acc,m,hf,j=>by
  have n:k<l.length:=by omega
  have i:=O5 n
  generalize l[k]=b at i
  obtain⟨o,p,q⟩:=b
  have g:∀ f:List H6,f.length+2*d<=4000000->Q5 l c a e fuel ((k+1:Nat):Int) f=some (f++U03 (a,c,e) (l.drop (k+1))):=λf h=>T0h l a c e s d (k+1) fuel f (by omega) (by omega) h
  rw[Q5.eq_2,if_pos (by simp;omega),J2 i,oB,Y1 n (by omega),M1 i]
  simp only[U03,a0c]
  cases decide (c=p)
  ·simp only[Bool.not_false,if_true,cond_false,List.nil_append]
   exact g acc (by omega)
  ·cases decide (a=o)<;>cases decide (e=q)
   all_goals simp only[Bool.not_true,Bool.false_eq_true,if_false,if_true,cond_true,cond_false,List.nil_append,List.append_nil]
   ·exact g acc (by omega)
   ·rw[D0 (by simp;omega),oB,g _ (by simp;omega)];simp
   ·rw[D0 (by simp;omega),oB,g _ (by simp;omega)];simp
   ·rw[D0 (by simp;omega),oB,D0 (by simp;omega),oB,g _ (by simp;omega)];simp
theorem U0h(l:List K0)(m:l.length<=1000):∀(d k fuel:Nat) (acc:List H6),k+d=l.length->d<fuel->acc.length+2000*d<=3000000 ->
  b00 l fuel (k:Int) acc=some (acc++N9 (l.drop k))
 |d,k,0,acc,h,hf,g=>by omega
 |0,k,fuel+1,acc,h,hf,g=>by
  rw[b00.eq_2,if_neg (by simp;omega),J1 (by omega)]
  simp[N9]
 |d+1,k,fuel+1,acc,h,hf,g=>by
  have i:k<l.length:=by omega
  have a:=O5 i
  generalize l[k]=b at a
  obtain⟨c,e,f⟩:=b
  have h0:=T0h (l.drop (k+1)) c e f (by simp;omega) (l.length-(k+1)) 0 Q0 acc (by simp) (C1 (by omega)) (by omega)
  have j:=e0d (c,e,f) (l.drop (k+1))
  simp only[List.length_drop]at j
  rw[b00.eq_2,if_pos (by simp;omega),J2 a,oB]
  simp only[Y1 i (show l.length<=9223372036854775807 by omega)]
  rw[L03 (by omega),oB,show(0:Int)=((0:Nat):Int) from rfl,h0,oB,U0h l m d (k+1) fuel _ (by omega) (by omega) (by simp only[List.length_append,List.drop_zero,List.length_drop]at j ⊢;omega),M1 a,N9]
  simp
theorem V0h(l:List K0)(u:l.length<=1000)(i:Nat)(a c e:Int)(o:l[i]?=some (a,c,e)):∀(d k fuel:Nat) (acc:List H6),k+d=l.length->d<fuel->acc.length+2*d<=4000000 ->
  L4 l (i:Int) fuel (k:Int) acc=some (acc++U03 (a,c,e) (l.drop k))
 |d,k,0,acc,n,hf,m=>by omega
 |0,k,fuel+1,acc,n,hf,m=>by
  rw[L4.eq_2,if_neg (by simp;omega),J1 (by omega)]
  simp[U03]
 |d+1,k,fuel+1,acc,n,hf,m=>by
  have p:k<l.length:=by omega
  have j:=O5 p
  generalize l[k]=b at j
  obtain⟨q,s,t⟩:=b
  have g:∀ f:List H6,f.length+2*d<=4000000->L4 l (i:Int) fuel ((k+1:Nat):Int) f=some (f++U03 (a,c,e) (l.drop (k+1))):=λf h=>V0h l u i a c e o d (k+1) fuel f (by omega) (by omega) h
  rw[L4.eq_2,if_pos (by simp;omega),J2 o,oB]
  simp only[]
  rw[J2 j,oB,Y1 p (by omega),M1 j]
  simp only[U03,a0c]
  cases decide (c=s)
  ·simp only[Bool.false_eq_true,if_false,cond_false,List.nil_append]
   exact g acc (by omega)
  ·cases decide (a=q)<;>cases decide (e=t)
   all_goals simp only[Bool.not_true,Bool.false_eq_true,if_false,if_true,cond_true,cond_false,List.nil_append,List.append_nil]
   ·exact g acc (by omega)
   ·rw[D0 (by simp;omega),oB,g _ (by simp;omega)];simp
   ·rw[D0 (by simp;omega),oB,g _ (by simp;omega)];simp
   ·rw[D0 (by simp;omega),oB,D0 (by simp;omega),oB,g _ (by simp;omega)];simp
theorem W0h(l:List K0)(j:l.length<=1000):∀(d k fuel:Nat) (acc:List H6),k+d=l.length->d<fuel->acc.length+2000*d<=3000000 ->
  A8 l fuel (k:Int) acc=some (acc++N9 (l.drop k))
 |d,k,0,acc,h,hf,g=>by omega
 |0,k,fuel+1,acc,h,hf,g=>by
  rw[A8.eq_2,if_neg (by simp;omega),J1 (by omega)]
  simp[N9]
 |d+1,k,fuel+1,acc,h,hf,g=>by
  have i:k<l.length:=by omega
  have a:=O5 i
  generalize l[k]=b at a
  obtain⟨c,e,f⟩:=b
  have h0:=V0h l j k c e f a (l.length-(k+1)) (k+1) Q0 acc (by omega) (C1 (by omega)) (by omega)
  have m:=e0d (c,e,f) (l.drop (k+1))
  simp only[List.length_drop]at m
  rw[A8.eq_2,if_pos (by simp;omega),Y1 i (by omega),h0,oB,W0h l j d (k+1) fuel _ (by omega) (by omega) (by simp only[List.length_append,List.length_drop]at m ⊢;omega),M1 a,N9]
  simp
theorem T0k(g:j0)(a:g.2.2.length<=1000):l04 g=some (N9 g.2.2):=by
 obtain⟨r,n,es⟩:=g
 unfold l04
 simp only
 rw[show(0:Int)=((0:Nat):Int) from rfl,U0h es a es.length 0 Q0 [] (by omega) (C1 (by simp only at a;omega)) (by simp only at a;simp;omega)]
 rfl
theorem U0k(g:j0)(a:g.2.2.length<=1000):O02 g=some (N9 g.2.2):=by
 obtain⟨r,n,es⟩:=g
 unfold O02
 simp only
 rw[show(0:Int)=((0:Nat):Int) from rfl,W0h es a es.length 0 Q0 [] (by omega) (C1 (by simp only at a;omega)) (by simp only at a;simp;omega)]
 rfl
def V03(g:j0):H6×Bool:=bif S0 g then(match N9 g.2.2 with
 | []=>((0,0),false)
 |f::_=>(f,true))else((0,0),false)
theorem g0e(g:j0)(c:g.2.2.length<=140737488355328):O00 g=some (V03 g):=by
 have b:=D01 g c
 have a:=T0k g
 unfold V03
 cases hg:S0 g with
 |false =>
  obtain⟨r,n,es⟩:=g
  unfold O00
  simp only[b,hg,oB];rfl
 |true =>
  have a:=a (by have:=(M2 hg).2.2.2;omega)
  obtain⟨r,n,es⟩:=g
  unfold O00
  simp only[b,hg,a,oB,cond_true]
  simp only at a
  cases N9 es with
  |nil=>rfl
  |cons f l =>
   rw[if_neg (by simp),if_neg (by simp;omega),e0j rfl]
   rfl
theorem h0e(g:j0)(c:g.2.2.length<=140737488355328):N00 g=some (V03 g):=by
 have b:=O8 g c
 have a:=U0k g
 unfold V03
 cases hg:S0 g with
 |false =>
  obtain⟨r,n,es⟩:=g
  unfold N00
  simp only[b,hg,oB];rfl
 |true =>
  have a:=a (by have:=(M2 hg).2.2.2;omega)
  obtain⟨r,n,es⟩:=g
  unfold N00
  simp only[b,hg,a,oB,cond_true]
  simp only at a
  cases N9 es with
  |nil=>rfl
  |cons f l =>
   rw[if_neg (by simp),if_neg (by simp;omega),e0j rfl]
   rfl
theorem P0n(v:Int)(f:H6)(d:0<=v/\v<1000)(hf:0<=f.1/\f.1<f.2):f03 v f=some (mvV f v):=by
 obtain⟨a,b⟩:=f
 simp only at hf
 unfold f03 mvV
 simp only
 by_cases c:v=b
 ·rw[if_pos (by simp[c]),if_neg (by simp;omega),if_pos c]
 ·rw[if_neg (by simp[c]),if_neg c]
  by_cases c2:v>b
  ·rw[if_pos (by simp[c2]),if_pos c2,w64 (by omega) (by omega)]
  ·rw[if_neg (by simp;omega),if_neg c2]
theorem V0k(v:Int)(f:H6)(d:0<=v/\v<1000):r7 v f=some (mvV f v):=by
 obtain⟨a,b⟩:=f
 unfold r7 mvV
 simp only
 by_cases c:v=b
 ·rw[if_pos (by simp[c]),if_pos c]
 ·rw[if_neg (by simp[c]),if_neg c]
  by_cases c2:v>b
  ·rw[if_pos (by simp[c2]),if_pos c2,w64 (by omega) (by omega)]
  ·rw[if_neg (by simp;omega),if_neg c2]
theorem p0j{f:H6}{v:Int}(a:0<=v/\v<1000)(hf:0<=f.1/\f.1<1000):J0 (mvV f v):=by
 unfold mvV
 split
 ·exact⟨by omega,by omega⟩
 ·split
  ·exact⟨by omega,by omega⟩
  ·exact⟨by omega,by omega⟩
theorem W0k(es:List K0)(f:H6)(r n:Int)(s:es.length<=1000)(o:∀ e∈es,(0<=e.1/\e.1<1000)/\(0<=e.2.2/\e.2.2<1000))(hf:0<=f.1/\f.1<f.2)(q:f.2<1000):∀(d k fuel:Nat) (acc:List K0),k+d=es.length->d<fuel->acc.length<=k ->
  T4 es f.1 f.2 fuel (k:Int) r n acc=some (r,n,Y5 P0 acc ((es.drop k).map (mvE f)))
 |d,k,0,acc,l,m,j=>by omega
 |0,k,fuel+1,acc,l,m,j=>by
  rw[T4.eq_2,if_neg (by simp;omega),J1 (by omega)]
  rfl
 |d+1,k,fuel+1,acc,l,m,j=>by
  have c:k<es.length:=by omega
  have g:=O5 c
  have a:=o _ (List.getElem_mem c)
  generalize es[k]=b at g a
  obtain⟨h,p,i⟩:=b
  simp only at a
  have t:=r07 (mvE f (h,p,i)) acc
  rw[T4.eq_2,if_pos (by simp;omega),J2 g,oB]
  simp only[]
  rw[P0n h (f.1,f.2) a.1 hf,oB,D0 (p0j a.1 ⟨hf.1,by show f.1<1000;omega⟩),oB,P0n i (f.1,f.2) a.2 hf,oB,D0 (p0j a.2 ⟨hf.1,by show f.1<1000;omega⟩),oB,
   E06 acc _ (by omega),oB,Y1 c (by omega),M1 g,List.map_cons]
  exact W0k es f r n s o hf q d (k+1) fuel _ (by omega) (by omega) (Nat.le_trans t (by omega))
theorem X0k{g:j0}{f:H6}(d:S0 g=true)(hf:okF g f):B8 g f=some (A02 g f,true):=by
 obtain⟨k,o,l,m⟩:=M2 d
 have i:=O8 g (by omega)
 obtain⟨c,f2,f3⟩:=hf
 obtain⟨r,n,es⟩:=g
 obtain⟨a,b⟩:=f
 simp only at c f2 f3 l m
 have h:=W0k es (a,b) r (IntKind.i64.wrap (n-1)) (by omega) (λe j=>by
  have:=k e j
  simp only at this
  exact⟨⟨by omega,by omega⟩,by omega,by omega⟩) ⟨c,f2⟩ (by simp only;omega) es.length 0 Q0 [] (by omega) (C1 (by omega)) (Nat.le_refl _)
 unfold B8
 simp only[i,d,oB]
 rw[if_neg (by simp;omega),show(0:Int)=((0:Nat):Int) from rfl,h,w64 (by omega) (by omega)]
 rfl
theorem Y0k(es:List K0)(f:H6)(s:es.length<=1000)(n:∀ e∈es,(0<=e.1/\e.1<1000)/\(0<=e.2.2/\e.2.2<1000))(hf:0<=f.1/\f.1<1000):∀(d k fuel:Nat),k+d=es.length->d<fuel ->
  U4 es f.1 f.2 fuel (k:Int) ((es.take k).map (mvE f)++es.drop k)=some (es.map (mvE f))
 |d,k,0,j,l=>by omega
 |0,k,fuel+1,j,l=>by
  rw[U4.eq_2,if_neg (by simp;omega),J1 (by omega),List.append_nil,List.take_of_length_le (by omega)]
 |d+1,k,fuel+1,j,l=>by
  have g:k<es.length:=by omega
  have c:=O5 g
  have a:=n _ (List.getElem_mem g)
  generalize es[k]=b at c a
  have m:((es.take k).map (mvE f)).length=k:=by simp;omega
  have q:((es.take k).map (mvE f)++es.drop k)[k]?=some b:=by
   rw[List.getElem?_append_right (by omega),m,M1 c];simp
  have t:∀ y,((es.take k).map (mvE f)++es.drop k).set k y=(es.take k).map (mvE f)++y::es.drop (k+1):=λy=>by
   rw[List.set_append_right _ _ (by omega),m,M1 c];simp
  obtain⟨h,p,i⟩:=b
  simp only at a
  have e:(es.take (k+1)).map (mvE f)++es.drop (k+1)=(es.take k).map (mvE f)++mvE f (h,p,i)::es.drop (k+1):=by
   rw[z0n c];simp
  have o:=Y0k es f s n hf d (k+1) fuel (by omega) (by omega)
  rw[e]at o
  rw[U4.eq_2,if_pos (by simp;omega),J2 q,oB]
  simp only[]
  rw[V0k h (f.1,f.2) a.1,oB,D0 (p0j a.1 hf),oB,V0k i (f.1,f.2) a.2,oB,D0 (p0j a.2 hf),oB]
  simp only[oB]
  rw[show((k:Nat):Int).toNat=k from Int.toNat_natCast k,t,Y1 g (by omega)]
  exact o
theorem Z0k{g:j0}{f:H6}(d:S0 g=true)(hf:okF g f):C8 g f=some (A02 g f,true):=by
 obtain⟨l,p,m,o⟩:=M2 d
 have i:=D01 g (by omega)
 have j:=Z01 g (by omega)
 obtain⟨c,f2,f3⟩:=hf
 obtain⟨r,n,es⟩:=g
 obtain⟨a,b⟩:=f
 simp only at c f2 f3 m o
 have h:=Y0k es (a,b) (by omega) (λe k=>by
  have:=l e k
  simp only at this
  exact⟨⟨by omega,by omega⟩,by omega,by omega⟩) ⟨c,by simp only;omega⟩ es.length 0 Q0 (by omega) (C1 (by omega))
 simp only[List.take_zero,List.map_nil,List.nil_append,List.drop_zero]at h
 unfold C8
 simp only[i,j,d,oB]
 rw[if_neg (by simp;omega),show(0:Int)=((0:Nat):Int) from rfl,h,oB,V0b _ (by simp;omega),oB,w64 (by omega) (by omega)]
 rfl
def S02(g:j0):j0×H6×Bool:=bif S0 g then(match N9 g.2.2 with
 | []=>(g,(0,0),false)
 |f::_=>(A02 g f,f,true))else(g,(0,0),false)
theorem e09(g:j0)(j:g.2.2.length<=1099511627776):l02 g=some (S02 g):=by
 have c:=h0e g (by omega)
 have d:=M02 g j
 have i:∀ f,S0 g=true->okF g f->B8 g f=some (A02 g f,true):=λf a b=>X0k a b
 have h:S0 g=true->∀ f∈N9 g.2.2,okF g f:=b06
 unfold V03 at c
 unfold S02
 obtain⟨r,n,es⟩:=g
 unfold l02
 simp only[c,oB]
 cases hg:S0 (r,n,es)with
 |false=>simp only[cond_false,Bool.not_false,if_true,d,oB]
 |true =>
  simp only[cond_true]
  simp only at h
  cases e:N9 es with
  |nil=>simp only[Bool.not_false,if_true,d,oB]
  |cons f l =>
   simp only[Bool.not_true,Bool.false_eq_true,if_false,i f hg (h hg f (by rw[e];exact mS)),oB]
theorem f09(g:j0)(j:g.2.2.length<=1099511627776):p02 g=some (S02 g):=by
 have c:=g0e g (by omega)
 have d:=Z01 g j
 have i:∀ f,S0 g=true->okF g f->C8 g f=some (A02 g f,true):=λf a b=>Z0k a b
 have h:S0 g=true->∀ f∈N9 g.2.2,okF g f:=b06
 unfold V03 at c
 unfold S02
 obtain⟨r,n,es⟩:=g
 unfold p02
 simp only[c,oB]
 cases hg:S0 (r,n,es)with
 |false=>simp only[cond_false,Bool.not_false,if_true,d,oB]
 |true =>
  simp only[cond_true]
  simp only at h
  cases e:N9 es with
  |nil=>simp only[Bool.not_false,if_true,d,oB]
  |cons f l =>
   simp only[Bool.not_true,Bool.false_eq_true,if_false,i f hg (h hg f (by rw[e];exact mS)),oB]
def R0s:(j0×T9) ⊕ (Int×Int×M0×(List H6))->Option (j0×T9):=λX=>g9 X (λS=>match S with
 |(a,b,c,e)=>some ((a,b,c),e))
theorem b0g:∀(d k fuel:Nat) (g:j0) (acc:List H6),k+d=40->d<fuel->S0 g=true->acc.length=k ->
  (p7 fuel (k:Int) g.1 g.2.1 g.2.2 acc).bind R0s=some ((B02 d g).1,acc++(B02 d g).2)
 |d,k,0,g,acc,h,hf,a,c=>by omega
 |0,k,fuel+1,g,acc,h,hf,a,c=>by
  rw[p7.eq_2,if_neg (by simp;omega)]
  simp[R0s,g9,B02]
 |d+1,k,fuel+1,g,acc,h,hf,a,c=>by
  have b:=e09 g (by have:=(M2 a).2.2.2;omega)
  have i:=b06 a
  unfold S02 at b
  rw[a]at b
  simp only[cond_true]at b
  rw[p7.eq_2,if_pos (by simp;omega),show(g.1,g.2.1,g.2.2)=g from rfl,b]
  unfold B02
  cases e:N9 g.2.2 with
  |nil=>simp[R0s,g9]
  |cons f l =>
   have j:=b0g d (k+1) fuel (A02 g f) (acc ++ [f]) (by omega) (by omega) (F06 a (i f (by rw[e];exact mS))) (by simp[c])
   simp only[oB,Bool.not_true,Bool.false_eq_true,if_false]
   rw[D0 (by simp;omega),oB,Y1 (show k<1000 by omega) (by omega)]
   refine j.trans ?_
   simp
theorem m0a(g:j0)(b:g.2.2.length<=1099511627776):P02 g=some (M00 g):=by
 have a:=e09 g b
 have c:=M02 g b
 have d:=b0g 40 0 Q0 g [] rfl (C1 (by omega))
 unfold M00
 obtain⟨r,n,es⟩:=g
 unfold P02
 simp only[c,oB]
 cases hg:S0 (r,n,es)with
 |false =>
  unfold S02 at a
  rw[hg]at a
  simp only[cond_false]at a
  rw[show Q0=(Q0-1)+1 from rfl,p7.eq_2,if_pos (by simp),a]
  rfl
 |true=>exact d hg rfl
theorem c0g:∀(d fuel:Nat) (g:j0) (acc:List H6),d<fuel->S0 g=true->N9 (B02 d g).1.2.2 = []->acc.length+d<=1000 ->
  D8 fuel g.1 g.2.1 g.2.2 acc=some (.inl ((B02 d g).1,acc++(B02 d g).2))
 |d,0,g,acc,hf,a,c,j=>by omega
 |d,fuel+1,g,acc,hf,a,c,j=>by
  have b:=f09 g (by have:=(M2 a).2.2.2;omega)
  have i:=b06 a
  unfold S02 at b
  rw[a]at b
  simp only[cond_true]at b
  rw[D8.eq_2,show(g.1,g.2.1,g.2.2)=g from rfl,b]
  cases e:N9 g.2.2 with
  |nil =>
   have h:B02 d g=(g,[]):=by
    cases d with
    |zero=>rfl
    |succ d=>unfold B02;rw[e]
   rw[h]
   simp
  |cons f l =>
   cases d with
   |zero=>exact absurd e (by rw[show N9 g.2.2 = [] from c];simp)
   |succ d =>
    have h:B02 (d+1) g=((B02 d (A02 g f)).1,f::(B02 d (A02 g f)).2):=by
     show(match N9 g.2.2 with | []=>(g,[])|f::_=>((B02 d (A02 g f)).1,f::(B02 d (A02 g f)).2))=_
     rw[e]
    rw[h]at c ⊢
    have k:=c0g d fuel (A02 g f) (acc ++ [f]) (by omega) (F06 a (i f (by rw[e];exact mS))) c (by simp;omega)
    simp only[oB,Bool.not_true,Bool.false_eq_true,if_false]
    rw[D0 (by simp;omega),oB]
    refine k.trans ?_
    simp
theorem n0a(g:j0)(c:g.2.2.length<=1099511627776):R02 g=some (M00 g):=by
 have b:=f09 g c
 have d:=Z01 g c
 have e:=c0g 40 Q0 g [] (C1 (by omega))
 have f:S0 g=true->N9 (B02 40 g).1.2.2 = []:=λa=>O0a 40 a (by have:=(M2 a).2.2.1;omega)
 unfold M00
 obtain⟨r,n,es⟩:=g
 unfold R02
 simp only[d,oB]
 cases a:S0 (r,n,es)with
 |false =>
  unfold S02 at b
  rw[a]at b
  simp only[cond_false]at b
  rw[show Q0=(Q0-1)+1 from rfl,D8.eq_2,b]
  rfl
 |true =>
  have h:=e a (f a) (by simp)
  simp only at h
  rw[h]
  rfl
theorem g0d{g:j0}(h:S0 g=true):Asc P0 g.2.2:=((u02 g).1 h).2.2.2.2
def stp(u x v:Int):K0:=if x<0 then(v,-x,u)else(u,x,v)
def x03(v:Int):List Int->Int->Int->List K0
 | [],_,_=>[]
 | [x],u,_=>[stp u x v]
 |x::y::r,u,n=>stp u x n::x03 v (y::r) n (n+1)
theorem O09(v:Int):∀(w:List Int) (u n:Int),(x03 v w u n).length=w.length
 | [],_,_=>rfl
 | [x],_,_=>rfl
 |x::y::r,u,n=>by simp only[x03,List.length_cons,O09 v (y::r)]
theorem v0m(u x v:Int)(a:S4 x):Q02 u x v=some (stp u x v):=by
 unfold Q02 stp
 by_cases c:x<0
 ·rw[if_pos (by simp[c]),if_pos c,K0b a.1 a.2]
 ·rw[if_neg (by simp;omega),if_neg c]
theorem q0j(w:List Int)(v:Int)(r:Int)(e:∀ x∈w,S4 x)(l:w.length<=1000):∀(d k fuel:Nat) (u n:Int) (es:List K0),k+d=w.length->d<fuel->0<=n->n<=1000+k->es.length<=1000+k ->
  t7 w v fuel u (k:Int) r n es=some (r,n+((d-1:Nat):Int),es++x03 v (w.drop k) u n)
 |d,k,0,u,n,es,j,hf,h0,h,i=>by omega
 |0,k,fuel+1,u,n,es,j,hf,h0,h,i=>by
  rw[t7.eq_2,if_neg (by simp;omega),J1 (by omega)]
  simp[x03]
 |d+1,k,fuel+1,u,n,es,j,hf,h0,h,i=>by
  have a:k<w.length:=by omega
  have f:=O5 a
  have b:=e _ (List.getElem_mem a)
  generalize w[k]=x at f b
  rw[t7.eq_2,if_pos (by simp;omega),J2 f,oB,C0f (by omega) (by omega),M1 f]
  by_cases c:k+1<w.length
  ·rw[if_pos (by simp;omega),v0m u x n b,oB]
   have m:=O5 c
   generalize w[k+1]=y at m
   have g:=q0j w v r e l d (k+1) fuel n (n+1) (es ++ [stp u x n]) (by omega) (by omega) (by omega) (by omega) (by simp;omega)
   simp only[]
   rw[D0 (by simp;omega),oB,Y1 a (by omega),w64 (show(-9223372036854775808:Int)<=n+1 by omega) (by omega)]
   refine g.trans ?_
   rw[M1 m]
   simp only[x03,List.append_assoc,List.singleton_append]
   congr 3
   omega
  ·have o:d=0:=by omega
   subst o
   rw[if_neg (by simp;omega),v0m u x v b,oB]
   have g:=q0j w v r e l 0 (k+1) fuel v n (es ++ [stp u x v]) (by omega) (by omega) h0 (by omega) (by simp;omega)
   simp only[]
   rw[D0 (by simp;omega),oB,Y1 a (by omega)]
   refine g.trans ?_
   rw[J1 (show k+1=w.length by omega)]
   simp[x03]
theorem r0j(w:List Int)(v:Int)(r:Int)(h:∀ x∈w,S4 x/\x≠0)(o:w.length<=1000):∀(d k fuel:Nat) (u n:Int) (es:List K0),k+d=w.length->d<fuel->0<=n->n<=1000+k->es.length<=1000+k ->
  P5 w v fuel u (k:Int) r n es=some (r,n+((d-1:Nat):Int),Y5 P0 es (x03 v (w.drop k) u n))
 |d,k,0,u,n,es,m,hf,h0,j,l=>by omega
 |0,k,fuel+1,u,n,es,m,hf,h0,j,l=>by
  rw[P5.eq_2,if_neg (by simp;omega),J1 (by omega)]
  simp[x03,Y5]
 |d+1,k,fuel+1,u,n,es,m,hf,h0,j,l=>by
  have f:k<w.length:=by omega
  have g:=O5 f
  have b:=h _ (List.getElem_mem f)
  generalize w[k]=x at g b
  have p:∀ e,(o01 P0 e es).length<=1000+(k+1):=λe=>by have:=r07 e es;omega
  rw[P5.eq_2,if_pos (by simp;omega),M1 g]
  by_cases c:k+1<w.length
  ·have i:=O5 c
   generalize w[k+1]=y at i
   have a:=r0j w v r h o d (k+1) fuel n (n+1) (o01 P0 (stp u x n) es) (by omega) (by omega) (by omega) (by omega) (p _)
   rw[M1 i]at a
   rw[Y1 f (by omega),if_pos (by simp;omega),J2 g,oB,w64 (show(-9223372036854775808:Int)<=n+1 by omega) (by omega),M1 i]
   have fin:some (r,n+1+((d-1:Nat):Int),Y5 P0 (o01 P0 (stp u x n) es) (x03 v (y::w.drop (k+1+1)) n (n+1)))=some (r,n+((d+1-1:Nat):Int),Y5 P0 es (x03 v (x::y::w.drop (k+1+1)) u n)):=by
    simp only[x03,Y5]
    congr 3
    omega
   by_cases c2:x>0
   ·have e:stp u x n=(u,x,n):=by unfold stp;rw[if_neg (by omega)]
    rw[if_pos (by simp[c2])]
    simp only[oB]
    rw[E06 es _ (by omega),oB,←e]
    exact a.trans fin
   ·have e:stp u x n=(n,-x,u):=by unfold stp;rw[if_pos (by omega)]
    rw[if_neg (by simp;omega)]
    simp only[oB]
    rw[K0b b.1.1 b.1.2,E06 es _ (by omega),oB,←e]
    exact a.trans fin
  ·have q:d=0:=by omega
   subst q
   have a:=r0j w v r h o 0 (k+1) fuel v n (o01 P0 (stp u x v) es) (by omega) (by omega) h0 (by omega) (p _)
   rw[J1 (show k+1=w.length by omega)]at a ⊢
   rw[Y1 f (by omega),if_neg (by simp;omega),J2 g,oB]
   have fin:some (r,n+((0-1:Nat):Int),Y5 P0 (o01 P0 (stp u x v) es) (x03 v [] v n))=some (r,n+((0+1-1:Nat):Int),Y5 P0 es (x03 v [x] u n)):=by
    simp[x03,Y5]
   by_cases c2:x>0
   ·have e:stp u x v=(u,x,v):=by unfold stp;rw[if_neg (by omega)]
    rw[if_pos (by simp[c2])]
    simp only[oB]
    rw[E06 es _ (by omega),oB,←e]
    exact a.trans fin
   ·have e:stp u x v=(v,-x,u):=by unfold stp;rw[if_pos (by omega)]
    rw[if_neg (by simp;omega)]
    simp only[oB]
    rw[K0b b.1.1 b.1.2,E06 es _ (by omega),oB,←e]
    exact a.trans fin
theorem w0m{es p:List K0}(a:Asc P0 es):Y5 P0 [] (es++p)=Y5 P0 es p :=
 K0a B7 (I03 B7 _ _ .nil) (I03 B7 _ _ a) λx=>by
  rw[r00 B7,r00 B7];simp
def o5(g:j0)(u:Int)(w:List Int)(v:Int):j0×Bool :=
 bif !w.isEmpty&&decide (g.2.1+(w.length:Int)-1<=40)&&decide (g.2.2.length+w.length<=120)then((g.1,g.2.1+((w.length-1:Nat):Int),Y5 P0 g.2.2 (x03 v w u g.2.1)),true)else(g,false)
theorem O04{r:Int}{w:List Int}(h:U2 r w=true):w.length<=24/\∀ x∈w,S4 x/\x≠0 /\ -r<=x/\x<=r:=by
 have a:=h
 simp only[U2,Bool.and_eq_true,decide_eq_true_eq]at a
 refine⟨a.1.2,λx c=>?_⟩
 obtain⟨i,b⟩:=List.getElem?_of_mem c
 have:=H0k h b
 exact⟨⟨⟨by omega,by omega⟩,by omega⟩,this.2.2⟩
theorem o0a{g:j0}{u v:Int}{w:List Int}(d:S0 g=true)(f:0<=u/\u<g.2.1)(i:0<=v/\v<g.2.1)(j:U2 g.1 w=true):L01 g u w v=some (o5 g u w v):=by
 obtain⟨y,z,p,q⟩:=M2 d
 obtain⟨A,k⟩:=O04 j
 have l:=O8 g (by omega)
 have m:=M02 g (by omega)
 have b:=w05 g.1 w (by omega)
 obtain⟨r,n,es⟩:=g
 simp only at p q f i b
 have o:IntKind.i64.wrap (n-1)=n-1:=w64 (by omega) (by omega)
 have e:∀ x:Int,0<=x/\x<n->inR 0 (n-1) x=true:=λx a=>by simp[inR];omega
 have h:=r0j w v r (λx a=>⟨(k x a).1,(k x a).2.1⟩) (by omega) w.length 0 Q0 u n es (by omega) (C1 (by omega)) (by omega) (by omega) (by omega)
 unfold L01 o5
 simp only[l,m,d,oB,Bool.not_true,Bool.not_false,H1,cond_false,o,y02,e u f,e v i,b,j]
 rw[w64 (show(-9223372036854775808:Int)<=n+((w.length:Nat):Int) by omega) (by omega),w64 (show(-9223372036854775808:Int)<=n+((w.length:Nat):Int)-1 by omega) (by omega),w64 (show(-9223372036854775808:Int)<=((es.length:Nat):Int)+((w.length:Nat):Int) by omega) (by omega)]
 by_cases c:(w≠[]/\n+(w.length:Int)-1<=40)/\es.length+w.length<=120
 ·have t:w.length≠0:=by simpa using c.1.1
  rw[if_neg (by simp only[Bool.not_eq_true];simp[c.1.1];omega),show(0:Int)=((0:Nat):Int) from rfl,h,oB]
  rw[show(!w.isEmpty&&decide (n+(w.length:Int)-1<=40)&&decide (es.length+w.length<=120))=true by simp[c.1.1,c.1.2,c.2]]
  rfl
 ·rw[show(!w.isEmpty&&decide (n+(w.length:Int)-1<=40)&&decide (es.length+w.length<=120))=false by
   rw[←Bool.not_eq_true];simpa using c]
  rw[if_pos ?_]
  ·rfl
  ·by_cases d1:w = []
   ·simp[d1]
   ·by_cases d2:n+(w.length:Int)-1<=40
    ·have s : ¬ es.length+w.length<=120:=λh=>c ⟨⟨d1,d2⟩,h⟩
     have:decide (((es.length:Nat):Int)+((w.length:Nat):Int)>120)=true:=by simp;omega
     rw[this];simp
    ·have:decide (n+((w.length:Nat):Int)-1>40)=true:=by simp;omega
     rw[this];simp
theorem J0q{g:j0}(a:S0 g=true){u:Int}(b:0<=u/\u<g.2.1):J4 g u=some true:=by
 obtain⟨d,e,c,f⟩:=M2 a
 obtain⟨r,n,es⟩:=g
 simp only at c b
 unfold J4
 simp only[v03]
 rw[w64 (by omega) (by omega)]
 simp[inR];omega
theorem p0a{g:j0}{u v:Int}{w:List Int}(a:S0 g=true)(e:0<=u/\u<g.2.1)(f:0<=v/\v<g.2.1)(i:U2 g.1 w=true):N01 g u w v=some (o5 g u w v):=by
 obtain⟨z,A,p,q⟩:=M2 a
 obtain⟨B,s⟩:=O04 i
 have j:=D01 g (by omega)
 have k:=Z01 g (by omega)
 have b:=x05 g.1 w (by omega)
 have l:=J0q a e
 have m:=J0q a f
 have d:=g0d a
 obtain⟨r,n,es⟩:=g
 simp only at p q e f b d
 have h:=q0j w v r (λx o=>(s x o).1) (by omega) w.length 0 Q0 u n es (by omega) (C1 (by omega)) (by omega) (by omega) (by omega)
 have y:=O09 v w u n
 unfold N01 o5
 simp only[j,k,a,oB,Bool.not_true,Bool.not_false,H1,cond_false,l,m]
 rw[w64 (show(-9223372036854775808:Int)<=n+((w.length:Nat):Int) by omega) (by omega),w64 (show(-9223372036854775808:Int)<=n+((w.length:Nat):Int)-1 by omega) (by omega),w64 (show(-9223372036854775808:Int)<=((es.length:Nat):Int)+((w.length:Nat):Int) by omega) (by omega)]
 by_cases d1:w = []
 ·subst d1
  simp[chk]
 rw[show decide (((w.length:Nat):Int)=0)=false by simp[d1],show(!false)=true from rfl,H1,b,oB,i]
 by_cases c:n+(w.length:Int)-1<=40/\es.length+w.length<=120
 ·rw[if_neg (by simp only[Bool.not_eq_true];simp;omega),show(0:Int)=((0:Nat):Int) from rfl,h,oB]
  rw[show(!w.isEmpty&&decide (n+(w.length:Int)-1<=40)&&decide (es.length+w.length<=120))=true by simp[d1,c.1,c.2]]
  simp only[List.drop_zero,cond_true]
  rw[V0b _ (by simp;omega),w0m d]
  rfl
 ·rw[show(!w.isEmpty&&decide (n+(w.length:Int)-1<=40)&&decide (es.length+w.length<=120))=false by
   rw[←Bool.not_eq_true];simp only[Bool.and_eq_true,decide_eq_true_eq,Bool.not_eq_true'];omega]
  rw[if_pos ?_]
  ·rfl
  ·by_cases d2:n+(w.length:Int)-1<=40
   ·have t : ¬ es.length+w.length<=120:=λh=>c ⟨d2,h⟩
    have:decide (((es.length:Nat):Int)+((w.length:Nat):Int)>120)=true:=by simp;omega
    rw[this];simp
   ·have:decide (n+((w.length:Nat):Int)-1>40)=true:=by simp;omega
    rw[this];simp
def ng(x:Int):Int:=IntKind.i64.wrap (0-x)
def inv(w:List Int):List Int:=(w.map ng).reverse
theorem y05(w:List Int):(inv w).length=w.length:=by simp[inv]
def s0a(w:List Int):Prop:=∀ x∈w,J0 x
theorem O0q{w:List Int}{k:Nat}{x:Int}(a:w[k]?=some x):inv (w.drop k)=inv (w.drop (k+1)) ++ [ng x]:=by
 rw[M1 a]
 simp[inv]
theorem e05(w:List Int)(c:w.length<=1099511627776):∀(k fuel:Nat),k<=w.length->k<fuel ->
  C4 w fuel ((k:Int)-1) (inv (w.drop k))=some (inv w)
 |k,0,b,hf=>by omega
 |0,fuel+1,b,hf=>by
  rw[C4.eq_2,if_neg (by simp)]
  rfl
 |k+1,fuel+1,b,hf=>by
  have a:=O5 (show k<w.length by omega)
  have next:=e05 w c k fuel (by omega) (by omega)
  generalize w[k]=x at a
  rw[O0q a]at next
  have d:=y05 (w.drop (k+1))
  rw[List.length_drop]at d
  rw[show(((k+1:Nat):Int)-1)=(k:Int) by omega,C4.eq_2,if_pos (by simp),J2 a,oB,D0 (by simp only[List.length_singleton];omega),oB,
   w64 (by omega) (by omega)]
  exact next
theorem h03(w:List Int)(a:w.length<=1099511627776):Q7 w=some (inv w):=by
 unfold Q7
 have h:=e05 w a w.length Q0 (Nat.le_refl _) (C1 (by omega))
 rw[List.drop_length]at h
 rw[w64 (by omega) (by omega),show([]:C0)=inv [] from rfl,h]
 rfl
theorem m04(w:List Int):∀(fuel:Nat) (k:Int) (u:List Int),D7 w fuel k u=C4 w fuel k u
 |0,k,u=>rfl
 |fuel+1,k,u=>by
  rw[D7.eq_2,C4.eq_2]
  simp only[m04 w fuel]
theorem H04(w:List Int)(a:w.length<=1099511627776):V8 w=some (inv w):=by
 rw[←h03 w a]
 unfold V8 Q7
 rw[D0 (by omega),oB,m04]
 rfl
def e0c(l x:Int):Bool := !(l == 0) && !(l == -9223372036854775808)&&(x == ng l)
def n03(s:List Int)(x:Int):List Int:=match s with
 | []=>[x]
 |l::t=>bif e0c l x then t else x::l::t
def M03(s w:List Int):List Int:=w.foldl n03 s
def Red:List Int->Bool
 | []=>true
 | [_]=>true
 |x::l::t => !e0c l x&&Red (l::t)
theorem l0g(s a b:List Int):M03 s (a++b)=M03 (M03 s a) b:=List.foldl_append
theorem l0d(s:List Int)(x:Int):(n03 s x).length<=s.length+1:=by
 cases s with
 |nil=>simp[n03]
 |cons l t =>
  simp only[n03]
  cases e0c l x<;>simp<;>omega
theorem v07:∀(w s:List Int),(M03 s w).length<=s.length+w.length
 | [],s=>by simp[M03]
 |x::w,s=>by
  have:=v07 w (n03 s x)
  have:=l0d s x
  simp only[M03,List.foldl_cons,List.length_cons]at *
  omega
theorem P0q{b:List Int}{x:Int}(h:s0a b)(c:J0 x):s0a (n03 b x):=by
 cases b with
 |nil=>intro y a;simp[n03]at a;subst a;exact c
 |cons l t =>
  simp only[n03]
  cases e0c l x with
  |true=>exact λy a=>h y (mC _ a)
  |false =>
   intro y a
   rcases List.mem_cons.1 a with rfl|a
   ·exact c
   ·exact h y a
theorem Q0o{l x:Int}(b:J0 l)(c:J0 x):(!(x == 0)&&(l == ng x) && !(l == x))=e0c l x:=by
 unfold e0c ng
 have e:∀ {z:Int},J0 z->IntKind.i64.wrap (0-z)=if z = -9223372036854775808 then -9223372036854775808 else -z:=λ{z} a=>by
  split
  ·rename_i h;subst h;decide
  ·rw[w64 (by have:=a.1;have:=a.2;omega) (by have:=a.1;have:=a.2;omega)];omega
 rw[e b,e c]
 have d:=b.1
 have f:=b.2
 have g:=c.1
 have i:=c.2
 rw[Bool.eq_iff_iff]
 simp only[Bool.and_eq_true,Bool.not_eq_true',beq_iff_eq,beq_eq_false_iff_ne,ne_eq]
 split<;>split<;>omega
theorem m0g{l:Int}{t:List Int}:(l::t).reverse[t.length]?=some l:=by
 rw[List.reverse_cons,List.getElem?_append_right (by simp)]
 simp
theorem d0i(l:Int)(t:List Int):(l::t).reverse.take t.length=t.reverse:=by
 rw[List.reverse_cons,List.take_append_of_le_length (by simp),List.take_of_length_le (by simp)]
theorem W03(w:List Int)(hw:s0a w)(hl:w.length<=1099511627776):∀(d k fuel:Nat) (s:List Int),k+d=w.length->d<fuel->s0a s->s.length<=k ->
  U3 w fuel (k:Int) s.reverse=some (M03 s (w.drop k)).reverse
 |d,k,0,s,hk,hf,hs,hsl=>by omega
 |0,k,fuel+1,s,hk,hf,hs,hsl=>by
  rw[U3.eq_2,if_neg (by simp;omega),J1 (by omega)]
  rfl
 |d+1,k,fuel+1,s,hk,hf,hs,hsl=>by
  have hkl:k<w.length:=by omega
  have hx:=O5 hkl
  have hx64:=hw _ (List.mem_of_getElem? hx)
  generalize w[k]=x at hx hx64
  have next:=W03 w hw hl d (k+1) fuel (n03 s x) (by omega) (by omega) (P0q hs hx64) (by have:=l0d s x;omega)
  rw[M1 hx]
  show _=some (M03 (n03 s x) (w.drop (k+1))).reverse
  rw[←next,U3.eq_2,if_pos (by simp;omega),oB,D0 (by rw[List.length_reverse];omega),oB]
  rw[Y1 hkl (by omega:w.length<=9223372036854775807)]
  have e0:decide (x=0)=(x == 0):=by rw[Bool.eq_iff_iff];simp
  cases s with
  |nil =>
   have hz:decide ((((([]:List Int).reverse).length:Nat):Int)>0)=false:=rfl
   simp only[hz,L1,oB,cond_false,Bool.false_eq_true,if_false,J2 hx]
   rw[D0 (by simp)]
   rfl
  |cons l t =>
   have hl64:=hs l mS
   have hp:decide ((((l::t).reverse.length:Nat):Int)>0)=true:=by simp
   have hpr:IntKind.i64.wrap ((((l::t).reverse.length:Nat):Int)-1)=((t.length:Nat):Int):=by
    rw[C0f (by simp) (by simp only[List.length_reverse,List.length_cons]at *;omega)];simp
   have hc:=Q0o hl64 hx64
   have e1:decide (l=IntKind.i64.wrap (0-x))=(l == ng x):=by rw[Bool.eq_iff_iff];simp[ng]
   have e2:decide (l=x)=(l == x):=by rw[Bool.eq_iff_iff];simp
   have hpush:(grd (((l::t).reverse.length + [x].length)*8<=140737488355328))=some ():=D0 (by simp only[List.length_cons]at hsl;simp only[List.length_reverse,List.length_cons,List.length_nil];omega)
   simp only[hp,hpr,H1,oB,cond_true,J2 hx,J2 m0g,e0,n03]
   cases h0:(x == 0)with
   |true =>
    rw[h0]at hc
    simp only[Bool.not_true,Bool.false_and]at hc
    simp only[←hc,Bool.not_true,L1,cond_false,oB,Bool.false_eq_true,if_false,hpush]
    exact congrArg _ (List.reverse_cons ..).symm
   |false =>
    rw[h0]at hc
    simp only[Bool.not_false,Bool.true_and]at hc
    simp only[Bool.not_false,H1,cond_true,oB,e1]
    cases h1:(l == ng x)with
    |false =>
     rw[h1]at hc
     simp only[Bool.false_and]at hc
     simp only[←hc,L1,cond_false,oB,Bool.false_eq_true,if_false,hpush]
     exact congrArg _ (List.reverse_cons ..).symm
    |true =>
     rw[h1]at hc
     simp only[Bool.true_and]at hc
     simp only[H1,cond_true,oB,e2]
     cases h2:(l == x)with
     |true =>
      rw[h2]at hc
      simp only[Bool.not_true]at hc
      simp only[←hc,Bool.not_true,Bool.false_eq_true,if_false,cond_false,oB,hpush]
      exact congrArg _ (List.reverse_cons ..).symm
     |false =>
      rw[h2]at hc
      simp only[Bool.not_false]at hc
      simp only[←hc,Bool.not_false,if_true,cond_true]
      rw[D0 (by simp only[List.length_reverse,List.length_cons]at *;omega),oB,Int.toNat_natCast,d0i]
theorem o03(w:List Int)(b:s0a w)(a:w.length<=1099511627776):d7 w=some (M03 [] w).reverse:=by
 unfold d7
 have h:=W03 w b a w.length 0 Q0 [] (by omega) (C1 (by omega)) (λx c=>by cases c) (by simp)
 rw[show((0:Nat):Int)=0 from rfl,List.drop_zero,List.reverse_nil]at h
 rw[h,oB,D0 (by have:=v07 w [];simp only[List.length_reverse,List.length_nil]at *;omega),oB,List.nil_append]
end Go.Proofs.YtkjhghloldgioaaGreat
