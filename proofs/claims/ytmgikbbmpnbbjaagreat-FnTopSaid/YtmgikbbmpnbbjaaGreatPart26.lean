/- Texts of the claim, joined: Plain laws: words and presentations, as the spec and the cod and others. -/
import Derived.Test.YtmgikbbmpnbbjaaGreatPart21
import Derived.Test.YtmgikbbmpnbbjaaGreatH33
import Derived.Test.YtmgikbbmpnbbjaaGreatH36
import Derived.Test.YtmgikbbmpnbbjaaGreatPart20
namespace Go.Proofs.YtmgikbbmpnbbjaaGreat
open Go.H
set_option linter.unusedVariables false
set_option linter.unusedSimpArgs false
theorem F1{n:Nat}(h:n<=140737488355328):n<W0:=by unfold W0;omega
theorem I0{p:Prop}[Decidable p](h:p):grd p=some ():=by unfold grd;rw[if_pos h]
theorem O1{a:Type}(o:Option a)(d:a):chk true o d=o:=rfl
theorem G2{a:Type}(o:Option a)(d:a):chk false o d=some d:=rfl
theorem B3{a:Type}{xs:List a}{k:Nat}{x:a}(h:xs[k]?=some x):gi xs (k:Int)=some x:=by rw[x0c];exact h
theorem a0j{a:Type}{xs:List a}{x:a}(h:xs[0]?=some x):gi xs 0=some x:=B3 (k:=0) h
theorem q0d{x:Int}(h:J0 x)(a:x ≠ -9223372036854775808):IntKind.i64.wrap (0-x) = -x:=by rw[w64 (by have:=h.1;have:=h.2;omega) (by have:=h.1;have:=h.2;omega)];omega
theorem a0f{n:Nat}(h:0<n)(a:n<=9223372036854775807):IntKind.i64.wrap ((n:Int)-1)=((n-1:Nat):Int):=by rw[w64 (by omega) (by omega)];omega
theorem c5{a:Type}{xs:List a}{k:Nat}(h:k<xs.length):xs[k]?=some xs[k]:=List.getElem?_eq_getElem h
def inR(b a x:Int):Bool:=decide (b<=x)&&decide (x<=a)
def C04(b a:Int)(w:List Int)(i:Nat):Bool :=
 match w[i]? with
 |none=>true
 |some x=>x == 0 || !inR b a x || (decide (0<i)&&match w[i-1]? with
  |none=>true
  |some y=>x == IntKind.i64.wrap (0-y))
def e03(b a:Int)(w:List Int):Nat->Nat->Bool
 |0,_=>true
 |d+1,k => !C04 b a w k&&e03 b a w d (k+1)
def V1(r:Int)(w:List Int):Bool:=inR 1 3 r&&decide (w.length<=24)&&e03 (-r) r w w.length 0
theorem M04(a b c:Int):W4 a b c=some (inR b c a):=by
 unfold W4 inR
 by_cases h:b<=a<;>simp[h]
theorem Q02(a b c:Int):Y5 a b c=some (inR b c a):=M04 a b c
theorem Y06(r:Int)(w:List Int)(n:w.length<=140737488355328):∀(d k fuel:Nat),k+d=w.length->d<fuel ->
  M8 w r fuel (k:Int)=some (bif e03 (IntKind.i64.wrap (0-r)) r w d k then .inr ()else .inl false)
 |d,k,0,j,hf=>by omega
 |0,k,fuel+1,j,hf=>by
  rw[M8.eq_2,if_neg (by simp;omega)]
  simp[e03]
 |d+1,k,fuel+1,j,hf=>by
  have l:k<w.length:=by omega
  have a:=c5 l
  generalize w[k]=x at a
  have next:=Y06 r w n d (k+1) fuel (by omega) (by omega)
  rw[M8.eq_2,if_pos (by simp;omega)]
  generalize IntKind.i64.wrap (0-r)=lo at next ⊢
  simp only[B3 a,oB,M04,V2 l (by omega:w.length<=9223372036854775807),next]
  have m:C04 lo r w k=(x == 0 || !inR lo r x || (decide (0<k)&&match w[k-1]? with
   |none=>true
   |some y=>x == IntKind.i64.wrap (0-y))):=by unfold C04;rw[a]
  simp only[e03,m]
  by_cases h0:x=0
  ·simp[h0,chk]
  have f:decide (x=0)=false:=by simpa using h0
  have b:(x == 0)=false:=by simpa using h0
  cases hin:inR lo r x with
  |false=>simp[f,b,hin,chk]
  |true =>
   by_cases hk0:k=0
   ·have h:decide ((k:Int)>0)=false:=by simp;omega
    have e:decide (0<k)=false:=by simp;omega
    simp only[f,b,hin,h,e,O1,G2,Bool.not_true,Bool.not_false,Bool.and_true,Bool.false_and,Bool.or_self,Bool.true_and,cond_true,cond_false,oB,Bool.or_false,Bool.and_false,Bool.false_eq_true,if_false,cond_true,cond_false]
   ·have i:=c5 (show k-1<w.length by omega)
    generalize w[k-1]=y at i
    have o:IntKind.i64.wrap ((k:Int)-1)=((k-1:Nat):Int):=a0f (by omega) (by omega)
    have h:decide ((k:Int)>0)=true:=by simp;omega
    have e:decide (0<k)=true:=by simp;omega
    simp only[f,b,hin,h,e,o,i,B3 a,B3 i,O1,G2,Bool.not_true,Bool.not_false,Bool.and_true,Bool.false_and,Bool.or_self,Bool.true_and,cond_true,cond_false,oB,Bool.or_false,Bool.and_false,Bool.false_or]
    by_cases hxy:x=IntKind.i64.wrap (0-y)
    ·have g:decide (x=IntKind.i64.wrap (0-y))=true:=by simpa using hxy
     have c:(x == IntKind.i64.wrap (0-y))=true:=by simpa using hxy
     simp only[g,c,if_true,Bool.not_true,Bool.false_and,Bool.false_eq_true,if_false,cond_true,cond_false]
    ·have g:decide (x=IntKind.i64.wrap (0-y))=false:=by simpa using hxy
     have c:(x == IntKind.i64.wrap (0-y))=false:=by simpa using hxy
     simp only[g,c,Bool.false_eq_true,if_false,Bool.not_false,Bool.true_and]
theorem o0b(r:Int)(w:List Int)(a:w.length<=140737488355328):T01 r w=some (V1 r w):=by
 unfold T01
 have h:=Y06 r w a w.length 0 W0 (by omega) (F1 a)
 rw[show((0:Nat):Int)=0 from rfl]at h
 rw[h,M04]
 unfold V1
 by_cases hr:inR 1 3 r=true
 ·have:IntKind.i64.wrap (0-r) = -r:=by
   simp only[inR,Bool.and_eq_true,decide_eq_true_eq]at hr
   rw[w64 (by omega) (by omega)];omega
  rw[this,hr]
  cases e03 (-r) r w w.length 0<;>simp[Q8]<;>omega
 ·simp only[Bool.not_eq_true]at hr
  rw[hr]
  cases e03 (IntKind.i64.wrap (0-r)) r w w.length 0<;>simp[Q8]
theorem x0m(r x:Int)(b:inR 1 3 r=true):D01 r x=some (!(x == 0)&&inR (-r) r x):=by
 have a:IntKind.i64.wrap (0-r) = -r:=by
  simp only[inR,Bool.and_eq_true,decide_eq_true_eq]at b
  rw[w64 (by omega) (by omega)];omega
 unfold D01
 rw[a,Q02]
 by_cases h0:x=0
 ·simp[h0,chk]
 ·simp[h0,chk]
theorem p0b(y x:Int):E9 y x=some (!(y == 0) && !(y == -9223372036854775808)&&(x == IntKind.i64.wrap (0-y))):=by
 unfold E9
 by_cases h0:y=0
 ·simp[h0]
 ·by_cases h1:y = -9223372036854775808
  ·simp[h1]
  ·simp only[h0,h1,decide_false,Bool.not_false,cond_true,Option.some.injEq]
   have a:(y == 0)=false:=by simpa using h0
   have b:(y == -9223372036854775808)=false:=by simpa using h1
   rw[a,b]
   rfl
theorem Z06(r:Int)(w:List Int)(hr:inR 1 3 r=true)(hl:w.length<=140737488355328):∀(d k fuel:Nat),k+d=w.length->d<fuel ->
  (∀ i,i<k->C04 (-r) r w i=false) ->
  N8 w r fuel (k:Int)=some (bif e03 (-r) r w d k then .inr ()else .inl false)
 |d,k,0,hk,hf,hp=>by omega
 |0,k,fuel+1,hk,hf,hp=>by
  rw[N8.eq_2,if_neg (by simp;omega)]
  simp[e03]
 |d+1,k,fuel+1,hk,hf,hp=>by
  have hkl:k<w.length:=by omega
  have hx:=c5 hkl
  generalize w[k]=x at hx
  have next:=λ(hb:C04 (-r) r w k=false)=>Z06 r w hr hl d (k+1) fuel (by omega) (by omega) (λi hi=>by
   by_cases e:i=k
   ·subst e;exact hb
   ·exact hp i (by omega))
  rw[N8.eq_2,if_pos (by simp;omega)]
  rw[B3 hx,oB,x0m r x hr,V2 hkl (by omega:w.length<=9223372036854775807)]
  have hbad:C04 (-r) r w k=(x == 0 || !inR (-r) r x || (decide (0<k)&&match w[k-1]? with
   |none=>true
   |some y=>x == IntKind.i64.wrap (0-y))):=by unfold C04;rw[hx]
  simp only[e03]
  by_cases h0:x=0
  ·simp[h0,chk,hbad]
  have b0:(x == 0)=false:=by simpa using h0
  cases hin:inR (-r) r x with
  |false=>simp[b0,hin,chk,hbad]
  |true =>
   by_cases hk0:k=0
   ·have hb:C04 (-r) r w k=false:=by rw[hbad];simp[h0,hin,hk0]
    rw[next hb,hb]
    have ek:decide ((k:Int)>0)=false:=by simp;omega
    simp only[b0,ek,O1,G2,Bool.not_true,Bool.not_false,Bool.and_true,Bool.false_and,Bool.or_self,Bool.true_and,cond_true,cond_false,oB,Bool.or_false,Bool.and_false,Bool.false_eq_true,if_false,cond_true,cond_false]
   ·have hy:=c5 (show k-1<w.length by omega)
    have hpy:=hp (k-1) (by omega)
    generalize w[k-1]=y at hy
    have hy0:y≠0/\y ≠ -9223372036854775808:=by
     unfold C04 at hpy
     rw[hy]at hpy
     simp only[Bool.or_eq_false_iff,Bool.not_eq_false']at hpy
     have h1:=hpy.1.2
     simp only[inR,Bool.and_eq_true,decide_eq_true_eq]at h1 hr
     exact⟨by simpa using hpy.1.1,by omega⟩
    have b2:(y == 0)=false:=by simpa using hy0.1
    have b3:(y == -9223372036854775808)=false:=by simpa using hy0.2
    have hpr:IntKind.i64.wrap ((k:Int)-1)=((k-1:Nat):Int):=a0f (by omega) (by omega)
    have ek:decide ((k:Int)>0)=true:=by simp;omega
    have bk:decide (0<k)=true:=by simp;omega
    simp only[b0,ek,hpr,B3 hy,p0b,b2,b3,O1,G2,Bool.not_true,Bool.not_false,Bool.and_true,Bool.false_and,Bool.or_self,Bool.true_and,cond_true,cond_false,oB,Bool.or_false,Bool.and_false,Bool.false_or]
    cases b1:(x == IntKind.i64.wrap (0-y))with
    |true =>
     have hb:C04 (-r) r w k=true:=by rw[hbad,hy,bk,b0,hin];exact b1
     simp only[hb,if_true,Bool.not_true,Bool.false_and,Bool.false_eq_true,if_false,cond_true,cond_false]
    |false =>
     have hb:C04 (-r) r w k=false:=by rw[hbad,hy,bk,b0,hin];exact b1
     simp only[hb,next hb,Bool.false_eq_true,if_false,Bool.not_false,Bool.true_and]
theorem x01(r:Int)(w:List Int)(b:w.length<=140737488355328):E7 r w=some (V1 r w):=by
 unfold E7
 rw[Q02]
 unfold V1
 cases hr:inR 1 3 r with
 |false=>simp
 |true =>
  by_cases h24:w.length<=24
  ·have h:=Z06 r w hr b w.length 0 W0 (by omega) (F1 b) (λi c=>by omega)
   rw[show((0:Nat):Int)=0 from rfl]at h
   have a : ¬ (24:Int)<(w.length:Int):=by omega
   simp only[oB,h,a]
   cases e03 (-r) r w w.length 0<;>simp[Q8,h24]
  ·have a:(24:Int)<(w.length:Int):=by omega
   simp[h24,a]
def tot:List (List Int)->Nat
 | []=>0
 |w::r=>w.length+tot r
theorem Q1{a:Type}{xs:List a}{k:Nat}{x:a}(h:xs[k]?=some x):xs.drop k=x::xs.drop (k+1):=by
 obtain⟨b,rfl⟩:=List.getElem?_eq_some_iff.1 h
 exact List.drop_eq_getElem_cons b
theorem M1{a:Type}{xs:List a}{k:Nat}(h:k=xs.length):xs.drop k = []:=by rw[h];exact List.drop_length
theorem Y03(ws:List (List Int))(g:ws.length<=140737488355328):∀(d k fuel a:Nat),k+d=ws.length->d<fuel->a+tot (ws.drop k)<=9223372036854775807 ->
  i4 ws fuel (a:Int) (k:Int)=some ((a+tot (ws.drop k):Nat):Int)
 |d,k,0,a,e,hf,b=>by omega
 |0,k,fuel+1,a,e,hf,b=>by
  rw[i4.eq_2,if_neg (by simp;omega),M1 (by omega)]
  rfl
 |d+1,k,fuel+1,a,e,hf,b=>by
  have f:k<ws.length:=by omega
  have c:=c5 f
  generalize ws[k]=x at c
  rw[Q1 c]at b ⊢
  simp only[tot]at b ⊢
  rw[i4.eq_2,if_pos (by simp;omega),B3 c,oB,V2 f (by omega:ws.length<=9223372036854775807),
   show IntKind.i64.wrap ((a:Int)+((x.length:Nat):Int))=((a+x.length:Nat):Int) by rw[w64 (by omega) (by omega)];omega,
   Y03 ws g d (k+1) fuel (a+x.length) (by omega) (by omega) (by omega)]
  rw[Nat.add_assoc]
theorem i06(ws:List (List Int))(a:ws.length<=140737488355328)(b:tot ws<=9223372036854775807):U8 ws=some ((tot ws:Nat):Int):=by
 unfold U8
 have h:=Y03 ws a ws.length 0 W0 0 (by omega) (F1 a) (by simpa using b)
 rw[show((0:Nat):Int)=0 from rfl]at h
 rw[h]
 simp
theorem p03(ws:List (List Int)):∀(fuel:Nat) (a k:Int),r6 ws fuel a k=i4 ws fuel a k
 |0,a,k=>rfl
 |fuel+1,a,k=>by
  rw[r6.eq_2,i4.eq_2]
  simp only[p03 ws fuel]
theorem q0b(ws:List (List Int))(a:ws.length<=140737488355328)(b:tot ws<=9223372036854775807):l00 ws=some ((tot ws:Nat):Int):=by
 rw[←i06 ws a b]
 unfold l00 U8
 rw[p03]
def I0d(r:Int):List (List Int)->Bool
 | []=>true
 |w::l=>V1 r w&&I0d r l
def O3(r:Int)(ws:List (List Int)):Bool:=inR 1 3 r&&decide (ws.length<=6)&&I0d r ws&&decide (tot ws<40)
theorem b0f{r:Int}:∀ {ws:List (List Int)},I0d r ws=true->tot ws<=24*ws.length
 | [],_=>by simp[tot]
 |w::l,h=>by
  simp only[I0d,Bool.and_eq_true]at h
  have a:=h.1
  simp only[V1,Bool.and_eq_true,decide_eq_true_eq]at a
  have:=b0f h.2
  simp only[tot,List.length_cons]
  omega
def V8(ws:List (List Int)):Prop:=∀ w∈ws,w.length<=140737488355328
theorem F05(r:Int)(ws:List (List Int))(g:ws.length<=140737488355328)(e:V8 ws):∀(d k fuel:Nat),k+d=ws.length->d<fuel ->
  d7 ws r fuel (k:Int)=some (bif I0d r (ws.drop k)then .inr ()else .inl false)
 |d,k,0,b,hf=>by omega
 |0,k,fuel+1,b,hf=>by
  rw[d7.eq_2,if_neg (by simp;omega),M1 (by omega)]
  rfl
 |d+1,k,fuel+1,b,hf=>by
  have c:k<ws.length:=by omega
  have a:=c5 c
  have f:=e _ (List.mem_of_getElem? a)
  generalize ws[k]=x at a f
  rw[Q1 a,d7.eq_2,if_pos (by simp;omega),B3 a,oB,o0b r x f,oB,V2 c (by omega:ws.length<=9223372036854775807),
   F05 r ws g e d (k+1) fuel (by omega) (by omega)]
  simp only[I0d]
  cases V1 r x<;>simp
theorem c0f(r:Int)(ws:List (List Int))(c:ws.length<=140737488355328)(d:V8 ws):C01 r ws=some (O3 r ws):=by
 unfold C01
 have h:=F05 r ws c d ws.length 0 W0 (by omega) (F1 c)
 rw[show((0:Nat):Int)=0 from rfl,List.drop_zero]at h
 rw[h,oB]
 unfold O3
 cases ha:I0d r ws with
 |false=>simp[Q8]
 |true =>
  rw[cond_true,Y0,M04,oB]
  have:=b0f ha
  cases hr:inR 1 3 r with
  |false=>simp[chk,grd,J0]
  |true =>
   by_cases h6:ws.length<=6
   ·rw[i06 ws c (by omega)]
    have a:decide (((ws.length:Nat):Int)<=6)=true:=by simp;omega
    have b:decide (ws.length<=6)=true:=by simpa using h6
    rw[a,b,cond_true,O1,oB,I0 (by constructor<;>omega)]
    simp
    omega
   ·have a:decide (((ws.length:Nat):Int)<=6)=false:=by simp;omega
    have b:decide (ws.length<=6)=false:=by simpa using h6
    rw[a,b]
    simp[chk,grd,J0]
theorem G05(r:Int)(ws:List (List Int))(g:ws.length<=140737488355328)(e:V8 ws):∀(d k fuel:Nat),k+d=ws.length->d<fuel ->
  g7 ws r fuel (k:Int)=some (bif I0d r (ws.drop k)then .inr ()else .inl false)
 |d,k,0,b,hf=>by omega
 |0,k,fuel+1,b,hf=>by
  rw[g7.eq_2,if_neg (by simp;omega),M1 (by omega)]
  rfl
 |d+1,k,fuel+1,b,hf=>by
  have c:k<ws.length:=by omega
  have a:=c5 c
  have f:=e _ (List.mem_of_getElem? a)
  generalize ws[k]=x at a f
  rw[Q1 a,g7.eq_2,if_pos (by simp;omega),B3 a,oB,x01 r x f,oB,V2 c (by omega:ws.length<=9223372036854775807),
   G05 r ws g e d (k+1) fuel (by omega) (by omega)]
  simp only[I0d]
  cases V1 r x<;>simp
theorem G08(r:Int)(ws:List (List Int))(c:ws.length<=140737488355328)(d:V8 ws):w00 r ws=some (O3 r ws):=by
 unfold w00
 rw[Q02,oB]
 unfold O3
 cases hr:inR 1 3 r with
 |false=>simp
 |true =>
  by_cases h6:ws.length<=6
  ·have a:decide (((ws.length:Nat):Int)>6)=false:=by simp;omega
   have b:decide (ws.length<=6)=true:=by simpa using h6
   have h:=G05 r ws c d ws.length 0 W0 (by omega) (F1 c)
   rw[show((0:Nat):Int)=0 from rfl,List.drop_zero]at h
   rw[a,b,h,oB]
   cases ha:I0d r ws with
   |false=>simp[Q8]
   |true =>
    have:=b0f ha
    simp only[cond_true,Y0,q0b ws c (by omega),oB,I0 (show J0 ((tot ws:Nat):Int) by constructor<;>omega)]
    simp
    omega
  ·have a:decide (((ws.length:Nat):Int)>6)=true:=by simp;omega
   have b:decide (ws.length<=6)=false:=by simpa using h6
   rw[a,b]
   simp
theorem q09{b a:Int}{w:List Int}:∀ {d k:Nat},e03 b a w d k=true->∀ i,k<=i->i<k+d->C04 b a w i=false
 |0,k,h,i,c,f=>by omega
 |d+1,k,h,i,c,f=>by
  simp only[e03,Bool.and_eq_true,Bool.not_eq_true']at h
  by_cases e:i=k
  ·subst e;exact h.1
  ·exact q09 h.2 i (by omega) (by omega)
theorem H0k{r:Int}{w:List Int}(h:V1 r w=true){i:Nat}{x:Int}(d:w[i]?=some x):(1<=r/\r<=3)/\w.length<=24/\x≠0 /\ -r<=x/\x<=r:=by
 simp only[V1,Bool.and_eq_true,decide_eq_true_eq]at h
 have c:=h.1.1
 simp only[inR,Bool.and_eq_true,decide_eq_true_eq]at c
 have a:=q09 h.2 i (Nat.zero_le _) (by have:=(List.getElem?_eq_some_iff.1 d).1;omega)
 unfold C04 at a
 rw[d]at a
 simp only[Bool.or_eq_false_iff,Bool.not_eq_false']at a
 have b:=a.1.2
 simp only[inR,Bool.and_eq_true,decide_eq_true_eq]at b
 exact⟨c,h.1.2,by simpa using a.1.1,b⟩
def z06(r a:Int)(e:K0):Bool:=inR 0 a e.1&&inR 0 a e.2.2&&inR 1 r e.2.1
def d0f(e f:K0):Int:=T0 e f
theorem e0f(e f:K0):d0f e f=if D9 e.1 f.1≠0 then D9 e.1 f.1 else if D9 e.2.1 f.2.1≠0 then D9 e.2.1 f.2.1 else D9 e.2.2 f.2.2:=rfl
theorem H07(a b:Int):(a<b/\D9 a b = -1)∨(a>b/\D9 a b=1)∨(a=b/\D9 a b=0):=by
 unfold D9
 split
 ·omega
 ·split<;>omega
theorem h0e(e f:K0):J0 (d0f e f):=by
 rw[e0f]
 split
 ·exact Z0i _ _
 ·split<;>exact Z0i _ _
theorem F0q(g:l0)(e:K0):P02 g e=some (z06 g.1 (IntKind.i64.wrap (g.2.1-1)) e):=by
 obtain⟨r,n,es⟩:=g
 obtain⟨a,l,b⟩:=e
 unfold P02 z06
 simp only[M04,oB]
 cases inR 0 (IntKind.i64.wrap (n-1)) a with
 |false=>rfl
 |true =>
  cases inR 0 (IntKind.i64.wrap (n-1)) b with
  |false=>rfl
  |true=>simp[chk]
theorem J0d(g:l0)(e:K0):r9 g e=some (z06 g.1 (IntKind.i64.wrap (g.2.1-1)) e):=by
 obtain⟨r,n,es⟩:=g
 obtain⟨a,l,b⟩:=e
 unfold r9 G4 z06
 simp only[Q02,oB]
 cases inR 0 (IntKind.i64.wrap (n-1)) a with
 |false=>rfl
 |true =>
  cases inR 0 (IntKind.i64.wrap (n-1)) b with
  |false=>rfl
  |true=>simp[chk]
theorem f03(e f:K0):J8 e f=some (d0f e f):=by
 obtain⟨a,l,b⟩:=e
 obtain⟨g,j,i⟩:=f
 unfold J8
 rw[show W0=(W0-4)+1+1+1+1 from rfl]
 have s:IntKind.i64.wrap (0+1)=1:=by decide
 have t:IntKind.i64.wrap (1+1)=2:=by decide
 have u:IntKind.i64.wrap (2+1)=3:=by decide
 have o:∀ x y z:Int,gi [x,y,z] 0=some x:=λ_ _ _=>rfl
 have p:∀ x y z:Int,gi [x,y,z] 1=some y:=λ_ _ _=>rfl
 have q:∀ x y z:Int,gi [x,y,z] 2=some z:=λ_ _ _=>rfl
 have d0:decide ((0:Int)<3)=true:=rfl
 have k:decide ((1:Int)<3)=true:=rfl
 have m:decide ((2:Int)<3)=true:=rfl
 have n:decide ((3:Int)<3)=false:=rfl
 simp only[A7.eq_2,s,t,u,o,p,q,d0,k,m,n,if_true,oB,Bool.false_eq_true,if_false]
 rw[e0f]
 simp only
 rcases H07 a g with⟨h,e⟩|⟨h,e⟩|⟨h,e⟩
 ·simp[e,h,Q8]
 ·have : ¬ a<g:=by omega
  simp[e,h,this,Q8]
 ·subst h
  rcases H07 l j with⟨h,c⟩|⟨h,c⟩|⟨h,c⟩
  ·simp[e,c,h,Q8]
  ·have : ¬ l<j:=by omega
   simp[e,c,h,this,Q8]
  ·subst h
   rcases H07 b i with⟨h,d⟩|⟨h,d⟩|⟨h,d⟩
   ·simp[e,c,d,h,Q8]
   ·have : ¬ b<i:=by omega
    simp[e,c,d,h,this,Q8]
   ·subst h
    simp[e,c,d,Q8]
theorem n0p(a b:Int):J7 a b=some (D9 a b):=by
 unfold J7 D9
 by_cases h:a<b
 ·simp[h]
 ·by_cases h2:a>b<;>simp[h,h2]
theorem H05(e f:K0):Q9 e f=some (d0f e f):=by
 obtain⟨a,l,b⟩:=e
 obtain⟨c,d,g⟩:=f
 rw[e0f]
 unfold Q9
 simp only[n0p,oB,I0 (Z0i _ _)]
 by_cases h1:D9 a c=0
 ·by_cases h2:D9 l d=0
  ·simp[h1,h2]
  ·simp[h1,h2]
 ·simp[h1]
def G0q(r a:Int)(es:List K0)(k:Nat):Bool:=match es[k]? with
 |none=>true
 |some e => !z06 r a e || (decide (0<k)&&match es[k-1]? with
  |none=>true
  |some f=>decide (d0f f e ≥ 0))
def okE(r a:Int)(es:List K0):Nat->Nat->Bool
 |0,_=>true
 |d+1,k => !G0q r a es k&&okE r a es d (k+1)
def U0(g:l0):Bool:=okE g.1 (IntKind.i64.wrap (g.2.1-1)) g.2.2 g.2.2.length 0&&inR 1 3 g.1&&inR 1 40 g.2.1&&decide (g.2.2.length<=120)
theorem r0b{r a:Int}{es:List K0}{k:Nat}{e:K0}(b:es[k]?=some e):G0q r a es k=(!z06 r a e || (decide (0<k)&&match es[k-1]? with
  |none=>true
  |some f=>decide (d0f f e ≥ 0))):=by unfold G0q;rw[b]
theorem j06(r n:Int)(es:List K0)(q:es.length<=140737488355328):∀(d k fuel:Nat),k+d=es.length->d<fuel ->
  Q7 es r n fuel (k:Int)=some (bif okE r (IntKind.i64.wrap (n-1)) es d k then .inr ()else .inl false)
 |d,k,0,l,hf=>by omega
 |0,k,fuel+1,l,hf=>by
  rw[Q7.eq_2,if_neg (by simp;omega)]
  simp[okE]
 |d+1,k,fuel+1,l,hf=>by
  have m:k<es.length:=by omega
  have a:=c5 m
  generalize es[k]=e at a
  obtain⟨h,i,j⟩:=e
  have next:=j06 r n es q d (k+1) fuel (by omega) (by omega)
  rw[Q7.eq_2,if_pos (by simp;omega),B3 a,oB]
  simp only[F0q,oB,V2 m (by omega:es.length<=9223372036854775807),next,okE,r0b a]
  generalize IntKind.i64.wrap (n-1)=hi
  cases hin:z06 r hi (h,i,j)with
  |false=>simp[chk,grd,J0]
  |true =>
   by_cases hk0:k=0
   ·have c:decide ((k:Int)>0)=false:=by simp;omega
    have b:decide (0<k)=false:=by simp;omega
    simp only[c,b,G2,Bool.not_true,Bool.not_false,Bool.and_true,Bool.false_and,Bool.or_self,Bool.true_and,cond_true,cond_false,oB,Bool.or_false,Bool.false_eq_true,if_false,I0 (show J0 0 by decide)]
   ·have g:=c5 (show k-1<es.length by omega)
    generalize es[k-1]=f at g
    obtain⟨o,p,f2⟩:=f
    have s:IntKind.i64.wrap ((k:Int)-1)=((k-1:Nat):Int):=a0f (by omega) (by omega)
    have c:decide ((k:Int)>0)=true:=by simp;omega
    have b:decide (0<k)=true:=by simp;omega
    simp only[c,b,s,g,B3 a,B3 g,O1,Bool.not_true,Bool.not_false,Bool.and_true,Bool.false_and,Bool.or_self,Bool.true_and,cond_true,cond_false,oB,Bool.or_false,Bool.false_or,f03,I0 (h0e _ _)]
    cases decide (d0f (o,p,f2) (h,i,j) ≥ 0)<;>rfl
theorem g9(g:l0)(a:g.2.2.length<=140737488355328):n5 g=some (U0 g):=by
 obtain⟨r,n,es⟩:=g
 unfold n5 U0
 simp only at a ⊢
 have h:=j06 r n es a es.length 0 W0 (by omega) (F1 a)
 rw[show((0:Nat):Int)=0 from rfl]at h
 rw[h,oB]
 cases okE r (IntKind.i64.wrap (n-1)) es es.length 0 with
 |false=>simp[Q8]
 |true =>
  rw[cond_true,Y0,M04,M04,oB]
  cases inR 1 3 r with
  |false=>simp[chk]
  |true =>
   simp only[O1,oB,cond_true,Bool.true_and]
   cases inR 1 40 n with
   |false=>simp
   |true=>simp;omega
theorem k06(r n:Int)(es:List K0)(q:es.length<=140737488355328):∀(d k fuel:Nat),k+d=es.length->d<fuel ->
  R7 es r n fuel (k:Int)=some (bif okE r (IntKind.i64.wrap (n-1)) es d k then .inr ()else .inl false)
 |d,k,0,l,hf=>by omega
 |0,k,fuel+1,l,hf=>by
  rw[R7.eq_2,if_neg (by simp;omega)]
  simp[okE]
 |d+1,k,fuel+1,l,hf=>by
  have m:k<es.length:=by omega
  have a:=c5 m
  generalize es[k]=e at a
  obtain⟨h,i,j⟩:=e
  have next:=k06 r n es q d (k+1) fuel (by omega) (by omega)
  rw[R7.eq_2,if_pos (by simp;omega),B3 a,oB]
  simp only[J0d,oB,V2 m (by omega:es.length<=9223372036854775807),next,okE,r0b a]
  generalize IntKind.i64.wrap (n-1)=hi
  cases hin:z06 r hi (h,i,j)with
  |false=>simp[chk,grd,J0]
  |true =>
   by_cases hk0:k=0
   ·have c:decide ((k:Int)>0)=false:=by simp;omega
    have b:decide (0<k)=false:=by simp;omega
    simp only[c,b,G2,Bool.not_true,Bool.not_false,Bool.and_true,Bool.false_and,Bool.or_self,Bool.true_and,cond_true,cond_false,oB,Bool.or_false,Bool.false_eq_true,if_false,I0 (show J0 0 by decide)]
   ·have g:=c5 (show k-1<es.length by omega)
    generalize es[k-1]=f at g
    obtain⟨o,p,f2⟩:=f
    have s:IntKind.i64.wrap ((k:Int)-1)=((k-1:Nat):Int):=a0f (by omega) (by omega)
    have c:decide ((k:Int)>0)=true:=by simp;omega
    have b:decide (0<k)=true:=by simp;omega
    simp only[c,b,s,g,B3 a,B3 g,O1,Bool.not_true,Bool.not_false,Bool.and_true,Bool.false_and,Bool.or_self,Bool.true_and,cond_true,cond_false,oB,Bool.or_false,Bool.false_or,H05,I0 (h0e _ _)]
    cases decide (d0f (o,p,f2) (h,i,j) ≥ 0)<;>rfl
theorem b00(g:l0)(c:g.2.2.length<=140737488355328):t6 g=some (U0 g):=by
 obtain⟨r,n,es⟩:=g
 unfold t6 U0
 simp only at c ⊢
 rw[Q02,Q02,oB]
 cases hr:inR 1 3 r with
 |false=>simp[chk]
 |true =>
  simp only[Bool.not_true,Bool.not_false,O1,oB,cond_false]
  cases hn:inR 1 40 n with
  |false=>simp
  |true =>
   by_cases h120:es.length<=120
   ·have h:=k06 r n es c es.length 0 W0 (by omega) (F1 c)
    rw[show((0:Nat):Int)=0 from rfl]at h
    have a:decide (((es.length:Nat):Int)>120)=false:=by simp;omega
    have b:decide (es.length<=120)=true:=by simpa using h120
    simp only[a,b,Bool.not_true,cond_false,Bool.false_eq_true,if_false,h,oB]
    cases okE r (IntKind.i64.wrap (n-1)) es es.length 0<;>rfl
   ·have a:decide (((es.length:Nat):Int)>120)=true:=by simp;omega
    have b:decide (es.length<=120)=false:=by simpa using h120
    simp only[a,b,Bool.not_true,cond_false,if_true,Bool.and_false]
theorem y0m{r a:Int}{es:List K0}:∀ {d k:Nat},okE r a es d k=true->∀ i,k<=i->i<k+d->G0q r a es i=false
 |0,k,h,i,b,c=>by omega
 |d+1,k,h,i,b,c=>by
  simp only[okE,Bool.and_eq_true,Bool.not_eq_true']at h
  by_cases e:i=k
  ·subst e;exact h.1
  ·exact y0m h.2 i (by omega) (by omega)
theorem f0f{n:Nat}(h:n<=9223372036854775807):n<W0:=by unfold W0;omega
def goI(x:Int):List Int->Bool×List Int
 | []=>(false,[])
 |y::l=>if x<y then(true,x::y::l)else if y=x then(true,y::l)else((goI x l).1,y::(goI x l).2)
theorem M0n(x:Int):∀ l,w01 D9 x l=bif(goI x l).1 then(goI x l).2 else(goI x l).2 ++ [x]
 | []=>rfl
 |y::l=>by
  have a:=M0n x l
  unfold w01 goI
  rcases H07 x y with⟨h,e⟩|⟨h,e⟩|⟨h,e⟩
  ·rw[e,if_pos (by omega),if_pos h];rfl
  ·rw[e,if_neg (by omega),if_neg (by omega),if_neg (by omega),if_neg (by omega),a]
   cases (goI x l).1<;>rfl
  ·rw[e,if_neg (by omega),if_pos rfl,if_neg (by omega),if_pos h.symm];rfl
theorem g0f(l:List Int)(w:Int)(h:l.length<=1099511627776):∀(d k fuel:Nat) (acc:List Int),k+d=l.length->d<fuel->acc.length<=k+1 ->
  J4 l w fuel true (k:Int) acc=some (true,acc++l.drop k)
 |d,k,0,acc,e,hf,b=>by omega
 |0,k,fuel+1,acc,e,hf,b=>by
  rw[J4.eq_2,if_neg (by simp;omega),M1 (by omega),List.append_nil]
 |d+1,k,fuel+1,acc,e,hf,b=>by
  have f:k<l.length:=by omega
  have a:=c5 f
  generalize l[k]=x at a
  have i:=g0f l w h d (k+1) fuel (acc ++ [x]) (by omega) (by omega) (by simp;omega)
  rw[J4.eq_2,if_pos (by simp;omega),B3 a,oB]
  have g:∀ c:Bool,(bif c then(!true)else false)=false:=λc=>by cases c<;>rfl
  simp only[g,Bool.false_eq_true,if_false,oB,V2 f (show l.length<=9223372036854775807 by omega),i,I0 (show(acc.length + [x].length)*8<=140737488355328 by simp;omega)]
  rw[Q1 a]
  split<;>simp
theorem q0h(l:List Int)(w:Int)(b:l.length<=1099511627776):∀(d k fuel:Nat) (acc:List Int),k+d=l.length->d<fuel->acc.length=k ->
  J4 l w fuel false (k:Int) acc=some ((goI w (l.drop k)).1,acc++(goI w (l.drop k)).2)
 |d,k,0,acc,g,hf,f=>by omega
 |0,k,fuel+1,acc,g,hf,f=>by
  rw[J4.eq_2,if_neg (by simp;omega),M1 (by omega)]
  simp[goI]
 |d+1,k,fuel+1,acc,g,hf,f=>by
  have a:k<l.length:=by omega
  have e:=c5 a
  generalize l[k]=x at e
  have j:=q0h l w b d (k+1) fuel (acc ++ [x]) (by omega) (by omega) (by simp;omega)
  have m:=g0f l w b d (k+1) fuel (acc ++ [x]) (by omega) (by omega) (by simp;omega)
  have n:=g0f l w b d (k+1) fuel (acc ++ [w] ++ [x]) (by omega) (by omega) (by simp;omega)
  rw[J4.eq_2,if_pos (by simp;omega),B3 e,oB,Q1 e]
  unfold goI
  have h:∀ c:Bool,(bif c then(!true)else false)=false:=λc=>by cases c<;>rfl
  have i:∀ c:Bool,(bif c then(!false)else false)=c:=λc=>by cases c<;>rfl
  by_cases h0:x=w
  ·rw[if_pos (by simpa using h0),oB,h,if_neg (by simp),oB,I0 (by simp;omega),oB,V2 a (by omega),m,if_neg (by omega),if_pos h0]
   simp
  ·rw[if_neg (by simpa using h0),oB,i]
   by_cases h1:w<x
   ·rw[if_pos (by simpa using h1),I0 (by simp;omega),oB,oB,I0 (by simp;omega),oB,V2 a (by omega),n,if_pos h1]
    simp
   ·rw[if_neg (by simpa using h1),oB,I0 (by simp;omega),oB,V2 a (by omega),j,if_neg h1,if_neg h0]
    simp
theorem s0b(l:List Int)(w:Int)(a:l.length<=1099511627776):Z8 l w=some (w01 D9 w l):=by
 unfold Z8
 have h:=q0h l w a l.length 0 W0 [] (by omega) (F1 (by omega)) rfl
 rw[show((0:Nat):Int)=0 from rfl,List.drop_zero,List.nil_append]at h
 rw[h,oB,M0n]
 have b:∀ l:List Int,(goI w l).2.length<=l.length+1:=λl=>by
  induction l with
  |nil=>simp[goI]
  |cons y l c =>
   unfold goI
   split
   ·simp
   ·split
    ·simp
    ·simp only[List.length_cons];omega
 have:=b l
 cases (goI w l).1 with
 |true=>rfl
 |false =>
  simp only[Bool.not_false,if_true,cond_false]
  rw[I0 (by simp;omega),oB]
def r0h(v x:Int)(e:K0):List Int :=
 if 0<x/\e.2.1=x/\e.1=v then [e.2.2]else if x<0/\e.2.1 = -x/\e.2.2=v then [e.1]else []
def z9(v x:Int):List K0->List Int
 | []=>[]
 |e::es=>r0h v x e++z9 v x es
theorem o0p(v x:Int)(e:K0):(r0h v x e).length<=1:=by unfold r0h;split<;>(try split)<;>simp
theorem h0f(v x:Int):∀ es,(z9 v x es).length<=es.length
 | []=>by simp[z9]
 |e::es=>by
  have a:=o0p v x e
  have b:=h0f v x es
  simp only[z9,List.length_append,List.length_cons]
  omega
def Y3(x:Int):Prop:=J0 x/\x ≠ -9223372036854775808
theorem t0b(es:List K0)(v x:Int)(f:Y3 x)(t:es.length<=1099511627776):∀(d k fuel:Nat) (acc:List Int),k+d=es.length->d<fuel->acc.length<=k ->
  T4 es x v fuel (k:Int) acc=some (acc++z9 v x (es.drop k))
 |d,k,0,acc,p,hf,o=>by omega
 |0,k,fuel+1,acc,p,hf,o=>by
  rw[T4.eq_2,if_neg (by simp;omega),M1 (by omega)]
  simp[z9]
 |d+1,k,fuel+1,acc,p,hf,o=>by
  have q:k<es.length:=by omega
  have m:=c5 q
  generalize es[k]=e at m
  obtain⟨a,l,b⟩:=e
  have n:=λs h=>t0b es v x f t d (k+1) fuel s (by omega) (by omega) h
  have u:decide (x = -9223372036854775808)=false:=by simp;exact f.2
  rw[T4.eq_2,if_pos (by simp;omega),B3 m,oB,Q1 m]
  simp only[z9,r0h,q0d f.1 f.2,u,Bool.not_false,V2 q (show es.length<=9223372036854775807 by omega)]
  by_cases c:0<x/\l=x/\a=v
  ·obtain⟨c,rfl,rfl⟩:=c
   rw[if_pos (by simp[c]),if_pos ⟨c,rfl,rfl⟩,I0 (by simp;omega),oB,n _ (by simp;omega)]
   simp
  ·rw[if_neg c,if_neg (by simp only[Bool.cond_eq_ite];simp;intro g i j;exact c ⟨g,i,j⟩)]
   by_cases c2:x<0/\l = -x/\b=v
   ·rw[if_pos c2,if_pos (by simp[c2.1,c2.2.1,c2.2.2]),I0 (by simp;omega),oB,n _ (by simp;omega)]
    simp
   ·rw[if_neg c2,if_neg (by simp only[Bool.cond_eq_ite];simp;intro g i j;exact c2 ⟨g,i,j⟩),n _ (by omega)]
    simp
theorem a07(w:Int):∀ l:List Int,(w01 D9 w l).length<=l.length+1
 | []=>by simp[w01]
 |y::l=>by
  have:=a07 w l
  unfold w01
  split
  ·simp
  ·split
   ·simp
   ·simp only[List.length_cons];omega
theorem u0b(es:List K0)(v x:Int)(m:Y3 x)(s:es.length<=1099511627776):∀(d k fuel:Nat) (u:List Int),k+d=es.length->d<fuel->u.length<=k ->
  D4 es x v fuel u (k:Int)=some (K5 D9 u (z9 v x (es.drop k)))
 |d,k,0,u,p,hf,o=>by omega
 |0,k,fuel+1,u,p,hf,o=>by
  rw[D4.eq_2,if_neg (by simp;omega),M1 (by omega)]
  rfl
 |d+1,k,fuel+1,u,p,hf,o=>by
  have q:k<es.length:=by omega
  have j:=c5 q
  generalize es[k]=e at j
  obtain⟨a,l,b⟩:=e
  have n:=λw h=>u0b es v x m s d (k+1) fuel w (by omega) (by omega) h
  rw[D4.eq_2,if_pos (by simp;omega),B3 j,oB,Q1 j]
  simp only[z9,r0h,q0d m.1 m.2,V2 q (show es.length<=9223372036854775807 by omega)]
  by_cases c:0<x/\l=x/\a=v
  ·obtain⟨c,rfl,rfl⟩:=c
   have t:decide (l<0)=false:=by simp;omega
   have:=a07 b u
   rw[if_pos (by simp[c]),if_pos ⟨c,rfl,rfl⟩,s0b u b (by omega),oB,t,if_neg (by simp),n _ (by omega)]
   rfl
  ·rw[if_neg c,if_neg (by simp only[Bool.cond_eq_ite];simp;intro f g i;exact c ⟨f,g,i⟩)]
   by_cases c2:x<0/\l = -x/\b=v
   ·have:=a07 a u
    rw[if_pos c2,if_pos (by simp[c2.1,c2.2.1,c2.2.2]),s0b u a (by omega),oB,n _ (by omega)]
    rfl
   ·rw[if_neg c2,if_neg (by simp only[Bool.cond_eq_ite];simp;intro f g i;exact c2 ⟨f,g,i⟩),n _ (by omega)]
    rfl
def Y02(g:l0)(v x:Int):List Int:=K5 D9 [] (z9 v x g.2.2)
theorem h0s(x y:Int):eqI x y=true↔x=y:=by simp[eqI]
theorem I0k(g:l0)(v x:Int)(b:Y3 x)(a:g.2.2.length<=1099511627776):T00 g v x=some (Y02 g v x):=by
 obtain⟨r,n,es⟩:=g
 unfold T00 Y02
 have h:=u0b es v x b a es.length 0 W0 [] (by omega) (f0f (by simp only at a;omega)) (by simp)
 rw[show((0:Nat):Int)=0 from rfl,List.drop_zero]at h
 simp only[h,oB]
theorem J0k(g:l0)(v x:Int)(b:Y3 x)(a:g.2.2.length<=1099511627776):U00 g v x=some (Y02 g v x):=by
 obtain⟨r,n,es⟩:=g
 unfold U00 Y02
 have h:=t0b es v x b a es.length 0 W0 [] (by omega) (f0f (by simp only at a;omega)) (by simp)
 rw[show((0:Nat):Int)=0 from rfl,List.drop_zero,List.nil_append]at h
 have c:=h0f v x es
 simp only at a
 simp only[h,oB,I0 (show(z9 v x es).length<4611686018427387904 by omega)]
 rw[←G0k O02 h0s (z9 v x es) (z9 v x es) λ_=>Iff.rfl]
 rfl
def Q0(g:l0)(v x:Int):Int:=match Y02 g v x with
 | [] => -1
 |a::_=>a
theorem i0f(g:l0)(v x:Int)(c:Y3 x)(b:g.2.2.length<=1099511627776):F9 g v x=some (Q0 g v x):=by
 have h:=I0k g v x c b
 obtain⟨r,n,es⟩:=g
 unfold F9 Q0
 simp only[h,oB]
 cases Y02 (r,n,es) v x with
 |nil=>rfl
 |cons a l=>rfl
theorem f02(g:l0)(v x:Int)(c:Y3 x)(b:g.2.2.length<=1099511627776):A4 g v x=some (Q0 g v x):=by
 have h:=J0k g v x c b
 obtain⟨r,n,es⟩:=g
 unfold A4 Q0
 simp only[h,oB]
 cases Y02 (r,n,es) v x with
 |nil=>rfl
 |cons a l=>rfl
theorem s0h{g:l0}{v x y:Int}(h:y∈Y02 g v x):y∈z9 v x g.2.2:=by
 rcases(C4 O02 y _ []).1 h with h|h
 ·cases h
 ·exact h
theorem N2{v x y:Int}:∀ {es:List K0},y∈z9 v x es↔∃ e∈es,(0<x/\e.2.1=x/\e.1=v/\y=e.2.2)∨(x<0/\e.2.1 = -x/\e.2.2=v/\y=e.1)
 | []=>by simp[z9]
 |e::es=>by
  simp only[z9,List.mem_append,N2 (es:=es),List.mem_cons,exists_eq_or_imp]
  refine or_congr ?_ Iff.rfl
  unfold r0h
  split
  ·rename_i h
   simp only[List.mem_singleton]
   constructor
   ·rintro rfl;exact .inl ⟨h.1,h.2.1,h.2.2,rfl⟩
   ·rintro(⟨_,_,_,a⟩|⟨f,_⟩)
    ·exact a
    ·omega
  ·rename_i h
   split
   ·rename_i b
    simp only[List.mem_singleton]
    constructor
    ·rintro rfl;exact .inr ⟨b.1,b.2.1,b.2.2,rfl⟩
    ·rintro(⟨f,_⟩|⟨_,_,_,a⟩)
     ·omega
     ·exact a
   ·rename_i b
    constructor
    ·intro h;cases h
    ·rintro(⟨c,a,d,_⟩|⟨c,a,d,_⟩)
     ·exact absurd ⟨c,a,d⟩ h
     ·exact absurd ⟨c,a,d⟩ b
def inG(g:l0):Prop:=∀ e∈g.2.2,(0<=e.1/\e.1<g.2.1)/\(0<=e.2.2/\e.2.2<g.2.1)/\1<=e.2.1/\e.2.1<=g.1
theorem O2{g:l0}(h:U0 g=true):inG g/\(1<=g.1/\g.1<=3)/\(1<=g.2.1/\g.2.1<=40)/\g.2.2.length<=120:=by
 obtain⟨r,n,es⟩:=g
 simp only[U0,inR,Bool.and_eq_true,decide_eq_true_eq]at h
 obtain⟨⟨⟨m,o⟩,p⟩,q⟩:=h
 refine⟨λe s=>?_,o,p,q⟩
 obtain⟨i,b⟩:=List.getElem?_of_mem s
 have a:=y0m m i (Nat.zero_le _) (by have:=(List.getElem?_eq_some_iff.1 b).1;simp only at this;omega)
 rw[r0b b]at a
 simp only[Bool.or_eq_false_iff,Bool.not_eq_false',z06,inR,Bool.and_eq_true,decide_eq_true_eq]at a
 obtain⟨⟨⟨⟨c,d⟩,f,j⟩,k,l⟩,_⟩:=a
 rw[w64 (by omega) (by omega)]at d j
 simp only
 exact⟨⟨c,by omega⟩,⟨f,by omega⟩,k,l⟩
theorem Z02{g:l0}(d:inG g)(v x:Int):Q0 g v x = -1∨(0<=Q0 g v x/\Q0 g v x<g.2.1):=by
 unfold Q0
 cases hs:Y02 g v x with
 |nil=>exact .inl rfl
 |cons a l =>
  right
  have b:a∈Y02 g v x:=by rw[hs];exact mS
  obtain⟨e,c,h⟩:=N2.1 (s0h b)
  have:=d e c
  rcases h with⟨_,_,_,rfl⟩|⟨_,_,_,rfl⟩
  ·exact this.2.1
  ·exact this.1
theorem G03{g:l0}(a:inG g)(b:g.2.1<=40)(v x:Int):J0 (Q0 g v x):=by
 rcases Z02 a v x with h|h
 ·rw[h];decide
 ·constructor<;>omega
def z03(a b:K0):Bool:=decide (a.2.1=b.2.1)&&(decide (a.1=b.1) || decide (a.2.2=b.2.2))
theorem r09(a b:K0):z03 a b=z03 b a:=by
 unfold z03
 have h:∀ x y:Int,decide (x=y)=decide (y=x):=λx y=>decide_eq_decide.2 ⟨Eq.symm,Eq.symm⟩
 rw[h a.2.1,h a.1,h a.2.2]
def noC(a:K0):List K0->Bool
 | []=>true
 |b::l => !z03 a b&&noC a l
def Z09:List K0->Bool
 | []=>true
 |a::l=>noC a l&&Z09 l
theorem b0j(a:K0):∀ l,noC a l=true↔∀ b∈l,z03 a b=false
 | []=>by simp[noC]
 |b::l=>by simp[noC,b0j a l]
theorem s09:∀ l,Z09 l=true↔l.Pairwise λa b=>z03 a b=false
 | []=>by simp[Z09]
 |a::l=>by simp[Z09,s09 l,b0j,List.pairwise_cons]
def j0f:List K0->List K0->Bool
 |_,[]=>true
 |b,a::l=>noC a b&&j0f (b ++ [a]) l
theorem t0h:∀(l f:List K0),j0f f l=true↔l.Pairwise (λa b=>z03 a b=false)/\∀ a∈l,∀ b∈f,z03 a b=false
 | [],f=>by simp[j0f]
 |a::l,f=>by
  simp only[j0f,Bool.and_eq_true,b0j,t0h l,List.pairwise_cons]
  constructor
  ·rintro⟨g,h,e⟩
   refine⟨⟨λb c=>by rw[r09];exact e b c a (by simp),h⟩,λx d b c=>?_⟩
   rcases List.mem_cons.1 d with rfl|d
   ·exact g b c
   ·exact e x d b (by simp[c])
  ·rintro⟨⟨g,h⟩,e⟩
   refine⟨λb c=>e a mS b c,h,λx d b c=>?_⟩
   rcases List.mem_append.1 c with c|c
   ·exact e x (mC _ d) b c
   ·rw[List.mem_singleton.1 c,r09];exact g x d
theorem p0p(l:List K0):j0f [] l=Z09 l:=by
 rw[Bool.eq_iff_iff,t0h,s09]
 simp
def F0(g:l0):Bool:=U0 g&&Z09 g.2.2
theorem O0s(a b e c d f:Int):(bif decide (b=d)then(bif decide (a=c)then true else decide (e=f))else false)=z03 (a,b,e) (c,d,f):=by
 unfold z03
 cases decide (b=d)<;>cases decide (a=c)<;>rfl
theorem v0b(l:List K0)(a:K0)(n:l.length<=140737488355328):∀(d k fuel:Nat),k+d=l.length->d<fuel ->
  l7 l a.2.1 a.1 a.2.2 fuel (k:Int)=some (bif noC a (l.drop k)then .inr ()else .inl false)
 |d,k,0,g,hf=>by omega
 |0,k,fuel+1,g,hf=>by
  rw[l7.eq_2,if_neg (by simp;omega),M1 (by omega)]
  rfl
 |d+1,k,fuel+1,g,hf=>by
  have h:k<l.length:=by omega
  have b:=c5 h
  generalize l[k]=x at b
  obtain⟨c,e,f⟩:=a
  obtain⟨i,j,m⟩:=x
  rw[l7.eq_2,if_pos (by simp;omega),B3 b,oB,Q1 b]
  simp only[O0s,noC]
  cases hc:z03 (c,e,f) (i,j,m)with
  |true=>rfl
  |false =>
   rw[if_neg (by simp),V2 h (by omega),v0b l (c,e,f) n d (k+1) fuel (by omega) (by omega)]
   simp
theorem g03{a:Type}{xs:List a}{k:Nat}(h:k<=xs.length):V06 xs (k:Int) (xs.length:Int)=some (xs.drop k):=by
 unfold V06
 rw[if_pos ⟨by omega,by omega,by omega⟩]
 simp
theorem w0b(l:List K0)(h:l.length<=140737488355328):∀(d k fuel:Nat),k+d=l.length->d<fuel ->
  n7 l fuel (k:Int)=some (bif Z09 (l.drop k)then .inr ()else .inl false)
 |d,k,0,b,hf=>by omega
 |0,k,fuel+1,b,hf=>by
  rw[n7.eq_2,if_neg (by simp;omega),M1 (by omega)]
  rfl
 |d+1,k,fuel+1,b,hf=>by
  have c:k<l.length:=by omega
  have a:=c5 c
  generalize l[k]=x at a
  have h0:=v0b (l.drop (k+1)) x (by simp;omega) (l.drop (k+1)).length 0 W0 (by omega) (F1 (by simp;omega))
  rw[show((0:Nat):Int)=0 from rfl,List.drop_zero]at h0
  obtain⟨e,f,g⟩:=x
  rw[n7.eq_2,if_pos (by simp;omega),B3 a,oB,Q1 a]
  simp only[V2 c (show l.length<=9223372036854775807 by omega),g03 (show k+1<=l.length by omega),oB]
  simp only at h0
  rw[h0,oB]
  simp only[Z09]
  cases noC (e,f,g) (l.drop (k+1))with
  |false=>rfl
  |true =>
   simp only[cond_true,j0p,Bool.true_and]
   exact w0b l h d (k+1) fuel (by omega) (by omega)
theorem A8(g:l0)(a:g.2.2.length<=140737488355328):W5 g=some (F0 g):=by
 have b:=b00 g a
 obtain⟨r,n,es⟩:=g
 unfold W5 F0
 simp only[b,oB]
 cases U0 (r,n,es)with
 |false=>rfl
 |true =>
  have h:=w0b es a es.length 0 W0 (by omega) (F1 a)
  rw[show((0:Nat):Int)=0 from rfl,List.drop_zero]at h
  rw[if_neg (by simp),h,oB]
  cases Z09 es<;>rfl
theorem x0b(l:List K0)(q:l.length<=140737488355328){i:Nat}{a:K0}(b:l[i]?=some a):∀(d k fuel:Nat),k+d=i->d<fuel ->
  i7 (i:Int) l fuel (k:Int)=some (bif noC a ((l.take i).drop k)then .inr ()else .inl false)
 |d,k,0,e,hf=>by omega
 |0,k,fuel+1,e,hf=>by
  have:=(List.getElem?_eq_some_iff.1 b).1
  rw[i7.eq_2,if_neg (by simp;omega),M1 (by simp;omega)]
  rfl
 |d+1,k,fuel+1,e,hf=>by
  have t:=(List.getElem?_eq_some_iff.1 b).1
  have f:k<l.length:=by omega
  have c:=c5 f
  have g:(l.take i)[k]?=some l[k]:=by rw[List.getElem?_take,if_pos (by omega)];exact c
  have s:=x0b l q b d (k+1) fuel (by omega) (by omega)
  generalize l[k]=x at c g
  obtain⟨h,j,m⟩:=a
  obtain⟨n,o,p⟩:=x
  rw[i7.eq_2,if_pos (by simp;omega),B3 b,oB,Q1 g]
  simp only[B3 c,oB,O0s,noC]
  cases hc:z03 (h,j,m) (n,o,p)with
  |true=>rfl
  |false =>
   rw[if_neg (by simp),V2 f (by omega),s]
   simp
theorem N0n{a:Type}{xs:List a}{k:Nat}{x:a}(h:xs[k]?=some x):xs.take (k+1)=xs.take k ++ [x]:=by
 obtain⟨b,rfl⟩:=List.getElem?_eq_some_iff.1 h
 exact List.take_succ_eq_append_getElem b
theorem y0b(r n:Int)(l:List K0)(f:U0 (r,n,l)=true)(b:l.length<=140737488355328):∀(d k fuel:Nat),k+d=l.length->d<fuel ->
  C5 l r n fuel (k:Int)=some (bif j0f (l.take k) (l.drop k)then .inr ()else .inl false)
 |d,k,0,c,hf=>by omega
 |0,k,fuel+1,c,hf=>by
  have e:decide ((k:Int)<(l.length:Int))=false:=by simp;omega
  rw[C5.eq_2,e,G2,oB,if_neg (by simp),M1 (by omega)]
  rfl
 |d+1,k,fuel+1,c,hf=>by
  have g:k<l.length:=by omega
  have a:=c5 g
  generalize l[k]=x at a
  have h0:=x0b l b a k 0 W0 (by omega) (F1 (by omega))
  rw[show((0:Nat):Int)=0 from rfl,List.drop_zero]at h0
  have e:decide ((k:Int)<(l.length:Int))=true:=by simp;omega
  rw[C5.eq_2,e,O1,g9 (r,n,l) b,oB,f,if_pos (show(bif true then true else false)=true from rfl),h0,oB,Q1 a]
  simp only[j0f]
  cases noC x (l.take k)with
  |false=>rfl
  |true =>
   simp only[cond_true,j0p,Bool.true_and]
   rw[V2 g (by omega),←N0n a]
   exact y0b r n l f b d (k+1) fuel (by omega) (by omega)
theorem I05(g:l0)(a:g.2.2.length<=140737488355328):K9 g=some (F0 g):=by
 have b:=g9 g a
 obtain⟨r,n,es⟩:=g
 unfold K9 F0
 simp only[b,oB]
 cases hg:U0 (r,n,es)with
 |false =>
  have c:C5 es r n W0 0=some (.inr ()):=by
   rw[show W0=(W0-1)+1 from rfl,C5.eq_2]
   by_cases e:decide ((0:Int)<(es.length:Int))=true
   ·rw[e,O1,b,oB,hg,if_neg (by simp)]
   ·rw[Bool.not_eq_true]at e
    rw[e,G2,oB,if_neg (by simp)]
  rw[c]
  rfl
 |true =>
  have h:=y0b r n es hg a es.length 0 W0 (by omega) (F1 a)
  rw[show((0:Nat):Int)=0 from rfl,List.drop_zero,List.take_zero,p0p]at h
  rw[h,oB]
  cases Z09 es<;>rfl
def A2(g:l0):Int->List Int->Int×Nat
 |v,[]=>(v,0)
 |v,x::w=>if Q0 g v x<0 then(v,0)else((A2 g (Q0 g v x) w).1,(A2 g (Q0 g v x) w).2+1)
theorem R02(g:l0):∀(w:List Int) (v:Int),(A2 g v w).2<=w.length
 | [],v=>by simp[A2]
 |x::w,v=>by
  have:=R02 g w (Q0 g v x)
  unfold A2
  split
  ·simp
  ·simp only[List.length_cons];omega
theorem b07{g:l0}(a:inG g)(b:g.2.1<=40):∀(w:List Int) (v:Int),J0 v->J0 (A2 g v w).1
 | [],v,h=>h
 |x::w,v,h=>by
  unfold A2
  split
  ·exact h
  ·exact b07 a b w _ (G03 a b v x)
def i0s(q:Int×Nat)(n:Nat)(k:Nat):(Int×Int) ⊕ Int:=bif decide (q.2<n)then .inl (q.1,((k+q.2:Nat):Int))else .inr q.1
theorem r0d(r n:Int)(es:List K0)(f:inG (r,n,es))(g:n<=40)(e:es.length<=1099511627776)(w:List Int)(i:∀ x∈w,Y3 x)(l:w.length<=140737488355328):∀(d k fuel:Nat) (v:Int),k+d=w.length->d<fuel ->
  Z5 w r n es fuel v (k:Int)=some (i0s (A2 (r,n,es) v (w.drop k)) d k)
 |d,k,0,v,c,hf=>by omega
 |0,k,fuel+1,v,c,hf=>by
  rw[Z5.eq_2,if_neg (by simp;omega),M1 (by omega)]
  rfl
 |d+1,k,fuel+1,v,c,hf=>by
  have a:k<w.length:=by omega
  have b:=c5 a
  have j:=i _ (List.getElem_mem a)
  generalize w[k]=x at b j
  rw[Z5.eq_2,if_pos (by simp;omega),B3 b,oB,f02 (r,n,es) v x j e,oB,I0 (G03 f g v x),oB,Q1 b]
  unfold A2
  by_cases h:Q0 (r,n,es) v x<0
  ·rw[if_pos (by simpa using h),if_pos h]
   simp[i0s]
  ·rw[if_neg (by simpa using h),if_neg h,V2 a (by omega),r0d r n es f g e w i l d (k+1) fuel _ (by omega) (by omega)]
   unfold i0s
   simp only[Nat.add_lt_add_iff_right]
   congr 2
   simp only[Nat.add_assoc,Nat.add_comm 1]
theorem c0j(g:l0)(c:inG g)(d:g.2.1<=40)(b:g.2.2.length<=1099511627776)(v:Int)(w:List Int)(e:∀ x∈w,Y3 x)(a:w.length<=140737488355328):G9 g v w=some ((A2 g v w).1,(((A2 g v w).2:Nat):Int)):=by
 obtain⟨r,n,es⟩:=g
 unfold G9
 have h:=r0d r n es c d b w e a w.length 0 W0 v (by omega) (F1 a)
 rw[show((0:Nat):Int)=0 from rfl,List.drop_zero]at h
 have f:=R02 (r,n,es) w v
 simp only[h,oB,i0s]
 by_cases hc:(A2 (r,n,es) v w).2<w.length
 ·simp[hc,Q8]
 ·have:(A2 (r,n,es) v w).2=w.length:=by omega
  simp[this,Q8]
theorem s0d(r n:Int)(es:List K0)(f:inG (r,n,es))(g:n<=40)(e:es.length<=1099511627776)(w:List Int)(i:∀ x∈w,Y3 x)(l:w.length<=140737488355328):∀(d k fuel:Nat) (v:Int),k+d=w.length->d<fuel ->
  j7 w r n es fuel v (k:Int)=some (bif decide ((A2 (r,n,es) v (w.drop k)).2<d)then .inl (-1,false)else .inr (A2 (r,n,es) v (w.drop k)).1)
 |d,k,0,v,c,hf=>by omega
 |0,k,fuel+1,v,c,hf=>by
  rw[j7.eq_2,if_neg (by simp;omega),M1 (by omega)]
  rfl
 |d+1,k,fuel+1,v,c,hf=>by
  have a:k<w.length:=by omega
  have b:=c5 a
  have j:=i _ (List.getElem_mem a)
  generalize w[k]=x at b j
  rw[j7.eq_2,if_pos (by simp;omega),B3 b,oB,i0f (r,n,es) v x j e,oB,I0 (G03 f g v x),oB,Q1 b]
  unfold A2
  by_cases h:Q0 (r,n,es) v x<0
  ·rw[if_pos (by simpa using h),if_pos h]
   simp
  ·rw[if_neg (by simpa using h),if_neg h,V2 a (by omega),s0d r n es f g e w i l d (k+1) fuel _ (by omega) (by omega)]
   simp only[Nat.add_lt_add_iff_right]
theorem D0t(g:l0)(hf:F0 g=true)(v:Int)(j:0<=v/\v<g.2.1)(w:List Int)(k:∀ x∈w,Y3 x)(a:w.length<=140737488355328):
  E01 g v w=some (bif decide ((A2 g v w).2<w.length)then(-1,false)else((A2 g v w).1,true)):=by
 have f:U0 g=true:=by unfold F0 at hf;simp only[Bool.and_eq_true]at hf;exact hf.1
 obtain⟨e,_,b,d⟩:=O2 f
 have c:=I05 g (by omega)
 obtain⟨r,n,es⟩:=g
 simp only at j b d
 unfold E01
 have h:=s0d r n es e b.2 (by omega) w k a w.length 0 W0 v (by omega) (F1 a)
 rw[show((0:Nat):Int)=0 from rfl,List.drop_zero]at h
 have i:inR 0 (n-1) v=true:=by simp only[inR,Bool.and_eq_true,decide_eq_true_eq];omega
 simp only[c,hf,oB,Bool.not_true,Bool.not_false,O1,M04,w64 (show -9223372036854775808<=n-1 by omega) (show n-1<=9223372036854775807 by omega),i,cond_false,Bool.false_eq_true,if_false,h]
 cases decide ((A2 (r,n,es) v w).2<w.length)<;>rfl
theorem S0{g:l0}(h:F0 g=true):inG g/\(1<=g.1/\g.1<=3)/\(1<=g.2.1/\g.2.1<=40)/\g.2.2.length<=120:=by
 unfold F0 at h
 simp only[Bool.and_eq_true]at h
 exact O2 h.1
def D04(v:Int)(e:K0):Nat:=(if e.1=v then 1 else 0)+(if e.2.2=v then 1 else 0)
def B00(v:Int):List K0->Nat
 | []=>0
 |e::r=>D04 v e+B00 v r
theorem j0s(v:Int)(e:K0):D04 v e<=2:=by unfold D04;split<;>split<;>omega
theorem d0j(v:Int):∀ l,B00 v l<=2*l.length
 | []=>by simp[B00]
 |e::r=>by have:=j0s v e;have:=d0j v r;simp only[B00,List.length_cons];omega
theorem k0f(es:List K0)(v:Int)(o:es.length<=1099511627776):∀(d k fuel acc:Nat),k+d=es.length->d<fuel->acc<=2*k ->
  U3 es v fuel (acc:Int) (k:Int)=some ((acc+B00 v (es.drop k):Nat):Int)
 |d,k,0,acc,j,hf,i=>by omega
 |0,k,fuel+1,acc,j,hf,i=>by
  rw[U3.eq_2,if_neg (by simp;omega),M1 (by omega)];rfl
 |d+1,k,fuel+1,acc,j,hf,i=>by
  have m:k<es.length:=by omega
  have f:=c5 m
  generalize es[k]=e at f
  obtain⟨a,l,b⟩:=e
  have c:=λn h=>k0f es v o d (k+1) fuel n (by omega) (by omega) h
  have g:IntKind.i64.wrap ((acc:Int)+1)=((acc+1:Nat):Int):=by rw[w64 (by omega) (by omega)];rfl
  have p:IntKind.i64.wrap (((acc+1:Nat):Int)+1)=((acc+2:Nat):Int):=by rw[w64 (by omega) (by omega)];rfl
  rw[U3.eq_2,if_pos (by simp;omega),B3 f,Q1 f]
  simp only[oB,B00,D04,V2 m (show es.length<=9223372036854775807 by omega)]
  by_cases c1:a=v
  ·rw[if_pos (by simpa using c1),if_pos c1]
   by_cases c2:b=v
   ·rw[if_pos (by simpa using c2),if_pos c2,g,p,c _ (by omega)];congr 2;omega
   ·rw[if_neg (by simpa using c2),if_neg c2,g,c _ (by omega)];congr 2;omega
  ·rw[if_neg (by simpa using c1),if_neg c1]
   by_cases c2:b=v
   ·rw[if_pos (by simpa using c2),if_pos c2,g,c _ (by omega)];congr 2;omega
   ·rw[if_neg (by simpa using c2),if_neg c2,c _ (by omega)];congr 2;omega
theorem l0f(es:List K0)(v:Int):∀(fuel:Nat) (x y:Int),D5 es v fuel x y=U3 es v fuel x y
 |0,x,y=>rfl
 |fuel+1,x,y=>by
  rw[D5.eq_2,U3.eq_2]
  simp only[l0f es v fuel]
  by_cases c:(decide (y<((es.length:Nat):Int)))=true
  ·rw[if_pos c,if_pos c]
   cases hg:gi es y with
   |none=>rfl
   |some e=>simp only[oB]
  ·rw[if_neg c,if_neg c]
theorem u0h(g:l0)(v:Int)(a:g.2.2.length<=1099511627776):x00 g v=some ((B00 v g.2.2:Nat):Int):=by
 obtain⟨r,n,es⟩:=g
 unfold x00
 have h:=k0f es v a es.length 0 W0 0 (by omega) (F1 (by simp only at a;omega)) (Nat.zero_le _)
 rw[show((0:Nat):Int)=0 from rfl,List.drop_zero,Nat.zero_add]at h
 simp only[h,oB]
theorem q0p(g:l0)(v:Int)(a:g.2.2.length<=1099511627776):F01 g v=some ((B00 v g.2.2:Nat):Int):=by
 have h:=u0h g v a
 obtain⟨r,n,es⟩:=g
 unfold F01
 unfold x00 at h
 simp only[l0f]at h ⊢
 exact h
def l06(g h:l0):Bool:=decide (g=h)
theorem t09(x y:K0):eqE x y=true↔x=y:=by simp[eqE]
theorem t0d(a b:List K0)(l:a.length=b.length)(j:a.length<=9223372036854775807):∀(d k fuel:Nat),k+d=a.length->d<fuel ->
  K1 a b fuel (k:Int)=some (if a.drop k=b.drop k then .inr ()else .inl false)
 |d,k,0,g,hf=>by omega
 |0,k,fuel+1,g,hf=>by
  rw[K1.eq_2,if_neg (by simp;omega),M1 (by omega),M1 (by omega)];rfl
 |d+1,k,fuel+1,g,hf=>by
  have i:k<a.length:=by omega
  have m:k<b.length:=by omega
  have e:=c5 i
  have f:=c5 m
  generalize a[k]=x at e
  generalize b[k]=y at f
  have o:=t0d a b l j d (k+1) fuel (by omega) (by omega)
  rw[K1.eq_2,if_pos (by simp;omega),B3 e,B3 f,Q1 e,Q1 f]
  simp only[oB,V2 i j,o]
  by_cases c:x=y
  ·subst c
   rw[if_neg (by simp[eqE])]
   simp
  ·have n:eqE x y=false:=Bool.eq_false_iff.2 λh=>c ((t09 x y).1 h)
   rw[if_pos (show(!eqE x y)=true by rw[n];rfl),if_neg (by simp[c])]
theorem m0f(a b:List K0)(d:a.length<=9223372036854775807):C3 a b=some (decide (a=b)):=by
 unfold C3
 by_cases hab:a.length=b.length
 ·have h:=t0d a b hab d a.length 0 W0 (by omega) (by unfold W0;omega)
  rw[if_neg (by simp;omega),show(0:Int)=((0:Nat):Int) from rfl,h,List.drop_zero,List.drop_zero]
  by_cases c:a=b
  ·rw[if_pos c];simp[Q8,c]
  ·rw[if_neg c];simp[Q8,c]
 ·rw[if_pos (by simp;omega)]
  congr 1
  symm
  simp
  intro h;exact hab (by rw[h])
theorem A0c(g h:l0)(b:g.2.2.length<=9223372036854775807):B6 g h=some (l06 g h):=by
 obtain⟨r,n,es⟩:=g
 obtain⟨d,c,a⟩:=h
 unfold B6 l06
 simp only[Prod.mk.injEq]
 by_cases c1:r=d<;>by_cases c2:n=c<;>simp[c1,c2,O1,G2,m0f es a b]
theorem v0h(a b:List K0):∀(fuel:Nat) (k:Int),w6 a b fuel k=K1 a b fuel k
 |0,k=>rfl
 |fuel+1,k=>by
  rw[w6.eq_2,K1.eq_2]
  simp only[v0h a b fuel]
theorem w0h(g h:l0)(b:g.2.2.length<=9223372036854775807):K7 g h=some (l06 g h):=by
 have a:=m0f g.2.2 h.2.2 b
 obtain⟨r,n,es⟩:=g
 obtain⟨d,c,e⟩:=h
 unfold K7 l06
 unfold C3 at a
 simp only[v0h,Prod.mk.injEq]at a ⊢
 by_cases c1:r=d
 ·by_cases c2:n=c
  ·simp only[c1,c2,decide_true,Bool.not_true,cond_false,true_and]
   rw[←a]
  ·simp[c1,c2]
 ·simp[c1]
def goE(x:K0):List K0->Bool×List K0
 | []=>(false,[])
 |y::l=>if T0 x y<0 then(true,x::y::l)else if T0 x y=0 then(true,y::l)else((goE x l).1,y::(goE x l).2)
theorem O0n(x:K0):∀ l,w01 T0 x l=bif(goE x l).1 then(goE x l).2 else(goE x l).2 ++ [x]
 | []=>rfl
 |y::l=>by
  have a:=O0n x l
  unfold w01 goE
  by_cases c1:T0 x y<0
  ·rw[if_pos c1,if_pos c1];rfl
  ·rw[if_neg c1,if_neg c1]
   by_cases c2:T0 x y=0
   ·rw[if_pos c2,if_pos c2];rfl
   ·rw[if_neg c2,if_neg c2,a];cases (goE x l).1<;>rfl
theorem B0c(l:List K0)(w0 i j:Int)(n:l.length<=1099511627776):∀(d k fuel:Nat) (acc:List K0),k+d=l.length->d<fuel->acc.length<=k+1 ->
  K4 l w0 i j fuel true (k:Int) acc=some (true,acc++l.drop k)
 |d,k,0,acc,g,hf,f=>by omega
 |0,k,fuel+1,acc,g,hf,f=>by
  rw[K4.eq_2,if_neg (by simp;omega),M1 (by omega),List.append_nil]
 |d+1,k,fuel+1,acc,g,hf,f=>by
  have h:k<l.length:=by omega
  have c:=c5 h
  generalize l[k]=e at c
  obtain⟨a,x,b⟩:=e
  have o:=B0c l w0 i j n d (k+1) fuel (acc ++ [(a,x,b)]) (by omega) (by omega) (by simp;omega)
  rw[K4.eq_2,if_pos (by simp;omega),Q1 c]
  simp only[B3 c,oB,f03,I0 (h0e _ _),V2 h (show l.length<=9223372036854775807 by omega),Bool.not_true]
  have m:∀ b:Bool,(bif b then false else false)=false:=λb=>by cases b<;>rfl
  simp only[m,Bool.false_eq_true,if_false]
  rw[I0 (by simp;omega),oB,o]
  simp
theorem n0f(l:List K0)(w0 c f:Int)(h:l.length<=1099511627776):∀(d k fuel:Nat) (acc:List K0),k+d=l.length->d<fuel->acc.length=k ->
  K4 l w0 c f fuel false (k:Int) acc=some ((goE (w0,c,f) (l.drop k)).1,acc++(goE (w0,c,f) (l.drop k)).2)
 |d,k,0,acc,j,hf,i=>by omega
 |0,k,fuel+1,acc,j,hf,i=>by
  rw[K4.eq_2,if_neg (by simp;omega),M1 (by omega)];simp[goE]
 |d+1,k,fuel+1,acc,j,hf,i=>by
  have m:k<l.length:=by omega
  have g:=c5 m
  generalize l[k]=e at g
  obtain⟨a,x,b⟩:=e
  have n:=n0f l w0 c f h d (k+1) fuel (acc ++ [(a,x,b)]) (by omega) (by omega) (by simp;omega)
  have o:=B0c l w0 c f h d (k+1) fuel (acc ++ [(a,x,b)]) (by omega) (by omega) (by simp;omega)
  have p:=B0c l w0 c f h d (k+1) fuel ((acc ++ [(w0,c,f)]) ++ [(a,x,b)]) (by omega) (by omega) (by simp;omega)
  rw[K4.eq_2,if_pos (by simp;omega),Q1 g]
  simp only[B3 g,oB,f03,I0 (h0e _ _),V2 m (show l.length<=9223372036854775807 by omega),Bool.not_true,Bool.not_false,goE]
  show _=_
  unfold d0f
  by_cases c1:T0 (w0,c,f) (a,x,b)=0
  ·rw[if_pos (by simpa using c1),if_neg (by simp[c1]),if_neg (by omega),if_pos c1]
   rw[I0 (by simp;omega),oB,o];simp
  ·rw[if_neg (by simpa using c1)]
   by_cases c2:T0 (w0,c,f) (a,x,b)<0
   ·rw[if_pos (by simp[c2]),if_pos c2,I0 (by simp;omega),oB,I0 (by simp;omega),oB,p];simp
   ·rw[if_neg (by simp[c2]),if_neg c2,if_neg c1,I0 (by simp;omega),oB,n];simp
theorem u09(l:List K0)(e:K0)(c:l.length<=1099511627776):b9 l e=some (w01 T0 e l):=by
 obtain⟨w0,a,b⟩:=e
 unfold b9
 have h:=n0f l w0 a b c l.length 0 W0 [] (by omega) (F1 (by omega)) rfl
 rw[show((0:Nat):Int)=0 from rfl,List.drop_zero,List.nil_append]at h
 simp only[h,oB,O0n]
 have d:∀ l:List K0,(goE (w0,a,b) l).2.length<=l.length+1:=λl=>by
  induction l with
  |nil=>simp[goE]
  |cons y l f =>
   unfold goE
   split
   ·simp
   ·split
    ·simp
    ·simp only[List.length_cons];omega
 have:=d l
 cases (goE (w0,a,b) l).1 with
 |true=>rfl
 |false =>
  simp only[Bool.not_false,if_true,cond_false]
  rw[I0 (by simp;omega),oB]
theorem c07(e:K0):∀ l:List K0,(w01 T0 e l).length<=l.length+1
 | []=>by simp[w01]
 |y::l=>by
  have:=c07 e l
  unfold w01
  split
  ·simp
  ·split
   ·simp
   ·simp only[List.length_cons];omega
theorem H08(es:List K0)(a:es.length<=1099511627776):c9 es=some (K5 T0 [] es):=by
 unfold c9
 rw[I0 (by simp;omega),oB,I0 (by simp;omega),oB,List.nil_append]
 exact congrArg some (G0k L3 t09 es es λ_=>Iff.rfl)
theorem I07(g:l0)(a:g.2.2.length<=1099511627776):I6 g=some g:=by
 obtain⟨r,n,es⟩:=g
 unfold I6
 simp only
 rw[I0 (by simp only[List.length_nil,Nat.zero_add];simp only at a;omega)];rfl
theorem L9(g:l0)(a:g.2.2.length<=1099511627776):N3 g=some g:=by
 obtain⟨r,n,es⟩:=g
 unfold N3
 simp only
 rw[I0 (by simp only[List.length_nil,Nat.zero_add];simp only at a;omega)];rfl
inductive Rch (es:List K0) (v:Int):Int->Prop
 |base:Rch es v v
 |fwd {e:K0}:e∈es->Rch es v e.1->Rch es v e.2.2
 |bwd {e:K0}:e∈es->Rch es v e.2.2->Rch es v e.1
theorem Rch.closed{es:List K0}{v:Int}:∀ e∈es,Rch es v e.1↔Rch es v e.2.2:=λe a=>⟨.fwd a,.bwd a⟩
theorem Rch.sub{es:List K0}{v:Int}{P:Int->Prop}(c:P v)(a:∀ e∈es,P e.1↔P e.2.2):∀ {x},Rch es v x->P x
 |_,.base=>c
 |_,.fwd b h=>(a _ b).1 (Rch.sub c a h)
 |_,.bwd b h=>(a _ b).2 (Rch.sub c a h)
def e00(S:List Bool)(i:Int):Bool:=S.getD i.toNat false
def stJ(S:List Bool)(e:K0):List Bool:=(S.set e.1.toNat true).set e.2.2.toNat true
def pJ:List K0->Bool->List Bool->Bool×List Bool
 | [],c,S=>(c,S)
 |e::r,c,S=>bif e00 S e.1 == e00 S e.2.2 then pJ r c S else pJ r true (stJ S e)
def cF:List Bool->Nat
 | []=>0
 |b::r=>(bif b then 0 else 1)+cF r
theorem z0m:∀(S:List Bool) (i:Nat),cF (S.set i true)<=cF S
 | [],i=>by simp[cF]
 |b::r,0=>by simp[cF]
 |b::r,i+1=>by have:=z0m r i;simp only[List.set_cons_succ,cF];omega
theorem H0q:∀(S:List Bool) (i:Nat),S[i]?=some false->cF (S.set i true)<cF S
 | [],i,h=>by simp at h
 |b::r,0,h=>by simp at h;subst h;simp[cF]
 |b::r,i+1,h=>by have:=H0q r i (by simpa using h);simp only[List.set_cons_succ,cF];omega
theorem P0s:∀ S:List Bool,cF S<=S.length
 | []=>by simp[cF]
 |b::r=>by have:=P0s r;cases b<;>simp only[cF,List.length_cons,cond_true,cond_false]<;>omega
def inN(n:Nat)(es:List K0):Prop:=∀ e∈es,(0<=e.1/\e.1<(n:Int))/\(0<=e.2.2/\e.2.2<(n:Int))
theorem I08{S:List Bool}{i:Nat}(h:i<S.length)(x:Int):e00 (S.set i true) x=(decide (x.toNat=i) || e00 S x):=by
 unfold e00
 rw[List.getD_eq_getElem?_getD,List.getD_eq_getElem?_getD,List.getElem?_set]
 by_cases c:i=x.toNat
 ·rw[if_pos c,if_pos (by omega)];simp[c]
 ·rw[if_neg c]
  have:decide (x.toNat=i)=false:=by simp;exact λe=>c e.symm
  rw[this];rfl
theorem A0m:∀(es:List K0) (c:Bool) (S:List Bool),(pJ es c S).2.length=S.length
 | [],c,S=>rfl
 |e::r,c,S=>by
  unfold pJ
  cases e00 S e.1 == e00 S e.2.2
  ·simp only[cond_false];rw[A0m r];simp[stJ]
  ·simp only[cond_true];exact A0m r c S
theorem e0j{n:Nat}:∀(es:List K0) (c:Bool) (a:List Bool),a.length=n->inN n es->∀ x,e00 a x=true->e00 (pJ es c a).2 x=true
 | [],c,a,b,d,x,h=>h
 |e::r,c,a,b,d,x,h=>by
  have f:=d e mS
  have g:inN n r:=λe f=>d e (mC _ f)
  unfold pJ
  cases e00 a e.1 == e00 a e.2.2
  ·simp only[cond_false]
   refine e0j r _ _ (by simp[stJ,b]) g x ?_
   rw[stJ,I08 (by rw[List.length_set];omega),I08 (by omega),h];simp
  ·simp only[cond_true];exact e0j r c a b g x h
theorem o0f{n:Nat}{P:Int->Prop}:∀(es:List K0) (c:Bool) (a:List Bool),a.length=n->inN n es->(∀ e∈es,P e.1↔P e.2.2)->(∀ x,0<=x->e00 a x=true->P x)->∀ x,0<=x->e00 (pJ es c a).2 x=true->P x
 | [],c,a,g,i,f,d,x,h0,h=>d x h0 h
 |e::r,c,a,g,i,f,d,x,h0,h=>by
  have b:=i e mS
  have m:inN n r:=λe b=>i e (mC _ b)
  have j:=λe b=>f e (mC _ b)
  have k:=f e mS
  unfold pJ at h
  cases hb:e00 a e.1 == e00 a e.2.2
  ·rw[hb]at h
   refine o0f r true (stJ a e) (by simp[stJ,g]) m j (λy o h=>?_) x h0 h
   rw[stJ,I08 (by rw[List.length_set];omega),I08 (by omega)]at h
   simp only[Bool.or_eq_true,decide_eq_true_eq]at h
   have l:P e.1∨P e.2.2:=by
    cases h1:e00 a e.1
    ·cases h2:e00 a e.2.2
     ·rw[h1,h2]at hb;cases hb
     ·exact .inr (d _ b.2.1 h2)
    ·exact .inl (d _ b.1.1 h1)
   rcases h with h|h|h
   ·have:y=e.2.2:=by omega
    subst this;exact l.elim k.1 id
   ·have:y=e.1:=by omega
    subst this;exact l.elim id k.2
   ·exact d y o h
  ·rw[hb]at h
   exact o0f r c a g m j d x h0 h
theorem B0m{n:Nat}:∀(es:List K0) (c:Bool) (a:List Bool),a.length=n->inN n es->cF (pJ es c a).2<=cF a/\((pJ es c a).1=true->c=true∨cF (pJ es c a).2<cF a)/\((pJ es c a).1=false->c=false/\(pJ es c a).2=a/\∀ e∈es,e00 a e.1=e00 a e.2.2)
 | [],c,a,k,l=>⟨Nat.le_refl _,λh => .inl h,λh=>⟨h,rfl,λe b=>nomatch b⟩⟩
 |e::r,c,a,k,l=>by
  have b:=l e mS
  have s:inN n r:=λe b=>l e (mC _ b)
  unfold pJ
  cases hb:e00 a e.1 == e00 a e.2.2
  ·simp only[cond_false]
   obtain⟨m,o,d⟩:=B0m r true (stJ a e) (by simp[stJ,k]) s
   have v:cF (stJ a e)<cF a:=by
    have g:∀(x:Int),0<=x->x<n->e00 a x=false->a[x.toNat]?=some false:=λx w y j=>by
     have p:x.toNat<a.length:=by omega
     unfold e00 at j
     rw[List.getD_eq_getElem?_getD,List.getElem?_eq_getElem p]at j
     rw[List.getElem?_eq_getElem p];simpa using j
    cases g1:e00 a e.1
    ·have:=H0q a _ (g _ b.1.1 b.1.2 g1)
     have:=z0m (a.set e.1.toNat true) e.2.2.toNat
     unfold stJ;omega
    ·have f:e00 a e.2.2=false:=by
      cases f:e00 a e.2.2
      ·rfl
      ·rw[g1,f]at hb;cases hb
     have u:(a.set e.1.toNat true)[e.2.2.toNat]?=some false:=by
      rw[List.getElem?_set]
      by_cases q:e.1.toNat=e.2.2.toNat
      ·exfalso
       have:e.1=e.2.2:=by omega
       rw[this,f]at g1;cases g1
      ·rw[if_neg q];exact g _ b.2.1 b.2.2 f
     have:=H0q _ _ u
     have:=z0m a e.1.toNat
     unfold stJ;omega
   refine⟨by omega,λ_ => .inr (by omega),λh=>?_⟩
   have:=(d h).1;cases this
  ·simp only[cond_true]
   obtain⟨m,o,d⟩:=B0m r c a k s
   refine⟨m,o,λh=>⟨(d h).1,(d h).2.1,λt i=>?_⟩⟩
   rcases List.mem_cons.1 i with rfl|i
   ·simpa using hb
   ·exact(d h).2.2 t i
theorem giB{a:List Bool}{n:Nat}(f:a.length=n){x:Int}(h0:0<=x)(d:x<n):gi a x=some (e00 a x):=by
 have c:x.toNat<a.length:=by omega
 have e:x=((x.toNat:Nat):Int):=by omega
 have b:gi a ((x.toNat:Nat):Int)=some (e00 a x):=by
  rw[x0c,List.getElem?_eq_getElem c]
  unfold e00
  rw[List.getD_eq_getElem?_getD,List.getElem?_eq_getElem c];rfl
 rw[←e]at b;exact b
theorem x0h(es:List K0){n:Nat}(q:inN n es)(p:es.length<=9223372036854775807):∀(d k fuel:Nat) (c:Bool) (f:List Bool),f.length=n->k+d=es.length->d<fuel ->
  F4 es fuel c (k:Int) f=some (pJ (es.drop k) c f)
 |d,k,0,c,f,g,m,hf=>by omega
 |0,k,fuel+1,c,f,g,m,hf=>by
  rw[F4.eq_2,if_neg (by simp;omega),M1 (by omega)];rfl
 |d+1,k,fuel+1,c,f,g,m,hf=>by
  have o:k<es.length:=by omega
  have j:=c5 o
  have i:=q _ (List.mem_of_getElem? j)
  generalize es[k]=e at j i
  obtain⟨a,l,b⟩:=e
  have s:=λu t h=>x0h es q p d (k+1) fuel u t h (by omega) (by omega)
  rw[F4.eq_2,if_pos (by simp;omega),Q1 j]
  simp only[B3 j,oB,giB g i.1.1 i.1.2,giB g i.2.1 i.2.2,V2 o p,giB (show(f.set a.toNat true).length=n by simp[g]) i.2.1 i.2.2,pJ]
  cases hb:e00 f a == e00 f b
  ·simp only[Bool.not_false,if_true,cond_false]
   exact s _ _ (by simp[g])
  ·simp only[Bool.not_true,Bool.false_eq_true,if_false,cond_true]
   exact s _ _ g
theorem y0h(es:List K0){n:Nat}(f:inN n es)(z:es.length<=9223372036854775806):∀(m fuel:Nat) (a:List Bool),a.length=n->cF a<=m->m+1<fuel ->
  ∃ b,Y4 es fuel true a=some b/\b.length=n/\(∀ x,e00 a x=true->e00 b x=true)/\(∀ e∈es,e00 b e.1=e00 b e.2.2) /\
   ∀ P:Int->Prop,(∀ e∈es,P e.1↔P e.2.2)->(∀ x,0<=x->e00 a x=true->P x)->∀ x,0<=x->e00 b x=true->P x
 |m,0,a,d,B,hf=>by omega
 |m,fuel+1,a,d,B,hf=>by
  have h0:=x0h es f (by omega) es.length 0 W0 false a d (by omega) (by unfold W0;omega)
  rw[show((0:Nat):Int)=0 from rfl,List.drop_zero]at h0
  obtain⟨p,i,j⟩:=B0m es false a d f
  have A:=A0m es false a
  rw[Y4.eq_2,if_pos rfl,h0,oB]
  have l:=e0j es false a d f
  have o:=λP=>o0f (P:=P) es false a d f
  generalize pJ es false a=q at *
  obtain⟨c,b⟩:=q
  simp only at p i j A l o ⊢
  cases c with
  |true =>
   rcases i rfl with h|h
   ·cases h
   ·obtain⟨S2,s,t,u,v,w⟩:=y0h es f z (m-1) fuel b (by omega) (by omega) (by omega)
    exact⟨S2,s,t,λx C=>u x (l x C),v,λP k g=>w P k (o P k g)⟩
  |false =>
   obtain⟨_,e,y⟩:=j rfl
   subst e
   obtain _|fuel:=fuel
   ·omega
   ·rw[Y4.eq_2,if_neg (by simp)]
    exact⟨_,rfl,d,λx h=>h,y,λP _ g=>g⟩
theorem K0k(r:Int)(n:Nat)(es:List K0)(p:inN n es)(o:es.length<=9223372036854775806)(s:1<=n)(t:n<=140737488355328):
  ∃ a,R9 (r,(n:Int),es) 0=some a/\a.length=n/\∀ x,0<=x->x<(n:Int)->(e00 a x=true↔Rch es 0 x):=by
 unfold R9
 simp only[Int.toNat_natCast]
 have m:gi (List.replicate n (false:Bool)) 0=some false:=by
  rw[a0j (x:=false)];rw[List.getElem?_replicate,if_pos (by omega)]
 rw[I0 (by omega),oB,m,oB]
 have k:((List.replicate n (false:Bool)).set (0:Int).toNat true).length=n:=by simp
 obtain⟨b,d,f,g,i,j⟩:=y0h es p o n W0 _ k (by have:=P0s ((List.replicate n (false:Bool)).set (0:Int).toNat true);omega) (by unfold W0;omega)
 rw[d]
 have c:∀ x,e00 ((List.replicate n (false:Bool)).set (0:Int).toNat true) x=decide (x.toNat=0):=λx=>by
  rw[I08 (by simp;omega)]
  have:e00 (List.replicate n false) x=false:=by
   unfold e00
   rw[List.getD_eq_getElem?_getD,List.getElem?_replicate]
   split<;>rfl
  rw[this];simp
 refine⟨b,rfl,f,λx h0 q=>⟨λh=>?_,λh=>?_⟩⟩
 ·refine j (Rch es 0) Rch.closed (λy u h=>?_) x h0 h
  rw[c]at h
  have:y=0:=by simp at h;omega
  subst this;exact .base
 ·exact Rch.sub (P:=λx=>e00 b x=true) (g 0 (by rw[c];rfl)) (λe l=>by rw[i e l]) h
theorem Q0s(l:List Int)(w:Int)(g:l.length<=9223372036854775807):∀(d k fuel:Nat),k+d=l.length->d<fuel ->
  t9 l w fuel (k:Int)=some (if w∈l.drop k then .inl true else .inr ())
 |d,k,0,b,hf=>by omega
 |0,k,fuel+1,b,hf=>by
  rw[t9.eq_2,if_neg (by simp;omega),M1 (by omega)];simp
 |d+1,k,fuel+1,b,hf=>by
  have f:k<l.length:=by omega
  have a:=c5 f
  generalize l[k]=x at a
  have i:=Q0s l w g d (k+1) fuel (by omega) (by omega)
  rw[t9.eq_2,if_pos (by simp;omega),Q1 a]
  simp only[B3 a,oB,V2 f g,i,List.mem_cons]
  by_cases c:x=w
  ·rw[if_pos (by simpa using c),if_pos (.inl c.symm)]
  ·rw[if_neg (by simpa using c)]
   by_cases c2:w∈l.drop (k+1)
   ·rw[if_pos c2,if_pos (.inr c2)]
   ·rw[if_neg c2,if_neg (λh=>h.elim (λe=>c e.symm) c2)]
theorem i0e(l:List Int)(w:Int)(a:l.length<=9223372036854775807):U9 l w=some (decide (w∈l)):=by
 unfold U9
 have h:=Q0s l w a l.length 0 W0 (by omega) (by unfold W0;omega)
 rw[show((0:Nat):Int)=0 from rfl,List.drop_zero]at h
 rw[h,oB]
 by_cases c:w∈l
 ·rw[if_pos c];simp[Q8,c]
 ·rw[if_neg c];simp[Q8,c]
def s1(u:List Int)(e:K0):List Int:=if e.1∈u then w01 D9 e.2.2 u else u
def s2(u:List Int)(e:K0):List Int:=if e.2.2∈u then w01 D9 e.1 u else u
def pS:List K0->List Int->List Int
 | [],u=>u
 |e::r,u=>pS r (s2 (s1 u e) e)
theorem C0c{u:List Int}{e:K0}{x:Int}:x∈s1 u e↔x∈u∨(e.1∈u/\x=e.2.2):=by
 unfold s1
 split
 ·rename_i h;rw[F08 O02];constructor
  ·rintro(a|a)
   ·exact .inr ⟨h,a⟩
   ·exact .inl a
  ·rintro(a|⟨_,a⟩)
   ·exact .inr a
   ·exact .inl a
 ·rename_i h;constructor
  ·exact .inl
  ·rintro(a|⟨a,_⟩)
   ·exact a
   ·exact absurd a h
theorem D0c{u:List Int}{e:K0}{x:Int}:x∈s2 u e↔x∈u∨(e.2.2∈u/\x=e.1):=by
 unfold s2
 split
 ·rename_i h;rw[F08 O02];constructor
  ·rintro(a|a)
   ·exact .inr ⟨h,a⟩
   ·exact .inl a
  ·rintro(a|⟨_,a⟩)
   ·exact .inr a
   ·exact .inl a
 ·rename_i h;constructor
  ·exact .inl
  ·rintro(a|⟨a,_⟩)
   ·exact a
   ·exact absurd a h
theorem I0q(u:List Int)(e:K0):(s1 u e).length<=u.length+1:=by
 unfold s1;split
 ·exact a07 _ _
 ·omega
theorem J0q(u:List Int)(e:K0):(s2 u e).length<=u.length+1:=by
 unfold s2;split
 ·exact a07 _ _
 ·omega
theorem C0m:∀(es:List K0) (u:List Int),(pS es u).length<=u.length+2*es.length
 | [],u=>by simp[pS]
 |e::r,u=>by
  have:=C0m r (s2 (s1 u e) e)
  have:=J0q (s1 u e) e
  have:=I0q u e
  simp only[pS,List.length_cons];omega
theorem J07:∀(es:List K0) (u:List Int) (x:Int),x∈u->x∈pS es u
 | [],u,x,h=>h
 |e::r,u,x,h=>J07 r _ x (D0c.2 (.inl (C0c.2 (.inl h))))
theorem p0f{P:Int->Prop}:∀(es:List K0) (u:List Int),(∀ e∈es,P e.1↔P e.2.2)->(∀ x∈u,P x)->∀ x∈pS es u,P x
 | [],u,b,a=>a
 |e::r,u,b,a=>p0f r _ (λe f=>b e (mC _ f)) λx g=>by
  have d:=b e mS
  have c:∀ y∈s1 u e,P y:=λy i=>by
   rcases C0c.1 i with h|⟨h,rfl⟩
   ·exact a y h
   ·exact d.1 (a _ h)
  rcases D0c.1 g with h|⟨h,rfl⟩
  ·exact c x h
  ·exact d.2 (c _ h)
theorem L0k:∀(es:List K0) (u:List Int) (e:K0),e∈es->e.1∈u∨e.2.2∈u->e.1∈pS es u/\e.2.2∈pS es u
 |c::r,u,e,a,h=>by
  simp only[pS]
  rcases List.mem_cons.1 a with rfl|a
  ·have b:e.2.2∈s1 u e:=by
    rcases h with h|h
    ·exact C0c.2 (.inr ⟨h,rfl⟩)
    ·exact C0c.2 (.inl h)
   exact⟨J07 r _ _ (D0c.2 (.inr ⟨b,rfl⟩)),J07 r _ _ (D0c.2 (.inl b))⟩
  ·exact L0k r _ e a (h.imp (λh=>D0c.2 (.inl (C0c.2 (.inl h)))) λh=>D0c.2 (.inl (C0c.2 (.inl h))))
def act(es:List K0)(u:List Int):Nat:=es.countP λe=>decide (e.1∈u)&&decide (e.2.2∈u)
def clo(es:List K0)(u:List Int):Prop:=∀ e∈es,e.1∈u↔e.2.2∈u
theorem E0t(es:List K0)(u:List Int):act es u<=es.length:=List.countP_le_length
theorem z0h{e:Type}{p q:e->Bool}:∀ {l:List e},(∀ x∈l,p x=true->q x=true)->(∃ x∈l,p x=false/\q x=true)->l.countP p<l.countP q
 | [],_,⟨x,a,_⟩=>nomatch a
 |y::l,h,⟨x,a,c,d⟩=>by
  have f:l.countP p<=l.countP q:=List.countP_mono_left λz b=>h z (mC _ b)
  rcases List.mem_cons.1 a with rfl|a
  ·rw[List.countP_cons_of_neg (by simp[c]),List.countP_cons_of_pos d];omega
  ·have g:=z0h (l:=l) (λz b=>h z (mC _ b)) ⟨x,a,c,d⟩
   cases hp:p y
   ·rw[List.countP_cons_of_neg (by simp[hp])]
    have:l.countP q<=(y::l).countP q:=by rw[List.countP_cons];omega
    omega
   ·rw[List.countP_cons_of_pos hp,List.countP_cons_of_pos (h y mS hp)];omega
theorem z0b{es:List K0}{u:List Int}(h:clo es u)(x:Int):x∈pS es u↔x∈u :=
 ⟨p0f (P:=λx=>x∈u) es u h (λ_ h=>h) x,J07 es u x⟩
theorem K0q{es:List K0}{u:List Int}:clo es (pS es u)∨act es u<act es (pS es u):=by
 by_cases h:clo es u
 ·left
  intro e a
  rw[z0b h,z0b h];exact h e a
 ·right
  have:∃ e∈es,¬ (e.1∈u↔e.2.2∈u):=by
   refine Classical.byContradiction λb=>h λe a=>?_
   exact Classical.byContradiction λd=>b ⟨e,a,d⟩
  obtain⟨e,a,c⟩:=this
  refine z0h (λx g h=>?_) ⟨e,a,?_,?_⟩
  ·simp only[Bool.and_eq_true,decide_eq_true_eq]at h ⊢
   exact⟨J07 _ _ _ h.1,J07 _ _ _ h.2⟩
  ·rw[Bool.eq_false_iff]
   intro h
   simp only[Bool.and_eq_true,decide_eq_true_eq]at h
   exact c ⟨λ_=>h.2,λ_=>h.1⟩
  ·have f:e.1∈u∨e.2.2∈u:=by
    refine Classical.byContradiction λb=>c ⟨λh=>absurd (.inl h) b,λh=>absurd (.inr h) b⟩
   have:=L0k es u e a f
   simp only[Bool.and_eq_true,decide_eq_true_eq];exact this
def itS(es:List K0):Nat->List Int->List Int
 |0,u=>u
 |j+1,u=>itS es j (pS es u)
theorem P0n(es:List K0):∀(j:Nat) (u:List Int),(itS es j u).length<=u.length+j*(2*es.length)
 |0,u=>by simp[itS]
 |j+1,u=>by have:=P0n es j (pS es u);have:=C0m es u;simp only[itS,Nat.add_mul,Nat.one_mul];omega
theorem Q0n(es:List K0):∀(j:Nat) (u:List Int),clo es u->clo es (itS es j u)
 |0,u,h=>h
 |j+1,u,h=>Q0n es j _ λe a=>by rw[z0b h,z0b h];exact h e a
theorem R0n(es:List K0):∀(j:Nat) (u:List Int),clo es (itS es j u)∨act es u+j<=act es (itS es j u)
 |0,u => .inr (Nat.le_refl _)
 |j+1,u=>by
  rcases K0q (es:=es) (u:=u)with h|h
  ·exact .inl (Q0n es j _ h)
  ·rcases R0n es j (pS es u)with a|a
   ·exact .inl a
   ·right;simp only[itS];omega
theorem M0k(es:List K0):∀(j:Nat) (u:List Int) (x:Int),x∈u->x∈itS es j u
 |0,u,x,h=>h
 |j+1,u,x,h=>M0k es j _ x (J07 es u x h)
theorem A0h{P:Int->Prop}(es:List K0)(b:∀ e∈es,P e.1↔P e.2.2):∀(j:Nat) (u:List Int),(∀ x∈u,P x)->∀ x∈itS es j u,P x
 |0,u,a=>a
 |j+1,u,a=>A0h es b j _ (p0f es u b a)
theorem H03(es:List K0)(v x:Int):x∈itS es (es.length+1) [v]↔Rch es v x:=by
 constructor
 ·exact A0h (P:=Rch es v) es Rch.closed _ _ (λy a=>by simp at a;subst a;exact .base) x
 ·have b:clo es (itS es (es.length+1) [v]):=by
   rcases R0n es (es.length+1) [v]with h|h
   ·exact h
   ·have:=E0t es (itS es (es.length+1) [v]);omega
  exact Rch.sub (P:=λx=>x∈itS es (es.length+1) [v]) (M0k _ _ _ _ (by simp)) b
theorem q0f(es:List K0)(p:es.length<=9223372036854775807):∀(d k fuel:Nat) (u:List Int),k+d=es.length->d<fuel->u.length+2*d<=1099511627776 ->
  S3 es fuel u (k:Int)=some (pS (es.drop k) u)
 |d,k,0,u,n,hf,q=>by omega
 |0,k,fuel+1,u,n,hf,q=>by
  rw[S3.eq_2,if_neg (by simp;omega),M1 (by omega)];rfl
 |d+1,k,fuel+1,u,n,hf,q=>by
  have o:k<es.length:=by omega
  have m:=c5 o
  generalize es[k]=e at m
  obtain⟨a,l,b⟩:=e
  have i:=λt h=>q0f es p d (k+1) fuel t (by omega) (by omega) h
  have s:=I0q u (a,l,b)
  have g:=J0q (s1 u (a,l,b)) (a,l,b)
  rw[S3.eq_2,if_pos (by simp;omega),Q1 m]
  simp only[B3 m,oB,i0e u _ (by omega),V2 o p,pS]
  by_cases c:a∈u
  ·rw[if_pos (by simpa using c),s0b _ _ (by omega),oB]
   have j:s1 u (a,l,b)=w01 D9 b u:=if_pos c
   rw[j]at s g ⊢
   rw[i0e _ _ (by omega),oB]
   by_cases c2:b∈w01 D9 b u
   ·rw[if_pos (by simpa using c2),s0b _ _ (by omega),oB]
    have f:s2 (w01 D9 b u) (a,l,b)=w01 D9 a (w01 D9 b u):=if_pos c2
    rw[f]at g ⊢
    exact i _ (by omega)
   ·rw[if_neg (by simpa using c2)]
    have f:s2 (w01 D9 b u) (a,l,b)=w01 D9 b u:=if_neg c2
    rw[f]
    exact i _ (by omega)
  ·rw[if_neg (by simpa using c)]
   have j:s1 u (a,l,b)=u:=if_neg c
   rw[j]at g ⊢
   by_cases c2:b∈u
   ·rw[if_pos (by simpa using c2),s0b _ _ (by omega),oB]
    have f:s2 u (a,l,b)=w01 D9 a u:=if_pos c2
    rw[f]at g ⊢
    exact i _ (by omega)
   ·rw[if_neg (by simpa using c2)]
    have f:s2 u (a,l,b)=u:=if_neg c2
    rw[f]
    exact i _ (by omega)
theorem r0f(es:List K0)(c:es.length<=120):∀(d k fuel:Nat) (u:List Int),k+d=es.length+1->d<fuel->u.length<=1+k*240 ->
  G5 es fuel u (k:Int)=some (itS es d u)
 |d,k,0,u,a,hf,b=>by omega
 |0,k,fuel+1,u,a,hf,b=>by
  rw[G5.eq_2,if_neg (by rw[w64 (by omega) (by omega)];simp;omega)];rfl
 |d+1,k,fuel+1,u,a,hf,b=>by
  have h0:=q0f es (by omega) es.length 0 W0 u (by omega) (F1 (by omega)) (by omega)
  rw[show((0:Nat):Int)=0 from rfl,List.drop_zero]at h0
  have e:=r0f es c d (k+1) fuel (pS es u) (by omega) (by omega) (by have:=C0m es u;omega)
  rw[G5.eq_2,if_pos (by rw[w64 (by omega) (by omega)];simp;omega),h0,oB,V2 (show k<1000 by omega) (by omega),e]
  rfl
def getI(P:List Int)(v:Int):Int:=P.getD v.toNat (-1)
def y01:List Int->Nat->List Int->List Int
 |A,k,[]=>A
 |A,k,v::r=>y01 (A.set v.toNat (k:Int)) (k+1) r
def plc(n:Nat)(o:List Int):List Int:=y01 (List.replicate n (-1)) 0 o
theorem s0f:∀(o:List Int) (k:Nat) (A:List Int),(y01 A k o).length=A.length
 | [],k,A=>rfl
 |v::r,k,A=>by rw[y01,s0f r];simp
def inV(n:Nat)(o:List Int):Prop:=∀ v∈o,0<=v/\v<(n:Int)
theorem giI{P:List Int}{n:Nat}(d:P.length=n){x:Int}(h0:0<=x)(c:x<n):gi P x=some (getI P x):=by
 have b:x.toNat<P.length:=by omega
 have e:x=((x.toNat:Nat):Int):=by omega
 have a:gi P ((x.toNat:Nat):Int)=some (getI P x):=by
  rw[x0c,List.getElem?_eq_getElem b]
  unfold getI
  rw[List.getD_eq_getElem?_getD,List.getElem?_eq_getElem b];rfl
 rw[←e]at a;exact a
theorem E04{A:List Int}{v x:Int}{y:Int}(h0:0<=v)(a:v.toNat<A.length)(b:0<=x):getI (A.set v.toNat y) x=if x=v then y else getI A x:=by
 unfold getI
 rw[List.getD_eq_getElem?_getD,List.getD_eq_getElem?_getD,List.getElem?_set]
 by_cases c:x=v
 ·rw[if_pos c,if_pos (by rw[c]),if_pos a];rfl
 ·rw[if_neg c,if_neg (by omega)]
theorem A0b{n:Nat}:∀(o:List Int) (k:Nat) (A:List Int),A.length=n->inV n o->(∀ x,0<=x -> -1<=getI A x/\getI A x<(k:Int))->∀ x,0<=x -> -1<=getI (y01 A k o) x/\getI (y01 A k o) x<((k+o.length:Nat):Int)
 | [],k,A,c,a,h,x,b=>h x b
 |v::r,k,A,c,a,h,x,b=>by
  have e:=a v mS
  have:=A0b r (k+1) (A.set v.toNat (k:Int)) (by simp[c]) (λw f=>a w (mC _ f)) (λy d=>by
   rw[E04 e.1 (by omega) d]
   have:=h y d
   split<;>omega) x b
  rw[y01,List.length_cons,show k+(r.length+1)=k+1+r.length by omega];exact this
theorem J08(n:Nat)(x:Int):getI (List.replicate n (-1)) x = -1:=by
 unfold getI
 rw[List.getD_eq_getElem?_getD,List.getElem?_replicate]
 split<;>rfl
theorem f05{n:Nat}{o:List Int}(b:inV n o){x:Int}(a:0<=x): -1<=getI (plc n o) x/\getI (plc n o) x<(o.length:Int):=by
 have:=A0b o 0 (List.replicate n (-1)) (by simp) b (λx a=>by rw[J08];omega) x a
 rw[Nat.zero_add]at this;exact this
theorem S0n(n:Nat)(o:List Int):(plc n o).length=n:=by unfold plc;rw[s0f];simp
def pE(P:List Int):List K0->List K0
 | []=>[]
 |e::r=>bif decide (0<=getI P e.1)&&decide (0<=getI P e.2.2)then(getI P e.1,e.2.1,getI P e.2.2)::pE P r else pE P r
theorem f0j(P:List Int):∀ es,(pE P es).length<=es.length
 | []=>by simp[pE]
 |e::r=>by
  have:=f0j P r
  unfold pE
  cases decide (0<=getI P e.1)&&decide (0<=getI P e.2.2)<;>simp only[cond_true,cond_false,List.length_cons]<;>omega
theorem R0s{n:Nat}{o:List Int}(d:inV n o):∀(es:List K0),inN n es->inN o.length (pE (plc n o) es)
 | [],c=>λe a=>nomatch a
 |e::r,c=>by
  have f:=R0s d r λe a=>c e (mC _ a)
  have a:=c e mS
  unfold pE
  cases hb:decide (0<=getI (plc n o) e.1)&&decide (0<=getI (plc n o) e.2.2)
  ·simpa only[cond_false] using f
  ·simp only[cond_true]
   simp only[Bool.and_eq_true,decide_eq_true_eq]at hb
   intro g b
   rcases List.mem_cons.1 b with rfl|b
   ·exact⟨⟨hb.1,(f05 d a.1.1).2⟩,hb.2,(f05 d a.2.1).2⟩
   ·exact f g b
def N5(g:l0)(o:List Int):l0:=(g.1,(o.length:Int),K5 T0 [] (pE (plc g.2.1.toNat o) g.2.2))
theorem g02:∀(r l:List K0),(K5 T0 l r).length<=l.length+r.length
 | [],l=>by simp[K5]
 |e::r,l=>by have:=g02 r (w01 T0 e l);have:=c07 e l;simp only[K5,List.length_cons];omega
theorem w0a(g:l0)(o:List Int):(N5 g o).2.2.length<=g.2.2.length:=by
 have:=g02 (pE (plc g.2.1.toNat o) g.2.2) []
 have:=f0j (plc g.2.1.toNat o) g.2.2
 simp only[N5,List.length_nil]at *;omega
theorem B0h{n:Nat}{r:Int}{es:List K0}{o:List Int}(c:inV n o)(b:inN n es):inN o.length (N5 (r,(n:Int),es) o).2.2:=by
 intro e a
 simp only[N5,Int.toNat_natCast]at a
 rcases(C4 L3 e _ _).1 a with h|h
 ·cases h
 ·exact R0s c es b e h
theorem T0n(n:Nat)(c:n<=140737488355328):∀(d k fuel:Nat),k+d=n->d<fuel ->
  a00 n fuel (k:Int) (List.replicate k (-1)++List.replicate d 0)=some (List.replicate n (-1))
 |d,k,0,a,hf=>by omega
 |0,k,fuel+1,a,hf=>by
  rw[a00.eq_2,if_neg (by simp;omega),show k=n by omega];simp
 |d+1,k,fuel+1,a,hf=>by
  have b:gi (List.replicate k (-1)++List.replicate (d+1) (0:Int)) (k:Int)=some 0:=by
   rw[x0c,List.getElem?_append_right (by simp)];simp
  have f:=T0n n c d (k+1) fuel (by omega) (by omega)
  rw[a00.eq_2,if_pos (by simp;omega),b,oB,V2 (show k<n by omega) (by omega),Int.toNat_natCast]
  have e:(List.replicate k (-1)++List.replicate (d+1) (0:Int)).set k (-1)=List.replicate (k+1) (-1)++List.replicate d 0:=by
   rw[List.set_append_right _ _ (by simp),List.length_replicate,Nat.sub_self,List.replicate_succ,List.set_cons_zero,List.replicate_succ']
   simp
  rw[e,f]
theorem U0n(o:List Int){n:Nat}(h:inV n o)(g:o.length<=9223372036854775807):∀(d k fuel:Nat) (A:List Int),A.length=n->k+d=o.length->d<fuel ->
  Z9 o fuel (k:Int) A=some (y01 A k (o.drop k))
 |d,k,0,A,a,e,hf=>by omega
 |0,k,fuel+1,A,a,e,hf=>by
  rw[Z9.eq_2,if_neg (by simp;omega),M1 (by omega)];rfl
 |d+1,k,fuel+1,A,a,e,hf=>by
  have f:k<o.length:=by omega
  have b:=c5 f
  have c:=h _ (List.mem_of_getElem? b)
  generalize o[k]=v at b c
  have i:=U0n o h g d (k+1) fuel (A.set v.toNat (k:Int)) (by simp[a]) (by omega) (by omega)
  rw[Z9.eq_2,if_pos (by simp;omega),Q1 b,B3 b,oB,giI a c.1 c.2,oB,V2 f g,i]
  rfl
theorem V0n(es:List K0){n:Nat}(q:inN n es)(t:es.length<=1099511627776)(P:List Int)(g:P.length=n)(r m:Int):∀(d k fuel:Nat) (acc:List K0),k+d=es.length->d<fuel->acc.length<=k ->
  d9 es P fuel (k:Int) r m acc=some (r,m,acc++pE P (es.drop k))
 |d,k,0,acc,o,hf,j=>by omega
 |0,k,fuel+1,acc,o,hf,j=>by
  rw[d9.eq_2,if_neg (by simp;omega),M1 (by omega)];simp[pE]
 |d+1,k,fuel+1,acc,o,hf,j=>by
  have p:k<es.length:=by omega
  have f:=c5 p
  have c:=q _ (List.mem_of_getElem? f)
  generalize es[k]=e at f c
  obtain⟨a,l,b⟩:=e
  have i:=λs h=>V0n es q t P g r m d (k+1) fuel s (by omega) (by omega) h
  rw[d9.eq_2,if_pos (by simp;omega),Q1 f]
  simp only[B3 f,oB,giI g c.1.1 c.1.2,giI g c.2.1 c.2.2,V2 p (show es.length<=9223372036854775807 by omega),pE]
  by_cases c1:0<=getI P a
  ·simp only[show decide (getI P a ≥ 0)=true by simpa using c1,O1,oB,cond_true,show decide (0<=getI P a)=true by simpa using c1,Bool.true_and]
   by_cases c2:0<=getI P b
   ·rw[if_pos (by simpa using c2),I0 (by simp;omega),oB,i _ (by simp;omega)]
    simp[c2]
   ·rw[if_neg (by simpa using c2),i _ (by omega)]
    simp[c2]
  ·simp only[show decide (getI P a ≥ 0)=false by simpa using c1,G2,oB,cond_false,show decide (0<=getI P a)=false by simpa using c1,Bool.false_and]
   rw[if_neg (by simp),i _ (by omega)]
theorem g0j(r:Int)(n:Nat)(es:List K0)(o:List Int)(d:inN n es)(e:inV n o)(g:n<=1000000)(c:es.length<=1099511627776)(f:o.length<=1099511627776):
  e02 (r,(n:Int),es) o=some (N5 (r,(n:Int),es) o):=by
 unfold e02
 have b:=T0n n (by omega) n 0 W0 (by omega) (F1 (by omega))
 have a:=U0n o e (by omega) o.length 0 W0 (List.replicate n (-1)) (by simp) (by omega) (F1 (by omega))
 have h0:=V0n es d c (plc n o) (S0n n o) r ((o.length:Nat):Int) es.length 0 W0 [] (by omega) (F1 (by omega)) (Nat.le_refl _)
 rw[show((0:Nat):Int)=0 from rfl]at h0 a b
 rw[List.replicate_zero,List.nil_append]at b
 rw[List.drop_zero]at a
 rw[List.drop_zero,List.nil_append]at h0
 simp only[Int.toNat_natCast]
 rw[I0 (by omega),oB,oB,List.length_replicate,I0 (by omega),oB,b,oB,a,oB]
 rw[show y01 (List.replicate n (-1)) 0 o=plc n o from rfl,h0]
 simp only[oB]
 rw[H08 _ (by have:=f0j (plc n o) es;omega),oB]
 rfl
theorem L0q(A:List Int)(i k:Nat):(A.map (·+1)).set i (((k+1:Nat):Int))=(A.set i (k:Int)).map (·+1):=by
 rw[List.map_set];rfl
theorem t0f{A:List Int}{n:Nat}(d:A.length=n){x:Int}(h0:0<=x)(c:x<n):gi (A.map (·+1)) x=some (getI A x+1):=by
 have b:x.toNat<A.length:=by omega
 have e:x=((x.toNat:Nat):Int):=by omega
 have a:gi (A.map (·+1)) ((x.toNat:Nat):Int)=some (getI A x+1):=by
  rw[x0c,List.getElem?_map,List.getElem?_eq_getElem b]
  unfold getI
  rw[List.getD_eq_getElem?_getD,List.getElem?_eq_getElem b];rfl
 rw[←e]at a;exact a
theorem u0f{n:Nat}:∀(o:List Int) (k:Nat) (A:List Int) (x:Int),A.length=n->inV n o->0<=x->x ∉ o->getI (y01 A k o) x=getI A x
 | [],k,A,x,c,a,b,h=>rfl
 |v::r,k,A,x,c,a,b,h=>by
  have f:=a v mS
  rw[y01,u0f r _ _ x (by simp[c]) (λw g=>a w (mC _ g)) b (λd=>h (mC _ d)),E04 f.1 (by omega) b,if_neg (λe=>h (by rw[e];exact mS))]
theorem M0q(r:Int)(n:Nat)(es:List K0)(o:List Int)(h:inV n o)(l:o.Nodup)(t:1<=n/\n<=1000000)(s:o.length<=1099511627776):∀(d k fuel:Nat) (A:List Int),A.length=n->(∀ x,0<=x -> -1<=getI A x/\getI A x<=1099511627776)->(∀ x∈o.drop k,getI A x = -1)->k+d=o.length->d<fuel ->
  L4 o (n:Int) r es fuel (k:Int) (A.map (·+1))=some (.inr ((y01 A k (o.drop k)).map (·+1)))
 |d,k,0,A,f,i,c,j,hf=>by omega
 |0,k,fuel+1,A,f,i,c,j,hf=>by
  rw[L4.eq_2,if_neg (by simp;omega),M1 (by omega)];rfl
 |d+1,k,fuel+1,A,f,i,c,j,hf=>by
  have m:k<o.length:=by omega
  have a:=c5 m
  have b:=h _ (List.mem_of_getElem? a)
  have g:=Q1 a
  generalize o[k]=v at a b g
  have p:(o.drop k).Nodup:=l.sublist (List.drop_sublist _ _)
  rw[g]at p c
  have q:=c v mS
  have w:=M0q r n es o h l t s d (k+1) fuel (A.set v.toNat (k:Int)) (by simp[f]) (λx a=>by
   rw[E04 b.1 (by omega) a];have:=i x a;split<;>omega) (λx a=>by
   have u:=h x (List.mem_of_mem_drop a)
   rw[E04 b.1 (by omega) u.1,if_neg (λe=>(List.nodup_cons.1 p).1 (by rw[←e];exact a))]
   exact c x (mC _ a)) (by omega) (by omega)
  rw[L4.eq_2,if_pos (by simp;omega),g,B3 a]
  simp only[oB,M04,w64 (show -9223372036854775808<=(n:Int)-1 by omega) (show(n:Int)-1<=9223372036854775807 by omega),inR,show decide (0<=v)=true by simpa using b.1,show decide (v<=(n:Int)-1)=true by simp;omega,Bool.and_self,Bool.not_true,Bool.not_false,O1,t0f f b.1 b.2,q,cond_false]
  rw[if_neg (by decide),V2 m (by omega),L0q,w]
  rfl
theorem N0q(es:List K0){n:Nat}(s:inN n es)(u:es.length<=1099511627776)(P:List Int)(g:P.length=n)(i:∀ x,0<=x -> -1<=getI P x/\getI P x<=1099511627776)(r m:Int):∀(d k fuel:Nat) (acc:List K0),k+d=es.length->d<fuel->acc.length<=k ->
  d4 es (P.map (·+1)) fuel (k:Int) r m acc=some (r,m,K5 T0 acc (pE P (es.drop k)))
 |d,k,0,acc,p,hf,o=>by omega
 |0,k,fuel+1,acc,p,hf,o=>by
  rw[d4.eq_2,if_neg (by simp;omega),M1 (by omega)];rfl
 |d+1,k,fuel+1,acc,p,hf,o=>by
  have q:k<es.length:=by omega
  have f:=c5 q
  have c:=s _ (List.mem_of_getElem? f)
  generalize es[k]=e at f c
  obtain⟨a,l,b⟩:=e
  have j:=λt h=>N0q es s u P g i r m d (k+1) fuel t (by omega) (by omega) h
  have v:=i a c.1.1
  have w:=i b c.2.1
  rw[d4.eq_2,if_pos (by simp;omega),Q1 f]
  simp only[B3 f,oB,t0f g c.1.1 c.1.2,t0f g c.2.1 c.2.2,V2 q (show es.length<=9223372036854775807 by omega),pE]
  by_cases c1:0<=getI P a
  ·simp only[show decide (getI P a+1>0)=true by simp;omega,O1,oB,cond_true,show decide (0<=getI P a)=true by simpa using c1,Bool.true_and]
   by_cases c2:0<=getI P b
   ·rw[if_pos (by simp;omega),w64 (by omega) (by omega),w64 (by omega) (by omega),show getI P a+1-1=getI P a by omega,show getI P b+1-1=getI P b by omega]
    rw[u09 _ _ (by omega),oB,j _ (by have:=c07 (getI P a,l,getI P b) acc;omega)]
    simp[c2,K5]
   ·rw[if_neg (by simp;omega),j _ (by omega)]
    simp[c2]
  ·simp only[show decide (getI P a+1>0)=false by simp;omega,G2,oB,cond_false,show decide (0<=getI P a)=false by simpa using c1,Bool.false_and]
   rw[if_neg (by simp),j _ (by omega)]
theorem v0f(r:Int)(n:Nat)(es:List K0)(o:List Int)(f:U0 (r,(n:Int),es)=true)(g:inV n o)(l:o.Nodup)(t:1<=o.length)(u:o.length<=n):
  S7 (r,(n:Int),es) o=some (N5 (r,(n:Int),es) o,true):=by
 obtain⟨h,p,q,s⟩:=O2 f
 simp only at p q s
 have m:inN n es:=λe d=>⟨(h e d).1,(h e d).2.1⟩
 have k:=g9 (r,(n:Int),es) (by simp only;omega)
 unfold S7
 have a:=M0q r n es o g l (by omega) (by omega) o.length 0 W0 (List.replicate n (-1)) (by simp) (λx b=>by rw[J08];omega) (λx b=>J08 n x) (by omega) (F1 (by omega))
 have c:=N0q es m (by omega) (plc n o) (S0n n o) (λx b=>by have:=f05 g b;omega) r ((o.length:Nat):Int) es.length 0 W0 [] (by omega) (F1 (by omega)) (Nat.le_refl _)
 rw[show((0:Nat):Int)=0 from rfl,List.drop_zero]at c a
 rw[show(List.replicate n (-1:Int)).map (·+1)=List.replicate n 0 by simp]at a
 rw[show y01 (List.replicate n (-1)) 0 o=plc n o from rfl]at a
 have i:decide (((o.length:Nat):Int)=0)=false:=decide_eq_false (by omega)
 have j:decide (((o.length:Nat):Int)>(n:Int))=false:=decide_eq_false (by omega)
 simp only[k,f,oB,Bool.not_true,cond_false,Int.toNat_natCast,i,j]
 rw[if_neg (by simp),I0 (by omega),oB,a]
 simp only[oB,Q8,c]
 rfl
theorem n00:∀(n:Nat) (o:List Int),o.Nodup->inV n o->o.length<=n
 |0,[],_,_=>Nat.le_refl _
 |0,x::r,_,h=>by have:=h x mS;omega
 |n+1,o,c,h=>by
  have d:inV n (o.erase (n:Int)):=λx e=>by
   obtain⟨f,a⟩:=(List.Nodup.mem_erase_iff c).1 e
   have:=h x a;omega
  have b:=n00 n _ (c.erase _) d
  by_cases a:(n:Int)∈o
  ·rw[List.length_erase_of_mem a]at b;omega
  ·rw[List.erase_of_not_mem a]at b;omega
def T6:Nat->Nat->List Int
 |0,_=>[]
 |d+1,i=>(i:Int) :: -(i:Int)::T6 d (i+1)
theorem F04:∀ d i,(T6 d i).length=2*d
 |0,i=>rfl
 |d+1,i=>by simp only[T6,List.length_cons,F04 d];omega
theorem h0j:∀(d i:Nat),i+d<=1000->∀ x∈T6 d i,Y3 x
 |0,i,h,x,a=>nomatch a
 |d+1,i,h,x,a=>by
  simp only[T6,List.mem_cons]at a
  rcases a with rfl|rfl|a
  ·exact⟨⟨by omega,by omega⟩,by omega⟩
  ·exact⟨⟨by omega,by omega⟩,by omega⟩
  ·exact h0j d (i+1) (by omega) x a
theorem O0q(R:Nat)(c:R<=900):∀(d i fuel:Nat) (acc:List Int),i+d=R+1->d<fuel->acc.length+2*d<=10000 ->
  T7 (R:Int) fuel (i:Int) acc=some (acc++T6 d i)
 |d,i,0,acc,b,hf,a=>by omega
 |0,i,fuel+1,acc,b,hf,a=>by
  rw[T7.eq_2,if_neg (by simp;omega)];simp[T6]
 |d+1,i,fuel+1,acc,b,hf,a=>by
  have e:=O0q R c d (i+1) fuel (acc ++ [(i:Int),-(i:Int)]) (by omega) (by omega) (by simp;omega)
  have f:IntKind.i64.wrap (0-(i:Int)) = -(i:Int):=by rw[w64 (by omega) (by omega)];omega
  rw[T7.eq_2,if_pos (by simp;omega),f,I0 (by simp;omega),oB,V2 (show i<1000 by omega) (by omega),e]
  simp[T6]
theorem P0q(R:Nat)(c:R<=900):∀(d i fuel:Nat) (acc:List Int),i+d=R+1->d<fuel->acc.length+2*d<=10000 ->
  A6 (R:Int) fuel (i:Int) acc=some (acc++T6 d i)
 |d,i,0,acc,b,hf,a=>by omega
 |0,i,fuel+1,acc,b,hf,a=>by
  rw[A6.eq_2,if_neg (by simp;omega)];simp[T6]
 |d+1,i,fuel+1,acc,b,hf,a=>by
  have e:=P0q R c d (i+1) fuel ((acc ++ [(i:Int)]) ++ [-(i:Int)]) (by omega) (by omega) (by simp;omega)
  have f:IntKind.i64.wrap (0-(i:Int)) = -(i:Int):=by rw[w64 (by omega) (by omega)];omega
  rw[A6.eq_2,if_pos (by simp;omega),f,I0 (by simp;omega),oB,I0 (by simp;omega),oB,V2 (show i<1000 by omega) (by omega),e]
  simp[T6]
theorem D0m(R:Nat)(a:R<=900):w9 (R:Int)=some (T6 R 1):=by
 unfold w9
 rw[show(1:Int)=((1:Nat):Int) from rfl,O0q R a R 1 W0 [] (by omega) (F1 (by omega)) (by simp;omega)];rfl
theorem F0t(R:Nat)(a:R<=900):V00 (R:Int)=some (T6 R 1):=by
 unfold V00
 rw[show(1:Int)=((1:Nat):Int) from rfl,P0q R a R 1 W0 [] (by omega) (F1 (by omega)) (by simp;omega)];rfl
def A06(u:List Int)(x:Int):List Int:=if 0<=x/\x ∉ u then u ++ [x]else u
def p01(g:l0)(v:Int):List Int->List Int->List Int
 | [],u=>u
 |x::r,u=>p01 g v r (A06 u (Q0 g v x))
def L7(g:l0)(a:List Int):Nat->Nat->List Int->List Int
 |0,i,u=>u
 |f+1,i,u=>match u[i]? with
  |some v=>L7 g a f (i+1) (p01 g v a u)
  |none=>u
def gud(n:Nat)(u:List Int):Prop:=u.Nodup/\inV n u
theorem N0k{n:Nat}{u:List Int}{x:Int}(h:gud n u)(i:x = -1∨(0<=x/\x<(n:Int))):gud n (A06 u x):=by
 unfold A06
 split
 ·rename_i g
  refine⟨List.nodup_append.2 ⟨h.1,by simp,λa f b d=>?_⟩,λy c=>?_⟩
  ·simp at d;subst d;exact λe=>g.2 (e▸f)
  ·rcases List.mem_append.1 c with c|c
   ·exact h.2 y c
   ·simp at c;subst c;omega
 ·exact h
theorem w0f(u:List Int)(x:Int):∃ t,A06 u x=u++t:=by
 unfold A06;split
 ·exact⟨_,rfl⟩
 ·exact⟨[],by simp⟩
theorem q03(g:l0)(v:Int):∀(c u:List Int),∃ t,p01 g v c u=u++t
 | [],u=>⟨[],by simp[p01]⟩
 |x::r,u=>by
  obtain⟨d,a⟩:=w0f u (Q0 g v x)
  obtain⟨e,b⟩:=q03 g v r (A06 u (Q0 g v x))
  exact⟨d++e,by rw[p01,b,a,List.append_assoc]⟩
theorem g04{r:Int}{n:Nat}{es:List K0}(a:inG (r,(n:Int),es))(v:Int):∀(b u:List Int),gud n u->gud n (p01 (r,(n:Int),es) v b u)
 | [],u,h=>h
 |x::l,u,h=>g04 a v l _ (N0k h (Z02 a v x))
theorem x0f{r:Int}{n:Nat}{es:List K0}(a:inG (r,(n:Int),es))(b:List Int):∀(f i:Nat) (u:List Int),gud n u->gud n (L7 (r,(n:Int),es) b f i u)
 |0,i,u,h=>h
 |f+1,i,u,h=>by
  unfold L7
  split
  ·exact x0f a b f _ _ (g04 a _ _ _ h)
  ·exact h
theorem y0f(g:l0)(a:List Int):∀(f i:Nat) (u:List Int),u.length<=(L7 g a f i u).length
 |0,i,u=>Nat.le_refl _
 |f+1,i,u=>by
  unfold L7
  split
  ·rename_i v _
   obtain⟨t,e⟩:=q03 g v a u
   have:=y0f g a f (i+1) (p01 g v a u)
   rw[e]at this ⊢;simp only[List.length_append]at this;omega
  ·exact Nat.le_refl _
theorem W0n(r:Int)(n:Nat)(es:List K0)(g:inG (r,(n:Int),es))(A:n<=40)(m:es.length<=1099511627776)(a:List Int)(p:∀ x∈a,Y3 x)(z:a.length<=1000000)(i:Nat)(v:Int):∀(d k fuel:Nat) (u:List Int),gud n u->u[i]?=some v->k+d=a.length->d<fuel ->
  V3 a (i:Int) r (n:Int) es fuel (k:Int) u=some (p01 (r,(n:Int),es) v (a.drop k) u)
 |d,k,0,u,c,b,j,hf=>by omega
 |0,k,fuel+1,u,c,b,j,hf=>by
  rw[V3.eq_2,if_neg (by simp;omega),M1 (by omega)];rfl
 |d+1,k,fuel+1,u,c,b,j,hf=>by
  have o:k<a.length:=by omega
  have f:=c5 o
  have q:=p _ (List.mem_of_getElem? f)
  have l:=Q1 f
  generalize a[k]=x at f q l
  have D:=n00 n u c.1 c.2
  have B:Q0 (r,(n:Int),es) v x = -1∨(0<=Q0 (r,(n:Int),es) v x/\Q0 (r,(n:Int),es) v x<(n:Int)):=Z02 g v x
  have s:=N0k c B
  have w:(A06 u (Q0 (r,(n:Int),es) v x))[i]?=some v:=by
   obtain⟨t,e⟩:=w0f u (Q0 (r,(n:Int),es) v x)
   rw[e,List.getElem?_append_left (List.getElem?_eq_some_iff.1 b).1];exact b
  have C:=W0n r n es g A m a p z i v d (k+1) fuel _ s w (by omega) (by omega)
  rw[V3.eq_2,if_pos (by simp;omega),l]
  simp only[B3 b,B3 f,oB,i0f (r,(n:Int),es) v x q m,I0 (G03 g (show(n:Int)<=40 by omega) v x),V2 o (show a.length<=9223372036854775807 by omega),p01]
  rw[←C]
  generalize Q0 (r,(n:Int),es) v x=y at *
  unfold A06
  by_cases c1:0<=y
  ·simp only[show decide (y ≥ 0)=true by simpa using c1,O1,i0e u y (by omega),oB,cond_true]
   by_cases c2:y∈u
   ·rw[if_neg (by simp[c2]),if_neg (by simp[c2])]
   ·rw[if_pos (by simp[c2]),if_pos ⟨c1,c2⟩,I0 (by simp;omega),oB]
  ·simp only[show decide (y ≥ 0)=false by simpa using c1,G2,oB,cond_false]
   rw[if_neg (by simp),if_neg (λh=>c1 h.1)]
theorem X0n(r:Int)(n:Nat)(es:List K0)(d:inG (r,(n:Int),es))(m:n<=40)(h:es.length<=1099511627776)(a:List Int)(l:∀ x∈a,Y3 x)(k:a.length<=1000000):∀(f i fuel:Nat) (u:List Int),gud n u->i<=u.length->n+1<=i+f->f<fuel ->
  o5 a r (n:Int) es fuel (i:Int) u=some (L7 (r,(n:Int),es) a f i u)
 |f,i,0,u,b,j,g,hf=>by omega
 |0,i,fuel+1,u,b,j,g,hf=>by have:=n00 n u b.1 b.2;omega
 |f+1,i,fuel+1,u,b,j,g,hf=>by
  have p:=n00 n u b.1 b.2
  rw[o5.eq_2,oB,I0 (by omega),oB]
  by_cases hk:i<u.length
  ·have c:=c5 hk
   generalize u[i]=v at c
   have h0:=W0n r n es d m h a l k i v a.length 0 W0 u b c (by omega) (F1 (by omega))
   rw[show((0:Nat):Int)=0 from rfl,List.drop_zero]at h0
   obtain⟨t,e⟩:=q03 (r,(n:Int),es) v a u
   have o:=X0n r n es d m h a l k f (i+1) fuel _ (g04 d v a u b) (by rw[e,List.length_append];omega) (by omega) (by omega)
   rw[if_pos (by simpa using hk),h0,oB,V2 hk (by omega),o]
   simp only[L7,c]
  ·have c:u[i]?=none:=List.getElem?_eq_none (by omega)
   rw[if_neg (by simpa using hk)]
   simp only[L7,c]
def U2(g:l0):List Int:=L7 g (T6 g.1.toNat 1) (g.2.1.toNat+1) 0 [0]
theorem z02{g:l0}(hf:F0 g=true):gud g.2.1.toNat (U2 g)/\1<=(U2 g).length:=by
 obtain⟨b,c,d,e⟩:=S0 hf
 obtain⟨r,n,es⟩:=g
 simp only at c d e
 obtain⟨N,rfl⟩:∃ N:Nat,n=(N:Int):=⟨n.toNat,by omega⟩
 refine⟨?_,?_⟩
 ·exact x0f b _ _ _ _ ⟨by simp,λx a=>by simp at a;subst a;show(0:Int)<=0/\(0:Int)<(((N:Int).toNat:Nat):Int);omega⟩
 ·exact y0f _ _ _ _ [0]
theorem O0k(g:l0)(hf:F0 g=true):R8 g=some (U2 g):=by
 obtain⟨b,c,d,e⟩:=S0 hf
 have f:=I05 g (by omega)
 obtain⟨r,n,es⟩:=g
 simp only at c d e
 obtain⟨N,rfl⟩:∃ N:Nat,n=(N:Int):=⟨n.toNat,by omega⟩
 obtain⟨R,rfl⟩:∃ R:Nat,r=(R:Int):=⟨r.toNat,by omega⟩
 unfold R8
 have h0:=X0n (R:Int) N es b (by omega) (by omega) (T6 R 1) (h0j R 1 (by omega)) (by rw[F04];omega) (N+1) 0 W0 [0] ⟨by simp,λx a=>by simp at a;subst a;omega⟩ (by simp) (by omega) (F1 (by omega))
 simp only[f,hf,oB,Bool.not_true,F0t R (by omega)]
 rw[show((0:Nat):Int)=0 from rfl]at h0
 rw[if_neg (by simp),h0]
 rfl
theorem Y0n{a:List Int}(la:a.length<=1099511627776):I7 a=some a:=by
 unfold I7
 rw[I0 (by simp;omega)];rfl
def V9(W:List (Option (List Int)))(x:Int):Option (List Int):=W.getD x.toNat none
theorem giO{a:List (Option (List Int))}{n:Nat}(f:a.length=n){x:Int}(h0:0<=x)(d:x<n):gi a x=some (V9 a x):=by
 have c:x.toNat<a.length:=by omega
 have e:x=((x.toNat:Nat):Int):=by omega
 have b:gi a ((x.toNat:Nat):Int)=some (V9 a x):=by
  rw[x0c,List.getElem?_eq_getElem c]
  unfold V9
  rw[List.getD_eq_getElem?_getD,List.getElem?_eq_getElem c];rfl
 rw[←e]at b;exact b
theorem G01{A:List (Option (List Int))}{v x:Int}{y:Option (List Int)}(h0:0<=v)(a:v.toNat<A.length)(b:0<=x):V9 (A.set v.toNat y) x=if x=v then y else V9 A x:=by
 unfold V9
 rw[List.getD_eq_getElem?_getD,List.getD_eq_getElem?_getD,List.getElem?_set]
 by_cases c:x=v
 ·rw[if_pos c,if_pos (by rw[c]),if_pos a];rfl
 ·rw[if_neg c,if_neg (by omega)]
structure WOk (n:Nat) (W:List (Option (List Int))) (u:List Int):Prop where
 len:W.length=n
 iff:∀ x,0<=x->x<(n:Int)->((V9 W x).isNone=true↔x ∉ u)
 short:∀ x,((V9 W x).getD []).length<=u.length
theorem Z0n(r:Int)(n:Nat)(es:List K0)(m:inG (r,(n:Int),es))(G:n<=40)(t:es.length<=1099511627776)(f:List Int)(A:∀ x∈f,Y3 x)(F:f.length<=1000000)(v:Int)(o:0<=v/\v<(n:Int)):∀(d k fuel:Nat) (b:List (Option (List Int))) (u:List Int),gud n u->WOk n b u->k+d=f.length->d<fuel ->
  ∃ j,R3 f r (n:Int) es v fuel (k:Int) b u=some (j,p01 (r,(n:Int),es) v (f.drop k) u)/\WOk n j (p01 (r,(n:Int),es) v (f.drop k) u)
 |d,k,0,b,u,i,a,q,hf=>by omega
 |0,k,fuel+1,b,u,i,a,q,hf=>by
  rw[R3.eq_2,if_neg (by simp;omega),M1 (by omega)];exact⟨b,rfl,a⟩
 |d+1,k,fuel+1,b,u,i,a,q,hf=>by
  have w:k<f.length:=by omega
  have l:=c5 w
  have C:=A _ (List.mem_of_getElem? l)
  have s:=Q1 l
  generalize f[k]=x at l C s
  have J:=n00 n u i.1 i.2
  have H:Q0 (r,(n:Int),es) v x = -1∨(0<=Q0 (r,(n:Int),es) v x/\Q0 (r,(n:Int),es) v x<(n:Int)):=Z02 m v x
  have E:=N0k i H
  have g:=λj h=>Z0n r n es m G t f A F v o d (k+1) fuel j _ E h (by omega) (by omega)
  rw[R3.eq_2,if_pos (by simp;omega),s]
  simp only[B3 l,oB,f02 (r,(n:Int),es) v x C t,I0 (G03 m (show(n:Int)<=40 by omega) v x),V2 w (show f.length<=9223372036854775807 by omega),p01]
  generalize Q0 (r,(n:Int),es) v x=y at *
  by_cases c1:0<=y
  ·have p:y<(n:Int):=by omega
   simp only[show decide (y ≥ 0)=true by simpa using c1,O1,giO a.len c1 p,oB,cond_true]
   by_cases c2:y∈u
   ·have : ¬ ((V9 b y).isNone=true):=λh=>(a.iff y c1 p).1 h c2
    have e:A06 u y=u:=if_neg λh=>h.2 c2
    rw[if_neg this]
    rw[e]at g ⊢
    exact g b a
   ·have:(V9 b y).isNone=true:=(a.iff y c1 p).2 c2
    have e:A06 u y=u ++ [y]:=if_pos ⟨c1,c2⟩
    have B:=a.short v
    rw[if_pos this,giO a.len o.1 o.2,oB,Y0n (by omega),oB,I0 (by simp;omega),oB,I0 (by simp;omega),oB]
    rw[e]at g ⊢
    refine g _ ⟨by simp[a.len],λz h0 D=>?_,λz=>?_⟩
    ·rw[G01 c1 (by have:=a.len;omega) h0]
     by_cases c:z=y
     ·rw[if_pos c];simp[c]
     ·rw[if_neg c,a.iff z h0 D];simp[c]
    ·by_cases hz:0<=z
     ·rw[G01 c1 (by have:=a.len;omega) hz]
      by_cases c:z=y
      ·rw[if_pos c];simp;exact B
      ·rw[if_neg c];have:=a.short z;simp only[List.length_append];omega
     ·have I:V9 (b.set y.toNat (some ((V9 b v).getD [] ++ [x]))) z=V9 (b.set y.toNat (some ((V9 b v).getD [] ++ [x]))) 0:=by
       unfold V9;rw[show z.toNat=(0:Int).toNat by omega]
      rw[I,G01 c1 (by have:=a.len;omega) (iR 0)]
      by_cases c:(0:Int)=y
      ·rw[if_pos c];simp;exact B
      ·rw[if_neg c];have:=a.short 0;simp only[List.length_append];omega
  ·have e:A06 u y=u:=if_neg λh=>c1 h.1
   simp only[show decide (y ≥ 0)=false by simpa using c1,G2,oB,cond_false]
   rw[if_neg (by simp)]
   rw[e]at g ⊢
   exact g b a
theorem a0o(R n:Nat)(h:R<=900)(es:List K0)(d:inG ((R:Int),(n:Int),es))(m:n<=40)(k:es.length<=1099511627776):∀(f i fuel:Nat) (b:List (Option (List Int))) (u:List Int),gud n u->WOk n b u->i<=u.length->n+1<=i+f->f<fuel ->
  ∃ q,d5 (R:Int) (n:Int) es fuel (i:Int) b u=some (q,L7 ((R:Int),(n:Int),es) (T6 R 1) f i u)
 |f,i,0,b,u,a,g,l,j,hf=>by omega
 |0,i,fuel+1,b,u,a,g,l,j,hf=>by have:=n00 n u a.1 a.2;omega
 |f+1,i,fuel+1,b,u,a,g,l,j,hf=>by
  have y:=n00 n u a.1 a.2
  rw[d5.eq_2,oB,I0 (by omega),oB]
  by_cases hk:i<u.length
  ·have c:=c5 hk
   have o:=a.2 _ (List.mem_of_getElem? c)
   generalize u[i]=v at c o
   obtain⟨s,h0,p⟩:=Z0n (R:Int) n es d m k (T6 R 1) (h0j R 1 (by omega)) (by rw[F04];omega) v o (T6 R 1).length 0 W0 b u a g (by omega) (F1 (by rw[F04];omega))
   rw[show((0:Nat):Int)=0 from rfl,List.drop_zero]at h0
   rw[List.drop_zero]at p
   obtain⟨t,e⟩:=q03 ((R:Int),(n:Int),es) v (T6 R 1) u
   obtain⟨x,w⟩:=a0o R n h es d m k f (i+1) fuel s _ (g04 d v _ u a) p (by rw[e,List.length_append];omega) (by omega) (by omega)
   rw[if_pos (by simpa using hk),B3 c,oB,D0m R h,oB,h0,oB]
   simp only[V2 hk (show u.length<=9223372036854775807 by omega),w,L7,c]
   exact⟨_,rfl⟩
  ·have c:u[i]?=none:=List.getElem?_eq_none (by omega)
   rw[if_neg (by simpa using hk)]
   simp only[L7,c]
   exact⟨_,rfl⟩
theorem P0k(g:l0)(hf:F0 g=true):S8 g=some (U2 g):=by
 obtain⟨a,e,f,h⟩:=S0 hf
 have i:=A8 g (by omega)
 obtain⟨r,n,es⟩:=g
 simp only at e f h
 obtain⟨N,rfl⟩:∃ N:Nat,n=(N:Int):=⟨n.toNat,by omega⟩
 obtain⟨R,rfl⟩:∃ R:Nat,r=(R:Int):=⟨r.toNat,by omega⟩
 unfold S8
 have b:∀ x,V9 (List.replicate N (none:Option (List Int))) x=none:=λx=>by
  unfold V9
  rw[List.getD_eq_getElem?_getD,List.getElem?_replicate];split<;>rfl
 have j:WOk N ((List.replicate N (none:Option (List Int))).set (0:Int).toNat (some [])) [0]:=by
  refine⟨by simp,λx h0 a=>?_,λx=>?_⟩
  ·rw[G01 (iR 0) (by simp;omega) h0]
   by_cases c:x=0
   ·rw[if_pos c];simp[c]
   ·rw[if_neg c,b];simp[c]
  ·by_cases hz:0<=x
   ·rw[G01 (iR 0) (by simp;omega) hz]
    split
    ·simp
    ·rw[b];simp
   ·have:V9 ((List.replicate N (none:Option (List Int))).set (0:Int).toNat (some [])) x=V9 ((List.replicate N (none:Option (List Int))).set (0:Int).toNat (some [])) 0:=by
     unfold V9;rw[show x.toNat=(0:Int).toNat by omega]
    rw[this,G01 (iR 0) (by simp;omega) (iR 0),if_pos rfl];simp
 obtain⟨l,h0⟩:=a0o R N (by omega) es a (by omega) (by omega) (N+1) 0 W0 _ [0] ⟨by simp,λx d=>by simp at d;subst d;omega⟩ j (by simp) (by omega) (F1 (by omega))
 have k:gi (List.replicate N (none:Option (List Int))) 0=some none:=by
  rw[a0j (x:=none)];rw[List.getElem?_replicate,if_pos (by omega)]
 simp only[i,hf,oB,Bool.not_true,o7,Int.toNat_natCast]
 rw[if_neg (by simp),I0 (by omega),oB,k,oB]
 rw[show((0:Nat):Int)=0 from rfl]at h0
 rw[h0]
 rfl
def J3(g:l0):l0:=N5 g (U2 g)
theorem K08(g:l0)(hf:F0 g=true):C7 g=some (J3 g):=by
 obtain⟨b,d,f,h⟩:=S0 hf
 have i:=A8 g (by omega)
 have j:=P0k g hf
 obtain⟨a,m⟩:=z02 hf
 have k:=n00 _ _ a.1 a.2
 obtain⟨r,n,es⟩:=g
 simp only at d f h
 obtain⟨N,rfl⟩:∃ N:Nat,n=(N:Int):=⟨n.toNat,by omega⟩
 simp only[Int.toNat_natCast]at a k
 have l:=g0j r N es (U2 (r,(N:Int),es)) (λe c=>⟨(b e c).1,(b e c).2.1⟩) a.2 (by omega) (by omega) (by omega)
 unfold C7
 simp only[i,hf,oB,Bool.not_true,j,l]
 rfl
theorem u0d(g:l0)(hf:F0 g=true):B7 g=some (J3 g):=by
 obtain⟨l,d,e,f⟩:=S0 hf
 have i:U0 g=true:=by
  unfold F0 at hf;exact(Bool.and_eq_true _ _▸hf).1
 have j:=O0k g hf
 obtain⟨a,b⟩:=z02 hf
 have c:=n00 _ _ a.1 a.2
 obtain⟨r,n,es⟩:=g
 simp only at d e f
 obtain⟨N,rfl⟩:∃ N:Nat,n=(N:Int):=⟨n.toNat,by omega⟩
 simp only[Int.toNat_natCast]at a c
 have k:=v0f r N es (U2 (r,(N:Int),es)) i a.2 a.1 b c
 unfold B7
 simp only[oB,j,k]
 rw[if_neg (by simp;intro h;rw[h]at b;simp at b)]
 rfl
def lf(a:Nat->Bool):Nat->Nat->Option Nat
 |0,v=>none
 |d+1,v=>bif a v then some v else lf a d (v+1)
theorem L08{a:Nat->Bool}:∀(d v k:Nat),lf a d v=some k->v<=k/\k<v+d
 |0,v,k,h=>by cases h
 |d+1,v,k,h=>by
  unfold lf at h
  cases hb:a v
  ·rw[hb]at h;have:=L08 d (v+1) k h;omega
  ·rw[hb]at h;cases h;omega
theorem z0f{a b:Nat->Bool}:∀(d v:Nat),(∀ k,v<=k->k<v+d->a k=b k)->lf a d v=lf b d v
 |0,v,h=>rfl
 |d+1,v,h=>by unfold lf;rw[h v (Nat.le_refl _) (by omega),z0f d (v+1) λk c e=>h k (by omega) (by omega)]
def E0m(es:List K0):List Int:=itS es (es.length+1) [0]
def K07(es:List K0)(v:Nat):Bool:=decide (B00 (v:Int) es<2) || !decide ((v:Int)∈E0m es)
def F7(g:l0):Option Nat:=lf (K07 g.2.2) (g.2.1.toNat-1) 1
theorem F0m(g:l0)(b:U0 g=true):m00 g 0=some (E0m g.2.2)/\(E0m g.2.2).length<=100000:=by
 obtain⟨i,d,e,a⟩:=O2 b
 have h:=g9 g (by omega)
 obtain⟨r,n,es⟩:=g
 simp only at d e a
 unfold m00 E0m
 have c:=r0f es a (es.length+1) 0 W0 [0] (by omega) (F1 (by omega)) (by simp)
 have f:=P0n es (es.length+1) [0]
 refine⟨?_,?_⟩
 ·rw[show((0:Nat):Int)=0 from rfl]at c
  simp only[h,b,oB,Bool.not_true,Bool.not_false,O1,M04,inR,w64 (show -9223372036854775808<=n-1 by omega) (show n-1<=9223372036854775807 by omega)]
  rw[if_neg (by simp;omega),c];rfl
 ·have:(es.length+1)*(2*es.length)<=121*240:=Nat.mul_le_mul (by omega) (by omega)
  simp only[List.length_singleton]at f
  simp only
  omega
theorem Q0q(r:Int)(n:Nat)(es:List K0)(e:es.length<=1000)(u:List Int)(g:u.length<=100000)(f:n<=40):∀(d v fuel:Nat),v+d=n∨(d=0/\n<=v)->v<=1000->d<fuel ->
  O8 (n:Int) r es u fuel (v:Int)=some (match lf (λv=>decide (B00 (v:Int) es<2) || !decide ((v:Int)∈u)) d v with|some k => .inl (k:Int)|none => .inr ())
 |d,v,0,b,c,hf=>by omega
 |0,v,fuel+1,b,c,hf=>by
  rw[O8.eq_2,if_neg (by simp;omega)];rfl
 |d+1,v,fuel+1,b,c,hf=>by
  have h:=Q0q r n es e u g f d (v+1) fuel (by omega) (by omega) (by omega)
  have i:=d0j (v:Int) es
  rw[O8.eq_2,if_pos (by simp;omega),u0h (r,(n:Int),es) _ (by simp only;omega),oB,I0 (c64 (by simp only;omega) (by simp only;omega)),oB,V2 (show v<10000 by omega) (by omega)]
  unfold lf
  by_cases c1:B00 (v:Int) es<2
  ·have a:decide (((B00 (v:Int) es:Nat):Int)<2)=true:=decide_eq_true (by omega)
   simp only[a,Bool.not_true,G2,oB,cond_true,if_true,decide_eq_true c1,Bool.true_or]
  ·have a:decide (((B00 (v:Int) es:Nat):Int)<2)=false:=decide_eq_false (by omega)
   simp only[a,Bool.not_false,O1,i0e u _ (show u.length<=9223372036854775807 by omega),oB,cond_false,decide_eq_false c1,Bool.false_or]
   by_cases c2:(v:Int)∈u
   ·simp only[decide_eq_true c2,Bool.not_true,Bool.false_eq_true,if_false,cond_false];exact h
   ·simp only[decide_eq_false c2,Bool.not_false,if_true,cond_true]
theorem R0q(g:l0)(c:U0 g=true):U01 g=some (match F7 g with|some k=>(k:Int)|none => -1):=by
 obtain⟨a,b⟩:=F0m g c
 obtain⟨i,d,e,f⟩:=O2 c
 obtain⟨r,n,es⟩:=g
 simp only at d e f a b
 obtain⟨N,rfl⟩:∃ N:Nat,n=(N:Int):=⟨n.toNat,by omega⟩
 unfold U01 F7
 have h:=Q0q r N es (by omega) (E0m es) b (by omega) (N-1) 1 W0 (by omega) (by omega) (F1 (by omega))
 simp only[a,oB,Int.toNat_natCast]
 rw[show(1:Int)=((1:Nat):Int) from rfl,h]
 rw[show(λv:Nat=>decide (B00 (v:Int) es<2) || !decide ((v:Int)∈E0m es))=K07 es from rfl]
 cases lf (K07 es) (N-1) 1<;>rfl
theorem i0j(r:Int)(n:Nat)(es:List K0)(o:es.length<=1000)(a:List Bool)(g:a.length=n)(p:n<=40):∀(d v fuel:Nat),1<=v->v+d=n∨(d=0/\n<=v)->v<=1000->d+1<fuel ->
  E4 (n:Int) r es a fuel 0 (v:Int)=some (match lf (λv=>decide (B00 (v:Int) es<2) || !e00 a (v:Int)) d v with|some k=>(k:Int)|none=>0)
 |d,v,0,f,h,j,hf=>by omega
 |0,v,fuel+1,f,h,j,hf=>by
  have e:decide ((v:Int)<(n:Int))=false:=decide_eq_false (by omega)
  rw[E4.eq_2,if_neg (by rw[e];simp)];rfl
 |d+1,v,fuel+1,f,h,j,hf=>by
  have q:=i0j r n es o a g p d (v+1) fuel (by omega) (by omega) (by omega) (by omega)
  have s:=d0j (v:Int) es
  have e:decide ((v:Int)<(n:Int))=true:=decide_eq_true (by omega)
  have i:∀ w:Int,E4 (n:Int) r es a fuel (v:Int) w=some (v:Int):=λw=>by
   obtain _|fuel:=fuel
   ·omega
   ·have l:decide ((v:Int)=0)=false:=decide_eq_false (by omega)
    have m:∀ b:Bool,(bif b then false else false)=false:=λb=>by cases b<;>rfl
    rw[E4.eq_2,if_neg (by rw[l,m];simp)]
  rw[E4.eq_2,if_pos (by rw[e];rfl),q0p (r,(n:Int),es) _ (by simp only;omega),oB,I0 (c64 (by simp only;omega) (by simp only;omega)),oB,V2 (show v<10000 by omega) (by omega)]
  unfold lf
  by_cases c1:B00 (v:Int) es<2
  ·have c:decide (((B00 (v:Int) es:Nat):Int)<2)=true:=decide_eq_true (by omega)
   simp only[c,Bool.not_true,G2,oB,cond_true,if_true,decide_eq_true c1,Bool.true_or,i]
  ·have c:decide (((B00 (v:Int) es:Nat):Int)<2)=false:=decide_eq_false (by omega)
   simp only[c,Bool.not_false,O1,giB g (show(0:Int)<=(v:Int) by omega) (show(v:Int)<(n:Int) by omega),oB,cond_false,decide_eq_false c1,Bool.false_or]
   cases hb:e00 a (v:Int)
   ·simp only[Bool.not_false,if_true,cond_true,i]
   ·simp only[Bool.not_true,Bool.false_eq_true,if_false,cond_false];exact q
def wo(g:Nat):Nat->Nat->List Int
 |0,k=>[]
 |d+1,k=>if k=g then wo g d (k+1)else(k:Int)::wo g d (k+1)
theorem A0f(g:Nat):∀(d k:Nat),(wo g d k).length=d-(if k<=g/\g<k+d then 1 else 0)
 |0,k=>by simp[wo]
 |d+1,k=>by
  have a:=A0f g d (k+1)
  unfold wo
  by_cases c:k=g
  ·rw[if_pos c,a,if_neg (by omega),if_pos (by omega)];omega
  ·rw[if_neg c,List.length_cons,a]
   by_cases c2:k+1<=g/\g<k+1+d
   ·rw[if_pos c2,if_pos (by omega)];omega
   ·rw[if_neg c2,if_neg (by omega)];omega
theorem Q0k(g n:Nat):∀(d k:Nat),k+d<=n->inV n (wo g d k)
 |0,k,h=>λx a=>nomatch a
 |d+1,k,h=>by
  have b:=Q0k g n d (k+1) (by omega)
  unfold wo
  split
  ·exact b
  ·intro x a
   rcases List.mem_cons.1 a with rfl|a
   ·omega
   ·exact b x a
theorem j0j(n g:Nat)(j:n<=1000):∀(d k fuel:Nat) (acc:List Int),k+d=n->d<fuel->acc.length<=k ->
  L5 (n:Int) (g:Int) fuel (k:Int) acc=some (acc++wo g d k)
 |d,k,0,acc,b,hf,a=>by omega
 |0,k,fuel+1,acc,b,hf,a=>by
  rw[L5.eq_2,if_neg (by simp;omega)];simp[wo]
 |d+1,k,fuel+1,acc,b,hf,a=>by
  have f:=λi h=>j0j n g j d (k+1) fuel i (by omega) (by omega) h
  rw[L5.eq_2,if_pos (by simp;omega),V2 (show k<10000 by omega) (by omega)]
  unfold wo
  by_cases c:k=g
  ·have e:decide ((k:Int)=(g:Int))=true:=decide_eq_true (by omega)
   rw[e,if_neg (by simp),if_pos c,f _ (by omega)]
  ·have e:decide ((k:Int)=(g:Int))=false:=decide_eq_false (by omega)
   rw[e,if_pos (show(!false)=true from rfl),if_neg c,I0 (by simp;omega),oB,f _ (by simp;omega)]
   simp
theorem k0j(n:Nat)(f:n<=1000):∀(d k fuel:Nat) (acc:List Int),k+d=n->d<fuel->acc.length=k ->
  ∃ u,C6 (n:Int) fuel (k:Int) acc=some u/\u.length=n
 |d,k,0,acc,b,hf,a=>by omega
 |0,k,fuel+1,acc,b,hf,a=>by
  rw[C6.eq_2,if_neg (by simp;omega)];exact⟨_,rfl,by omega⟩
 |d+1,k,fuel+1,acc,b,hf,a=>by
  obtain⟨u,c,e⟩:=k0j n f d (k+1) fuel (acc ++ [(k:Int)]) (by omega) (by omega) (by simp;omega)
  rw[C6.eq_2,if_pos (by simp;omega),V2 (show k<10000 by omega) (by omega),I0 (by simp;omega),oB,c]
  exact⟨u,rfl,e⟩
theorem B0b{a:Type}{xs:List a}{k:Nat}(h:k<=xs.length):V06 xs 0 (k:Int)=some (xs.take k):=by
 unfold V06
 rw[if_pos (by omega)];rfl
theorem b0o:∀(n fuel:Nat) (left:List Int) (r:Int) (es:List K0),1<=n->n<=40->inN n es->es.length<=120->left.length=n->n<fuel ->
  ∃(a:l0) (e:List Int),M5 fuel left r (n:Int) es=some (.inl (a,e))/\a.2.1<=(n:Int)/\(a.2.1=(n:Int)↔lf (K07 es) (n-1) 1=none)
 |n,0,left,r,es,f,g,b,u,w,hf=>by omega
 |n,fuel+1,left,r,es,f,g,b,u,w,hf=>by
  obtain⟨c,q,A,s⟩:=K0k r n es b (by omega) f (by omega)
  have o:=i0j r n es (by omega) c A g (n-1) 1 W0 (Nat.le_refl _) (by omega) (by omega) (F1 (by omega))
  have t:lf (λv=>decide (B00 (v:Int) es<2) || !e00 c (v:Int)) (n-1) 1=lf (K07 es) (n-1) 1:=z0f _ _ λk D E=>by
   unfold K07
   have:=s (k:Int) (by omega) (by omega)
   have i:=H03 es 0 (k:Int)
   congr 2
   cases hb:e00 c (k:Int)
   ·symm;exact decide_eq_false λh=>by rw[this.2 (i.1 h)]at hb;cases hb
   ·symm;exact decide_eq_true (i.2 (this.1 hb))
  rw[t]at o
  rw[M5.eq_2,q,oB,show(1:Int)=((1:Nat):Int) from rfl,o,oB]
  cases hlf:lf (K07 es) (n-1) 1 with
  |none =>
   exact⟨(r,(n:Int),es),left,by rw[if_pos (by rfl)],iR _,by simp⟩
  |some k =>
   have C:=L08 _ _ _ hlf
   have p:decide ((k:Int)=0)=false:=decide_eq_false (by omega)
   have j:=Q0k k n n 0 (by omega)
   have d:=A0f k n 0
   rw[if_pos (by omega)]at d
   have m:=j0j n k (by omega) n 0 W0 [] (by omega) (F1 (by omega)) (Nat.le_refl _)
   rw[show((0:Nat):Int)=0 from rfl,List.nil_append]at m
   have x:=g0j r n es (wo k n 0) b j (by omega) (by omega) (by omega)
   have y:=w0a (r,(n:Int),es) (wo k n 0)
   have l:=B0h (r:=r) j b
   have z:IntKind.i64.wrap ((k:Int)+((1:Nat):Int))=((k+1:Nat):Int):=by rw[w64 (by omega) (by omega)];rfl
   obtain⟨a,e,B,F,G⟩:=b0o (n-1) fuel (left.take k++left.drop (k+1)) r (N5 (r,(n:Int),es) (wo k n 0)).2.2 (by omega) (by omega) (by rw[d]at l;exact l) (by simp only at y;omega) (by simp only[List.length_append,List.length_take,List.length_drop];omega) (by omega)
   refine⟨a,e,?_,by omega,?_⟩
   ·simp only[p,Bool.false_eq_true,if_false,m,oB,x]
    rw[show N5 (r,(n:Int),es) (wo k n 0)=(r,((n-1:Nat):Int),(N5 (r,(n:Int),es) (wo k n 0)).2.2) by rw[←d];rfl]
    simp only[z]
    rw[B0b (by omega),oB,g03 (by omega),oB,I0 (by simp only[List.length_take,List.length_drop];omega),oB,B]
   ·constructor
    ·intro h;omega
    ·intro h;cases h
theorem G0m(g:l0)(i:U0 g=true):∃(a:l0) (b:List Int),U7 g=some (a,b)/\(a.2.1=g.2.1↔F7 g=none):=by
 obtain⟨d,k,l,f⟩:=O2 i
 have p:=b00 g (by omega)
 have m:=L9 g (by omega)
 obtain⟨r,n,es⟩:=g
 simp only at k l f
 obtain⟨N,rfl⟩:∃ N:Nat,n=(N:Int):=⟨n.toNat,by omega⟩
 have o:inN N es:=λe h=>⟨(d e h).1,(d e h).2.1⟩
 obtain⟨u,c,j⟩:=k0j N (by omega) N 0 W0 [] (by omega) (F1 (by omega)) rfl
 obtain⟨a,b,q,t,s⟩:=b0o N W0 u r es (by omega) (by omega) o f j (F1 (by omega))
 refine⟨a,b,?_,?_⟩
 ·unfold U7
  rw[show((0:Nat):Int)=0 from rfl]at c
  simp only[m,oB,p,i,Bool.not_true,Bool.false_eq_true,if_false,c,q,Q8]
 ·simp only[F7,Int.toNat_natCast];exact s
def J1(g:l0):Bool:=F0 g&&((F7 g).isNone&&l06 (J3 g) g)
theorem T1{g:l0}(h:F0 g=true):U0 g=true:=by
 unfold F0 at h;exact(Bool.and_eq_true _ _▸h).1
theorem C0h{g:l0}(hf:F0 g=true):(J3 g).2.2.length<=120:=by
 have:=w0a g (U2 g)
 have:=(S0 hf).2.2.2
 unfold J3;omega
theorem i9(g:l0)(j:g.2.2.length<=140737488355328):U4 g=some (J1 g):=by
 have b:=A8 g j
 unfold J1
 by_cases hf:F0 g=true
 ·obtain⟨e,t,d,a⟩:=G0m g (T1 hf)
  have f:=K08 g hf
  have h:=A0c (J3 g) g (by have:=C0h hf;omega)
  obtain⟨r,n,es⟩:=g
  obtain⟨u,m,s⟩:=e
  unfold U4
  simp only at a
  generalize J3 (r,n,es)=C at *
  obtain⟨o,p,q⟩:=C
  simp only[b,hf,oB,Bool.not_true,Bool.false_eq_true,if_false,d,f]
  by_cases c:m=n
  ·have:=a.1 c
   simp only[decide_eq_true c,O1,oB,h,cond_true,this,Option.isNone_none,Bool.true_and]
  ·have l:(F7 (r,n,es)).isNone=false:=by
    cases hq:F7 (r,n,es)with
    |none=>exact absurd (a.2 hq) c
    |some k=>rfl
   simp only[decide_eq_false c,G2,oB,cond_false,l,Bool.false_and,Bool.and_false]
 ·have i:F0 g=false:=Bool.eq_false_iff.2 hf
  obtain⟨r,n,es⟩:=g
  unfold U4
  simp only[b,i,oB,Bool.not_false,if_true,Bool.false_and]
theorem l0j(g:l0)(j:g.2.2.length<=140737488355328):V01 g=some (J1 g):=by
 have a:=I05 g j
 unfold J1
 by_cases hf:F0 g=true
 ·have f:=R0q g (T1 hf)
  have d:=u0d g hf
  have e:=w0h (J3 g) g (by have:=C0h hf;omega)
  obtain⟨p,q,c,s⟩:=S0 hf
  obtain⟨r,n,es⟩:=g
  unfold V01
  generalize J3 (r,n,es)=C at *
  obtain⟨l,m,o⟩:=C
  simp only[a,hf,oB,O1,f,cond_true]
  cases hq:F7 (r,n,es)with
  |none =>
   simp only[I0 (show J0 (-1) by decide),oB,show decide ((-1:Int)<0)=true from rfl,O1,d,e,cond_true,Option.isNone_none,Bool.true_and]
  |some k =>
   have i:=L08 _ _ _ hq
   simp only at c
   simp only at i
   have b:decide ((k:Int)<0)=false:=decide_eq_false (by omega)
   simp only[I0 (show J0 (k:Int) from c64 (by omega) (by omega)),oB,b,G2,cond_false,Option.isNone_some,Bool.false_and,Bool.and_false]
 ·have h:F0 g=false:=Bool.eq_false_iff.2 hf
  obtain⟨r,n,es⟩:=g
  unfold V01
  simp only[a,h,oB,G2,I0 (show J0 0 by decide),cond_false,Bool.false_and]
def G0t(l:f0e):Prop:=l.length<=140737488355328/\∀ e∈l,e.1.size<=140737488355328/\e.2.2.2.length<=140737488355328
def S0q(l:f0e):Prop:=l.length<=1048576/\∀ e∈l,e.1.size<=1048576/\e.2.2.2.length<=1048576
theorem S0q.ok{l:f0e}(h:S0q l):G0t l:=⟨by have:=h.1;omega,λe a=>by have:=h.2 e a;omega⟩
theorem R0k{e:Type}{c:e->e->Int}(h:v00 c):∀ {l:List e},(∀ i x y,l[i]?=some x->l[i+1]?=some y->c x y<0)->Asc c l
 | [],_=>List.Pairwise.nil
 | [x],_=>List.pairwise_singleton _ _
 |x::y::l,f=>by
  have j:Asc c (y::l):=R0k h λi a b k m=>f (i+1) a b (by simpa using k) (by simpa using m)
  have g:=f 0 x y rfl rfl
  refine List.pairwise_cons.2 ⟨λz d=>?_,j⟩
  rcases List.mem_cons.1 d with rfl|d
  ·exact g
  ·exact h.trans _ _ _ g ((List.pairwise_cons.1 j).1 z d)
theorem T0q{d:Type}{e:d->d->Int}:∀ {l:List d},Asc e l->∀ {i:Nat} {x y:d},l[i]?=some x->l[i+1]?=some y->e x y<0
 | [],_,i,x,y,b,_=>by simp at b
 |a::l,h,0,x,y,b,c=>by
  simp at b c;subst b
  exact(List.pairwise_cons.1 h).1 y (List.mem_of_getElem? c)
 |a::l,h,i+1,x,y,b,c=>T0q (List.pairwise_cons.1 h).2 (i:=i) (by simpa using b) (by simpa using c)
theorem U0q{r a:Int}{es:List K0}:∀ {d k:Nat},(∀ i,k<=i->i<k+d->G0q r a es i=false)->okE r a es d k=true
 |0,k,h=>rfl
 |d+1,k,h=>by
  simp only[okE,Bool.and_eq_true,Bool.not_eq_true']
  exact⟨h k (Nat.le_refl _) (by omega),U0q λi b c=>h i (by omega) (by omega)⟩
theorem W00(g:l0):U0 g=true↔inG g/\(1<=g.1/\g.1<=3)/\(1<=g.2.1/\g.2.1<=40)/\g.2.2.length<=120/\Asc T0 g.2.2:=by
 constructor
 ·intro h
  obtain⟨m,c,d,k⟩:=O2 h
  refine⟨m,c,d,k,R0k L3 λi x y a b=>?_⟩
  simp only[U0,Bool.and_eq_true]at h
  have l:=y0m h.1.1.1 (i+1) (Nat.zero_le _) (by have:=(List.getElem?_eq_some_iff.1 b).1;omega)
  rw[r0b b]at l
  simp only[Nat.add_sub_cancel,a,Bool.or_eq_false_iff]at l
  have:=l.2
  simp only[show decide (0<i+1)=true by simp,Bool.true_and,decide_eq_false_iff_not]at this
  have e:d0f x y=T0 x y:=rfl
  omega
 ·rintro⟨m,c,d,k,o⟩
  obtain⟨r,n,es⟩:=g
  simp only at c d k o
  simp only[U0,inR,Bool.and_eq_true,decide_eq_true_eq]
  refine⟨⟨⟨U0q λi _ s=>?_,c⟩,d⟩,k⟩
  have a:=c5 (show i<es.length by omega)
  generalize es[i]=e at a
  rw[r0b a]
  have q:=m e (List.mem_of_getElem? a)
  simp only at q
  simp only[Bool.or_eq_false_iff,Bool.not_eq_false',z06,inR,Bool.and_eq_true,decide_eq_true_eq]
  rw[w64 (by omega) (by omega)]
  refine⟨⟨⟨⟨by omega,by omega⟩,by omega,by omega⟩,by omega,by omega⟩,?_⟩
  cases i with
  |zero=>rfl
  |succ j =>
   have b:=c5 (show j<es.length by omega)
   generalize es[j]=f at b
   have:=T0q o b a
   simp only[Nat.add_sub_cancel,b]
   have p:d0f f e=T0 f e:=rfl
   simp[p];omega
theorem C0b{r:Int}{n:Int}{es:List K0}(d:1<=r/\r<=3)(c:1<=n/\n<=40)(f:es.length<=120)(b:inG (r,n,es)):U0 (r,n,K5 T0 [] es)=true:=by
 refine(W00 _).2 ⟨λe a=>b e ?_,d,c,?_,I00 L3 _ _ List.Pairwise.nil⟩
 ·rcases(C4 L3 e es []).1 a with h|h
  ·simp at h
  ·exact h
 ·have:=g02 es []
  simp only[List.length_nil]at this
  simp only;omega
def m06(a b:K0):List (Int×Int) :=
 bif decide (a.2.1=b.2.1)then(bif decide (a.1=b.1)then [(if b.2.2<a.2.2 then b.2.2 else a.2.2,if b.2.2>a.2.2 then b.2.2 else a.2.2)]else [])++(bif decide (a.2.2=b.2.2)then [(if b.1<a.1 then b.1 else a.1,if b.1>a.1 then b.1 else a.1)]else [])else []
def Z01(a:K0):List K0->List (Int×Int)
 | []=>[]
 |b::r=>m06 a b++Z01 a r
def H5:List K0->List (Int×Int)
 | []=>[]
 |a::r=>Z01 a r++H5 r
theorem r0p(a b:K0):(m06 a b).length<=2:=by
 unfold m06
 cases decide (a.2.1=b.2.1)<;>cases decide (a.1=b.1)<;>cases decide (a.2.2=b.2.2)<;>simp
theorem E0c(a:K0):∀ l,(Z01 a l).length<=2*l.length
 | []=>by simp[Z01]
 |b::r=>by have:=r0p a b;have:=E0c a r;simp only[Z01,List.length_append,List.length_cons];omega
def mvV(f:Int×Int)(v:Int):Int:=if v=f.2 then f.1 else if v>f.2 then v-1 else v
def mvE(f:Int×Int)(e:K0):K0:=(mvV f e.1,e.2.1,mvV f e.2.2)
def W9(g:l0)(f:Int×Int):l0:=(g.1,g.2.1-1,K5 T0 [] (g.2.2.map (mvE f)))
def okF(g:l0)(f:Int×Int):Prop:=0<=f.1/\f.1<f.2/\f.2<g.2.1
theorem r03{g:l0}{f:Int×Int}(k:U0 g=true)(hf:okF g f):U0 (W9 g f)=true:=by
 obtain⟨l,m,q,n,_⟩:=(W00 g).1 k
 obtain⟨o,f2,f3⟩:=hf
 refine C0b m ⟨by omega,by omega⟩ (by simpa using n) λe i=>?_
 obtain⟨h,j,rfl⟩:=List.mem_map.1 i
 obtain⟨b,c,d⟩:=l h j
 have a:∀ v:Int,0<=v/\v<g.2.1->0<=mvV f v/\mvV f v<g.2.1-1:=λv p=>by
  unfold mvV;split
  ·omega
  ·split<;>omega
 exact⟨a _ b,a _ c,d⟩
theorem S0k{g:l0}(j:inG g){a:K0}(m:a∈g.2.2):∀ {l:List K0},(∀ b∈l,b∈g.2.2/\a≠b)->∀ f∈Z01 a l,okF g f
 | [],_,f,hf=>by simp[Z01]at hf
 |b::r,h,f,hf=>by
  rcases List.mem_append.1 (show f∈m06 a b++Z01 a r from hf)with hf|hf
  ·have s:=j b (h b mS).1
   have q:=j a m
   have u:=(h b mS).2
   obtain⟨c,n,d⟩:=a
   obtain⟨e,p,i⟩:=b
   simp only at q s
   unfold m06 at hf
   simp only at hf
   by_cases c1:n=p
   ·have k : ¬ (c=e/\d=i):=λ⟨x,y⟩=>u (by rw[x,c1,y])
    simp only[c1,decide_true,cond_true,List.mem_append]at hf
    rcases hf with hf|hf
    ·by_cases c2:c=e
     ·simp only[c2,decide_true,cond_true,List.mem_singleton]at hf
      subst hf
      have:d≠i:=λy=>k ⟨c2,y⟩
      unfold okF
      simp only
      split<;>split<;>omega
     ·simp[c2]at hf
    ·by_cases c2:d=i
     ·simp only[c2,decide_true,cond_true,List.mem_singleton]at hf
      subst hf
      have:c≠e:=λy=>k ⟨y,c2⟩
      unfold okF
      simp only
      split<;>split<;>omega
     ·simp[c2]at hf
   ·simp[c1]at hf
  ·exact S0k j m (λo t=>h o (mC _ t)) f hf
theorem T0k{g:l0}(i:inG g):∀ {l:List K0},(∀ b∈l,b∈g.2.2)->Asc T0 l->∀ f∈H5 l,okF g f
 | [],_,_,f,hf=>by simp[H5]at hf
 |a::r,h,d,f,hf=>by
  rcases List.mem_append.1 (show f∈Z01 a r++H5 r from hf)with hf|hf
  ·refine S0k i (h a mS) (λb c=>⟨h b (mC _ c),λe=>?_⟩) f hf
   have:=(List.pairwise_cons.1 d).1 b c
   rw[e,L3.refl]at this;omega
  ·exact T0k i (λb c=>h b (mC _ c)) (List.pairwise_cons.1 d).2 f hf
theorem h02{g:l0}(a:U0 g=true):∀ f∈H5 g.2.2,okF g f:=by
 obtain⟨b,_,_,_,c⟩:=(W00 g).1 a
 exact T0k b (λ_ h=>h) c
def u00:Nat->l0->l0×List (Int×Int)
 |0,g=>(g,[])
 |n+1,g=>match H5 g.2.2 with
  | []=>(g,[])
  |f::_=>((u00 n (W9 g f)).1,f::(u00 n (W9 g f)).2)
def J5(g:l0):l0×List (Int×Int):=bif U0 g then u00 40 g else(g,[])
theorem v0d:∀(n:Nat) {g:l0},U0 g=true->U0 (u00 n g).1=true
 |0,g,h=>h
 |n+1,g,h=>by
  unfold u00
  cases e:H5 g.2.2 with
  |nil=>exact h
  |cons f l=>exact v0d n (r03 h (h02 h f (by rw[e];exact mS)))
theorem x0a:∀(n:Nat) {g:l0},U0 g=true->g.2.1<=(n:Int)+1->H5 (u00 n g).1.2.2 = []
 |0,g,h,a=>by
  cases e:H5 g.2.2 with
  |nil=>exact e
  |cons f l =>
   have:=h02 h f (by rw[e];exact mS)
   unfold okF at this
   omega
 |n+1,g,h,a=>by
  unfold u00
  cases e:H5 g.2.2 with
  |nil=>exact e
  |cons f l=>exact x0a n (r03 h (h02 h f (by rw[e];exact mS))) (by show g.2.1-1<=_;omega)
theorem s0p(a b:K0):m06 a b = []↔z03 a b=false:=by
 unfold m06 z03
 cases decide (a.2.1=b.2.1)<;>cases decide (a.1=b.1)<;>cases decide (a.2.2=b.2.2)<;>simp
theorem D0h(a:K0):∀ l,Z01 a l = []↔∀ b∈l,z03 a b=false
 | []=>by simp[Z01]
 |b::r=>by
  rw[Z01,List.append_eq_nil_iff,s0p,D0h a r]
  simp
theorem F0c:∀ l,H5 l = []↔l.Pairwise λa b=>z03 a b=false
 | []=>by simp[H5]
 |a::r=>by rw[H5,List.append_eq_nil_iff,D0h,F0c r,List.pairwise_cons]
theorem J05(g:l0):F0 g=true↔U0 g=true/\H5 g.2.2 = []:=by
 unfold F0
 rw[Bool.and_eq_true,s09,F0c]
theorem i02{g:l0}(h:U0 g=true):F0 (J5 g).1=true:=by
 have a:=(O2 h).2.2.1
 unfold J5
 rw[h]
 exact(J05 _).2 ⟨v0d 40 h,x0a 40 h (by omega)⟩
theorem E0h(l:List K0)(a c e:Int)(s:l.length<=1000):∀(d k fuel:Nat) (acc:List S4),k+d=l.length->d<fuel->acc.length+2*d<=4000000 ->
  w5 l c a e fuel (k:Int) acc=some (acc++Z01 (a,c,e) (l.drop k))
 |d,k,0,acc,m,hf,j=>by omega
 |0,k,fuel+1,acc,m,hf,j=>by
  rw[w5.eq_2,if_neg (by simp;omega),M1 (by omega)]
  simp[Z01]
 |d+1,k,fuel+1,acc,m,hf,j=>by
  have n:k<l.length:=by omega
  have i:=c5 n
  generalize l[k]=b at i
  obtain⟨o,p,q⟩:=b
  have g:∀ f:List S4,f.length+2*d<=4000000->w5 l c a e fuel ((k+1:Nat):Int) f=some (f++Z01 (a,c,e) (l.drop (k+1))):=λf h=>E0h l a c e s d (k+1) fuel f (by omega) (by omega) h
  rw[w5.eq_2,if_pos (by simp;omega),B3 i,oB,V2 n (by omega),Q1 i]
  simp only[Z01,m06]
  cases decide (c=p)
  ·simp only[Bool.not_false,if_true,cond_false,List.nil_append]
   exact g acc (by omega)
  ·cases decide (a=o)<;>cases decide (e=q)
   all_goals simp only[Bool.not_true,Bool.false_eq_true,if_false,if_true,cond_true,cond_false,List.nil_append,List.append_nil]
   ·exact g acc (by omega)
   ·rw[I0 (by simp;omega),oB,g _ (by simp;omega)];simp
   ·rw[I0 (by simp;omega),oB,g _ (by simp;omega)];simp
   ·rw[I0 (by simp;omega),oB,I0 (by simp;omega),oB,g _ (by simp;omega)];simp
theorem F0h(l:List K0)(m:l.length<=1000):∀(d k fuel:Nat) (acc:List S4),k+d=l.length->d<fuel->acc.length+2000*d<=3000000 ->
  A9 l fuel (k:Int) acc=some (acc++H5 (l.drop k))
 |d,k,0,acc,h,hf,g=>by omega
 |0,k,fuel+1,acc,h,hf,g=>by
  rw[A9.eq_2,if_neg (by simp;omega),M1 (by omega)]
  simp[H5]
 |d+1,k,fuel+1,acc,h,hf,g=>by
  have i:k<l.length:=by omega
  have a:=c5 i
  generalize l[k]=b at a
  obtain⟨c,e,f⟩:=b
  have h0:=E0h (l.drop (k+1)) c e f (by simp;omega) (l.length-(k+1)) 0 W0 acc (by simp) (F1 (by omega)) (by omega)
  have j:=E0c (c,e,f) (l.drop (k+1))
  simp only[List.length_drop]at j
  rw[A9.eq_2,if_pos (by simp;omega),B3 a,oB]
  simp only[V2 i (show l.length<=9223372036854775807 by omega)]
  rw[g03 (by omega),oB,show(0:Int)=((0:Nat):Int) from rfl,h0,oB,F0h l m d (k+1) fuel _ (by omega) (by omega) (by simp only[List.length_append,List.drop_zero,List.length_drop]at j ⊢;omega),Q1 a,H5]
  simp
theorem G0h(l:List K0)(u:l.length<=1000)(i:Nat)(a c e:Int)(o:l[i]?=some (a,c,e)):∀(d k fuel:Nat) (acc:List S4),k+d=l.length->d<fuel->acc.length+2*d<=4000000 ->
  H4 l (i:Int) fuel (k:Int) acc=some (acc++Z01 (a,c,e) (l.drop k))
 |d,k,0,acc,n,hf,m=>by omega
 |0,k,fuel+1,acc,n,hf,m=>by
  rw[H4.eq_2,if_neg (by simp;omega),M1 (by omega)]
  simp[Z01]
 |d+1,k,fuel+1,acc,n,hf,m=>by
  have p:k<l.length:=by omega
  have j:=c5 p
  generalize l[k]=b at j
  obtain⟨q,s,t⟩:=b
  have g:∀ f:List S4,f.length+2*d<=4000000->H4 l (i:Int) fuel ((k+1:Nat):Int) f=some (f++Z01 (a,c,e) (l.drop (k+1))):=λf h=>G0h l u i a c e o d (k+1) fuel f (by omega) (by omega) h
  rw[H4.eq_2,if_pos (by simp;omega),B3 o,oB]
  simp only[]
  rw[B3 j,oB,V2 p (by omega),Q1 j]
  simp only[Z01,m06]
  cases decide (c=s)
  ·simp only[Bool.false_eq_true,if_false,cond_false,List.nil_append]
   exact g acc (by omega)
  ·cases decide (a=q)<;>cases decide (e=t)
   all_goals simp only[Bool.not_true,Bool.false_eq_true,if_false,if_true,cond_true,cond_false,List.nil_append,List.append_nil]
   ·exact g acc (by omega)
   ·rw[I0 (by simp;omega),oB,g _ (by simp;omega)];simp
   ·rw[I0 (by simp;omega),oB,g _ (by simp;omega)];simp
   ·rw[I0 (by simp;omega),oB,I0 (by simp;omega),oB,g _ (by simp;omega)];simp
theorem H0h(l:List K0)(j:l.length<=1000):∀(d k fuel:Nat) (acc:List S4),k+d=l.length->d<fuel->acc.length+2000*d<=3000000 ->
  V7 l fuel (k:Int) acc=some (acc++H5 (l.drop k))
 |d,k,0,acc,h,hf,g=>by omega
 |0,k,fuel+1,acc,h,hf,g=>by
  rw[V7.eq_2,if_neg (by simp;omega),M1 (by omega)]
  simp[H5]
 |d+1,k,fuel+1,acc,h,hf,g=>by
  have i:k<l.length:=by omega
  have a:=c5 i
  generalize l[k]=b at a
  obtain⟨c,e,f⟩:=b
  have h0:=G0h l j k c e f a (l.length-(k+1)) (k+1) W0 acc (by omega) (F1 (by omega)) (by omega)
  have m:=E0c (c,e,f) (l.drop (k+1))
  simp only[List.length_drop]at m
  rw[V7.eq_2,if_pos (by simp;omega),V2 i (by omega),h0,oB,H0h l j d (k+1) fuel _ (by omega) (by omega) (by simp only[List.length_append,List.length_drop]at m ⊢;omega),Q1 a,H5]
  simp
theorem w0d(g:l0)(a:g.2.2.length<=1000):B02 g=some (H5 g.2.2):=by
 obtain⟨r,n,es⟩:=g
 unfold B02
 simp only
 rw[show(0:Int)=((0:Nat):Int) from rfl,F0h es a es.length 0 W0 [] (by omega) (F1 (by simp only at a;omega)) (by simp only at a;simp;omega)]
 rfl
theorem U0k(g:l0)(a:g.2.2.length<=1000):k02 g=some (H5 g.2.2):=by
 obtain⟨r,n,es⟩:=g
 unfold k02
 simp only
 rw[show(0:Int)=((0:Nat):Int) from rfl,H0h es a es.length 0 W0 [] (by omega) (F1 (by simp only at a;omega)) (by simp only at a;simp;omega)]
 rfl
def s03(g:l0):S4×Bool:=bif U0 g then(match H5 g.2.2 with
 | []=>((0,0),false)
 |f::_=>(f,true))else((0,0),false)
theorem K0d(g:l0)(c:g.2.2.length<=140737488355328):g00 g=some (s03 g):=by
 have b:=b00 g c
 have a:=w0d g
 unfold s03
 cases hg:U0 g with
 |false =>
  obtain⟨r,n,es⟩:=g
  unfold g00
  simp only[b,hg,oB];rfl
 |true =>
  have a:=a (by have:=(O2 hg).2.2.2;omega)
  obtain⟨r,n,es⟩:=g
  unfold g00
  simp only[b,hg,a,oB,cond_true]
  simp only at a
  cases H5 es with
  |nil=>rfl
  |cons f l =>
   rw[if_neg (by simp),if_neg (by simp;omega),a0j rfl]
   rfl
theorem L0d(g:l0)(c:g.2.2.length<=140737488355328):f00 g=some (s03 g):=by
 have b:=g9 g c
 have a:=U0k g
 unfold s03
 cases hg:U0 g with
 |false =>
  obtain⟨r,n,es⟩:=g
  unfold f00
  simp only[b,hg,oB];rfl
 |true =>
  have a:=a (by have:=(O2 hg).2.2.2;omega)
  obtain⟨r,n,es⟩:=g
  unfold f00
  simp only[b,hg,a,oB,cond_true]
  simp only at a
  cases H5 es with
  |nil=>rfl
  |cons f l =>
   rw[if_neg (by simp),if_neg (by simp;omega),a0j rfl]
   rfl
theorem c0o(v:Int)(f:S4)(d:0<=v/\v<1000)(hf:0<=f.1/\f.1<f.2):A02 v f=some (mvV f v):=by
 obtain⟨a,b⟩:=f
 simp only at hf
 unfold A02 mvV
 simp only
 by_cases c:v=b
 ·rw[if_pos (by simp[c]),if_neg (by simp;omega),if_pos c]
 ·rw[if_neg (by simp[c]),if_neg c]
  by_cases c2:v>b
  ·rw[if_pos (by simp[c2]),if_pos c2,w64 (by omega) (by omega)]
  ·rw[if_neg (by simp;omega),if_neg c2]
theorem V0k(v:Int)(f:S4)(d:0<=v/\v<1000):K6 v f=some (mvV f v):=by
 obtain⟨a,b⟩:=f
 unfold K6 mvV
 simp only
 by_cases c:v=b
 ·rw[if_pos (by simp[c]),if_pos c]
 ·rw[if_neg (by simp[c]),if_neg c]
  by_cases c2:v>b
  ·rw[if_pos (by simp[c2]),if_pos c2,w64 (by omega) (by omega)]
  ·rw[if_neg (by simp;omega),if_neg c2]
theorem m0j{f:S4}{v:Int}(a:0<=v/\v<1000)(hf:0<=f.1/\f.1<1000):J0 (mvV f v):=by
 unfold mvV
 split
 ·exact⟨by omega,by omega⟩
 ·split
  ·exact⟨by omega,by omega⟩
  ·exact⟨by omega,by omega⟩
theorem W0k(es:List K0)(f:S4)(r n:Int)(s:es.length<=1000)(o:∀ e∈es,(0<=e.1/\e.1<1000)/\(0<=e.2.2/\e.2.2<1000))(hf:0<=f.1/\f.1<f.2)(q:f.2<1000):∀(d k fuel:Nat) (acc:List K0),k+d=es.length->d<fuel->acc.length<=k ->
  M4 es f.1 f.2 fuel (k:Int) r n acc=some (r,n,K5 T0 acc ((es.drop k).map (mvE f)))
 |d,k,0,acc,l,m,j=>by omega
 |0,k,fuel+1,acc,l,m,j=>by
  rw[M4.eq_2,if_neg (by simp;omega),M1 (by omega)]
  rfl
 |d+1,k,fuel+1,acc,l,m,j=>by
  have c:k<es.length:=by omega
  have g:=c5 c
  have a:=o _ (List.getElem_mem c)
  generalize es[k]=b at g a
  obtain⟨h,p,i⟩:=b
  simp only at a
  have t:=c07 (mvE f (h,p,i)) acc
  rw[M4.eq_2,if_pos (by simp;omega),B3 g,oB]
  simp only[]
  rw[c0o h (f.1,f.2) a.1 hf,oB,I0 (m0j a.1 ⟨hf.1,by show f.1<1000;omega⟩),oB,c0o i (f.1,f.2) a.2 hf,oB,I0 (m0j a.2 ⟨hf.1,by show f.1<1000;omega⟩),oB,
   u09 acc _ (by omega),oB,V2 c (by omega),Q1 g,List.map_cons]
  exact W0k es f r n s o hf q d (k+1) fuel _ (by omega) (by omega) (Nat.le_trans t (by omega))
theorem X0k{g:l0}{f:S4}(d:U0 g=true)(hf:okF g f):W7 g f=some (W9 g f,true):=by
 obtain⟨k,o,l,m⟩:=O2 d
 have i:=g9 g (by omega)
 obtain⟨c,f2,f3⟩:=hf
 obtain⟨r,n,es⟩:=g
 obtain⟨a,b⟩:=f
 simp only at c f2 f3 l m
 have h:=W0k es (a,b) r (IntKind.i64.wrap (n-1)) (by omega) (λe j=>by
  have:=k e j
  simp only at this
  exact⟨⟨by omega,by omega⟩,by omega,by omega⟩) ⟨c,f2⟩ (by simp only;omega) es.length 0 W0 [] (by omega) (F1 (by omega)) (Nat.le_refl _)
 unfold W7
 simp only[i,d,oB]
 rw[if_neg (by simp;omega),show(0:Int)=((0:Nat):Int) from rfl,h,w64 (by omega) (by omega)]
 rfl
theorem Y0k(es:List K0)(f:S4)(s:es.length<=1000)(n:∀ e∈es,(0<=e.1/\e.1<1000)/\(0<=e.2.2/\e.2.2<1000))(hf:0<=f.1/\f.1<1000):∀(d k fuel:Nat),k+d=es.length->d<fuel ->
  N4 es f.1 f.2 fuel (k:Int) ((es.take k).map (mvE f)++es.drop k)=some (es.map (mvE f))
 |d,k,0,j,l=>by omega
 |0,k,fuel+1,j,l=>by
  rw[N4.eq_2,if_neg (by simp;omega),M1 (by omega),List.append_nil,List.take_of_length_le (by omega)]
 |d+1,k,fuel+1,j,l=>by
  have g:k<es.length:=by omega
  have c:=c5 g
  have a:=n _ (List.getElem_mem g)
  generalize es[k]=b at c a
  have m:((es.take k).map (mvE f)).length=k:=by simp;omega
  have q:((es.take k).map (mvE f)++es.drop k)[k]?=some b:=by
   rw[List.getElem?_append_right (by omega),m,Q1 c];simp
  have t:∀ y,((es.take k).map (mvE f)++es.drop k).set k y=(es.take k).map (mvE f)++y::es.drop (k+1):=λy=>by
   rw[List.set_append_right _ _ (by omega),m,Q1 c];simp
  obtain⟨h,p,i⟩:=b
  simp only at a
  have e:(es.take (k+1)).map (mvE f)++es.drop (k+1)=(es.take k).map (mvE f)++mvE f (h,p,i)::es.drop (k+1):=by
   rw[N0n c];simp
  have o:=Y0k es f s n hf d (k+1) fuel (by omega) (by omega)
  rw[e]at o
  rw[N4.eq_2,if_pos (by simp;omega),B3 q,oB]
  simp only[]
  rw[V0k h (f.1,f.2) a.1,oB,I0 (m0j a.1 hf),oB,V0k i (f.1,f.2) a.2,oB,I0 (m0j a.2 hf),oB]
  simp only[oB]
  rw[show((k:Nat):Int).toNat=k from Int.toNat_natCast k,t,V2 g (by omega)]
  exact o
theorem x0d{g:l0}{f:S4}(d:U0 g=true)(hf:okF g f):O4 g f=some (W9 g f,true):=by
 obtain⟨l,p,m,o⟩:=O2 d
 have i:=b00 g (by omega)
 have j:=L9 g (by omega)
 obtain⟨c,f2,f3⟩:=hf
 obtain⟨r,n,es⟩:=g
 obtain⟨a,b⟩:=f
 simp only at c f2 f3 m o
 have h:=Y0k es (a,b) (by omega) (λe k=>by
  have:=l e k
  simp only at this
  exact⟨⟨by omega,by omega⟩,by omega,by omega⟩) ⟨c,by simp only;omega⟩ es.length 0 W0 (by omega) (F1 (by omega))
 simp only[List.take_zero,List.map_nil,List.nil_append,List.drop_zero]at h
 unfold O4
 simp only[i,j,d,oB]
 rw[if_neg (by simp;omega),show(0:Int)=((0:Nat):Int) from rfl,h,oB,H08 _ (by simp;omega),oB,w64 (by omega) (by omega)]
 rfl
def n02(g:l0):l0×S4×Bool:=bif U0 g then(match H5 g.2.2 with
 | []=>(g,(0,0),false)
 |f::_=>(W9 g f,f,true))else(g,(0,0),false)
theorem M08(g:l0)(j:g.2.2.length<=1099511627776):J01 g=some (n02 g):=by
 have c:=L0d g (by omega)
 have d:=I07 g j
 have i:∀ f,U0 g=true->okF g f->W7 g f=some (W9 g f,true):=λf a b=>X0k a b
 have h:U0 g=true->∀ f∈H5 g.2.2,okF g f:=h02
 unfold s03 at c
 unfold n02
 obtain⟨r,n,es⟩:=g
 unfold J01
 simp only[c,oB]
 cases hg:U0 (r,n,es)with
 |false=>simp only[cond_false,Bool.not_false,if_true,d,oB]
 |true =>
  simp only[cond_true]
  simp only at h
  cases e:H5 es with
  |nil=>simp only[Bool.not_false,if_true,d,oB]
  |cons f l =>
   simp only[Bool.not_true,Bool.false_eq_true,if_false,i f hg (h hg f (by rw[e];exact mS)),oB]
theorem N08(g:l0)(j:g.2.2.length<=1099511627776):M01 g=some (n02 g):=by
 have c:=K0d g (by omega)
 have d:=L9 g j
 have i:∀ f,U0 g=true->okF g f->O4 g f=some (W9 g f,true):=λf a b=>x0d a b
 have h:U0 g=true->∀ f∈H5 g.2.2,okF g f:=h02
 unfold s03 at c
 unfold n02
 obtain⟨r,n,es⟩:=g
 unfold M01
 simp only[c,oB]
 cases hg:U0 (r,n,es)with
 |false=>simp only[cond_false,Bool.not_false,if_true,d,oB]
 |true =>
  simp only[cond_true]
  simp only at h
  cases e:H5 es with
  |nil=>simp only[Bool.not_false,if_true,d,oB]
  |cons f l =>
   simp only[Bool.not_true,Bool.false_eq_true,if_false,i f hg (h hg f (by rw[e];exact mS)),oB]
def H0t:(l0×p6) ⊕ (Int×Int×V0×(List S4))->Option (l0×p6):=λX=>Q8 X (λS=>match S with
 |(a,b,c,e)=>some ((a,b,c),e))
theorem B0f:∀(d k fuel:Nat) (g:l0) (acc:List S4),k+d=40->d<fuel->U0 g=true->acc.length=k ->
  (J6 fuel (k:Int) g.1 g.2.1 g.2.2 acc).bind H0t=some ((u00 d g).1,acc++(u00 d g).2)
 |d,k,0,g,acc,h,hf,a,c=>by omega
 |0,k,fuel+1,g,acc,h,hf,a,c=>by
  rw[J6.eq_2,if_neg (by simp;omega)]
  simp[H0t,Q8,u00]
 |d+1,k,fuel+1,g,acc,h,hf,a,c=>by
  have b:=M08 g (by have:=(O2 a).2.2.2;omega)
  have i:=h02 a
  unfold n02 at b
  rw[a]at b
  simp only[cond_true]at b
  rw[J6.eq_2,if_pos (by simp;omega),show(g.1,g.2.1,g.2.2)=g from rfl,b]
  unfold u00
  cases e:H5 g.2.2 with
  |nil=>simp[H0t,Q8]
  |cons f l =>
   have j:=B0f d (k+1) fuel (W9 g f) (acc ++ [f]) (by omega) (by omega) (r03 a (i f (by rw[e];exact mS))) (by simp[c])
   simp only[oB,Bool.not_true,Bool.false_eq_true,if_false]
   rw[I0 (by simp;omega),oB,V2 (show k<1000 by omega) (by omega)]
   refine j.trans ?_
   simp
theorem I0g(g:l0)(b:g.2.2.length<=1099511627776):l02 g=some (J5 g):=by
 have a:=M08 g b
 have c:=I07 g b
 have d:=B0f 40 0 W0 g [] rfl (F1 (by omega))
 unfold J5
 obtain⟨r,n,es⟩:=g
 unfold l02
 simp only[c,oB]
 cases hg:U0 (r,n,es)with
 |false =>
  unfold n02 at a
  rw[hg]at a
  simp only[cond_false]at a
  rw[show W0=(W0-1)+1 from rfl,J6.eq_2,if_pos (by simp),a]
  rfl
 |true=>exact d hg rfl
theorem C0f:∀(d fuel:Nat) (g:l0) (acc:List S4),d<fuel->U0 g=true->H5 (u00 d g).1.2.2 = []->acc.length+d<=1000 ->
  Y7 fuel g.1 g.2.1 g.2.2 acc=some (.inl ((u00 d g).1,acc++(u00 d g).2))
 |d,0,g,acc,hf,a,c,j=>by omega
 |d,fuel+1,g,acc,hf,a,c,j=>by
  have b:=N08 g (by have:=(O2 a).2.2.2;omega)
  have i:=h02 a
  unfold n02 at b
  rw[a]at b
  simp only[cond_true]at b
  rw[Y7.eq_2,show(g.1,g.2.1,g.2.2)=g from rfl,b]
  cases e:H5 g.2.2 with
  |nil =>
   have h:u00 d g=(g,[]):=by
    cases d with
    |zero=>rfl
    |succ d=>unfold u00;rw[e]
   rw[h]
   simp
  |cons f l =>
   cases d with
   |zero=>exact absurd e (by rw[show H5 g.2.2 = [] from c];simp)
   |succ d =>
    have h:u00 (d+1) g=((u00 d (W9 g f)).1,f::(u00 d (W9 g f)).2):=by
     show(match H5 g.2.2 with | []=>(g,[])|f::_=>((u00 d (W9 g f)).1,f::(u00 d (W9 g f)).2))=_
     rw[e]
    rw[h]at c ⊢
    have k:=C0f d fuel (W9 g f) (acc ++ [f]) (by omega) (r03 a (i f (by rw[e];exact mS))) c (by simp;omega)
    simp only[oB,Bool.not_true,Bool.false_eq_true,if_false]
    rw[I0 (by simp;omega),oB]
    refine k.trans ?_
    simp
theorem a0a(g:l0)(c:g.2.2.length<=1099511627776):m02 g=some (J5 g):=by
 have b:=N08 g c
 have d:=L9 g c
 have e:=C0f 40 W0 g [] (F1 (by omega))
 have f:U0 g=true->H5 (u00 40 g).1.2.2 = []:=λa=>x0a 40 a (by have:=(O2 a).2.2.1;omega)
 unfold J5
 obtain⟨r,n,es⟩:=g
 unfold m02
 simp only[d,oB]
 cases a:U0 (r,n,es)with
 |false =>
  unfold n02 at b
  rw[a]at b
  simp only[cond_false]at b
  rw[show W0=(W0-1)+1 from rfl,Y7.eq_2,b]
  rfl
 |true =>
  have h:=e a (f a) (by simp)
  simp only at h
  rw[h]
  rfl
theorem C02{g:l0}(h:U0 g=true):Asc T0 g.2.2:=((W00 g).1 h).2.2.2.2
def stp(u x v:Int):K0:=if x<0 then(v,-x,u)else(u,x,v)
def Z00(v:Int):List Int->Int->Int->List K0
 | [],_,_=>[]
 | [x],u,_=>[stp u x v]
 |x::y::r,u,n=>stp u x n::Z00 v (y::r) n (n+1)
theorem d07(v:Int):∀(w:List Int) (u n:Int),(Z00 v w u n).length=w.length
 | [],_,_=>rfl
 | [x],_,_=>rfl
 |x::y::r,u,n=>by simp only[Z00,List.length_cons,d07 v (y::r)]
theorem n0j(u x v:Int)(a:Y3 x):q01 u x v=some (stp u x v):=by
 unfold q01 stp
 by_cases c:x<0
 ·rw[if_pos (by simp[c]),if_pos c,q0d a.1 a.2]
 ·rw[if_neg (by simp;omega),if_neg c]
theorem o0j(w:List Int)(v:Int)(r:Int)(e:∀ x∈w,Y3 x)(l:w.length<=1000):∀(d k fuel:Nat) (u n:Int) (es:List K0),k+d=w.length->d<fuel->0<=n->n<=1000+k->es.length<=1000+k ->
  L6 w v fuel u (k:Int) r n es=some (r,n+((d-1:Nat):Int),es++Z00 v (w.drop k) u n)
 |d,k,0,u,n,es,j,hf,h0,h,i=>by omega
 |0,k,fuel+1,u,n,es,j,hf,h0,h,i=>by
  rw[L6.eq_2,if_neg (by simp;omega),M1 (by omega)]
  simp[Z00]
 |d+1,k,fuel+1,u,n,es,j,hf,h0,h,i=>by
  have a:k<w.length:=by omega
  have f:=c5 a
  have b:=e _ (List.getElem_mem a)
  generalize w[k]=x at f b
  rw[L6.eq_2,if_pos (by simp;omega),B3 f,oB,a0f (by omega) (by omega),Q1 f]
  by_cases c:k+1<w.length
  ·rw[if_pos (by simp;omega),n0j u x n b,oB]
   have m:=c5 c
   generalize w[k+1]=y at m
   have g:=o0j w v r e l d (k+1) fuel n (n+1) (es ++ [stp u x n]) (by omega) (by omega) (by omega) (by omega) (by simp;omega)
   simp only[]
   rw[I0 (by simp;omega),oB,V2 a (by omega),w64 (show(-9223372036854775808:Int)<=n+1 by omega) (by omega)]
   refine g.trans ?_
   rw[Q1 m]
   simp only[Z00,List.append_assoc,List.singleton_append]
   congr 3
   omega
  ·have o:d=0:=by omega
   subst o
   rw[if_neg (by simp;omega),n0j u x v b,oB]
   have g:=o0j w v r e l 0 (k+1) fuel v n (es ++ [stp u x v]) (by omega) (by omega) h0 (by omega) (by simp;omega)
   simp only[]
   rw[I0 (by simp;omega),oB,V2 a (by omega)]
   refine g.trans ?_
   rw[M1 (show k+1=w.length by omega)]
   simp[Z00]
theorem p0j(w:List Int)(v:Int)(r:Int)(h:∀ x∈w,Y3 x/\x≠0)(o:w.length<=1000):∀(d k fuel:Nat) (u n:Int) (es:List K0),k+d=w.length->d<fuel->0<=n->n<=1000+k->es.length<=1000+k ->
  p5 w v fuel u (k:Int) r n es=some (r,n+((d-1:Nat):Int),K5 T0 es (Z00 v (w.drop k) u n))
 |d,k,0,u,n,es,m,hf,h0,j,l=>by omega
 |0,k,fuel+1,u,n,es,m,hf,h0,j,l=>by
  rw[p5.eq_2,if_neg (by simp;omega),M1 (by omega)]
  simp[Z00,K5]
 |d+1,k,fuel+1,u,n,es,m,hf,h0,j,l=>by
  have f:k<w.length:=by omega
  have g:=c5 f
  have b:=h _ (List.getElem_mem f)
  generalize w[k]=x at g b
  have p:∀ e,(w01 T0 e es).length<=1000+(k+1):=λe=>by have:=c07 e es;omega
  rw[p5.eq_2,if_pos (by simp;omega),Q1 g]
  by_cases c:k+1<w.length
  ·have i:=c5 c
   generalize w[k+1]=y at i
   have a:=p0j w v r h o d (k+1) fuel n (n+1) (w01 T0 (stp u x n) es) (by omega) (by omega) (by omega) (by omega) (p _)
   rw[Q1 i]at a
   rw[V2 f (by omega),if_pos (by simp;omega),B3 g,oB,w64 (show(-9223372036854775808:Int)<=n+1 by omega) (by omega),Q1 i]
   have fin:some (r,n+1+((d-1:Nat):Int),K5 T0 (w01 T0 (stp u x n) es) (Z00 v (y::w.drop (k+1+1)) n (n+1)))=some (r,n+((d+1-1:Nat):Int),K5 T0 es (Z00 v (x::y::w.drop (k+1+1)) u n)):=by
    simp only[Z00,K5]
    congr 3
    omega
   by_cases c2:x>0
   ·have e:stp u x n=(u,x,n):=by unfold stp;rw[if_neg (by omega)]
    rw[if_pos (by simp[c2])]
    simp only[oB]
    rw[u09 es _ (by omega),oB,←e]
    exact a.trans fin
   ·have e:stp u x n=(n,-x,u):=by unfold stp;rw[if_pos (by omega)]
    rw[if_neg (by simp;omega)]
    simp only[oB]
    rw[q0d b.1.1 b.1.2,u09 es _ (by omega),oB,←e]
    exact a.trans fin
  ·have q:d=0:=by omega
   subst q
   have a:=p0j w v r h o 0 (k+1) fuel v n (w01 T0 (stp u x v) es) (by omega) (by omega) h0 (by omega) (p _)
   rw[M1 (show k+1=w.length by omega)]at a ⊢
   rw[V2 f (by omega),if_neg (by simp;omega),B3 g,oB]
   have fin:some (r,n+((0-1:Nat):Int),K5 T0 (w01 T0 (stp u x v) es) (Z00 v [] v n))=some (r,n+((0+1-1:Nat):Int),K5 T0 es (Z00 v [x] u n)):=by
    simp[Z00,K5]
   by_cases c2:x>0
   ·have e:stp u x v=(u,x,v):=by unfold stp;rw[if_neg (by omega)]
    rw[if_pos (by simp[c2])]
    simp only[oB]
    rw[u09 es _ (by omega),oB,←e]
    exact a.trans fin
   ·have e:stp u x v=(v,-x,u):=by unfold stp;rw[if_pos (by omega)]
    rw[if_neg (by simp;omega)]
    simp only[oB]
    rw[q0d b.1.1 b.1.2,u09 es _ (by omega),oB,←e]
    exact a.trans fin
theorem D0f{es p:List K0}(a:Asc T0 es):K5 T0 [] (es++p)=K5 T0 es p :=
 G07 L3 (I00 L3 _ _ .nil) (I00 L3 _ _ a) λx=>by
  rw[C4 L3,C4 L3];simp
def N1(g:l0)(u:Int)(w:List Int)(v:Int):l0×Bool :=
 bif !w.isEmpty&&decide (g.2.1+(w.length:Int)-1<=40)&&decide (g.2.2.length+w.length<=120)then((g.1,g.2.1+((w.length-1:Nat):Int),K5 T0 g.2.2 (Z00 v w u g.2.1)),true)else(g,false)
theorem z01{r:Int}{w:List Int}(h:V1 r w=true):w.length<=24/\∀ x∈w,Y3 x/\x≠0 /\ -r<=x/\x<=r:=by
 have a:=h
 simp only[V1,Bool.and_eq_true,decide_eq_true_eq]at a
 refine⟨a.1.2,λx c=>?_⟩
 obtain⟨i,b⟩:=List.getElem?_of_mem c
 have:=H0k h b
 exact⟨⟨⟨by omega,by omega⟩,by omega⟩,this.2.2⟩
theorem J0g{g:l0}{u v:Int}{w:List Int}(d:U0 g=true)(f:0<=u/\u<g.2.1)(i:0<=v/\v<g.2.1)(j:V1 g.1 w=true):j02 g u w v=some (N1 g u w v):=by
 obtain⟨y,z,p,q⟩:=O2 d
 obtain⟨A,k⟩:=z01 j
 have l:=g9 g (by omega)
 have m:=I07 g (by omega)
 have b:=o0b g.1 w (by omega)
 obtain⟨r,n,es⟩:=g
 simp only at p q f i b
 have o:IntKind.i64.wrap (n-1)=n-1:=w64 (by omega) (by omega)
 have e:∀ x:Int,0<=x/\x<n->inR 0 (n-1) x=true:=λx a=>by simp[inR];omega
 have h:=p0j w v r (λx a=>⟨(k x a).1,(k x a).2.1⟩) (by omega) w.length 0 W0 u n es (by omega) (F1 (by omega)) (by omega) (by omega) (by omega)
 unfold j02 N1
 simp only[l,m,d,oB,Bool.not_true,Bool.not_false,O1,cond_false,o,M04,e u f,e v i,b,j]
 rw[w64 (show(-9223372036854775808:Int)<=n+((w.length:Nat):Int) by omega) (by omega),w64 (show(-9223372036854775808:Int)<=n+((w.length:Nat):Int)-1 by omega) (by omega),w64 (show(-9223372036854775808:Int)<=((es.length:Nat):Int)+((w.length:Nat):Int) by omega) (by omega)]
 by_cases c:(w≠[]/\n+(w.length:Int)-1<=40)/\es.length+w.length<=120
 ·have t:w.length≠0:=by simpa using c.1.1
  rw[if_neg (by simp only[Bool.not_eq_true];simp[c.1.1];omega),show(0:Int)=((0:Nat):Int) from rfl,h,oB]
  rw[show(!w.isEmpty&&decide (n+(w.length:Int)-1<=40)&&decide (es.length+w.length<=120))=true by simp[c.1.1,c.1.2,c.2]]
  rfl
 ·rw[show(!w.isEmpty&&decide (n+(w.length:Int)-1<=40)&&decide (es.length+w.length<=120))=false by
   rw[←Bool.not_eq_true];simpa using c]
  rw[if_pos ?_]
  ·rfl
  ·by_cases d1:w = []
   ·simp[d1]
   ·by_cases d2:n+(w.length:Int)-1<=40
    ·have s : ¬ es.length+w.length<=120:=λh=>c ⟨⟨d1,d2⟩,h⟩
     have:decide (((es.length:Nat):Int)+((w.length:Nat):Int)>120)=true:=by simp;omega
     rw[this];simp
    ·have:decide (n+((w.length:Nat):Int)-1>40)=true:=by simp;omega
     rw[this];simp
theorem V0q{g:l0}(a:U0 g=true){u:Int}(b:0<=u/\u<g.2.1):G4 g u=some true:=by
 obtain⟨d,e,c,f⟩:=O2 a
 obtain⟨r,n,es⟩:=g
 simp only at c b
 unfold G4
 simp only[Q02]
 rw[w64 (by omega) (by omega)]
 simp[inR];omega
theorem B06{g:l0}{u v:Int}{w:List Int}(a:U0 g=true)(e:0<=u/\u<g.2.1)(f:0<=v/\v<g.2.1)(i:V1 g.1 w=true):X00 g u w v=some (N1 g u w v):=by
 obtain⟨z,A,p,q⟩:=O2 a
 obtain⟨B,s⟩:=z01 i
 have j:=b00 g (by omega)
 have k:=L9 g (by omega)
 have b:=x01 g.1 w (by omega)
 have l:=V0q a e
 have m:=V0q a f
 have d:=C02 a
 obtain⟨r,n,es⟩:=g
 simp only at p q e f b d
 have h:=o0j w v r (λx o=>(s x o).1) (by omega) w.length 0 W0 u n es (by omega) (F1 (by omega)) (by omega) (by omega) (by omega)
 have y:=d07 v w u n
 unfold X00 N1
 simp only[j,k,a,oB,Bool.not_true,Bool.not_false,O1,cond_false,l,m]
 rw[w64 (show(-9223372036854775808:Int)<=n+((w.length:Nat):Int) by omega) (by omega),w64 (show(-9223372036854775808:Int)<=n+((w.length:Nat):Int)-1 by omega) (by omega),w64 (show(-9223372036854775808:Int)<=((es.length:Nat):Int)+((w.length:Nat):Int) by omega) (by omega)]
 by_cases d1:w = []
 ·subst d1
  simp[chk]
 rw[show decide (((w.length:Nat):Int)=0)=false by simp[d1],show(!false)=true from rfl,O1,b,oB,i]
 by_cases c:n+(w.length:Int)-1<=40/\es.length+w.length<=120
 ·rw[if_neg (by simp only[Bool.not_eq_true];simp;omega),show(0:Int)=((0:Nat):Int) from rfl,h,oB]
  rw[show(!w.isEmpty&&decide (n+(w.length:Int)-1<=40)&&decide (es.length+w.length<=120))=true by simp[d1,c.1,c.2]]
  simp only[List.drop_zero,cond_true]
  rw[H08 _ (by simp;omega),D0f d]
  rfl
 ·rw[show(!w.isEmpty&&decide (n+(w.length:Int)-1<=40)&&decide (es.length+w.length<=120))=false by
   rw[←Bool.not_eq_true];simp only[Bool.and_eq_true,decide_eq_true_eq,Bool.not_eq_true'];omega]
  rw[if_pos ?_]
  ·rfl
  ·by_cases d2:n+(w.length:Int)-1<=40
   ·have t : ¬ es.length+w.length<=120:=λh=>c ⟨d2,h⟩
    have:decide (((es.length:Nat):Int)+((w.length:Nat):Int)>120)=true:=by simp;omega
    rw[this];simp
   ·have:decide (n+((w.length:Nat):Int)-1>40)=true:=by simp;omega
    rw[this];simp
def P2(g:l0):l0×Bool:=bif decide (g.2.1<40)then((g.1,g.2.1+1,g.2.2),true)else(g,false)
theorem V07{g:l0}(a:U0 g=true):Y00 g=some (P2 g):=by
 obtain⟨f,h,e,i⟩:=O2 a
 have b:=b00 g (by omega)
 have d:=L9 g (by omega)
 obtain⟨r,n,es⟩:=g
 simp only at e
 unfold Y00 P2
 simp only[b,d,a,oB,Bool.not_true,cond_false]
 by_cases c:n<40
 ·rw[if_neg (by simp;omega),w64 (by omega) (by omega)];simp[c]
 ·rw[if_pos (by simp;omega)];simp[c]
theorem N01{g:l0}(a:U0 g=true):U0 (P2 g).1=true:=by
 unfold P2
 by_cases c:g.2.1<40
 ·simp only[c,decide_true,cond_true]
  obtain⟨d,f,j,h,i⟩:=(W00 g).1 a
  refine(W00 _).2 ⟨λe b=>?_,f,?_,h,i⟩
  ·have:=d e b
   simp only
   omega
  ·simp only;omega
 ·simp only[c,decide_false,cond_false];exact a
theorem d0o(es:List K0)(e:K0)(o:es.length<=140737488355328):∀(d k fuel:Nat),k+d=es.length->d<fuel ->
  ∃ X,I1 es e.1 e.2.1 e.2.2 fuel (k:Int)=some X/\((∃ i:Nat,X = .inl (i:Int)/\i<es.length/\e∈es.drop k)∨(X = .inr ()/\e ∉ es.drop k))
 |d,k,0,l,hf=>by omega
 |0,k,fuel+1,l,hf=>by
  rw[I1.eq_2,if_neg (by simp;omega),M1 (by omega)]
  exact⟨_,rfl,.inr ⟨rfl,by simp⟩⟩
 |d+1,k,fuel+1,l,hf=>by
  have a:k<es.length:=by omega
  have f:=c5 a
  generalize es[k]=b at f
  rw[I1.eq_2,if_pos (by simp;omega),B3 f,oB,Q1 f]
  simp only[]
  by_cases c:eqE e b=true
  ·rw[if_pos c]
   refine⟨_,rfl,.inl ⟨k,rfl,a,?_⟩⟩
   rw[(t09 _ _).1 c]
   exact mS
  ·rw[if_neg c,V2 a (by omega)]
   obtain⟨X,m,n⟩:=d0o es e o d (k+1) fuel (by omega) (by omega)
   refine⟨X,m,?_⟩
   have p:e≠b:=λh=>c ((t09 _ _).2 h)
   rcases n with⟨i,g,j,q⟩|⟨g,j⟩
   ·exact .inl ⟨i,g,j,mC _ q⟩
   ·refine .inr ⟨g,λh=>?_⟩
    rcases List.mem_cons.1 h with h|h
    ·exact p h
    ·exact j h
theorem H0m(es:List K0)(e:K0)(b:es.length<=140737488355328):M3 es e=some (decide (e∈es)):=by
 obtain⟨X,d,a⟩:=d0o es e b es.length 0 W0 (by omega) (F1 b)
 obtain⟨g,h,j⟩:=e
 unfold M3 M2
 simp only
 simp only[List.drop_zero]at a
 rw[show(0:Int)=((0:Nat):Int) from rfl,d]
 rcases a with⟨i,rfl,c,f⟩|⟨rfl,c⟩
 ·simp only[oB,B4]
  rw[I0 (show J0 ((i:Nat):Int) from⟨by omega,by omega⟩)]
  simp[f]
 ·simp only[oB,Y0]
  rw[I0 (show J0 (-1) from⟨by omega,by omega⟩)]
  simp[c]
def W07(g:l0)(v:Int):List Int->List K0
 | []=>[]
 |x::r=>(bif decide (Q0 g v x<0)then [(v,x,-1)]else [])++W07 g v r
def O08(g:l0):Nat->Nat->List K0
 |0,_=>[]
 |d+1,v=>W07 g (v:Int) (T6 g.1.toNat 1)++O08 g d (v+1)
theorem G0c(g:l0)(v:Int):∀ l,(W07 g v l).length<=l.length
 | []=>Nat.le_refl _
 |x::r=>by
  have:=G0c g v r
  simp only[W07,List.length_append,List.length_cons]
  cases decide (Q0 g v x<0)<;>simp<;>omega
theorem Z0k(g:l0)(j:U0 g=true)(v:Int)(a:List Int)(l:∀ x∈a,Y3 x)(o:a.length<=1000):∀(d k fuel:Nat) (acc:List K0),k+d=a.length->d<fuel->acc.length+d<=100000 ->
  W3 a g.1 g.2.1 g.2.2 v fuel (k:Int) acc=some (acc++W07 g v (a.drop k))
 |d,k,0,acc,i,hf,f=>by omega
 |0,k,fuel+1,acc,i,hf,f=>by
  rw[W3.eq_2,if_neg (by simp;omega),M1 (by omega)]
  simp[W07]
 |d+1,k,fuel+1,acc,i,hf,f=>by
  obtain⟨p,s,q,t⟩:=O2 j
  have c:k<a.length:=by omega
  have e:=c5 c
  have m:=l _ (List.getElem_mem c)
  generalize a[k]=x at e m
  have n:∀ b:List K0,b.length+d<=100000->W3 a g.1 g.2.1 g.2.2 v fuel ((k+1:Nat):Int) b=some (b++W07 g v (a.drop (k+1))):=λb h=>Z0k g j v a l o d (k+1) fuel b (by omega) (by omega) h
  rw[W3.eq_2,if_pos (by simp;omega),B3 e,oB,show(g.1,g.2.1,g.2.2)=g from rfl,f02 g v x m (by omega),oB,I0 (G03 p q.2 v x),oB,V2 c (by omega),Q1 e,W07]
  cases decide (Q0 g v x<0)with
  |true =>
   rw[if_pos rfl,I0 (by simp;omega),oB,n _ (by simp;omega)]
   simp
  |false =>
   rw[if_neg (by simp),n _ (by omega)]
   simp
theorem P08:∀(d i:Nat) (x:Int),x∈T6 d i->∃ j:Nat,i<=j/\j<i+d/\(x=(j:Int)∨x = -(j:Int))
 |0,i,x,h=>by simp[T6]at h
 |d+1,i,x,h=>by
  simp only[T6,List.mem_cons]at h
  rcases h with rfl|rfl|h
  ·exact⟨i,Nat.le_refl _,by omega,.inl rfl⟩
  ·exact⟨i,Nat.le_refl _,by omega,.inr rfl⟩
  ·obtain⟨j,b,c,a⟩:=P08 d (i+1) x h
   exact⟨j,by omega,by omega,a⟩
theorem a0l(g:l0)(a:F0 g=true):∀(d k fuel:Nat) (acc:List K0),k+d=g.2.1.toNat->d<fuel->acc.length+100*d<=10000 ->
  Z4 g.2.1 g.1 g.2.2 fuel (k:Int) acc=some (acc++O08 g d k)
 |d,k,0,acc,c,hf,b=>by omega
 |0,k,fuel+1,acc,c,hf,b=>by
  obtain⟨l,m,n,o⟩:=S0 a
  rw[Z4.eq_2,if_neg (by simp;omega)]
  simp[O08]
 |d+1,k,fuel+1,acc,c,hf,b=>by
  obtain⟨l,m,n,o⟩:=S0 a
  have f:=((J05 g).1 a).1
  obtain⟨R,e⟩:∃ R:Nat,g.1=(R:Int):=⟨g.1.toNat,by omega⟩
  have h:∀ x∈T6 g.1.toNat 1,Y3 x:=λx i=>by
   obtain⟨j,p,q,s⟩:=P08 _ _ _ i
   refine⟨⟨by omega,by omega⟩,by omega⟩
  have t:=F04 g.1.toNat 1
  have u:=G0c g (k:Int) (T6 g.1.toNat 1)
  have h0:=Z0k g f (k:Int) (T6 g.1.toNat 1) h (by omega) (T6 g.1.toNat 1).length 0 W0 acc (by omega) (F1 (by omega)) (by omega)
  rw[Z4.eq_2,if_pos (by simp;omega),show w9 g.1=some (T6 g.1.toNat 1) by rw[e,D0m R (by omega)];rfl,oB,show(0:Int)=((0:Nat):Int) from rfl,h0,oB,V2 (show k<1000 by omega) (by omega),a0l g a d (k+1) fuel _ (by omega) (by omega) (by simp;omega),O08]
  simp
def W01(g:l0):List K0:=O08 g g.2.1.toNat 0
theorem K0g{g:l0}(hf:F0 g=true):K8 g=some (W01 g):=by
 obtain⟨b,c,d,e⟩:=S0 hf
 have h:=a0l g hf g.2.1.toNat 0 W0 [] (by omega) (F1 (by omega)) (by simp;omega)
 have a:=A8 g (by omega)
 obtain⟨r,n,es⟩:=g
 unfold K8 W01
 simp only[a,hf,oB]at h ⊢
 rw[if_neg (by simp),show(0:Int)=((0:Nat):Int) from rfl,h];simp
theorem Q08{g:l0}(a:U0 g=true)(u:Int)(w:List Int)(v:Int):(N1 g u w v).1.2.2.length<=120:=by
 have q:=(O2 a).2.2.2
 unfold N1
 cases hc:(!w.isEmpty&&decide (g.2.1+(w.length:Int)-1<=40)&&decide (g.2.2.length+w.length<=120))with
 |false=>exact q
 |true =>
  simp only[Bool.and_eq_true,decide_eq_true_eq]at hc
  have b:=g02 (Z00 v w u g.2.1) g.2.2
  have c:=d07 v w u g.2.1
  simp only[cond_true]
  omega
end Go.Proofs.YtmgikbbmpnbbjaaGreat
