/- Texts of the claim, joined: Plain laws: words and presentations, as the spec and the cod and others. -/
import Derived.Test.YtkjhghloldgioaaGreatPart18
import Derived.Test.YtkjhghloldgioaaGreatH33
import Derived.Test.YtkjhghloldgioaaGreatH36
import Derived.Test.YtkjhghloldgioaaGreatPart17
namespace Go.Proofs.YtkjhghloldgioaaGreat
open Go.H
set_option linter.unusedVariables false
set_option linter.unusedSimpArgs false
theorem D1{n:Nat}(h:n<=140737488355328):n<U0:=by unfold U0;omega
theorem H0{p:Prop}[Decidable p](h:p):grd p=some ():=by unfold grd;rw[if_pos h]
theorem O1{a:Type}(o:Option a)(d:a):chk true o d=o:=rfl
theorem Y2{a:Type}(o:Option a)(d:a):chk false o d=some d:=rfl
theorem P2{a:Type}{xs:List a}{k:Nat}{x:a}(h:xs[k]?=some x):gi xs (k:Int)=some x:=by rw[h0c];exact h
theorem n0i{a:Type}{xs:List a}{x:a}(h:xs[0]?=some x):gi xs 0=some x:=P2 (k:=0) h
theorem n08{x:Int}(h:I0 x)(a:x ≠ -9223372036854775808):IntKind.i64.wrap (0-x) = -x:=by rw[w64 (by have:=h.1;have:=h.2;omega) (by have:=h.1;have:=h.2;omega)];omega
theorem X0e{n:Nat}(h:0<n)(a:n<=9223372036854775807):IntKind.i64.wrap ((n:Int)-1)=((n-1:Nat):Int):=by rw[w64 (by omega) (by omega)];omega
theorem L5{a:Type}{xs:List a}{k:Nat}(h:k<xs.length):xs[k]?=some xs[k]:=List.getElem?_eq_getElem h
def inR(b a x:Int):Bool:=decide (b<=x)&&decide (x<=a)
def E04(b a:Int)(w:List Int)(i:Nat):Bool :=
 match w[i]? with
 |none=>true
 |some x=>x == 0 || !inR b a x || (decide (0<i)&&match w[i-1]? with
  |none=>true
  |some y=>x == IntKind.i64.wrap (0-y))
def l03(b a:Int)(w:List Int):Nat->Nat->Bool
 |0,_=>true
 |d+1,k => !E04 b a w k&&l03 b a w d (k+1)
def U1(r:Int)(w:List Int):Bool:=inR 1 3 r&&decide (w.length<=24)&&l03 (-r) r w w.length 0
theorem m03(a b c:Int):H4 a b c=some (inR b c a):=by
 unfold H4 inR
 by_cases h:b<=a<;>simp[h]
theorem L03(a b c:Int):E7 a b c=some (inR b c a):=m03 a b c
theorem C06(r:Int)(w:List Int)(n:w.length<=140737488355328):∀(d k fuel:Nat),k+d=w.length->d<fuel ->
  I8 w r fuel (k:Int)=some (bif l03 (IntKind.i64.wrap (0-r)) r w d k then .inr ()else .inl false)
 |d,k,0,j,hf=>by omega
 |0,k,fuel+1,j,hf=>by
  rw[I8.eq_2,if_neg (by simp;omega)]
  simp[l03]
 |d+1,k,fuel+1,j,hf=>by
  have l:k<w.length:=by omega
  have a:=L5 l
  generalize w[k]=x at a
  have next:=C06 r w n d (k+1) fuel (by omega) (by omega)
  rw[I8.eq_2,if_pos (by simp;omega)]
  generalize IntKind.i64.wrap (0-r)=lo at next ⊢
  simp only[P2 a,oB,m03,A2 l (by omega:w.length<=9223372036854775807),next]
  have m:E04 lo r w k=(x == 0 || !inR lo r x || (decide (0<k)&&match w[k-1]? with
   |none=>true
   |some y=>x == IntKind.i64.wrap (0-y))):=by unfold E04;rw[a]
  simp only[l03,m]
  by_cases h0:x=0
  ·simp[h0,chk]
  have f:decide (x=0)=false:=by simpa using h0
  have b:(x == 0)=false:=by simpa using h0
  cases hin:inR lo r x with
  |false=>simp[f,b,hin,chk]
  |true =>
   by_cases hk0:k=0
   ·have h:decide ((k:Int)>0)=false:=by simp;omega
    have e:decide (0<k)=false:=by simp;omega
    simp only[f,b,hin,h,e,O1,Y2,Bool.not_true,Bool.not_false,Bool.and_true,Bool.false_and,Bool.or_self,Bool.true_and,cond_true,cond_false,oB,Bool.or_false,Bool.and_false,Bool.false_eq_true,if_false,cond_true,cond_false]
   ·have i:=L5 (show k-1<w.length by omega)
    generalize w[k-1]=y at i
    have o:IntKind.i64.wrap ((k:Int)-1)=((k-1:Nat):Int):=X0e (by omega) (by omega)
    have h:decide ((k:Int)>0)=true:=by simp;omega
    have e:decide (0<k)=true:=by simp;omega
    simp only[f,b,hin,h,e,o,i,P2 a,P2 i,O1,Y2,Bool.not_true,Bool.not_false,Bool.and_true,Bool.false_and,Bool.or_self,Bool.true_and,cond_true,cond_false,oB,Bool.or_false,Bool.and_false,Bool.false_or]
    by_cases hxy:x=IntKind.i64.wrap (0-y)
    ·have g:decide (x=IntKind.i64.wrap (0-y))=true:=by simpa using hxy
     have c:(x == IntKind.i64.wrap (0-y))=true:=by simpa using hxy
     simp only[g,c,if_true,Bool.not_true,Bool.false_and,Bool.false_eq_true,if_false,cond_true,cond_false]
    ·have g:decide (x=IntKind.i64.wrap (0-y))=false:=by simpa using hxy
     have c:(x == IntKind.i64.wrap (0-y))=false:=by simpa using hxy
     simp only[g,c,Bool.false_eq_true,if_false,Bool.not_false,Bool.true_and]
theorem F02(r:Int)(w:List Int)(a:w.length<=140737488355328):o8 r w=some (U1 r w):=by
 unfold o8
 have h:=C06 r w a w.length 0 U0 (by omega) (D1 a)
 rw[show((0:Nat):Int)=0 from rfl]at h
 rw[h,m03]
 unfold U1
 by_cases hr:inR 1 3 r=true
 ·have:IntKind.i64.wrap (0-r) = -r:=by
   simp only[inR,Bool.and_eq_true,decide_eq_true_eq]at hr
   rw[w64 (by omega) (by omega)];omega
  rw[this,hr]
  cases l03 (-r) r w w.length 0<;>simp[a9]<;>omega
 ·simp only[Bool.not_eq_true]at hr
  rw[hr]
  cases l03 (IntKind.i64.wrap (0-r)) r w w.length 0<;>simp[a9]
theorem v0l(r x:Int)(b:inR 1 3 r=true):A01 r x=some (!(x == 0)&&inR (-r) r x):=by
 have a:IntKind.i64.wrap (0-r) = -r:=by
  simp only[inR,Bool.and_eq_true,decide_eq_true_eq]at b
  rw[w64 (by omega) (by omega)];omega
 unfold A01
 rw[a,L03]
 by_cases h0:x=0
 ·simp[h0,chk]
 ·simp[h0,chk]
theorem Y0a(y x:Int):B9 y x=some (!(y == 0) && !(y == -9223372036854775808)&&(x == IntKind.i64.wrap (0-y))):=by
 unfold B9
 by_cases h0:y=0
 ·simp[h0]
 ·by_cases h1:y = -9223372036854775808
  ·simp[h1]
  ·simp only[h0,h1,decide_false,Bool.not_false,cond_true,Option.some.injEq]
   have a:(y == 0)=false:=by simpa using h0
   have b:(y == -9223372036854775808)=false:=by simpa using h1
   rw[a,b]
   rfl
theorem D06(r:Int)(w:List Int)(hr:inR 1 3 r=true)(hl:w.length<=140737488355328):∀(d k fuel:Nat),k+d=w.length->d<fuel ->
  (∀ i,i<k->E04 (-r) r w i=false) ->
  J8 w r fuel (k:Int)=some (bif l03 (-r) r w d k then .inr ()else .inl false)
 |d,k,0,hk,hf,hp=>by omega
 |0,k,fuel+1,hk,hf,hp=>by
  rw[J8.eq_2,if_neg (by simp;omega)]
  simp[l03]
 |d+1,k,fuel+1,hk,hf,hp=>by
  have hkl:k<w.length:=by omega
  have hx:=L5 hkl
  generalize w[k]=x at hx
  have next:=λ(hb:E04 (-r) r w k=false)=>D06 r w hr hl d (k+1) fuel (by omega) (by omega) (λi hi=>by
   by_cases e:i=k
   ·subst e;exact hb
   ·exact hp i (by omega))
  rw[J8.eq_2,if_pos (by simp;omega)]
  rw[P2 hx,oB,v0l r x hr,A2 hkl (by omega:w.length<=9223372036854775807)]
  have hbad:E04 (-r) r w k=(x == 0 || !inR (-r) r x || (decide (0<k)&&match w[k-1]? with
   |none=>true
   |some y=>x == IntKind.i64.wrap (0-y))):=by unfold E04;rw[hx]
  simp only[l03]
  by_cases h0:x=0
  ·simp[h0,chk,hbad]
  have b0:(x == 0)=false:=by simpa using h0
  cases hin:inR (-r) r x with
  |false=>simp[b0,hin,chk,hbad]
  |true =>
   by_cases hk0:k=0
   ·have hb:E04 (-r) r w k=false:=by rw[hbad];simp[h0,hin,hk0]
    rw[next hb,hb]
    have ek:decide ((k:Int)>0)=false:=by simp;omega
    simp only[b0,ek,O1,Y2,Bool.not_true,Bool.not_false,Bool.and_true,Bool.false_and,Bool.or_self,Bool.true_and,cond_true,cond_false,oB,Bool.or_false,Bool.and_false,Bool.false_eq_true,if_false,cond_true,cond_false]
   ·have hy:=L5 (show k-1<w.length by omega)
    have hpy:=hp (k-1) (by omega)
    generalize w[k-1]=y at hy
    have hy0:y≠0/\y ≠ -9223372036854775808:=by
     unfold E04 at hpy
     rw[hy]at hpy
     simp only[Bool.or_eq_false_iff,Bool.not_eq_false']at hpy
     have h1:=hpy.1.2
     simp only[inR,Bool.and_eq_true,decide_eq_true_eq]at h1 hr
     exact⟨by simpa using hpy.1.1,by omega⟩
    have b2:(y == 0)=false:=by simpa using hy0.1
    have b3:(y == -9223372036854775808)=false:=by simpa using hy0.2
    have hpr:IntKind.i64.wrap ((k:Int)-1)=((k-1:Nat):Int):=X0e (by omega) (by omega)
    have ek:decide ((k:Int)>0)=true:=by simp;omega
    have bk:decide (0<k)=true:=by simp;omega
    simp only[b0,ek,hpr,P2 hy,Y0a,b2,b3,O1,Y2,Bool.not_true,Bool.not_false,Bool.and_true,Bool.false_and,Bool.or_self,Bool.true_and,cond_true,cond_false,oB,Bool.or_false,Bool.and_false,Bool.false_or]
    cases b1:(x == IntKind.i64.wrap (0-y))with
    |true =>
     have hb:E04 (-r) r w k=true:=by rw[hbad,hy,bk,b0,hin];exact b1
     simp only[hb,if_true,Bool.not_true,Bool.false_and,Bool.false_eq_true,if_false,cond_true,cond_false]
    |false =>
     have hb:E04 (-r) r w k=false:=by rw[hbad,hy,bk,b0,hin];exact b1
     simp only[hb,next hb,Bool.false_eq_true,if_false,Bool.not_false,Bool.true_and]
theorem G02(r:Int)(w:List Int)(b:w.length<=140737488355328):p8 r w=some (U1 r w):=by
 unfold p8
 rw[L03]
 unfold U1
 cases hr:inR 1 3 r with
 |false=>simp
 |true =>
  by_cases h24:w.length<=24
  ·have h:=D06 r w hr b w.length 0 U0 (by omega) (D1 b) (λi c=>by omega)
   rw[show((0:Nat):Int)=0 from rfl]at h
   have a : ¬ (24:Int)<(w.length:Int):=by omega
   simp only[oB,h,a]
   cases l03 (-r) r w w.length 0<;>simp[a9,h24]
  ·have a:(24:Int)<(w.length:Int):=by omega
   simp[h24,a]
def tot:List (List Int)->Nat
 | []=>0
 |w::r=>w.length+tot r
theorem N1{a:Type}{xs:List a}{k:Nat}{x:a}(h:xs[k]?=some x):xs.drop k=x::xs.drop (k+1):=by
 obtain⟨b,rfl⟩:=List.getElem?_eq_some_iff.1 h
 exact List.drop_eq_getElem_cons b
theorem J1{a:Type}{xs:List a}{k:Nat}(h:k=xs.length):xs.drop k = []:=by rw[h];exact List.drop_length
theorem X03(b:List (List Int))(h:b.length<=140737488355328):∀(d k fuel a:Nat),k+d=b.length->d<fuel->a+tot (b.drop k)<=9223372036854775807 ->
  l4 b fuel (a:Int) (k:Int)=some ((a+tot (b.drop k):Nat):Int)
 |d,k,0,a,f,hf,c=>by omega
 |0,k,fuel+1,a,f,hf,c=>by
  rw[l4.eq_2,if_neg (by simp;omega),J1 (by omega)]
  rfl
 |d+1,k,fuel+1,a,f,hf,c=>by
  have g:k<b.length:=by omega
  have e:=L5 g
  generalize b[k]=x at e
  rw[N1 e]at c ⊢
  simp only[tot]at c ⊢
  rw[l4.eq_2,if_pos (by simp;omega),P2 e,oB,A2 g (by omega:b.length<=9223372036854775807),
   show IntKind.i64.wrap ((a:Int)+((x.length:Nat):Int))=((a+x.length:Nat):Int) by rw[w64 (by omega) (by omega)];omega,
   X03 b h d (k+1) fuel (a+x.length) (by omega) (by omega) (by omega)]
  rw[Nat.add_assoc]
theorem N05(a:List (List Int))(b:a.length<=140737488355328)(c:tot a<=9223372036854775807):T8 a=some ((tot a:Nat):Int):=by
 unfold T8
 have h:=X03 a b a.length 0 U0 0 (by omega) (D1 b) (by simpa using c)
 rw[show((0:Nat):Int)=0 from rfl]at h
 rw[h]
 simp
theorem w03(b:List (List Int)):∀(fuel:Nat) (a k:Int),D6 b fuel a k=l4 b fuel a k
 |0,a,k=>rfl
 |fuel+1,a,k=>by
  rw[D6.eq_2,l4.eq_2]
  simp only[w03 b fuel]
theorem Z0a(a:List (List Int))(b:a.length<=140737488355328)(c:tot a<=9223372036854775807):i00 a=some ((tot a:Nat):Int):=by
 rw[←N05 a b c]
 unfold i00 T8
 rw[w03]
def u0d(r:Int):List (List Int)->Bool
 | []=>true
 |w::l=>U1 r w&&u0d r l
def c7(r:Int)(a:List (List Int)):Bool:=inR 1 3 r&&decide (a.length<=6)&&u0d r a&&decide (tot a<40)
theorem Y0e{r:Int}:∀ {a:List (List Int)},u0d r a=true->tot a<=24*a.length
 | [],_=>by simp[tot]
 |w::l,h=>by
  simp only[u0d,Bool.and_eq_true]at h
  have b:=h.1
  simp only[U1,Bool.and_eq_true,decide_eq_true_eq]at b
  have:=Y0e h.2
  simp only[tot,List.length_cons]
  omega
def N00(a:List (List Int)):Prop:=∀ w∈a,w.length<=140737488355328
theorem o05(r:Int)(a:List (List Int))(h:a.length<=140737488355328)(f:N00 a):∀(d k fuel:Nat),k+d=a.length->d<fuel ->
  j7 a r fuel (k:Int)=some (bif u0d r (a.drop k)then .inr ()else .inl false)
 |d,k,0,c,hf=>by omega
 |0,k,fuel+1,c,hf=>by
  rw[j7.eq_2,if_neg (by simp;omega),J1 (by omega)]
  rfl
 |d+1,k,fuel+1,c,hf=>by
  have e:k<a.length:=by omega
  have b:=L5 e
  have g:=f _ (List.mem_of_getElem? b)
  generalize a[k]=x at b g
  rw[N1 b,j7.eq_2,if_pos (by simp;omega),P2 b,oB,F02 r x g,oB,A2 e (by omega:a.length<=9223372036854775807),
   o05 r a h f d (k+1) fuel (by omega) (by omega)]
  simp only[u0d]
  cases U1 r x<;>simp
theorem Z0e(r:Int)(a:List (List Int))(d:a.length<=140737488355328)(e:N00 a):z01 r a=some (c7 r a):=by
 unfold z01
 have h:=o05 r a d e a.length 0 U0 (by omega) (D1 d)
 rw[show((0:Nat):Int)=0 from rfl,List.drop_zero]at h
 rw[h,oB]
 unfold c7
 cases ha:u0d r a with
 |false=>simp[a9]
 |true =>
  rw[cond_true,V0,m03,oB]
  have:=Y0e ha
  cases hr:inR 1 3 r with
  |false=>simp[chk,grd,I0]
  |true =>
   by_cases h6:a.length<=6
   ·rw[N05 a d (by omega)]
    have b:decide (((a.length:Nat):Int)<=6)=true:=by simp;omega
    have c:decide (a.length<=6)=true:=by simpa using h6
    rw[b,c,cond_true,O1,oB,H0 (by constructor<;>omega)]
    simp
    omega
   ·have b:decide (((a.length:Nat):Int)<=6)=false:=by simp;omega
    have c:decide (a.length<=6)=false:=by simpa using h6
    rw[b,c]
    simp[chk,grd,I0]
theorem p05(r:Int)(a:List (List Int))(h:a.length<=140737488355328)(f:N00 a):∀(d k fuel:Nat),k+d=a.length->d<fuel ->
  l7 a r fuel (k:Int)=some (bif u0d r (a.drop k)then .inr ()else .inl false)
 |d,k,0,c,hf=>by omega
 |0,k,fuel+1,c,hf=>by
  rw[l7.eq_2,if_neg (by simp;omega),J1 (by omega)]
  rfl
 |d+1,k,fuel+1,c,hf=>by
  have e:k<a.length:=by omega
  have b:=L5 e
  have g:=f _ (List.mem_of_getElem? b)
  generalize a[k]=x at b g
  rw[N1 b,l7.eq_2,if_pos (by simp;omega),P2 b,oB,G02 r x g,oB,A2 e (by omega:a.length<=9223372036854775807),
   p05 r a h f d (k+1) fuel (by omega) (by omega)]
  simp only[u0d]
  cases U1 r x<;>simp
theorem a0f(r:Int)(a:List (List Int))(d:a.length<=140737488355328)(e:N00 a):B01 r a=some (c7 r a):=by
 unfold B01
 rw[L03,oB]
 unfold c7
 cases hr:inR 1 3 r with
 |false=>simp
 |true =>
  by_cases h6:a.length<=6
  ·have b:decide (((a.length:Nat):Int)>6)=false:=by simp;omega
   have c:decide (a.length<=6)=true:=by simpa using h6
   have h:=p05 r a d e a.length 0 U0 (by omega) (D1 d)
   rw[show((0:Nat):Int)=0 from rfl,List.drop_zero]at h
   rw[b,c,h,oB]
   cases ha:u0d r a with
   |false=>simp[a9]
   |true =>
    have:=Y0e ha
    simp only[cond_true,V0,Z0a a d (by omega),oB,H0 (show I0 ((tot a:Nat):Int) by constructor<;>omega)]
    simp
    omega
  ·have b:decide (((a.length:Nat):Int)>6)=true:=by simp;omega
   have c:decide (a.length<=6)=false:=by simpa using h6
   rw[b,c]
   simp
theorem Z08{b a:Int}{w:List Int}:∀ {d k:Nat},l03 b a w d k=true->∀ i,k<=i->i<k+d->E04 b a w i=false
 |0,k,h,i,c,f=>by omega
 |d+1,k,h,i,c,f=>by
  simp only[l03,Bool.and_eq_true,Bool.not_eq_true']at h
  by_cases e:i=k
  ·subst e;exact h.1
  ·exact Z08 h.2 i (by omega) (by omega)
theorem M0j{r:Int}{w:List Int}(h:U1 r w=true){i:Nat}{x:Int}(d:w[i]?=some x):(1<=r/\r<=3)/\w.length<=24/\x≠0 /\ -r<=x/\x<=r:=by
 simp only[U1,Bool.and_eq_true,decide_eq_true_eq]at h
 have c:=h.1.1
 simp only[inR,Bool.and_eq_true,decide_eq_true_eq]at c
 have a:=Z08 h.2 i (Nat.zero_le _) (by have:=(List.getElem?_eq_some_iff.1 d).1;omega)
 unfold E04 at a
 rw[d]at a
 simp only[Bool.or_eq_false_iff,Bool.not_eq_false']at a
 have b:=a.1.2
 simp only[inR,Bool.and_eq_true,decide_eq_true_eq]at b
 exact⟨c,h.1.2,by simpa using a.1.1,b⟩
def h06(r a:Int)(e:O0):Bool:=inR 0 a e.1&&inR 0 a e.2.2&&inR 1 r e.2.1
def b0f(e f:O0):Int:=Q0 e f
theorem c0f(e f:O0):b0f e f=if A9 e.1 f.1≠0 then A9 e.1 f.1 else if A9 e.2.1 f.2.1≠0 then A9 e.2.1 f.2.1 else A9 e.2.2 f.2.2:=rfl
theorem l07(a b:Int):(a<b/\A9 a b = -1)∨(a>b/\A9 a b=1)∨(a=b/\A9 a b=0):=by
 unfold A9
 split
 ·omega
 ·split<;>omega
theorem W0d(e f:O0):I0 (b0f e f):=by
 rw[c0f]
 split
 ·exact m0i _ _
 ·split<;>exact m0i _ _
theorem r0p(g:l0)(e:O0):Y02 g e=some (h06 g.1 (IntKind.i64.wrap (g.2.1-1)) e):=by
 obtain⟨r,n,es⟩:=g
 obtain⟨a,l,b⟩:=e
 unfold Y02 h06
 simp only[m03,oB]
 cases inR 0 (IntKind.i64.wrap (n-1)) a with
 |false=>rfl
 |true =>
  cases inR 0 (IntKind.i64.wrap (n-1)) b with
  |false=>rfl
  |true=>simp[chk]
theorem v0d(g:l0)(e:O0):n9 g e=some (h06 g.1 (IntKind.i64.wrap (g.2.1-1)) e):=by
 obtain⟨r,n,es⟩:=g
 obtain⟨a,l,b⟩:=e
 unfold n9 I4 h06
 simp only[L03,oB]
 cases inR 0 (IntKind.i64.wrap (n-1)) a with
 |false=>rfl
 |true =>
  cases inR 0 (IntKind.i64.wrap (n-1)) b with
  |false=>rfl
  |true=>simp[chk]
theorem n03(e f:O0):E8 e f=some (b0f e f):=by
 obtain⟨a,l,b⟩:=e
 obtain⟨g,j,i⟩:=f
 unfold E8
 rw[show U0=(U0-4)+1+1+1+1 from rfl]
 have s:IntKind.i64.wrap (0+1)=1:=by decide
 have t:IntKind.i64.wrap (1+1)=2:=by decide
 have u:IntKind.i64.wrap (2+1)=3:=by decide
 have o:∀ x y z:Int,gi [x,y,z] 0=some x:=λ_ _ _=>rfl
 have p:∀ x y z:Int,gi [x,y,z] 1=some y:=λ_ _ _=>rfl
 have q:∀ x y z:Int,gi [x,y,z] 2=some z:=λ_ _ _=>rfl
 have d0:decide ((0:Int)<3)=true:=rfl
 have k:decide ((1:Int)<3)=true:=rfl
 have m:decide ((2:Int)<3)=true:=rfl
 have n:decide ((3:Int)<3)=false:=rfl
 simp only[A7.eq_2,s,t,u,o,p,q,d0,k,m,n,if_true,oB,Bool.false_eq_true,if_false]
 rw[c0f]
 simp only
 rcases l07 a g with⟨h,e⟩|⟨h,e⟩|⟨h,e⟩
 ·simp[e,h,a9]
 ·have : ¬ a<g:=by omega
  simp[e,h,this,a9]
 ·subst h
  rcases l07 l j with⟨h,c⟩|⟨h,c⟩|⟨h,c⟩
  ·simp[e,c,h,a9]
  ·have : ¬ l<j:=by omega
   simp[e,c,h,this,a9]
  ·subst h
   rcases l07 b i with⟨h,d⟩|⟨h,d⟩|⟨h,d⟩
   ·simp[e,c,d,h,a9]
   ·have : ¬ b<i:=by omega
    simp[e,c,d,h,this,a9]
   ·subst h
    simp[e,c,d,a9]
theorem Y0n(a b:Int):M7 a b=some (A9 a b):=by
 unfold M7 A9
 by_cases h:a<b
 ·simp[h]
 ·by_cases h2:a>b<;>simp[h,h2]
theorem q05(e f:O0):L9 e f=some (b0f e f):=by
 obtain⟨a,l,b⟩:=e
 obtain⟨c,d,g⟩:=f
 rw[c0f]
 unfold L9
 simp only[Y0n,oB,H0 (m0i _ _)]
 by_cases h1:A9 a c=0
 ·by_cases h2:A9 l d=0
  ·simp[h1,h2]
  ·simp[h1,h2]
 ·simp[h1]
def s0p(r a:Int)(es:List O0)(k:Nat):Bool:=match es[k]? with
 |none=>true
 |some e => !h06 r a e || (decide (0<k)&&match es[k-1]? with
  |none=>true
  |some f=>decide (b0f f e ≥ 0))
def okE(r a:Int)(es:List O0):Nat->Nat->Bool
 |0,_=>true
 |d+1,k => !s0p r a es k&&okE r a es d (k+1)
def T0(g:l0):Bool:=okE g.1 (IntKind.i64.wrap (g.2.1-1)) g.2.2 g.2.2.length 0&&inR 1 3 g.1&&inR 1 40 g.2.1&&decide (g.2.2.length<=120)
theorem a0b{r a:Int}{es:List O0}{k:Nat}{e:O0}(b:es[k]?=some e):s0p r a es k=(!h06 r a e || (decide (0<k)&&match es[k-1]? with
  |none=>true
  |some f=>decide (b0f f e ≥ 0))):=by unfold s0p;rw[b]
theorem O05(r n:Int)(es:List O0)(q:es.length<=140737488355328):∀(d k fuel:Nat),k+d=es.length->d<fuel ->
  Q7 es r n fuel (k:Int)=some (bif okE r (IntKind.i64.wrap (n-1)) es d k then .inr ()else .inl false)
 |d,k,0,l,hf=>by omega
 |0,k,fuel+1,l,hf=>by
  rw[Q7.eq_2,if_neg (by simp;omega)]
  simp[okE]
 |d+1,k,fuel+1,l,hf=>by
  have m:k<es.length:=by omega
  have a:=L5 m
  generalize es[k]=e at a
  obtain⟨h,i,j⟩:=e
  have next:=O05 r n es q d (k+1) fuel (by omega) (by omega)
  rw[Q7.eq_2,if_pos (by simp;omega),P2 a,oB]
  simp only[r0p,oB,A2 m (by omega:es.length<=9223372036854775807),next,okE,a0b a]
  generalize IntKind.i64.wrap (n-1)=hi
  cases hin:h06 r hi (h,i,j)with
  |false=>simp[chk,grd,I0]
  |true =>
   by_cases hk0:k=0
   ·have c:decide ((k:Int)>0)=false:=by simp;omega
    have b:decide (0<k)=false:=by simp;omega
    simp only[c,b,Y2,Bool.not_true,Bool.not_false,Bool.and_true,Bool.false_and,Bool.or_self,Bool.true_and,cond_true,cond_false,oB,Bool.or_false,Bool.false_eq_true,if_false,H0 (show I0 0 by decide)]
   ·have g:=L5 (show k-1<es.length by omega)
    generalize es[k-1]=f at g
    obtain⟨o,p,f2⟩:=f
    have s:IntKind.i64.wrap ((k:Int)-1)=((k-1:Nat):Int):=X0e (by omega) (by omega)
    have c:decide ((k:Int)>0)=true:=by simp;omega
    have b:decide (0<k)=true:=by simp;omega
    simp only[c,b,s,g,P2 a,P2 g,O1,Bool.not_true,Bool.not_false,Bool.and_true,Bool.false_and,Bool.or_self,Bool.true_and,cond_true,cond_false,oB,Bool.or_false,Bool.false_or,n03,H0 (W0d _ _)]
    cases decide (b0f (o,p,f2) (h,i,j) ≥ 0)<;>rfl
theorem r8(g:l0)(a:g.2.2.length<=140737488355328):M4 g=some (T0 g):=by
 obtain⟨r,n,es⟩:=g
 unfold M4 T0
 simp only at a ⊢
 have h:=O05 r n es a es.length 0 U0 (by omega) (D1 a)
 rw[show((0:Nat):Int)=0 from rfl]at h
 rw[h,oB]
 cases okE r (IntKind.i64.wrap (n-1)) es es.length 0 with
 |false=>simp[a9]
 |true =>
  rw[cond_true,V0,m03,m03,oB]
  cases inR 1 3 r with
  |false=>simp[chk]
  |true =>
   simp only[O1,oB,cond_true,Bool.true_and]
   cases inR 1 40 n with
   |false=>simp
   |true=>simp;omega
theorem P05(r n:Int)(es:List O0)(q:es.length<=140737488355328):∀(d k fuel:Nat),k+d=es.length->d<fuel ->
  R7 es r n fuel (k:Int)=some (bif okE r (IntKind.i64.wrap (n-1)) es d k then .inr ()else .inl false)
 |d,k,0,l,hf=>by omega
 |0,k,fuel+1,l,hf=>by
  rw[R7.eq_2,if_neg (by simp;omega)]
  simp[okE]
 |d+1,k,fuel+1,l,hf=>by
  have m:k<es.length:=by omega
  have a:=L5 m
  generalize es[k]=e at a
  obtain⟨h,i,j⟩:=e
  have next:=P05 r n es q d (k+1) fuel (by omega) (by omega)
  rw[R7.eq_2,if_pos (by simp;omega),P2 a,oB]
  simp only[v0d,oB,A2 m (by omega:es.length<=9223372036854775807),next,okE,a0b a]
  generalize IntKind.i64.wrap (n-1)=hi
  cases hin:h06 r hi (h,i,j)with
  |false=>simp[chk,grd,I0]
  |true =>
   by_cases hk0:k=0
   ·have c:decide ((k:Int)>0)=false:=by simp;omega
    have b:decide (0<k)=false:=by simp;omega
    simp only[c,b,Y2,Bool.not_true,Bool.not_false,Bool.and_true,Bool.false_and,Bool.or_self,Bool.true_and,cond_true,cond_false,oB,Bool.or_false,Bool.false_eq_true,if_false,H0 (show I0 0 by decide)]
   ·have g:=L5 (show k-1<es.length by omega)
    generalize es[k-1]=f at g
    obtain⟨o,p,f2⟩:=f
    have s:IntKind.i64.wrap ((k:Int)-1)=((k-1:Nat):Int):=X0e (by omega) (by omega)
    have c:decide ((k:Int)>0)=true:=by simp;omega
    have b:decide (0<k)=true:=by simp;omega
    simp only[c,b,s,g,P2 a,P2 g,O1,Bool.not_true,Bool.not_false,Bool.and_true,Bool.false_and,Bool.or_self,Bool.true_and,cond_true,cond_false,oB,Bool.or_false,Bool.false_or,q05,H0 (W0d _ _)]
    cases decide (b0f (o,p,f2) (h,i,j) ≥ 0)<;>rfl
theorem O00(g:l0)(c:g.2.2.length<=140737488355328):F7 g=some (T0 g):=by
 obtain⟨r,n,es⟩:=g
 unfold F7 T0
 simp only at c ⊢
 rw[L03,L03,oB]
 cases hr:inR 1 3 r with
 |false=>simp[chk]
 |true =>
  simp only[Bool.not_true,Bool.not_false,O1,oB,cond_false]
  cases hn:inR 1 40 n with
  |false=>simp
  |true =>
   by_cases h120:es.length<=120
   ·have h:=P05 r n es c es.length 0 U0 (by omega) (D1 c)
    rw[show((0:Nat):Int)=0 from rfl]at h
    have a:decide (((es.length:Nat):Int)>120)=false:=by simp;omega
    have b:decide (es.length<=120)=true:=by simpa using h120
    simp only[a,b,Bool.not_true,cond_false,Bool.false_eq_true,if_false,h,oB]
    cases okE r (IntKind.i64.wrap (n-1)) es es.length 0<;>rfl
   ·have a:decide (((es.length:Nat):Int)>120)=true:=by simp;omega
    have b:decide (es.length<=120)=false:=by simpa using h120
    simp only[a,b,Bool.not_true,cond_false,if_true,Bool.and_false]
theorem w0l{r a:Int}{es:List O0}:∀ {d k:Nat},okE r a es d k=true->∀ i,k<=i->i<k+d->s0p r a es i=false
 |0,k,h,i,b,c=>by omega
 |d+1,k,h,i,b,c=>by
  simp only[okE,Bool.and_eq_true,Bool.not_eq_true']at h
  by_cases e:i=k
  ·subst e;exact h.1
  ·exact w0l h.2 i (by omega) (by omega)
theorem N0j{n:Nat}(h:n<=9223372036854775807):n<U0:=by unfold U0;omega
def goI(x:Int):List Int->Bool×List Int
 | []=>(false,[])
 |y::l=>if x<y then(true,x::y::l)else if y=x then(true,y::l)else((goI x l).1,y::(goI x l).2)
theorem Q0m(x:Int):∀ l,g00 A9 x l=bif(goI x l).1 then(goI x l).2 else(goI x l).2 ++ [x]
 | []=>rfl
 |y::l=>by
  have a:=Q0m x l
  unfold g00 goI
  rcases l07 x y with⟨h,e⟩|⟨h,e⟩|⟨h,e⟩
  ·rw[e,if_pos (by omega),if_pos h];rfl
  ·rw[e,if_neg (by omega),if_neg (by omega),if_neg (by omega),if_neg (by omega),a]
   cases (goI x l).1<;>rfl
  ·rw[e,if_neg (by omega),if_pos rfl,if_neg (by omega),if_pos h.symm];rfl
theorem d0f(l:List Int)(w:Int)(h:l.length<=1099511627776):∀(d k fuel:Nat) (acc:List Int),k+d=l.length->d<fuel->acc.length<=k+1 ->
  N4 l w fuel true (k:Int) acc=some (true,acc++l.drop k)
 |d,k,0,acc,e,hf,b=>by omega
 |0,k,fuel+1,acc,e,hf,b=>by
  rw[N4.eq_2,if_neg (by simp;omega),J1 (by omega),List.append_nil]
 |d+1,k,fuel+1,acc,e,hf,b=>by
  have f:k<l.length:=by omega
  have a:=L5 f
  generalize l[k]=x at a
  have i:=d0f l w h d (k+1) fuel (acc ++ [x]) (by omega) (by omega) (by simp;omega)
  rw[N4.eq_2,if_pos (by simp;omega),P2 a,oB]
  have g:∀ c:Bool,(bif c then(!true)else false)=false:=λc=>by cases c<;>rfl
  simp only[g,Bool.false_eq_true,if_false,oB,A2 f (show l.length<=9223372036854775807 by omega),i,H0 (show(acc.length + [x].length)*8<=140737488355328 by simp;omega)]
  rw[N1 a]
  split<;>simp
theorem S0g(l:List Int)(w:Int)(b:l.length<=1099511627776):∀(d k fuel:Nat) (acc:List Int),k+d=l.length->d<fuel->acc.length=k ->
  N4 l w fuel false (k:Int) acc=some ((goI w (l.drop k)).1,acc++(goI w (l.drop k)).2)
 |d,k,0,acc,g,hf,f=>by omega
 |0,k,fuel+1,acc,g,hf,f=>by
  rw[N4.eq_2,if_neg (by simp;omega),J1 (by omega)]
  simp[goI]
 |d+1,k,fuel+1,acc,g,hf,f=>by
  have a:k<l.length:=by omega
  have e:=L5 a
  generalize l[k]=x at e
  have j:=S0g l w b d (k+1) fuel (acc ++ [x]) (by omega) (by omega) (by simp;omega)
  have m:=d0f l w b d (k+1) fuel (acc ++ [x]) (by omega) (by omega) (by simp;omega)
  have n:=d0f l w b d (k+1) fuel (acc ++ [w] ++ [x]) (by omega) (by omega) (by simp;omega)
  rw[N4.eq_2,if_pos (by simp;omega),P2 e,oB,N1 e]
  unfold goI
  have h:∀ c:Bool,(bif c then(!true)else false)=false:=λc=>by cases c<;>rfl
  have i:∀ c:Bool,(bif c then(!false)else false)=c:=λc=>by cases c<;>rfl
  by_cases h0:x=w
  ·rw[if_pos (by simpa using h0),oB,h,if_neg (by simp),oB,H0 (by simp;omega),oB,A2 a (by omega),m,if_neg (by omega),if_pos h0]
   simp
  ·rw[if_neg (by simpa using h0),oB,i]
   by_cases h1:w<x
   ·rw[if_pos (by simpa using h1),H0 (by simp;omega),oB,oB,H0 (by simp;omega),oB,A2 a (by omega),n,if_pos h1]
    simp
   ·rw[if_neg (by simpa using h1),oB,H0 (by simp;omega),oB,A2 a (by omega),j,if_neg h1,if_neg h0]
    simp
theorem b0b(l:List Int)(w:Int)(a:l.length<=1099511627776):b9 l w=some (g00 A9 w l):=by
 unfold b9
 have h:=S0g l w a l.length 0 U0 [] (by omega) (D1 (by omega)) rfl
 rw[show((0:Nat):Int)=0 from rfl,List.drop_zero,List.nil_append]at h
 rw[h,oB,Q0m]
 have b:∀ l:List Int,(goI w l).2.length<=l.length+1:=λl=>by
  induction l with
  |nil=>simp[goI]
  |cons y l c =>
   unfold goI
   split
   ·simp
   ·split
    ·simp
    ·simp only[List.length_cons];omega
 have:=b l
 cases (goI w l).1 with
 |true=>rfl
 |false =>
  simp only[Bool.not_false,if_true,cond_false]
  rw[H0 (by simp;omega),oB]
def T0g(v x:Int)(e:O0):List Int :=
 if 0<x/\e.2.1=x/\e.1=v then [e.2.2]else if x<0/\e.2.1 = -x/\e.2.2=v then [e.1]else []
def k00(v x:Int):List O0->List Int
 | []=>[]
 |e::es=>T0g v x e++k00 v x es
theorem Z0n(v x:Int)(e:O0):(T0g v x e).length<=1:=by unfold T0g;split<;>(try split)<;>simp
theorem e0f(v x:Int):∀ es,(k00 v x es).length<=es.length
 | []=>by simp[k00]
 |e::es=>by
  have a:=Z0n v x e
  have b:=e0f v x es
  simp only[k00,List.length_append,List.length_cons]
  omega
def E5(x:Int):Prop:=I0 x/\x ≠ -9223372036854775808
theorem c0b(es:List O0)(v x:Int)(f:E5 x)(t:es.length<=1099511627776):∀(d k fuel:Nat) (acc:List Int),k+d=es.length->d<fuel->acc.length<=k ->
  c5 es x v fuel (k:Int) acc=some (acc++k00 v x (es.drop k))
 |d,k,0,acc,p,hf,o=>by omega
 |0,k,fuel+1,acc,p,hf,o=>by
  rw[c5.eq_2,if_neg (by simp;omega),J1 (by omega)]
  simp[k00]
 |d+1,k,fuel+1,acc,p,hf,o=>by
  have q:k<es.length:=by omega
  have m:=L5 q
  generalize es[k]=e at m
  obtain⟨a,l,b⟩:=e
  have n:=λs h=>c0b es v x f t d (k+1) fuel s (by omega) (by omega) h
  have u:decide (x = -9223372036854775808)=false:=by simp;exact f.2
  rw[c5.eq_2,if_pos (by simp;omega),P2 m,oB,N1 m]
  simp only[k00,T0g,n08 f.1 f.2,u,Bool.not_false,A2 q (show es.length<=9223372036854775807 by omega)]
  by_cases c:0<x/\l=x/\a=v
  ·obtain⟨c,rfl,rfl⟩:=c
   rw[if_pos (by simp[c]),if_pos ⟨c,rfl,rfl⟩,H0 (by simp;omega),oB,n _ (by simp;omega)]
   simp
  ·rw[if_neg c,if_neg (by simp only[Bool.cond_eq_ite];simp;intro g i j;exact c ⟨g,i,j⟩)]
   by_cases c2:x<0/\l = -x/\b=v
   ·rw[if_pos c2,if_pos (by simp[c2.1,c2.2.1,c2.2.2]),H0 (by simp;omega),oB,n _ (by simp;omega)]
    simp
   ·rw[if_neg c2,if_neg (by simp only[Bool.cond_eq_ite];simp;intro g i j;exact c2 ⟨g,i,j⟩),n _ (by omega)]
    simp
theorem E06(w:Int):∀ l:List Int,(g00 A9 w l).length<=l.length+1
 | []=>by simp[g00]
 |y::l=>by
  have:=E06 w l
  unfold g00
  split
  ·simp
  ·split
   ·simp
   ·simp only[List.length_cons];omega
theorem d0b(es:List O0)(v x:Int)(m:E5 x)(s:es.length<=1099511627776):∀(d k fuel:Nat) (u:List Int),k+d=es.length->d<fuel->u.length<=k ->
  D4 es x v fuel u (k:Int)=some (w4 A9 u (k00 v x (es.drop k)))
 |d,k,0,u,p,hf,o=>by omega
 |0,k,fuel+1,u,p,hf,o=>by
  rw[D4.eq_2,if_neg (by simp;omega),J1 (by omega)]
  rfl
 |d+1,k,fuel+1,u,p,hf,o=>by
  have q:k<es.length:=by omega
  have j:=L5 q
  generalize es[k]=e at j
  obtain⟨a,l,b⟩:=e
  have n:=λw h=>d0b es v x m s d (k+1) fuel w (by omega) (by omega) h
  rw[D4.eq_2,if_pos (by simp;omega),P2 j,oB,N1 j]
  simp only[k00,T0g,n08 m.1 m.2,A2 q (show es.length<=9223372036854775807 by omega)]
  by_cases c:0<x/\l=x/\a=v
  ·obtain⟨c,rfl,rfl⟩:=c
   have t:decide (l<0)=false:=by simp;omega
   have:=E06 b u
   rw[if_pos (by simp[c]),if_pos ⟨c,rfl,rfl⟩,b0b u b (by omega),oB,t,if_neg (by simp),n _ (by omega)]
   rfl
  ·rw[if_neg c,if_neg (by simp only[Bool.cond_eq_ite];simp;intro f g i;exact c ⟨f,g,i⟩)]
   by_cases c2:x<0/\l = -x/\b=v
   ·have:=E06 a u
    rw[if_pos c2,if_pos (by simp[c2.1,c2.2.1,c2.2.2]),b0b u a (by omega),oB,n _ (by omega)]
    rfl
   ·rw[if_neg c2,if_neg (by simp only[Bool.cond_eq_ite];simp;intro f g i;exact c2 ⟨f,g,i⟩),n _ (by omega)]
    rfl
def f03(g:l0)(v x:Int):List Int:=w4 A9 [] (k00 v x g.2.2)
theorem Q0q(x y:Int):eqI x y=true↔x=y:=by simp[eqI]
theorem O0j(g:l0)(v x:Int)(b:E5 x)(a:g.2.2.length<=1099511627776):W00 g v x=some (f03 g v x):=by
 obtain⟨r,n,es⟩:=g
 unfold W00 f03
 have h:=d0b es v x b a es.length 0 U0 [] (by omega) (N0j (by simp only at a;omega)) (by simp)
 rw[show((0:Nat):Int)=0 from rfl,List.drop_zero]at h
 simp only[h,oB]
theorem P0j(g:l0)(v x:Int)(b:E5 x)(a:g.2.2.length<=1099511627776):X00 g v x=some (f03 g v x):=by
 obtain⟨r,n,es⟩:=g
 unfold X00 f03
 have h:=c0b es v x b a es.length 0 U0 [] (by omega) (N0j (by simp only at a;omega)) (by simp)
 rw[show((0:Nat):Int)=0 from rfl,List.drop_zero,List.nil_append]at h
 have c:=e0f v x es
 simp only at a
 simp only[h,oB,H0 (show(k00 v x es).length<4611686018427387904 by omega)]
 rw[←L0j X02 Q0q (k00 v x es) (k00 v x es) λ_=>Iff.rfl]
 rfl
def S0(g:l0)(v x:Int):Int:=match f03 g v x with
 | [] => -1
 |a::_=>a
theorem l02(g:l0)(v x:Int)(c:E5 x)(b:g.2.2.length<=1099511627776):O3 g v x=some (S0 g v x):=by
 have h:=O0j g v x c b
 obtain⟨r,n,es⟩:=g
 unfold O3 S0
 simp only[h,oB]
 cases f03 (r,n,es) v x with
 |nil=>rfl
 |cons a l=>rfl
theorem m02(g:l0)(v x:Int)(c:E5 x)(b:g.2.2.length<=1099511627776):C4 g v x=some (S0 g v x):=by
 have h:=P0j g v x c b
 obtain⟨r,n,es⟩:=g
 unfold C4 S0
 simp only[h,oB]
 cases f03 (r,n,es) v x with
 |nil=>rfl
 |cons a l=>rfl
theorem U0g{g:l0}{v x y:Int}(h:y∈f03 g v x):y∈k00 v x g.2.2:=by
 rcases(S8 X02 y _ []).1 h with h|h
 ·cases h
 ·exact h
theorem d7{v x y:Int}:∀ {es:List O0},y∈k00 v x es↔∃ e∈es,(0<x/\e.2.1=x/\e.1=v/\y=e.2.2)∨(x<0/\e.2.1 = -x/\e.2.2=v/\y=e.1)
 | []=>by simp[k00]
 |e::es=>by
  simp only[k00,List.mem_append,d7 (es:=es),List.mem_cons,exists_eq_or_imp]
  refine or_congr ?_ Iff.rfl
  unfold T0g
  split
  ·rename_i h
   simp only[List.mem_singleton]
   constructor
   ·rintro rfl;exact .inl ⟨h.1,h.2.1,h.2.2,rfl⟩
   ·rintro(⟨_,_,_,a⟩|⟨f,_⟩)
    ·exact a
    ·omega
  ·rename_i h
   split
   ·rename_i b
    simp only[List.mem_singleton]
    constructor
    ·rintro rfl;exact .inr ⟨b.1,b.2.1,b.2.2,rfl⟩
    ·rintro(⟨f,_⟩|⟨_,_,_,a⟩)
     ·omega
     ·exact a
   ·rename_i b
    constructor
    ·intro h;cases h
    ·rintro(⟨c,a,d,_⟩|⟨c,a,d,_⟩)
     ·exact absurd ⟨c,a,d⟩ h
     ·exact absurd ⟨c,a,d⟩ b
def inG(g:l0):Prop:=∀ e∈g.2.2,(0<=e.1/\e.1<g.2.1)/\(0<=e.2.2/\e.2.2<g.2.1)/\1<=e.2.1/\e.2.1<=g.1
theorem N2{g:l0}(h:T0 g=true):inG g/\(1<=g.1/\g.1<=3)/\(1<=g.2.1/\g.2.1<=40)/\g.2.2.length<=120:=by
 obtain⟨r,n,es⟩:=g
 simp only[T0,inR,Bool.and_eq_true,decide_eq_true_eq]at h
 obtain⟨⟨⟨m,o⟩,p⟩,q⟩:=h
 refine⟨λe s=>?_,o,p,q⟩
 obtain⟨i,b⟩:=List.getElem?_of_mem s
 have a:=w0l m i (Nat.zero_le _) (by have:=(List.getElem?_eq_some_iff.1 b).1;simp only at this;omega)
 rw[a0b b]at a
 simp only[Bool.or_eq_false_iff,Bool.not_eq_false',h06,inR,Bool.and_eq_true,decide_eq_true_eq]at a
 obtain⟨⟨⟨⟨c,d⟩,f,j⟩,k,l⟩,_⟩:=a
 rw[w64 (by omega) (by omega)]at d j
 simp only
 exact⟨⟨c,by omega⟩,⟨f,by omega⟩,k,l⟩
theorem M03{g:l0}(d:inG g)(v x:Int):S0 g v x = -1∨(0<=S0 g v x/\S0 g v x<g.2.1):=by
 unfold S0
 cases hs:f03 g v x with
 |nil=>exact .inl rfl
 |cons a l =>
  right
  have b:a∈f03 g v x:=by rw[hs];exact mS
  obtain⟨e,c,h⟩:=d7.1 (U0g b)
  have:=d e c
  rcases h with⟨_,_,_,rfl⟩|⟨_,_,_,rfl⟩
  ·exact this.2.1
  ·exact this.1
theorem C00{g:l0}(a:inG g)(b:g.2.1<=40)(v x:Int):I0 (S0 g v x):=by
 rcases M03 a v x with h|h
 ·rw[h];decide
 ·constructor<;>omega
def L04(a b:O0):Bool:=decide (a.2.1=b.2.1)&&(decide (a.1=b.1) || decide (a.2.2=b.2.2))
theorem k0c(a b:O0):L04 a b=L04 b a:=by
 unfold L04
 have h:∀ x y:Int,decide (x=y)=decide (y=x):=λx y=>decide_eq_decide.2 ⟨Eq.symm,Eq.symm⟩
 rw[h a.2.1,h a.1,h a.2.2]
def noC(a:O0):List O0->Bool
 | []=>true
 |b::l => !L04 a b&&noC a l
def H09:List O0->Bool
 | []=>true
 |a::l=>noC a l&&H09 l
theorem o0i(a:O0):∀ l,noC a l=true↔∀ b∈l,L04 a b=false
 | []=>by simp[noC]
 |b::l=>by simp[noC,o0i a l]
theorem l0c:∀ l,H09 l=true↔l.Pairwise λa b=>L04 a b=false
 | []=>by simp[H09]
 |a::l=>by simp[H09,l0c l,o0i,List.pairwise_cons]
def f0f:List O0->List O0->Bool
 |_,[]=>true
 |b,a::l=>noC a b&&f0f (b ++ [a]) l
theorem V0g:∀(l f:List O0),f0f f l=true↔l.Pairwise (λa b=>L04 a b=false)/\∀ a∈l,∀ b∈f,L04 a b=false
 | [],f=>by simp[f0f]
 |a::l,f=>by
  simp only[f0f,Bool.and_eq_true,o0i,V0g l,List.pairwise_cons]
  constructor
  ·rintro⟨g,h,e⟩
   refine⟨⟨λb c=>by rw[k0c];exact e b c a (by simp),h⟩,λx d b c=>?_⟩
   rcases List.mem_cons.1 d with rfl|d
   ·exact g b c
   ·exact e x d b (by simp[c])
  ·rintro⟨⟨g,h⟩,e⟩
   refine⟨λb c=>e a mS b c,h,λx d b c=>?_⟩
   rcases List.mem_append.1 c with c|c
   ·exact e x (mC _ d) b c
   ·rw[List.mem_singleton.1 c,k0c];exact g x d
theorem a0o(l:List O0):f0f [] l=H09 l:=by
 rw[Bool.eq_iff_iff,V0g,l0c]
 simp
def K0(g:l0):Bool:=T0 g&&H09 g.2.2
theorem o0r(a b e c d f:Int):(bif decide (b=d)then(bif decide (a=c)then true else decide (e=f))else false)=L04 (a,b,e) (c,d,f):=by
 unfold L04
 cases decide (b=d)<;>cases decide (a=c)<;>rfl
theorem e0b(l:List O0)(a:O0)(n:l.length<=140737488355328):∀(d k fuel:Nat),k+d=l.length->d<fuel ->
  p7 l a.2.1 a.1 a.2.2 fuel (k:Int)=some (bif noC a (l.drop k)then .inr ()else .inl false)
 |d,k,0,g,hf=>by omega
 |0,k,fuel+1,g,hf=>by
  rw[p7.eq_2,if_neg (by simp;omega),J1 (by omega)]
  rfl
 |d+1,k,fuel+1,g,hf=>by
  have h:k<l.length:=by omega
  have b:=L5 h
  generalize l[k]=x at b
  obtain⟨c,e,f⟩:=a
  obtain⟨i,j,m⟩:=x
  rw[p7.eq_2,if_pos (by simp;omega),P2 b,oB,N1 b]
  simp only[o0r,noC]
  cases hc:L04 (c,e,f) (i,j,m)with
  |true=>rfl
  |false =>
   rw[if_neg (by simp),A2 h (by omega),e0b l (c,e,f) n d (k+1) fuel (by omega) (by omega)]
   simp
theorem v01{a:Type}{xs:List a}{k:Nat}(h:k<=xs.length):y05 xs (k:Int) (xs.length:Int)=some (xs.drop k):=by
 unfold y05
 rw[if_pos ⟨by omega,by omega,by omega⟩]
 simp
theorem f0b(l:List O0)(h:l.length<=140737488355328):∀(d k fuel:Nat),k+d=l.length->d<fuel ->
  r7 l fuel (k:Int)=some (bif H09 (l.drop k)then .inr ()else .inl false)
 |d,k,0,b,hf=>by omega
 |0,k,fuel+1,b,hf=>by
  rw[r7.eq_2,if_neg (by simp;omega),J1 (by omega)]
  rfl
 |d+1,k,fuel+1,b,hf=>by
  have c:k<l.length:=by omega
  have a:=L5 c
  generalize l[k]=x at a
  have h0:=e0b (l.drop (k+1)) x (by simp;omega) (l.drop (k+1)).length 0 U0 (by omega) (D1 (by simp;omega))
  rw[show((0:Nat):Int)=0 from rfl,List.drop_zero]at h0
  obtain⟨e,f,g⟩:=x
  rw[r7.eq_2,if_pos (by simp;omega),P2 a,oB,N1 a]
  simp only[A2 c (show l.length<=9223372036854775807 by omega),v01 (show k+1<=l.length by omega),oB]
  simp only at h0
  rw[h0,oB]
  simp only[H09]
  cases noC (e,f,g) (l.drop (k+1))with
  |false=>rfl
  |true =>
   simp only[cond_true,U0n,Bool.true_and]
   exact f0b l h d (k+1) fuel (by omega) (by omega)
theorem A8(g:l0)(a:g.2.2.length<=140737488355328):R5 g=some (K0 g):=by
 have b:=O00 g a
 obtain⟨r,n,es⟩:=g
 unfold R5 K0
 simp only[b,oB]
 cases T0 (r,n,es)with
 |false=>rfl
 |true =>
  have h:=f0b es a es.length 0 U0 (by omega) (D1 a)
  rw[show((0:Nat):Int)=0 from rfl,List.drop_zero]at h
  rw[if_neg (by simp),h,oB]
  cases H09 es<;>rfl
theorem g0b(l:List O0)(q:l.length<=140737488355328){i:Nat}{a:O0}(b:l[i]?=some a):∀(d k fuel:Nat),k+d=i->d<fuel ->
  n7 (i:Int) l fuel (k:Int)=some (bif noC a ((l.take i).drop k)then .inr ()else .inl false)
 |d,k,0,e,hf=>by omega
 |0,k,fuel+1,e,hf=>by
  have:=(List.getElem?_eq_some_iff.1 b).1
  rw[n7.eq_2,if_neg (by simp;omega),J1 (by simp;omega)]
  rfl
 |d+1,k,fuel+1,e,hf=>by
  have t:=(List.getElem?_eq_some_iff.1 b).1
  have f:k<l.length:=by omega
  have c:=L5 f
  have g:(l.take i)[k]?=some l[k]:=by rw[List.getElem?_take,if_pos (by omega)];exact c
  have s:=g0b l q b d (k+1) fuel (by omega) (by omega)
  generalize l[k]=x at c g
  obtain⟨h,j,m⟩:=a
  obtain⟨n,o,p⟩:=x
  rw[n7.eq_2,if_pos (by simp;omega),P2 b,oB,N1 g]
  simp only[P2 c,oB,o0r,noC]
  cases hc:L04 (h,j,m) (n,o,p)with
  |true=>rfl
  |false =>
   rw[if_neg (by simp),A2 f (by omega),s]
   simp
theorem R0m{a:Type}{xs:List a}{k:Nat}{x:a}(h:xs[k]?=some x):xs.take (k+1)=xs.take k ++ [x]:=by
 obtain⟨b,rfl⟩:=List.getElem?_eq_some_iff.1 h
 exact List.take_succ_eq_append_getElem b
theorem h0b(r n:Int)(l:List O0)(f:T0 (r,n,l)=true)(b:l.length<=140737488355328):∀(d k fuel:Nat),k+d=l.length->d<fuel ->
  H5 l r n fuel (k:Int)=some (bif f0f (l.take k) (l.drop k)then .inr ()else .inl false)
 |d,k,0,c,hf=>by omega
 |0,k,fuel+1,c,hf=>by
  have e:decide ((k:Int)<(l.length:Int))=false:=by simp;omega
  rw[H5.eq_2,e,Y2,oB,if_neg (by simp),J1 (by omega)]
  rfl
 |d+1,k,fuel+1,c,hf=>by
  have g:k<l.length:=by omega
  have a:=L5 g
  generalize l[k]=x at a
  have h0:=g0b l b a k 0 U0 (by omega) (D1 (by omega))
  rw[show((0:Nat):Int)=0 from rfl,List.drop_zero]at h0
  have e:decide ((k:Int)<(l.length:Int))=true:=by simp;omega
  rw[H5.eq_2,e,O1,r8 (r,n,l) b,oB,f,if_pos (show(bif true then true else false)=true from rfl),h0,oB,N1 a]
  simp only[f0f]
  cases noC x (l.take k)with
  |false=>rfl
  |true =>
   simp only[cond_true,U0n,Bool.true_and]
   rw[A2 g (by omega),←R0m a]
   exact h0b r n l f b d (k+1) fuel (by omega) (by omega)
theorem H6(g:l0)(a:g.2.2.length<=140737488355328):J4 g=some (K0 g):=by
 have b:=r8 g a
 obtain⟨r,n,es⟩:=g
 unfold J4 K0
 simp only[b,oB]
 cases hg:T0 (r,n,es)with
 |false =>
  have c:H5 es r n U0 0=some (.inr ()):=by
   rw[show U0=(U0-1)+1 from rfl,H5.eq_2]
   by_cases e:decide ((0:Int)<(es.length:Int))=true
   ·rw[e,O1,b,oB,hg,if_neg (by simp)]
   ·rw[Bool.not_eq_true]at e
    rw[e,Y2,oB,if_neg (by simp)]
  rw[c]
  rfl
 |true =>
  have h:=h0b r n es hg a es.length 0 U0 (by omega) (D1 a)
  rw[show((0:Nat):Int)=0 from rfl,List.drop_zero,List.take_zero,a0o]at h
  rw[h,oB]
  cases H09 es<;>rfl
def V1(g:l0):Int->List Int->Int×Nat
 |v,[]=>(v,0)
 |v,x::w=>if S0 g v x<0 then(v,0)else((V1 g (S0 g v x) w).1,(V1 g (S0 g v x) w).2+1)
theorem Z02(g:l0):∀(w:List Int) (v:Int),(V1 g v w).2<=w.length
 | [],v=>by simp[V1]
 |x::w,v=>by
  have:=Z02 g w (S0 g v x)
  unfold V1
  split
  ·simp
  ·simp only[List.length_cons];omega
theorem z04{g:l0}(a:inG g)(b:g.2.1<=40):∀(w:List Int) (v:Int),I0 v->I0 (V1 g v w).1
 | [],v,h=>h
 |x::w,v,h=>by
  unfold V1
  split
  ·exact h
  ·exact z04 a b w _ (C00 a b v x)
def R0q(q:Int×Nat)(n:Nat)(k:Nat):(Int×Int) ⊕ Int:=bif decide (q.2<n)then .inl (q.1,((k+q.2:Nat):Int))else .inr q.1
theorem d0d(r n:Int)(es:List O0)(f:inG (r,n,es))(g:n<=40)(e:es.length<=1099511627776)(w:List Int)(i:∀ x∈w,E5 x)(l:w.length<=140737488355328):∀(d k fuel:Nat) (v:Int),k+d=w.length->d<fuel ->
  Z5 w r n es fuel v (k:Int)=some (R0q (V1 (r,n,es) v (w.drop k)) d k)
 |d,k,0,v,c,hf=>by omega
 |0,k,fuel+1,v,c,hf=>by
  rw[Z5.eq_2,if_neg (by simp;omega),J1 (by omega)]
  rfl
 |d+1,k,fuel+1,v,c,hf=>by
  have a:k<w.length:=by omega
  have b:=L5 a
  have j:=i _ (List.getElem_mem a)
  generalize w[k]=x at b j
  rw[Z5.eq_2,if_pos (by simp;omega),P2 b,oB,m02 (r,n,es) v x j e,oB,H0 (C00 f g v x),oB,N1 b]
  unfold V1
  by_cases h:S0 (r,n,es) v x<0
  ·rw[if_pos (by simpa using h),if_pos h]
   simp[R0q]
  ·rw[if_neg (by simpa using h),if_neg h,A2 a (by omega),d0d r n es f g e w i l d (k+1) fuel _ (by omega) (by omega)]
   unfold R0q
   simp only[Nat.add_lt_add_iff_right]
   congr 2
   simp only[Nat.add_assoc,Nat.add_comm 1]
theorem p0i(g:l0)(c:inG g)(d:g.2.1<=40)(b:g.2.2.length<=1099511627776)(v:Int)(w:List Int)(e:∀ x∈w,E5 x)(a:w.length<=140737488355328):C9 g v w=some ((V1 g v w).1,(((V1 g v w).2:Nat):Int)):=by
 obtain⟨r,n,es⟩:=g
 unfold C9
 have h:=d0d r n es c d b w e a w.length 0 U0 v (by omega) (D1 a)
 rw[show((0:Nat):Int)=0 from rfl,List.drop_zero]at h
 have f:=Z02 (r,n,es) w v
 simp only[h,oB,R0q]
 by_cases hc:(V1 (r,n,es) v w).2<w.length
 ·simp[hc,a9]
 ·have:(V1 (r,n,es) v w).2=w.length:=by omega
  simp[this,a9]
theorem e0d(r n:Int)(es:List O0)(f:inG (r,n,es))(g:n<=40)(e:es.length<=1099511627776)(w:List Int)(i:∀ x∈w,E5 x)(l:w.length<=140737488355328):∀(d k fuel:Nat) (v:Int),k+d=w.length->d<fuel ->
  o7 w r n es fuel v (k:Int)=some (bif decide ((V1 (r,n,es) v (w.drop k)).2<d)then .inl (-1,false)else .inr (V1 (r,n,es) v (w.drop k)).1)
 |d,k,0,v,c,hf=>by omega
 |0,k,fuel+1,v,c,hf=>by
  rw[o7.eq_2,if_neg (by simp;omega),J1 (by omega)]
  rfl
 |d+1,k,fuel+1,v,c,hf=>by
  have a:k<w.length:=by omega
  have b:=L5 a
  have j:=i _ (List.getElem_mem a)
  generalize w[k]=x at b j
  rw[o7.eq_2,if_pos (by simp;omega),P2 b,oB,l02 (r,n,es) v x j e,oB,H0 (C00 f g v x),oB,N1 b]
  unfold V1
  by_cases h:S0 (r,n,es) v x<0
  ·rw[if_pos (by simpa using h),if_pos h]
   simp
  ·rw[if_neg (by simpa using h),if_neg h,A2 a (by omega),e0d r n es f g e w i l d (k+1) fuel _ (by omega) (by omega)]
   simp only[Nat.add_lt_add_iff_right]
theorem x0l(g:l0)(hf:K0 g=true)(v:Int)(j:0<=v/\v<g.2.1)(w:List Int)(k:∀ x∈w,E5 x)(a:w.length<=140737488355328):
  I9 g v w=some (bif decide ((V1 g v w).2<w.length)then(-1,false)else((V1 g v w).1,true)):=by
 have f:T0 g=true:=by unfold K0 at hf;simp only[Bool.and_eq_true]at hf;exact hf.1
 obtain⟨e,_,b,d⟩:=N2 f
 have c:=H6 g (by omega)
 obtain⟨r,n,es⟩:=g
 simp only at j b d
 unfold I9
 have h:=e0d r n es e b.2 (by omega) w k a w.length 0 U0 v (by omega) (D1 a)
 rw[show((0:Nat):Int)=0 from rfl,List.drop_zero]at h
 have i:inR 0 (n-1) v=true:=by simp only[inR,Bool.and_eq_true,decide_eq_true_eq];omega
 simp only[c,hf,oB,Bool.not_true,Bool.not_false,O1,m03,w64 (show -9223372036854775808<=n-1 by omega) (show n-1<=9223372036854775807 by omega),i,cond_false,Bool.false_eq_true,if_false,h]
 cases decide ((V1 (r,n,es) v w).2<w.length)<;>rfl
theorem C1{g:l0}(h:K0 g=true):inG g/\(1<=g.1/\g.1<=3)/\(1<=g.2.1/\g.2.1<=40)/\g.2.2.length<=120:=by
 unfold K0 at h
 simp only[Bool.and_eq_true]at h
 exact N2 h.1
def t0p(v:Int)(e:O0):Nat:=(if e.1=v then 1 else 0)+(if e.2.2=v then 1 else 0)
def N03(v:Int):List O0->Nat
 | []=>0
 |e::r=>t0p v e+N03 v r
theorem S0q(v:Int)(e:O0):t0p v e<=2:=by unfold t0p;split<;>split<;>omega
theorem q0i(v:Int):∀ l,N03 v l<=2*l.length
 | []=>by simp[N03]
 |e::r=>by have:=S0q v e;have:=q0i v r;simp only[N03,List.length_cons];omega
theorem g0f(es:List O0)(v:Int)(o:es.length<=1099511627776):∀(d k fuel acc:Nat),k+d=es.length->d<fuel->acc<=2*k ->
  P3 es v fuel (acc:Int) (k:Int)=some ((acc+N03 v (es.drop k):Nat):Int)
 |d,k,0,acc,j,hf,i=>by omega
 |0,k,fuel+1,acc,j,hf,i=>by
  rw[P3.eq_2,if_neg (by simp;omega),J1 (by omega)];rfl
 |d+1,k,fuel+1,acc,j,hf,i=>by
  have m:k<es.length:=by omega
  have f:=L5 m
  generalize es[k]=e at f
  obtain⟨a,l,b⟩:=e
  have c:=λn h=>g0f es v o d (k+1) fuel n (by omega) (by omega) h
  have g:IntKind.i64.wrap ((acc:Int)+1)=((acc+1:Nat):Int):=by rw[w64 (by omega) (by omega)];rfl
  have p:IntKind.i64.wrap (((acc+1:Nat):Int)+1)=((acc+2:Nat):Int):=by rw[w64 (by omega) (by omega)];rfl
  rw[P3.eq_2,if_pos (by simp;omega),P2 f,N1 f]
  simp only[oB,N03,t0p,A2 m (show es.length<=9223372036854775807 by omega)]
  by_cases c1:a=v
  ·rw[if_pos (by simpa using c1),if_pos c1]
   by_cases c2:b=v
   ·rw[if_pos (by simpa using c2),if_pos c2,g,p,c _ (by omega)];congr 2;omega
   ·rw[if_neg (by simpa using c2),if_neg c2,g,c _ (by omega)];congr 2;omega
  ·rw[if_neg (by simpa using c1),if_neg c1]
   by_cases c2:b=v
   ·rw[if_pos (by simpa using c2),if_pos c2,g,c _ (by omega)];congr 2;omega
   ·rw[if_neg (by simpa using c2),if_neg c2,c _ (by omega)];congr 2;omega
theorem h0f(es:List O0)(v:Int):∀(fuel:Nat) (x y:Int),I5 es v fuel x y=P3 es v fuel x y
 |0,x,y=>rfl
 |fuel+1,x,y=>by
  rw[I5.eq_2,P3.eq_2]
  simp only[h0f es v fuel]
  by_cases c:(decide (y<((es.length:Nat):Int)))=true
  ·rw[if_pos c,if_pos c]
   cases hg:gi es y with
   |none=>rfl
   |some e=>simp only[oB]
  ·rw[if_neg c,if_neg c]
theorem W0g(g:l0)(v:Int)(a:g.2.2.length<=1099511627776):w00 g v=some ((N03 v g.2.2:Nat):Int):=by
 obtain⟨r,n,es⟩:=g
 unfold w00
 have h:=g0f es v a es.length 0 U0 0 (by omega) (D1 (by simp only at a;omega)) (Nat.zero_le _)
 rw[show((0:Nat):Int)=0 from rfl,List.drop_zero,Nat.zero_add]at h
 simp only[h,oB]
theorem b0o(g:l0)(v:Int)(a:g.2.2.length<=1099511627776):C01 g v=some ((N03 v g.2.2:Nat):Int):=by
 have h:=W0g g v a
 obtain⟨r,n,es⟩:=g
 unfold C01
 unfold w00 at h
 simp only[h0f]at h ⊢
 exact h
def F06(g h:l0):Bool:=decide (g=h)
theorem n04(x y:O0):eqE x y=true↔x=y:=by simp[eqE]
theorem f0d(a b:List O0)(l:a.length=b.length)(j:a.length<=9223372036854775807):∀(d k fuel:Nat),k+d=a.length->d<fuel ->
  L1 a b fuel (k:Int)=some (if a.drop k=b.drop k then .inr ()else .inl false)
 |d,k,0,g,hf=>by omega
 |0,k,fuel+1,g,hf=>by
  rw[L1.eq_2,if_neg (by simp;omega),J1 (by omega),J1 (by omega)];rfl
 |d+1,k,fuel+1,g,hf=>by
  have i:k<a.length:=by omega
  have m:k<b.length:=by omega
  have e:=L5 i
  have f:=L5 m
  generalize a[k]=x at e
  generalize b[k]=y at f
  have o:=f0d a b l j d (k+1) fuel (by omega) (by omega)
  rw[L1.eq_2,if_pos (by simp;omega),P2 e,P2 f,N1 e,N1 f]
  simp only[oB,A2 i j,o]
  by_cases c:x=y
  ·subst c
   rw[if_neg (by simp[eqE])]
   simp
  ·have n:eqE x y=false:=Bool.eq_false_iff.2 λh=>c ((n04 x y).1 h)
   rw[if_pos (show(!eqE x y)=true by rw[n];rfl),if_neg (by simp[c])]
theorem i0f(a b:List O0)(d:a.length<=9223372036854775807):V2 a b=some (decide (a=b)):=by
 unfold V2
 by_cases hab:a.length=b.length
 ·have h:=f0d a b hab d a.length 0 U0 (by omega) (by unfold U0;omega)
  rw[if_neg (by simp;omega),show(0:Int)=((0:Nat):Int) from rfl,h,List.drop_zero,List.drop_zero]
  by_cases c:a=b
  ·rw[if_pos c];simp[a9,c]
  ·rw[if_neg c];simp[a9,c]
 ·rw[if_pos (by simp;omega)]
  congr 1
  symm
  simp
  intro h;exact hab (by rw[h])
theorem X0g(g h:l0)(b:g.2.2.length<=9223372036854775807):N7 g h=some (F06 g h):=by
 obtain⟨r,n,es⟩:=g
 obtain⟨d,c,a⟩:=h
 unfold N7 F06
 simp only[Prod.mk.injEq]
 by_cases c1:r=d<;>by_cases c2:n=c<;>simp[c1,c2,O1,Y2,i0f es a b]
theorem Y0g(a b:List O0):∀(fuel:Nat) (k:Int),E6 a b fuel k=L1 a b fuel k
 |0,k=>rfl
 |fuel+1,k=>by
  rw[E6.eq_2,L1.eq_2]
  simp only[Y0g a b fuel]
theorem Z0g(g h:l0)(b:g.2.2.length<=9223372036854775807):U8 g h=some (F06 g h):=by
 have a:=i0f g.2.2 h.2.2 b
 obtain⟨r,n,es⟩:=g
 obtain⟨d,c,e⟩:=h
 unfold U8 F06
 unfold V2 at a
 simp only[Y0g,Prod.mk.injEq]at a ⊢
 by_cases c1:r=d
 ·by_cases c2:n=c
  ·simp only[c1,c2,decide_true,Bool.not_true,cond_false,true_and]
   rw[←a]
  ·simp[c1,c2]
 ·simp[c1]
def goE(x:O0):List O0->Bool×List O0
 | []=>(false,[])
 |y::l=>if Q0 x y<0 then(true,x::y::l)else if Q0 x y=0 then(true,y::l)else((goE x l).1,y::(goE x l).2)
theorem S0m(x:O0):∀ l,g00 Q0 x l=bif(goE x l).1 then(goE x l).2 else(goE x l).2 ++ [x]
 | []=>rfl
 |y::l=>by
  have a:=S0m x l
  unfold g00 goE
  by_cases c1:Q0 x y<0
  ·rw[if_pos c1,if_pos c1];rfl
  ·rw[if_neg c1,if_neg c1]
   by_cases c2:Q0 x y=0
   ·rw[if_pos c2,if_pos c2];rfl
   ·rw[if_neg c2,if_neg c2,a];cases (goE x l).1<;>rfl
theorem m0c(l:List O0)(w0 i j:Int)(n:l.length<=1099511627776):∀(d k fuel:Nat) (acc:List O0),k+d=l.length->d<fuel->acc.length<=k+1 ->
  O4 l w0 i j fuel true (k:Int) acc=some (true,acc++l.drop k)
 |d,k,0,acc,g,hf,f=>by omega
 |0,k,fuel+1,acc,g,hf,f=>by
  rw[O4.eq_2,if_neg (by simp;omega),J1 (by omega),List.append_nil]
 |d+1,k,fuel+1,acc,g,hf,f=>by
  have h:k<l.length:=by omega
  have c:=L5 h
  generalize l[k]=e at c
  obtain⟨a,x,b⟩:=e
  have o:=m0c l w0 i j n d (k+1) fuel (acc ++ [(a,x,b)]) (by omega) (by omega) (by simp;omega)
  rw[O4.eq_2,if_pos (by simp;omega),N1 c]
  simp only[P2 c,oB,n03,H0 (W0d _ _),A2 h (show l.length<=9223372036854775807 by omega),Bool.not_true]
  have m:∀ b:Bool,(bif b then false else false)=false:=λb=>by cases b<;>rfl
  simp only[m,Bool.false_eq_true,if_false]
  rw[H0 (by simp;omega),oB,o]
  simp
theorem j0f(l:List O0)(w0 c f:Int)(h:l.length<=1099511627776):∀(d k fuel:Nat) (acc:List O0),k+d=l.length->d<fuel->acc.length=k ->
  O4 l w0 c f fuel false (k:Int) acc=some ((goE (w0,c,f) (l.drop k)).1,acc++(goE (w0,c,f) (l.drop k)).2)
 |d,k,0,acc,j,hf,i=>by omega
 |0,k,fuel+1,acc,j,hf,i=>by
  rw[O4.eq_2,if_neg (by simp;omega),J1 (by omega)];simp[goE]
 |d+1,k,fuel+1,acc,j,hf,i=>by
  have m:k<l.length:=by omega
  have g:=L5 m
  generalize l[k]=e at g
  obtain⟨a,x,b⟩:=e
  have n:=j0f l w0 c f h d (k+1) fuel (acc ++ [(a,x,b)]) (by omega) (by omega) (by simp;omega)
  have o:=m0c l w0 c f h d (k+1) fuel (acc ++ [(a,x,b)]) (by omega) (by omega) (by simp;omega)
  have p:=m0c l w0 c f h d (k+1) fuel ((acc ++ [(w0,c,f)]) ++ [(a,x,b)]) (by omega) (by omega) (by simp;omega)
  rw[O4.eq_2,if_pos (by simp;omega),N1 g]
  simp only[P2 g,oB,n03,H0 (W0d _ _),A2 m (show l.length<=9223372036854775807 by omega),Bool.not_true,Bool.not_false,goE]
  show _=_
  unfold b0f
  by_cases c1:Q0 (w0,c,f) (a,x,b)=0
  ·rw[if_pos (by simpa using c1),if_neg (by simp[c1]),if_neg (by omega),if_pos c1]
   rw[H0 (by simp;omega),oB,o];simp
  ·rw[if_neg (by simpa using c1)]
   by_cases c2:Q0 (w0,c,f) (a,x,b)<0
   ·rw[if_pos (by simp[c2]),if_pos c2,H0 (by simp;omega),oB,H0 (by simp;omega),oB,p];simp
   ·rw[if_neg (by simp[c2]),if_neg c2,if_neg c1,H0 (by simp;omega),oB,n];simp
theorem M04(l:List O0)(e:O0)(c:l.length<=1099511627776):T6 l e=some (g00 Q0 e l):=by
 obtain⟨w0,a,b⟩:=e
 unfold T6
 have h:=j0f l w0 a b c l.length 0 U0 [] (by omega) (D1 (by omega)) rfl
 rw[show((0:Nat):Int)=0 from rfl,List.drop_zero,List.nil_append]at h
 simp only[h,oB,S0m]
 have d:∀ l:List O0,(goE (w0,a,b) l).2.length<=l.length+1:=λl=>by
  induction l with
  |nil=>simp[goE]
  |cons y l f =>
   unfold goE
   split
   ·simp
   ·split
    ·simp
    ·simp only[List.length_cons];omega
 have:=d l
 cases (goE (w0,a,b) l).1 with
 |true=>rfl
 |false =>
  simp only[Bool.not_false,if_true,cond_false]
  rw[H0 (by simp;omega),oB]
theorem G06(e:O0):∀ l:List O0,(g00 Q0 e l).length<=l.length+1
 | []=>by simp[g00]
 |y::l=>by
  have:=G06 e l
  unfold g00
  split
  ·simp
  ·split
   ·simp
   ·simp only[List.length_cons];omega
theorem o08(es:List O0)(a:es.length<=1099511627776):d9 es=some (w4 Q0 [] es):=by
 unfold d9
 rw[H0 (by simp;omega),oB,H0 (by simp;omega),oB,List.nil_append]
 exact congrArg some (L0j p6 n04 es es λ_=>Iff.rfl)
theorem J9(g:l0)(a:g.2.2.length<=1099511627776):K3 g=some g:=by
 obtain⟨r,n,es⟩:=g
 unfold K3
 simp only
 rw[H0 (by simp only[List.length_nil,Nat.zero_add];simp only at a;omega)];rfl
theorem l00(g:l0)(a:g.2.2.length<=1099511627776):T3 g=some g:=by
 obtain⟨r,n,es⟩:=g
 unfold T3
 simp only
 rw[H0 (by simp only[List.length_nil,Nat.zero_add];simp only at a;omega)];rfl
inductive Rch (es:List O0) (v:Int):Int->Prop
 |base:Rch es v v
 |fwd {e:O0}:e∈es->Rch es v e.1->Rch es v e.2.2
 |bwd {e:O0}:e∈es->Rch es v e.2.2->Rch es v e.1
theorem Rch.closed{es:List O0}{v:Int}:∀ e∈es,Rch es v e.1↔Rch es v e.2.2:=λe a=>⟨.fwd a,.bwd a⟩
theorem Rch.sub{es:List O0}{v:Int}{P:Int->Prop}(c:P v)(a:∀ e∈es,P e.1↔P e.2.2):∀ {x},Rch es v x->P x
 |_,.base=>c
 |_,.fwd b h=>(a _ b).1 (Rch.sub c a h)
 |_,.bwd b h=>(a _ b).2 (Rch.sub c a h)
def W9(S:List Bool)(i:Int):Bool:=S.getD i.toNat false
def stJ(S:List Bool)(e:O0):List Bool:=(S.set e.1.toNat true).set e.2.2.toNat true
def pJ:List O0->Bool->List Bool->Bool×List Bool
 | [],c,S=>(c,S)
 |e::r,c,S=>bif W9 S e.1 == W9 S e.2.2 then pJ r c S else pJ r true (stJ S e)
def cF:List Bool->Nat
 | []=>0
 |b::r=>(bif b then 0 else 1)+cF r
theorem y0l:∀(S:List Bool) (i:Nat),cF (S.set i true)<=cF S
 | [],i=>by simp[cF]
 |b::r,0=>by simp[cF]
 |b::r,i+1=>by have:=y0l r i;simp only[List.set_cons_succ,cF];omega
theorem u0p:∀(S:List Bool) (i:Nat),S[i]?=some false->cF (S.set i true)<cF S
 | [],i,h=>by simp at h
 |b::r,0,h=>by simp at h;subst h;simp[cF]
 |b::r,i+1,h=>by have:=u0p r i (by simpa using h);simp only[List.set_cons_succ,cF];omega
theorem p0r:∀ S:List Bool,cF S<=S.length
 | []=>by simp[cF]
 |b::r=>by have:=p0r r;cases b<;>simp only[cF,List.length_cons,cond_true,cond_false]<;>omega
def inN(n:Nat)(es:List O0):Prop:=∀ e∈es,(0<=e.1/\e.1<(n:Int))/\(0<=e.2.2/\e.2.2<(n:Int))
theorem p08{S:List Bool}{i:Nat}(h:i<S.length)(x:Int):W9 (S.set i true) x=(decide (x.toNat=i) || W9 S x):=by
 unfold W9
 rw[List.getD_eq_getElem?_getD,List.getD_eq_getElem?_getD,List.getElem?_set]
 by_cases c:i=x.toNat
 ·rw[if_pos c,if_pos (by omega)];simp[c]
 ·rw[if_neg c]
  have:decide (x.toNat=i)=false:=by simp;exact λe=>c e.symm
  rw[this];rfl
theorem z0l:∀(es:List O0) (c:Bool) (S:List Bool),(pJ es c S).2.length=S.length
 | [],c,S=>rfl
 |e::r,c,S=>by
  unfold pJ
  cases W9 S e.1 == W9 S e.2.2
  ·simp only[cond_false];rw[z0l r];simp[stJ]
  ·simp only[cond_true];exact z0l r c S
theorem r0i{n:Nat}:∀(es:List O0) (c:Bool) (a:List Bool),a.length=n->inN n es->∀ x,W9 a x=true->W9 (pJ es c a).2 x=true
 | [],c,a,b,d,x,h=>h
 |e::r,c,a,b,d,x,h=>by
  have f:=d e mS
  have g:inN n r:=λe f=>d e (mC _ f)
  unfold pJ
  cases W9 a e.1 == W9 a e.2.2
  ·simp only[cond_false]
   refine r0i r _ _ (by simp[stJ,b]) g x ?_
   rw[stJ,p08 (by rw[List.length_set];omega),p08 (by omega),h];simp
  ·simp only[cond_true];exact r0i r c a b g x h
theorem k0f{n:Nat}{P:Int->Prop}:∀(es:List O0) (c:Bool) (a:List Bool),a.length=n->inN n es->(∀ e∈es,P e.1↔P e.2.2)->(∀ x,0<=x->W9 a x=true->P x)->∀ x,0<=x->W9 (pJ es c a).2 x=true->P x
 | [],c,a,g,i,f,d,x,h0,h=>d x h0 h
 |e::r,c,a,g,i,f,d,x,h0,h=>by
  have b:=i e mS
  have m:inN n r:=λe b=>i e (mC _ b)
  have j:=λe b=>f e (mC _ b)
  have k:=f e mS
  unfold pJ at h
  cases hb:W9 a e.1 == W9 a e.2.2
  ·rw[hb]at h
   refine k0f r true (stJ a e) (by simp[stJ,g]) m j (λy o h=>?_) x h0 h
   rw[stJ,p08 (by rw[List.length_set];omega),p08 (by omega)]at h
   simp only[Bool.or_eq_true,decide_eq_true_eq]at h
   have l:P e.1∨P e.2.2:=by
    cases h1:W9 a e.1
    ·cases h2:W9 a e.2.2
     ·rw[h1,h2]at hb;cases hb
     ·exact .inr (d _ b.2.1 h2)
    ·exact .inl (d _ b.1.1 h1)
   rcases h with h|h|h
   ·have:y=e.2.2:=by omega
    subst this;exact l.elim k.1 id
   ·have:y=e.1:=by omega
    subst this;exact l.elim id k.2
   ·exact d y o h
  ·rw[hb]at h
   exact k0f r c a g m j d x h0 h
theorem A0l{n:Nat}:∀(es:List O0) (c:Bool) (a:List Bool),a.length=n->inN n es->cF (pJ es c a).2<=cF a/\((pJ es c a).1=true->c=true∨cF (pJ es c a).2<cF a)/\((pJ es c a).1=false->c=false/\(pJ es c a).2=a/\∀ e∈es,W9 a e.1=W9 a e.2.2)
 | [],c,a,k,l=>⟨Nat.le_refl _,λh => .inl h,λh=>⟨h,rfl,λe b=>nomatch b⟩⟩
 |e::r,c,a,k,l=>by
  have b:=l e mS
  have s:inN n r:=λe b=>l e (mC _ b)
  unfold pJ
  cases hb:W9 a e.1 == W9 a e.2.2
  ·simp only[cond_false]
   obtain⟨m,o,d⟩:=A0l r true (stJ a e) (by simp[stJ,k]) s
   have v:cF (stJ a e)<cF a:=by
    have g:∀(x:Int),0<=x->x<n->W9 a x=false->a[x.toNat]?=some false:=λx w y j=>by
     have p:x.toNat<a.length:=by omega
     unfold W9 at j
     rw[List.getD_eq_getElem?_getD,List.getElem?_eq_getElem p]at j
     rw[List.getElem?_eq_getElem p];simpa using j
    cases g1:W9 a e.1
    ·have:=u0p a _ (g _ b.1.1 b.1.2 g1)
     have:=y0l (a.set e.1.toNat true) e.2.2.toNat
     unfold stJ;omega
    ·have f:W9 a e.2.2=false:=by
      cases f:W9 a e.2.2
      ·rfl
      ·rw[g1,f]at hb;cases hb
     have u:(a.set e.1.toNat true)[e.2.2.toNat]?=some false:=by
      rw[List.getElem?_set]
      by_cases q:e.1.toNat=e.2.2.toNat
      ·exfalso
       have:e.1=e.2.2:=by omega
       rw[this,f]at g1;cases g1
      ·rw[if_neg q];exact g _ b.2.1 b.2.2 f
     have:=u0p _ _ u
     have:=y0l a e.1.toNat
     unfold stJ;omega
   refine⟨by omega,λ_ => .inr (by omega),λh=>?_⟩
   have:=(d h).1;cases this
  ·simp only[cond_true]
   obtain⟨m,o,d⟩:=A0l r c a k s
   refine⟨m,o,λh=>⟨(d h).1,(d h).2.1,λt i=>?_⟩⟩
   rcases List.mem_cons.1 i with rfl|i
   ·simpa using hb
   ·exact(d h).2.2 t i
theorem giB{a:List Bool}{n:Nat}(f:a.length=n){x:Int}(h0:0<=x)(d:x<n):gi a x=some (W9 a x):=by
 have c:x.toNat<a.length:=by omega
 have e:x=((x.toNat:Nat):Int):=by omega
 have b:gi a ((x.toNat:Nat):Int)=some (W9 a x):=by
  rw[h0c,List.getElem?_eq_getElem c]
  unfold W9
  rw[List.getD_eq_getElem?_getD,List.getElem?_eq_getElem c];rfl
 rw[←e]at b;exact b
theorem a0h(es:List O0){n:Nat}(q:inN n es)(p:es.length<=9223372036854775807):∀(d k fuel:Nat) (c:Bool) (f:List Bool),f.length=n->k+d=es.length->d<fuel ->
  G4 es fuel c (k:Int) f=some (pJ (es.drop k) c f)
 |d,k,0,c,f,g,m,hf=>by omega
 |0,k,fuel+1,c,f,g,m,hf=>by
  rw[G4.eq_2,if_neg (by simp;omega),J1 (by omega)];rfl
 |d+1,k,fuel+1,c,f,g,m,hf=>by
  have o:k<es.length:=by omega
  have j:=L5 o
  have i:=q _ (List.mem_of_getElem? j)
  generalize es[k]=e at j i
  obtain⟨a,l,b⟩:=e
  have s:=λu t h=>a0h es q p d (k+1) fuel u t h (by omega) (by omega)
  rw[G4.eq_2,if_pos (by simp;omega),N1 j]
  simp only[P2 j,oB,giB g i.1.1 i.1.2,giB g i.2.1 i.2.2,A2 o p,giB (show(f.set a.toNat true).length=n by simp[g]) i.2.1 i.2.2,pJ]
  cases hb:W9 f a == W9 f b
  ·simp only[Bool.not_false,if_true,cond_false]
   exact s _ _ (by simp[g])
  ·simp only[Bool.not_true,Bool.false_eq_true,if_false,cond_true]
   exact s _ _ g
theorem b0h(es:List O0){n:Nat}(f:inN n es)(z:es.length<=9223372036854775806):∀(m fuel:Nat) (a:List Bool),a.length=n->cF a<=m->m+1<fuel ->
  ∃ b,o5 es fuel true a=some b/\b.length=n/\(∀ x,W9 a x=true->W9 b x=true)/\(∀ e∈es,W9 b e.1=W9 b e.2.2) /\
   ∀ P:Int->Prop,(∀ e∈es,P e.1↔P e.2.2)->(∀ x,0<=x->W9 a x=true->P x)->∀ x,0<=x->W9 b x=true->P x
 |m,0,a,d,B,hf=>by omega
 |m,fuel+1,a,d,B,hf=>by
  have h0:=a0h es f (by omega) es.length 0 U0 false a d (by omega) (by unfold U0;omega)
  rw[show((0:Nat):Int)=0 from rfl,List.drop_zero]at h0
  obtain⟨p,i,j⟩:=A0l es false a d f
  have A:=z0l es false a
  rw[o5.eq_2,if_pos rfl,h0,oB]
  have l:=r0i es false a d f
  have o:=λP=>k0f (P:=P) es false a d f
  generalize pJ es false a=q at *
  obtain⟨c,b⟩:=q
  simp only at p i j A l o ⊢
  cases c with
  |true =>
   rcases i rfl with h|h
   ·cases h
   ·obtain⟨S2,s,t,u,v,w⟩:=b0h es f z (m-1) fuel b (by omega) (by omega) (by omega)
    exact⟨S2,s,t,λx C=>u x (l x C),v,λP k g=>w P k (o P k g)⟩
  |false =>
   obtain⟨_,e,y⟩:=j rfl
   subst e
   obtain _|fuel:=fuel
   ·omega
   ·rw[o5.eq_2,if_neg (by simp)]
    exact⟨_,rfl,d,λx h=>h,y,λP _ g=>g⟩
theorem Q0j(r:Int)(n:Nat)(es:List O0)(p:inN n es)(o:es.length<=9223372036854775806)(s:1<=n)(t:n<=140737488355328):
  ∃ a,M9 (r,(n:Int),es) 0=some a/\a.length=n/\∀ x,0<=x->x<(n:Int)->(W9 a x=true↔Rch es 0 x):=by
 unfold M9
 simp only[Int.toNat_natCast]
 have m:gi (List.replicate n (false:Bool)) 0=some false:=by
  rw[n0i (x:=false)];rw[List.getElem?_replicate,if_pos (by omega)]
 rw[H0 (by omega),oB,m,oB]
 have k:((List.replicate n (false:Bool)).set (0:Int).toNat true).length=n:=by simp
 obtain⟨b,d,f,g,i,j⟩:=b0h es p o n U0 _ k (by have:=p0r ((List.replicate n (false:Bool)).set (0:Int).toNat true);omega) (by unfold U0;omega)
 rw[d]
 have c:∀ x,W9 ((List.replicate n (false:Bool)).set (0:Int).toNat true) x=decide (x.toNat=0):=λx=>by
  rw[p08 (by simp;omega)]
  have:W9 (List.replicate n false) x=false:=by
   unfold W9
   rw[List.getD_eq_getElem?_getD,List.getElem?_replicate]
   split<;>rfl
  rw[this];simp
 refine⟨b,rfl,f,λx h0 q=>⟨λh=>?_,λh=>?_⟩⟩
 ·refine j (Rch es 0) Rch.closed (λy u h=>?_) x h0 h
  rw[c]at h
  have:y=0:=by simp at h;omega
  subst this;exact .base
 ·exact Rch.sub (P:=λx=>W9 b x=true) (g 0 (by rw[c];rfl)) (λe l=>by rw[i e l]) h
theorem q0r(l:List Int)(w:Int)(g:l.length<=9223372036854775807):∀(d k fuel:Nat),k+d=l.length->d<fuel ->
  o9 l w fuel (k:Int)=some (if w∈l.drop k then .inl true else .inr ())
 |d,k,0,b,hf=>by omega
 |0,k,fuel+1,b,hf=>by
  rw[o9.eq_2,if_neg (by simp;omega),J1 (by omega)];simp
 |d+1,k,fuel+1,b,hf=>by
  have f:k<l.length:=by omega
  have a:=L5 f
  generalize l[k]=x at a
  have i:=q0r l w g d (k+1) fuel (by omega) (by omega)
  rw[o9.eq_2,if_pos (by simp;omega),N1 a]
  simp only[P2 a,oB,A2 f g,i,List.mem_cons]
  by_cases c:x=w
  ·rw[if_pos (by simpa using c),if_pos (.inl c.symm)]
  ·rw[if_neg (by simpa using c)]
   by_cases c2:w∈l.drop (k+1)
   ·rw[if_pos c2,if_pos (.inr c2)]
   ·rw[if_neg c2,if_neg (λh=>h.elim (λe=>c e.symm) c2)]
theorem a09(l:List Int)(w:Int)(a:l.length<=9223372036854775807):c9 l w=some (decide (w∈l)):=by
 unfold c9
 have h:=q0r l w a l.length 0 U0 (by omega) (by unfold U0;omega)
 rw[show((0:Nat):Int)=0 from rfl,List.drop_zero]at h
 rw[h,oB]
 by_cases c:w∈l
 ·rw[if_pos c];simp[a9,c]
 ·rw[if_neg c];simp[a9,c]
def s1(u:List Int)(e:O0):List Int:=if e.1∈u then g00 A9 e.2.2 u else u
def s2(u:List Int)(e:O0):List Int:=if e.2.2∈u then g00 A9 e.1 u else u
def pS:List O0->List Int->List Int
 | [],u=>u
 |e::r,u=>pS r (s2 (s1 u e) e)
theorem n0c{u:List Int}{e:O0}{x:Int}:x∈s1 u e↔x∈u∨(e.1∈u/\x=e.2.2):=by
 unfold s1
 split
 ·rename_i h;rw[m08 X02];constructor
  ·rintro(a|a)
   ·exact .inr ⟨h,a⟩
   ·exact .inl a
  ·rintro(a|⟨_,a⟩)
   ·exact .inr a
   ·exact .inl a
 ·rename_i h;constructor
  ·exact .inl
  ·rintro(a|⟨a,_⟩)
   ·exact a
   ·exact absurd a h
theorem o0c{u:List Int}{e:O0}{x:Int}:x∈s2 u e↔x∈u∨(e.2.2∈u/\x=e.1):=by
 unfold s2
 split
 ·rename_i h;rw[m08 X02];constructor
  ·rintro(a|a)
   ·exact .inr ⟨h,a⟩
   ·exact .inl a
  ·rintro(a|⟨_,a⟩)
   ·exact .inr a
   ·exact .inl a
 ·rename_i h;constructor
  ·exact .inl
  ·rintro(a|⟨a,_⟩)
   ·exact a
   ·exact absurd a h
theorem v0p(u:List Int)(e:O0):(s1 u e).length<=u.length+1:=by
 unfold s1;split
 ·exact E06 _ _
 ·omega
theorem w0p(u:List Int)(e:O0):(s2 u e).length<=u.length+1:=by
 unfold s2;split
 ·exact E06 _ _
 ·omega
theorem B0l:∀(es:List O0) (u:List Int),(pS es u).length<=u.length+2*es.length
 | [],u=>by simp[pS]
 |e::r,u=>by
  have:=B0l r (s2 (s1 u e) e)
  have:=w0p (s1 u e) e
  have:=v0p u e
  simp only[pS,List.length_cons];omega
theorem m07:∀(es:List O0) (u:List Int) (x:Int),x∈u->x∈pS es u
 | [],u,x,h=>h
 |e::r,u,x,h=>m07 r _ x (o0c.2 (.inl (n0c.2 (.inl h))))
theorem l0f{P:Int->Prop}:∀(es:List O0) (u:List Int),(∀ e∈es,P e.1↔P e.2.2)->(∀ x∈u,P x)->∀ x∈pS es u,P x
 | [],u,b,a=>a
 |e::r,u,b,a=>l0f r _ (λe f=>b e (mC _ f)) λx g=>by
  have d:=b e mS
  have c:∀ y∈s1 u e,P y:=λy i=>by
   rcases n0c.1 i with h|⟨h,rfl⟩
   ·exact a y h
   ·exact d.1 (a _ h)
  rcases o0c.1 g with h|⟨h,rfl⟩
  ·exact c x h
  ·exact d.2 (c _ h)
theorem R0j:∀(es:List O0) (u:List Int) (e:O0),e∈es->e.1∈u∨e.2.2∈u->e.1∈pS es u/\e.2.2∈pS es u
 |c::r,u,e,a,h=>by
  simp only[pS]
  rcases List.mem_cons.1 a with rfl|a
  ·have b:e.2.2∈s1 u e:=by
    rcases h with h|h
    ·exact n0c.2 (.inr ⟨h,rfl⟩)
    ·exact n0c.2 (.inl h)
   exact⟨m07 r _ _ (o0c.2 (.inr ⟨b,rfl⟩)),m07 r _ _ (o0c.2 (.inl b))⟩
  ·exact R0j r _ e a (h.imp (λh=>o0c.2 (.inl (n0c.2 (.inl h)))) λh=>o0c.2 (.inl (n0c.2 (.inl h))))
def act(es:List O0)(u:List Int):Nat:=es.countP λe=>decide (e.1∈u)&&decide (e.2.2∈u)
def clo(es:List O0)(u:List Int):Prop:=∀ e∈es,e.1∈u↔e.2.2∈u
theorem c0s(es:List O0)(u:List Int):act es u<=es.length:=List.countP_le_length
theorem c0h{e:Type}{p q:e->Bool}:∀ {l:List e},(∀ x∈l,p x=true->q x=true)->(∃ x∈l,p x=false/\q x=true)->l.countP p<l.countP q
 | [],_,⟨x,a,_⟩=>nomatch a
 |y::l,h,⟨x,a,c,d⟩=>by
  have f:l.countP p<=l.countP q:=List.countP_mono_left λz b=>h z (mC _ b)
  rcases List.mem_cons.1 a with rfl|a
  ·rw[List.countP_cons_of_neg (by simp[c]),List.countP_cons_of_pos d];omega
  ·have g:=c0h (l:=l) (λz b=>h z (mC _ b)) ⟨x,a,c,d⟩
   cases hp:p y
   ·rw[List.countP_cons_of_neg (by simp[hp])]
    have:l.countP q<=(y::l).countP q:=by rw[List.countP_cons];omega
    omega
   ·rw[List.countP_cons_of_pos hp,List.countP_cons_of_pos (h y mS hp)];omega
theorem i0b{es:List O0}{u:List Int}(h:clo es u)(x:Int):x∈pS es u↔x∈u :=
 ⟨l0f (P:=λx=>x∈u) es u h (λ_ h=>h) x,m07 es u x⟩
theorem x0p{es:List O0}{u:List Int}:clo es (pS es u)∨act es u<act es (pS es u):=by
 by_cases h:clo es u
 ·left
  intro e a
  rw[i0b h,i0b h];exact h e a
 ·right
  have:∃ e∈es,¬ (e.1∈u↔e.2.2∈u):=by
   refine Classical.byContradiction λb=>h λe a=>?_
   exact Classical.byContradiction λd=>b ⟨e,a,d⟩
  obtain⟨e,a,c⟩:=this
  refine c0h (λx g h=>?_) ⟨e,a,?_,?_⟩
  ·simp only[Bool.and_eq_true,decide_eq_true_eq]at h ⊢
   exact⟨m07 _ _ _ h.1,m07 _ _ _ h.2⟩
  ·rw[Bool.eq_false_iff]
   intro h
   simp only[Bool.and_eq_true,decide_eq_true_eq]at h
   exact c ⟨λ_=>h.2,λ_=>h.1⟩
  ·have f:e.1∈u∨e.2.2∈u:=by
    refine Classical.byContradiction λb=>c ⟨λh=>absurd (.inl h) b,λh=>absurd (.inr h) b⟩
   have:=R0j es u e a f
   simp only[Bool.and_eq_true,decide_eq_true_eq];exact this
def itS(es:List O0):Nat->List Int->List Int
 |0,u=>u
 |j+1,u=>itS es j (pS es u)
theorem T0m(es:List O0):∀(j:Nat) (u:List Int),(itS es j u).length<=u.length+j*(2*es.length)
 |0,u=>by simp[itS]
 |j+1,u=>by have:=T0m es j (pS es u);have:=B0l es u;simp only[itS,Nat.add_mul,Nat.one_mul];omega
theorem U0m(es:List O0):∀(j:Nat) (u:List Int),clo es u->clo es (itS es j u)
 |0,u,h=>h
 |j+1,u,h=>U0m es j _ λe a=>by rw[i0b h,i0b h];exact h e a
theorem V0m(es:List O0):∀(j:Nat) (u:List Int),clo es (itS es j u)∨act es u+j<=act es (itS es j u)
 |0,u => .inr (Nat.le_refl _)
 |j+1,u=>by
  rcases x0p (es:=es) (u:=u)with h|h
  ·exact .inl (U0m es j _ h)
  ·rcases V0m es j (pS es u)with a|a
   ·exact .inl a
   ·right;simp only[itS];omega
theorem S0j(es:List O0):∀(j:Nat) (u:List Int) (x:Int),x∈u->x∈itS es j u
 |0,u,x,h=>h
 |j+1,u,x,h=>S0j es j _ x (m07 es u x h)
theorem d0h{P:Int->Prop}(es:List O0)(b:∀ e∈es,P e.1↔P e.2.2):∀(j:Nat) (u:List Int),(∀ x∈u,P x)->∀ x∈itS es j u,P x
 |0,u,a=>a
 |j+1,u,a=>d0h es b j _ (l0f es u b a)
theorem j0b(es:List O0)(v x:Int):x∈itS es (es.length+1) [v]↔Rch es v x:=by
 constructor
 ·exact d0h (P:=Rch es v) es Rch.closed _ _ (λy a=>by simp at a;subst a;exact .base) x
 ·have b:clo es (itS es (es.length+1) [v]):=by
   rcases V0m es (es.length+1) [v]with h|h
   ·exact h
   ·have:=c0s es (itS es (es.length+1) [v]);omega
  exact Rch.sub (P:=λx=>x∈itS es (es.length+1) [v]) (S0j _ _ _ _ (by simp)) b
theorem m0f(es:List O0)(p:es.length<=9223372036854775807):∀(d k fuel:Nat) (u:List Int),k+d=es.length->d<fuel->u.length+2*d<=1099511627776 ->
  M3 es fuel u (k:Int)=some (pS (es.drop k) u)
 |d,k,0,u,n,hf,q=>by omega
 |0,k,fuel+1,u,n,hf,q=>by
  rw[M3.eq_2,if_neg (by simp;omega),J1 (by omega)];rfl
 |d+1,k,fuel+1,u,n,hf,q=>by
  have o:k<es.length:=by omega
  have m:=L5 o
  generalize es[k]=e at m
  obtain⟨a,l,b⟩:=e
  have i:=λt h=>m0f es p d (k+1) fuel t (by omega) (by omega) h
  have s:=v0p u (a,l,b)
  have g:=w0p (s1 u (a,l,b)) (a,l,b)
  rw[M3.eq_2,if_pos (by simp;omega),N1 m]
  simp only[P2 m,oB,a09 u _ (by omega),A2 o p,pS]
  by_cases c:a∈u
  ·rw[if_pos (by simpa using c),b0b _ _ (by omega),oB]
   have j:s1 u (a,l,b)=g00 A9 b u:=if_pos c
   rw[j]at s g ⊢
   rw[a09 _ _ (by omega),oB]
   by_cases c2:b∈g00 A9 b u
   ·rw[if_pos (by simpa using c2),b0b _ _ (by omega),oB]
    have f:s2 (g00 A9 b u) (a,l,b)=g00 A9 a (g00 A9 b u):=if_pos c2
    rw[f]at g ⊢
    exact i _ (by omega)
   ·rw[if_neg (by simpa using c2)]
    have f:s2 (g00 A9 b u) (a,l,b)=g00 A9 b u:=if_neg c2
    rw[f]
    exact i _ (by omega)
  ·rw[if_neg (by simpa using c)]
   have j:s1 u (a,l,b)=u:=if_neg c
   rw[j]at g ⊢
   by_cases c2:b∈u
   ·rw[if_pos (by simpa using c2),b0b _ _ (by omega),oB]
    have f:s2 u (a,l,b)=g00 A9 a u:=if_pos c2
    rw[f]at g ⊢
    exact i _ (by omega)
   ·rw[if_neg (by simpa using c2)]
    have f:s2 u (a,l,b)=u:=if_neg c2
    rw[f]
    exact i _ (by omega)
theorem n0f(es:List O0)(c:es.length<=120):∀(d k fuel:Nat) (u:List Int),k+d=es.length+1->d<fuel->u.length<=1+k*240 ->
  J5 es fuel u (k:Int)=some (itS es d u)
 |d,k,0,u,a,hf,b=>by omega
 |0,k,fuel+1,u,a,hf,b=>by
  rw[J5.eq_2,if_neg (by rw[w64 (by omega) (by omega)];simp;omega)];rfl
 |d+1,k,fuel+1,u,a,hf,b=>by
  have h0:=m0f es (by omega) es.length 0 U0 u (by omega) (D1 (by omega)) (by omega)
  rw[show((0:Nat):Int)=0 from rfl,List.drop_zero]at h0
  have e:=n0f es c d (k+1) fuel (pS es u) (by omega) (by omega) (by have:=B0l es u;omega)
  rw[J5.eq_2,if_pos (by rw[w64 (by omega) (by omega)];simp;omega),h0,oB,A2 (show k<1000 by omega) (by omega),e]
  rfl
def getI(P:List Int)(v:Int):Int:=P.getD v.toNat (-1)
def w01:List Int->Nat->List Int->List Int
 |A,k,[]=>A
 |A,k,v::r=>w01 (A.set v.toNat (k:Int)) (k+1) r
def plc(n:Nat)(o:List Int):List Int:=w01 (List.replicate n (-1)) 0 o
theorem o0f:∀(o:List Int) (k:Nat) (A:List Int),(w01 A k o).length=A.length
 | [],k,A=>rfl
 |v::r,k,A=>by rw[w01,o0f r];simp
def inV(n:Nat)(o:List Int):Prop:=∀ v∈o,0<=v/\v<(n:Int)
theorem giI{P:List Int}{n:Nat}(d:P.length=n){x:Int}(h0:0<=x)(c:x<n):gi P x=some (getI P x):=by
 have b:x.toNat<P.length:=by omega
 have e:x=((x.toNat:Nat):Int):=by omega
 have a:gi P ((x.toNat:Nat):Int)=some (getI P x):=by
  rw[h0c,List.getElem?_eq_getElem b]
  unfold getI
  rw[List.getD_eq_getElem?_getD,List.getElem?_eq_getElem b];rfl
 rw[←e]at a;exact a
theorem A04{A:List Int}{v x:Int}{y:Int}(h0:0<=v)(a:v.toNat<A.length)(b:0<=x):getI (A.set v.toNat y) x=if x=v then y else getI A x:=by
 unfold getI
 rw[List.getD_eq_getElem?_getD,List.getD_eq_getElem?_getD,List.getElem?_set]
 by_cases c:x=v
 ·rw[if_pos c,if_pos (by rw[c]),if_pos a];rfl
 ·rw[if_neg c,if_neg (by omega)]
theorem k0b{n:Nat}:∀(o:List Int) (k:Nat) (A:List Int),A.length=n->inV n o->(∀ x,0<=x -> -1<=getI A x/\getI A x<(k:Int))->∀ x,0<=x -> -1<=getI (w01 A k o) x/\getI (w01 A k o) x<((k+o.length:Nat):Int)
 | [],k,A,c,a,h,x,b=>h x b
 |v::r,k,A,c,a,h,x,b=>by
  have e:=a v mS
  have:=k0b r (k+1) (A.set v.toNat (k:Int)) (by simp[c]) (λw f=>a w (mC _ f)) (λy d=>by
   rw[A04 e.1 (by omega) d]
   have:=h y d
   split<;>omega) x b
  rw[w01,List.length_cons,show k+(r.length+1)=k+1+r.length by omega];exact this
theorem q08(n:Nat)(x:Int):getI (List.replicate n (-1)) x = -1:=by
 unfold getI
 rw[List.getD_eq_getElem?_getD,List.getElem?_replicate]
 split<;>rfl
theorem H06{n:Nat}{o:List Int}(b:inV n o){x:Int}(a:0<=x): -1<=getI (plc n o) x/\getI (plc n o) x<(o.length:Int):=by
 have:=k0b o 0 (List.replicate n (-1)) (by simp) b (λx a=>by rw[q08];omega) x a
 rw[Nat.zero_add]at this;exact this
theorem W0m(n:Nat)(o:List Int):(plc n o).length=n:=by unfold plc;rw[o0f];simp
def pE(P:List Int):List O0->List O0
 | []=>[]
 |e::r=>bif decide (0<=getI P e.1)&&decide (0<=getI P e.2.2)then(getI P e.1,e.2.1,getI P e.2.2)::pE P r else pE P r
theorem s0i(P:List Int):∀ es,(pE P es).length<=es.length
 | []=>by simp[pE]
 |e::r=>by
  have:=s0i P r
  unfold pE
  cases decide (0<=getI P e.1)&&decide (0<=getI P e.2.2)<;>simp only[cond_true,cond_false,List.length_cons]<;>omega
theorem r0r{n:Nat}{o:List Int}(d:inV n o):∀(es:List O0),inN n es->inN o.length (pE (plc n o) es)
 | [],c=>λe a=>nomatch a
 |e::r,c=>by
  have f:=r0r d r λe a=>c e (mC _ a)
  have a:=c e mS
  unfold pE
  cases hb:decide (0<=getI (plc n o) e.1)&&decide (0<=getI (plc n o) e.2.2)
  ·simpa only[cond_false] using f
  ·simp only[cond_true]
   simp only[Bool.and_eq_true,decide_eq_true_eq]at hb
   intro g b
   rcases List.mem_cons.1 b with rfl|b
   ·exact⟨⟨hb.1,(H06 d a.1.1).2⟩,hb.2,(H06 d a.2.1).2⟩
   ·exact f g b
def M8(g:l0)(o:List Int):l0:=(g.1,(o.length:Int),w4 Q0 [] (pE (plc g.2.1.toNat o) g.2.2))
theorem D00:∀(r l:List O0),(w4 Q0 l r).length<=l.length+r.length
 | [],l=>by simp[w4]
 |e::r,l=>by have:=D00 r (g00 Q0 e l);have:=G06 e l;simp only[w4,List.length_cons];omega
theorem g0a(g:l0)(o:List Int):(M8 g o).2.2.length<=g.2.2.length:=by
 have:=D00 (pE (plc g.2.1.toNat o) g.2.2) []
 have:=s0i (plc g.2.1.toNat o) g.2.2
 simp only[M8,List.length_nil]at *;omega
theorem e0h{n:Nat}{r:Int}{es:List O0}{o:List Int}(c:inV n o)(b:inN n es):inN o.length (M8 (r,(n:Int),es) o).2.2:=by
 intro e a
 simp only[M8,Int.toNat_natCast]at a
 rcases(S8 p6 e _ _).1 a with h|h
 ·cases h
 ·exact r0r c es b e h
theorem X0m(n:Nat)(c:n<=140737488355328):∀(d k fuel:Nat),k+d=n->d<fuel ->
  U9 n fuel (k:Int) (List.replicate k (-1)++List.replicate d 0)=some (List.replicate n (-1))
 |d,k,0,a,hf=>by omega
 |0,k,fuel+1,a,hf=>by
  rw[U9.eq_2,if_neg (by simp;omega),show k=n by omega];simp
 |d+1,k,fuel+1,a,hf=>by
  have b:gi (List.replicate k (-1)++List.replicate (d+1) (0:Int)) (k:Int)=some 0:=by
   rw[h0c,List.getElem?_append_right (by simp)];simp
  have f:=X0m n c d (k+1) fuel (by omega) (by omega)
  rw[U9.eq_2,if_pos (by simp;omega),b,oB,A2 (show k<n by omega) (by omega),Int.toNat_natCast]
  have e:(List.replicate k (-1)++List.replicate (d+1) (0:Int)).set k (-1)=List.replicate (k+1) (-1)++List.replicate d 0:=by
   rw[List.set_append_right _ _ (by simp),List.length_replicate,Nat.sub_self,List.replicate_succ,List.set_cons_zero,List.replicate_succ']
   simp
  rw[e,f]
theorem Y0m(o:List Int){n:Nat}(h:inV n o)(g:o.length<=9223372036854775807):∀(d k fuel:Nat) (A:List Int),A.length=n->k+d=o.length->d<fuel ->
  T9 o fuel (k:Int) A=some (w01 A k (o.drop k))
 |d,k,0,A,a,e,hf=>by omega
 |0,k,fuel+1,A,a,e,hf=>by
  rw[T9.eq_2,if_neg (by simp;omega),J1 (by omega)];rfl
 |d+1,k,fuel+1,A,a,e,hf=>by
  have f:k<o.length:=by omega
  have b:=L5 f
  have c:=h _ (List.mem_of_getElem? b)
  generalize o[k]=v at b c
  have i:=Y0m o h g d (k+1) fuel (A.set v.toNat (k:Int)) (by simp[a]) (by omega) (by omega)
  rw[T9.eq_2,if_pos (by simp;omega),N1 b,P2 b,oB,giI a c.1 c.2,oB,A2 f g,i]
  rfl
theorem Z0m(es:List O0){n:Nat}(q:inN n es)(t:es.length<=1099511627776)(P:List Int)(g:P.length=n)(r m:Int):∀(d k fuel:Nat) (acc:List O0),k+d=es.length->d<fuel->acc.length<=k ->
  g9 es P fuel (k:Int) r m acc=some (r,m,acc++pE P (es.drop k))
 |d,k,0,acc,o,hf,j=>by omega
 |0,k,fuel+1,acc,o,hf,j=>by
  rw[g9.eq_2,if_neg (by simp;omega),J1 (by omega)];simp[pE]
 |d+1,k,fuel+1,acc,o,hf,j=>by
  have p:k<es.length:=by omega
  have f:=L5 p
  have c:=q _ (List.mem_of_getElem? f)
  generalize es[k]=e at f c
  obtain⟨a,l,b⟩:=e
  have i:=λs h=>Z0m es q t P g r m d (k+1) fuel s (by omega) (by omega) h
  rw[g9.eq_2,if_pos (by simp;omega),N1 f]
  simp only[P2 f,oB,giI g c.1.1 c.1.2,giI g c.2.1 c.2.2,A2 p (show es.length<=9223372036854775807 by omega),pE]
  by_cases c1:0<=getI P a
  ·simp only[show decide (getI P a ≥ 0)=true by simpa using c1,O1,oB,cond_true,show decide (0<=getI P a)=true by simpa using c1,Bool.true_and]
   by_cases c2:0<=getI P b
   ·rw[if_pos (by simpa using c2),H0 (by simp;omega),oB,i _ (by simp;omega)]
    simp[c2]
   ·rw[if_neg (by simpa using c2),i _ (by omega)]
    simp[c2]
  ·simp only[show decide (getI P a ≥ 0)=false by simpa using c1,Y2,oB,cond_false,show decide (0<=getI P a)=false by simpa using c1,Bool.false_and]
   rw[if_neg (by simp),i _ (by omega)]
theorem t0i(r:Int)(n:Nat)(es:List O0)(o:List Int)(d:inN n es)(e:inV n o)(g:n<=1000000)(c:es.length<=1099511627776)(f:o.length<=1099511627776):
  k02 (r,(n:Int),es) o=some (M8 (r,(n:Int),es) o):=by
 unfold k02
 have b:=X0m n (by omega) n 0 U0 (by omega) (D1 (by omega))
 have a:=Y0m o e (by omega) o.length 0 U0 (List.replicate n (-1)) (by simp) (by omega) (D1 (by omega))
 have h0:=Z0m es d c (plc n o) (W0m n o) r ((o.length:Nat):Int) es.length 0 U0 [] (by omega) (D1 (by omega)) (Nat.le_refl _)
 rw[show((0:Nat):Int)=0 from rfl]at h0 a b
 rw[List.replicate_zero,List.nil_append]at b
 rw[List.drop_zero]at a
 rw[List.drop_zero,List.nil_append]at h0
 simp only[Int.toNat_natCast]
 rw[H0 (by omega),oB,oB,List.length_replicate,H0 (by omega),oB,b,oB,a,oB]
 rw[show w01 (List.replicate n (-1)) 0 o=plc n o from rfl,h0]
 simp only[oB]
 rw[o08 _ (by have:=s0i (plc n o) es;omega),oB]
 rfl
theorem y0p(A:List Int)(i k:Nat):(A.map (·+1)).set i (((k+1:Nat):Int))=(A.set i (k:Int)).map (·+1):=by
 rw[List.map_set];rfl
theorem p0f{A:List Int}{n:Nat}(d:A.length=n){x:Int}(h0:0<=x)(c:x<n):gi (A.map (·+1)) x=some (getI A x+1):=by
 have b:x.toNat<A.length:=by omega
 have e:x=((x.toNat:Nat):Int):=by omega
 have a:gi (A.map (·+1)) ((x.toNat:Nat):Int)=some (getI A x+1):=by
  rw[h0c,List.getElem?_map,List.getElem?_eq_getElem b]
  unfold getI
  rw[List.getD_eq_getElem?_getD,List.getElem?_eq_getElem b];rfl
 rw[←e]at a;exact a
theorem q0f{n:Nat}:∀(o:List Int) (k:Nat) (A:List Int) (x:Int),A.length=n->inV n o->0<=x->x ∉ o->getI (w01 A k o) x=getI A x
 | [],k,A,x,c,a,b,h=>rfl
 |v::r,k,A,x,c,a,b,h=>by
  have f:=a v mS
  rw[w01,q0f r _ _ x (by simp[c]) (λw g=>a w (mC _ g)) b (λd=>h (mC _ d)),A04 f.1 (by omega) b,if_neg (λe=>h (by rw[e];exact mS))]
theorem z0p(r:Int)(n:Nat)(es:List O0)(o:List Int)(h:inV n o)(l:o.Nodup)(t:1<=n/\n<=1000000)(s:o.length<=1099511627776):∀(d k fuel:Nat) (A:List Int),A.length=n->(∀ x,0<=x -> -1<=getI A x/\getI A x<=1099511627776)->(∀ x∈o.drop k,getI A x = -1)->k+d=o.length->d<fuel ->
  P4 o (n:Int) r es fuel (k:Int) (A.map (·+1))=some (.inr ((w01 A k (o.drop k)).map (·+1)))
 |d,k,0,A,f,i,c,j,hf=>by omega
 |0,k,fuel+1,A,f,i,c,j,hf=>by
  rw[P4.eq_2,if_neg (by simp;omega),J1 (by omega)];rfl
 |d+1,k,fuel+1,A,f,i,c,j,hf=>by
  have m:k<o.length:=by omega
  have a:=L5 m
  have b:=h _ (List.mem_of_getElem? a)
  have g:=N1 a
  generalize o[k]=v at a b g
  have p:(o.drop k).Nodup:=l.sublist (List.drop_sublist _ _)
  rw[g]at p c
  have q:=c v mS
  have w:=z0p r n es o h l t s d (k+1) fuel (A.set v.toNat (k:Int)) (by simp[f]) (λx a=>by
   rw[A04 b.1 (by omega) a];have:=i x a;split<;>omega) (λx a=>by
   have u:=h x (List.mem_of_mem_drop a)
   rw[A04 b.1 (by omega) u.1,if_neg (λe=>(List.nodup_cons.1 p).1 (by rw[←e];exact a))]
   exact c x (mC _ a)) (by omega) (by omega)
  rw[P4.eq_2,if_pos (by simp;omega),g,P2 a]
  simp only[oB,m03,w64 (show -9223372036854775808<=(n:Int)-1 by omega) (show(n:Int)-1<=9223372036854775807 by omega),inR,show decide (0<=v)=true by simpa using b.1,show decide (v<=(n:Int)-1)=true by simp;omega,Bool.and_self,Bool.not_true,Bool.not_false,O1,p0f f b.1 b.2,q,cond_false]
  rw[if_neg (by decide),A2 m (by omega),y0p,w]
  rfl
theorem A0p(es:List O0){n:Nat}(s:inN n es)(u:es.length<=1099511627776)(P:List Int)(g:P.length=n)(i:∀ x,0<=x -> -1<=getI P x/\getI P x<=1099511627776)(r m:Int):∀(d k fuel:Nat) (acc:List O0),k+d=es.length->d<fuel->acc.length<=k ->
  d4 es (P.map (·+1)) fuel (k:Int) r m acc=some (r,m,w4 Q0 acc (pE P (es.drop k)))
 |d,k,0,acc,p,hf,o=>by omega
 |0,k,fuel+1,acc,p,hf,o=>by
  rw[d4.eq_2,if_neg (by simp;omega),J1 (by omega)];rfl
 |d+1,k,fuel+1,acc,p,hf,o=>by
  have q:k<es.length:=by omega
  have f:=L5 q
  have c:=s _ (List.mem_of_getElem? f)
  generalize es[k]=e at f c
  obtain⟨a,l,b⟩:=e
  have j:=λt h=>A0p es s u P g i r m d (k+1) fuel t (by omega) (by omega) h
  have v:=i a c.1.1
  have w:=i b c.2.1
  rw[d4.eq_2,if_pos (by simp;omega),N1 f]
  simp only[P2 f,oB,p0f g c.1.1 c.1.2,p0f g c.2.1 c.2.2,A2 q (show es.length<=9223372036854775807 by omega),pE]
  by_cases c1:0<=getI P a
  ·simp only[show decide (getI P a+1>0)=true by simp;omega,O1,oB,cond_true,show decide (0<=getI P a)=true by simpa using c1,Bool.true_and]
   by_cases c2:0<=getI P b
   ·rw[if_pos (by simp;omega),w64 (by omega) (by omega),w64 (by omega) (by omega),show getI P a+1-1=getI P a by omega,show getI P b+1-1=getI P b by omega]
    rw[M04 _ _ (by omega),oB,j _ (by have:=G06 (getI P a,l,getI P b) acc;omega)]
    simp[c2,w4]
   ·rw[if_neg (by simp;omega),j _ (by omega)]
    simp[c2]
  ·simp only[show decide (getI P a+1>0)=false by simp;omega,Y2,oB,cond_false,show decide (0<=getI P a)=false by simpa using c1,Bool.false_and]
   rw[if_neg (by simp),j _ (by omega)]
theorem h0a(r:Int)(n:Nat)(es:List O0)(o:List Int)(f:T0 (r,(n:Int),es)=true)(g:inV n o)(l:o.Nodup)(t:1<=o.length)(u:o.length<=n):
  F6 (r,(n:Int),es) o=some (M8 (r,(n:Int),es) o,true):=by
 obtain⟨h,p,q,s⟩:=N2 f
 simp only at p q s
 have m:inN n es:=λe d=>⟨(h e d).1,(h e d).2.1⟩
 have k:=r8 (r,(n:Int),es) (by simp only;omega)
 unfold F6
 have a:=z0p r n es o g l (by omega) (by omega) o.length 0 U0 (List.replicate n (-1)) (by simp) (λx b=>by rw[q08];omega) (λx b=>q08 n x) (by omega) (D1 (by omega))
 have c:=A0p es m (by omega) (plc n o) (W0m n o) (λx b=>by have:=H06 g b;omega) r ((o.length:Nat):Int) es.length 0 U0 [] (by omega) (D1 (by omega)) (Nat.le_refl _)
 rw[show((0:Nat):Int)=0 from rfl,List.drop_zero]at c a
 rw[show(List.replicate n (-1:Int)).map (·+1)=List.replicate n 0 by simp]at a
 rw[show w01 (List.replicate n (-1)) 0 o=plc n o from rfl]at a
 have i:decide (((o.length:Nat):Int)=0)=false:=decide_eq_false (by omega)
 have j:decide (((o.length:Nat):Int)>(n:Int))=false:=decide_eq_false (by omega)
 simp only[k,f,oB,Bool.not_true,cond_false,Int.toNat_natCast,i,j]
 rw[if_neg (by simp),H0 (by omega),oB,a]
 simp only[oB,a9,c]
 rfl
theorem u00:∀(n:Nat) (o:List Int),o.Nodup->inV n o->o.length<=n
 |0,[],_,_=>Nat.le_refl _
 |0,x::r,_,h=>by have:=h x mS;omega
 |n+1,o,c,h=>by
  have d:inV n (o.erase (n:Int)):=λx e=>by
   obtain⟨f,a⟩:=(List.Nodup.mem_erase_iff c).1 e
   have:=h x a;omega
  have b:=u00 n _ (c.erase _) d
  by_cases a:(n:Int)∈o
  ·rw[List.length_erase_of_mem a]at b;omega
  ·rw[List.erase_of_not_mem a]at b;omega
def Q6:Nat->Nat->List Int
 |0,_=>[]
 |d+1,i=>(i:Int) :: -(i:Int)::Q6 d (i+1)
theorem n02:∀ d i,(Q6 d i).length=2*d
 |0,i=>rfl
 |d+1,i=>by simp only[Q6,List.length_cons,n02 d];omega
theorem u0i:∀(d i:Nat),i+d<=1000->∀ x∈Q6 d i,E5 x
 |0,i,h,x,a=>nomatch a
 |d+1,i,h,x,a=>by
  simp only[Q6,List.mem_cons]at a
  rcases a with rfl|rfl|a
  ·exact⟨⟨by omega,by omega⟩,by omega⟩
  ·exact⟨⟨by omega,by omega⟩,by omega⟩
  ·exact u0i d (i+1) (by omega) x a
theorem B0p(R:Nat)(c:R<=900):∀(d i fuel:Nat) (acc:List Int),i+d=R+1->d<fuel->acc.length+2*d<=10000 ->
  T7 (R:Int) fuel (i:Int) acc=some (acc++Q6 d i)
 |d,i,0,acc,b,hf,a=>by omega
 |0,i,fuel+1,acc,b,hf,a=>by
  rw[T7.eq_2,if_neg (by simp;omega)];simp[Q6]
 |d+1,i,fuel+1,acc,b,hf,a=>by
  have e:=B0p R c d (i+1) fuel (acc ++ [(i:Int),-(i:Int)]) (by omega) (by omega) (by simp;omega)
  have f:IntKind.i64.wrap (0-(i:Int)) = -(i:Int):=by rw[w64 (by omega) (by omega)];omega
  rw[T7.eq_2,if_pos (by simp;omega),f,H0 (by simp;omega),oB,A2 (show i<1000 by omega) (by omega),e]
  simp[Q6]
theorem C0p(R:Nat)(c:R<=900):∀(d i fuel:Nat) (acc:List Int),i+d=R+1->d<fuel->acc.length+2*d<=10000 ->
  G6 (R:Int) fuel (i:Int) acc=some (acc++Q6 d i)
 |d,i,0,acc,b,hf,a=>by omega
 |0,i,fuel+1,acc,b,hf,a=>by
  rw[G6.eq_2,if_neg (by simp;omega)];simp[Q6]
 |d+1,i,fuel+1,acc,b,hf,a=>by
  have e:=C0p R c d (i+1) fuel ((acc ++ [(i:Int)]) ++ [-(i:Int)]) (by omega) (by omega) (by simp;omega)
  have f:IntKind.i64.wrap (0-(i:Int)) = -(i:Int):=by rw[w64 (by omega) (by omega)];omega
  rw[G6.eq_2,if_pos (by simp;omega),f,H0 (by simp;omega),oB,H0 (by simp;omega),oB,A2 (show i<1000 by omega) (by omega),e]
  simp[Q6]
theorem C0l(R:Nat)(a:R<=900):p9 (R:Int)=some (Q6 R 1):=by
 unfold p9
 rw[show(1:Int)=((1:Nat):Int) from rfl,B0p R a R 1 U0 [] (by omega) (D1 (by omega)) (by simp;omega)];rfl
theorem D0l(R:Nat)(a:R<=900):S7 (R:Int)=some (Q6 R 1):=by
 unfold S7
 rw[show(1:Int)=((1:Nat):Int) from rfl,C0p R a R 1 U0 [] (by omega) (D1 (by omega)) (by simp;omega)];rfl
def I07(u:List Int)(x:Int):List Int:=if 0<=x/\x ∉ u then u ++ [x]else u
def a03(g:l0)(v:Int):List Int->List Int->List Int
 | [],u=>u
 |x::r,u=>a03 g v r (I07 u (S0 g v x))
def r9(g:l0)(a:List Int):Nat->Nat->List Int->List Int
 |0,i,u=>u
 |f+1,i,u=>match u[i]? with
  |some v=>r9 g a f (i+1) (a03 g v a u)
  |none=>u
def gud(n:Nat)(u:List Int):Prop:=u.Nodup/\inV n u
theorem a0n{n:Nat}{u:List Int}{x:Int}(h:gud n u)(i:x = -1∨(0<=x/\x<(n:Int))):gud n (I07 u x):=by
 unfold I07
 split
 ·rename_i g
  refine⟨List.nodup_append.2 ⟨h.1,by simp,λa f b d=>?_⟩,λy c=>?_⟩
  ·simp at d;subst d;exact λe=>g.2 (e▸f)
  ·rcases List.mem_append.1 c with c|c
   ·exact h.2 y c
   ·simp at c;subst c;omega
 ·exact h
theorem r0f(u:List Int)(x:Int):∃ t,I07 u x=u++t:=by
 unfold I07;split
 ·exact⟨_,rfl⟩
 ·exact⟨[],by simp⟩
theorem x03(g:l0)(v:Int):∀(c u:List Int),∃ t,a03 g v c u=u++t
 | [],u=>⟨[],by simp[a03]⟩
 |x::r,u=>by
  obtain⟨d,a⟩:=r0f u (S0 g v x)
  obtain⟨e,b⟩:=x03 g v r (I07 u (S0 g v x))
  exact⟨d++e,by rw[a03,b,a,List.append_assoc]⟩
theorem R04{r:Int}{n:Nat}{es:List O0}(a:inG (r,(n:Int),es))(v:Int):∀(b u:List Int),gud n u->gud n (a03 (r,(n:Int),es) v b u)
 | [],u,h=>h
 |x::l,u,h=>R04 a v l _ (a0n h (M03 a v x))
theorem s0f{r:Int}{n:Nat}{es:List O0}(a:inG (r,(n:Int),es))(b:List Int):∀(f i:Nat) (u:List Int),gud n u->gud n (r9 (r,(n:Int),es) b f i u)
 |0,i,u,h=>h
 |f+1,i,u,h=>by
  unfold r9
  split
  ·exact s0f a b f _ _ (R04 a _ _ _ h)
  ·exact h
theorem t0f(g:l0)(a:List Int):∀(f i:Nat) (u:List Int),u.length<=(r9 g a f i u).length
 |0,i,u=>Nat.le_refl _
 |f+1,i,u=>by
  unfold r9
  split
  ·rename_i v _
   obtain⟨t,e⟩:=x03 g v a u
   have:=t0f g a f (i+1) (a03 g v a u)
   rw[e]at this ⊢;simp only[List.length_append]at this;omega
  ·exact Nat.le_refl _
theorem b0n(r:Int)(n:Nat)(es:List O0)(g:inG (r,(n:Int),es))(A:n<=40)(m:es.length<=1099511627776)(a:List Int)(p:∀ x∈a,E5 x)(z:a.length<=1000000)(i:Nat)(v:Int):∀(d k fuel:Nat) (u:List Int),gud n u->u[i]?=some v->k+d=a.length->d<fuel ->
  Q3 a (i:Int) r (n:Int) es fuel (k:Int) u=some (a03 (r,(n:Int),es) v (a.drop k) u)
 |d,k,0,u,c,b,j,hf=>by omega
 |0,k,fuel+1,u,c,b,j,hf=>by
  rw[Q3.eq_2,if_neg (by simp;omega),J1 (by omega)];rfl
 |d+1,k,fuel+1,u,c,b,j,hf=>by
  have o:k<a.length:=by omega
  have f:=L5 o
  have q:=p _ (List.mem_of_getElem? f)
  have l:=N1 f
  generalize a[k]=x at f q l
  have D:=u00 n u c.1 c.2
  have B:S0 (r,(n:Int),es) v x = -1∨(0<=S0 (r,(n:Int),es) v x/\S0 (r,(n:Int),es) v x<(n:Int)):=M03 g v x
  have s:=a0n c B
  have w:(I07 u (S0 (r,(n:Int),es) v x))[i]?=some v:=by
   obtain⟨t,e⟩:=r0f u (S0 (r,(n:Int),es) v x)
   rw[e,List.getElem?_append_left (List.getElem?_eq_some_iff.1 b).1];exact b
  have C:=b0n r n es g A m a p z i v d (k+1) fuel _ s w (by omega) (by omega)
  rw[Q3.eq_2,if_pos (by simp;omega),l]
  simp only[P2 b,P2 f,oB,l02 (r,(n:Int),es) v x q m,H0 (C00 g (show(n:Int)<=40 by omega) v x),A2 o (show a.length<=9223372036854775807 by omega),a03]
  rw[←C]
  generalize S0 (r,(n:Int),es) v x=y at *
  unfold I07
  by_cases c1:0<=y
  ·simp only[show decide (y ≥ 0)=true by simpa using c1,O1,a09 u y (by omega),oB,cond_true]
   by_cases c2:y∈u
   ·rw[if_neg (by simp[c2]),if_neg (by simp[c2])]
   ·rw[if_pos (by simp[c2]),if_pos ⟨c1,c2⟩,H0 (by simp;omega),oB]
  ·simp only[show decide (y ≥ 0)=false by simpa using c1,Y2,oB,cond_false]
   rw[if_neg (by simp),if_neg (λh=>c1 h.1)]
theorem c0n(r:Int)(n:Nat)(es:List O0)(d:inG (r,(n:Int),es))(m:n<=40)(h:es.length<=1099511627776)(a:List Int)(l:∀ x∈a,E5 x)(k:a.length<=1000000):∀(f i fuel:Nat) (u:List Int),gud n u->i<=u.length->n+1<=i+f->f<fuel ->
  D5 a r (n:Int) es fuel (i:Int) u=some (r9 (r,(n:Int),es) a f i u)
 |f,i,0,u,b,j,g,hf=>by omega
 |0,i,fuel+1,u,b,j,g,hf=>by have:=u00 n u b.1 b.2;omega
 |f+1,i,fuel+1,u,b,j,g,hf=>by
  have p:=u00 n u b.1 b.2
  rw[D5.eq_2,oB,H0 (by omega),oB]
  by_cases hk:i<u.length
  ·have c:=L5 hk
   generalize u[i]=v at c
   have h0:=b0n r n es d m h a l k i v a.length 0 U0 u b c (by omega) (D1 (by omega))
   rw[show((0:Nat):Int)=0 from rfl,List.drop_zero]at h0
   obtain⟨t,e⟩:=x03 (r,(n:Int),es) v a u
   have o:=c0n r n es d m h a l k f (i+1) fuel _ (R04 d v a u b) (by rw[e,List.length_append];omega) (by omega) (by omega)
   rw[if_pos (by simpa using hk),h0,oB,A2 hk (by omega),o]
   simp only[r9,c]
  ·have c:u[i]?=none:=List.getElem?_eq_none (by omega)
   rw[if_neg (by simpa using hk)]
   simp only[r9,c]
def r6(g:l0):List Int:=r9 g (Q6 g.1.toNat 1) (g.2.1.toNat+1) 0 [0]
theorem b09{g:l0}(hf:K0 g=true):gud g.2.1.toNat (r6 g)/\1<=(r6 g).length:=by
 obtain⟨b,c,d,e⟩:=C1 hf
 obtain⟨r,n,es⟩:=g
 simp only at c d e
 obtain⟨N,rfl⟩:∃ N:Nat,n=(N:Int):=⟨n.toNat,by omega⟩
 refine⟨?_,?_⟩
 ·exact s0f b _ _ _ _ ⟨by simp,λx a=>by simp at a;subst a;show(0:Int)<=0/\(0:Int)<(((N:Int).toNat:Nat):Int);omega⟩
 ·exact t0f _ _ _ _ [0]
theorem T0j(g:l0)(hf:K0 g=true):N8 g=some (r6 g):=by
 obtain⟨b,c,d,e⟩:=C1 hf
 have f:=H6 g (by omega)
 obtain⟨r,n,es⟩:=g
 simp only at c d e
 obtain⟨N,rfl⟩:∃ N:Nat,n=(N:Int):=⟨n.toNat,by omega⟩
 obtain⟨R,rfl⟩:∃ R:Nat,r=(R:Int):=⟨r.toNat,by omega⟩
 unfold N8
 have h0:=c0n (R:Int) N es b (by omega) (by omega) (Q6 R 1) (u0i R 1 (by omega)) (by rw[n02];omega) (N+1) 0 U0 [0] ⟨by simp,λx a=>by simp at a;subst a;omega⟩ (by simp) (by omega) (D1 (by omega))
 simp only[f,hf,oB,Bool.not_true,D0l R (by omega)]
 rw[show((0:Nat):Int)=0 from rfl]at h0
 rw[if_neg (by simp),h0]
 rfl
theorem d0n{a:List Int}(la:a.length<=1099511627776):J7 a=some a:=by
 unfold J7
 rw[H0 (by simp;omega)];rfl
def P8(W:List (Option (List Int)))(x:Int):Option (List Int):=W.getD x.toNat none
theorem giO{a:List (Option (List Int))}{n:Nat}(f:a.length=n){x:Int}(h0:0<=x)(d:x<n):gi a x=some (P8 a x):=by
 have c:x.toNat<a.length:=by omega
 have e:x=((x.toNat:Nat):Int):=by omega
 have b:gi a ((x.toNat:Nat):Int)=some (P8 a x):=by
  rw[h0c,List.getElem?_eq_getElem c]
  unfold P8
  rw[List.getD_eq_getElem?_getD,List.getElem?_eq_getElem c];rfl
 rw[←e]at b;exact b
theorem Y00{A:List (Option (List Int))}{v x:Int}{y:Option (List Int)}(h0:0<=v)(a:v.toNat<A.length)(b:0<=x):P8 (A.set v.toNat y) x=if x=v then y else P8 A x:=by
 unfold P8
 rw[List.getD_eq_getElem?_getD,List.getD_eq_getElem?_getD,List.getElem?_set]
 by_cases c:x=v
 ·rw[if_pos c,if_pos (by rw[c]),if_pos a];rfl
 ·rw[if_neg c,if_neg (by omega)]
structure WOk (n:Nat) (W:List (Option (List Int))) (u:List Int):Prop where
 len:W.length=n
 iff:∀ x,0<=x->x<(n:Int)->((P8 W x).isNone=true↔x ∉ u)
 short:∀ x,((P8 W x).getD []).length<=u.length
theorem e0n(r:Int)(n:Nat)(es:List O0)(m:inG (r,(n:Int),es))(G:n<=40)(t:es.length<=1099511627776)(f:List Int)(A:∀ x∈f,E5 x)(F:f.length<=1000000)(v:Int)(o:0<=v/\v<(n:Int)):∀(d k fuel:Nat) (b:List (Option (List Int))) (u:List Int),gud n u->WOk n b u->k+d=f.length->d<fuel ->
  ∃ j,J3 f r (n:Int) es v fuel (k:Int) b u=some (j,a03 (r,(n:Int),es) v (f.drop k) u)/\WOk n j (a03 (r,(n:Int),es) v (f.drop k) u)
 |d,k,0,b,u,i,a,q,hf=>by omega
 |0,k,fuel+1,b,u,i,a,q,hf=>by
  rw[J3.eq_2,if_neg (by simp;omega),J1 (by omega)];exact⟨b,rfl,a⟩
 |d+1,k,fuel+1,b,u,i,a,q,hf=>by
  have w:k<f.length:=by omega
  have l:=L5 w
  have C:=A _ (List.mem_of_getElem? l)
  have s:=N1 l
  generalize f[k]=x at l C s
  have J:=u00 n u i.1 i.2
  have H:S0 (r,(n:Int),es) v x = -1∨(0<=S0 (r,(n:Int),es) v x/\S0 (r,(n:Int),es) v x<(n:Int)):=M03 m v x
  have E:=a0n i H
  have g:=λj h=>e0n r n es m G t f A F v o d (k+1) fuel j _ E h (by omega) (by omega)
  rw[J3.eq_2,if_pos (by simp;omega),s]
  simp only[P2 l,oB,m02 (r,(n:Int),es) v x C t,H0 (C00 m (show(n:Int)<=40 by omega) v x),A2 w (show f.length<=9223372036854775807 by omega),a03]
  generalize S0 (r,(n:Int),es) v x=y at *
  by_cases c1:0<=y
  ·have p:y<(n:Int):=by omega
   simp only[show decide (y ≥ 0)=true by simpa using c1,O1,giO a.len c1 p,oB,cond_true]
   by_cases c2:y∈u
   ·have : ¬ ((P8 b y).isNone=true):=λh=>(a.iff y c1 p).1 h c2
    have e:I07 u y=u:=if_neg λh=>h.2 c2
    rw[if_neg this]
    rw[e]at g ⊢
    exact g b a
   ·have:(P8 b y).isNone=true:=(a.iff y c1 p).2 c2
    have e:I07 u y=u ++ [y]:=if_pos ⟨c1,c2⟩
    have B:=a.short v
    rw[if_pos this,giO a.len o.1 o.2,oB,d0n (by omega),oB,H0 (by simp;omega),oB,H0 (by simp;omega),oB]
    rw[e]at g ⊢
    refine g _ ⟨by simp[a.len],λz h0 D=>?_,λz=>?_⟩
    ·rw[Y00 c1 (by have:=a.len;omega) h0]
     by_cases c:z=y
     ·rw[if_pos c];simp[c]
     ·rw[if_neg c,a.iff z h0 D];simp[c]
    ·by_cases hz:0<=z
     ·rw[Y00 c1 (by have:=a.len;omega) hz]
      by_cases c:z=y
      ·rw[if_pos c];simp;exact B
      ·rw[if_neg c];have:=a.short z;simp only[List.length_append];omega
     ·have I:P8 (b.set y.toNat (some ((P8 b v).getD [] ++ [x]))) z=P8 (b.set y.toNat (some ((P8 b v).getD [] ++ [x]))) 0:=by
       unfold P8;rw[show z.toNat=(0:Int).toNat by omega]
      rw[I,Y00 c1 (by have:=a.len;omega) (iR 0)]
      by_cases c:(0:Int)=y
      ·rw[if_pos c];simp;exact B
      ·rw[if_neg c];have:=a.short 0;simp only[List.length_append];omega
  ·have e:I07 u y=u:=if_neg λh=>c1 h.1
   simp only[show decide (y ≥ 0)=false by simpa using c1,Y2,oB,cond_false]
   rw[if_neg (by simp)]
   rw[e]at g ⊢
   exact g b a
theorem f0n(R n:Nat)(h:R<=900)(es:List O0)(d:inG ((R:Int),(n:Int),es))(m:n<=40)(k:es.length<=1099511627776):∀(f i fuel:Nat) (b:List (Option (List Int))) (u:List Int),gud n u->WOk n b u->i<=u.length->n+1<=i+f->f<fuel ->
  ∃ q,w5 (R:Int) (n:Int) es fuel (i:Int) b u=some (q,r9 ((R:Int),(n:Int),es) (Q6 R 1) f i u)
 |f,i,0,b,u,a,g,l,j,hf=>by omega
 |0,i,fuel+1,b,u,a,g,l,j,hf=>by have:=u00 n u a.1 a.2;omega
 |f+1,i,fuel+1,b,u,a,g,l,j,hf=>by
  have y:=u00 n u a.1 a.2
  rw[w5.eq_2,oB,H0 (by omega),oB]
  by_cases hk:i<u.length
  ·have c:=L5 hk
   have o:=a.2 _ (List.mem_of_getElem? c)
   generalize u[i]=v at c o
   obtain⟨s,h0,p⟩:=e0n (R:Int) n es d m k (Q6 R 1) (u0i R 1 (by omega)) (by rw[n02];omega) v o (Q6 R 1).length 0 U0 b u a g (by omega) (D1 (by rw[n02];omega))
   rw[show((0:Nat):Int)=0 from rfl,List.drop_zero]at h0
   rw[List.drop_zero]at p
   obtain⟨t,e⟩:=x03 ((R:Int),(n:Int),es) v (Q6 R 1) u
   obtain⟨x,w⟩:=f0n R n h es d m k f (i+1) fuel s _ (R04 d v _ u a) p (by rw[e,List.length_append];omega) (by omega) (by omega)
   rw[if_pos (by simpa using hk),P2 c,oB,C0l R h,oB,h0,oB]
   simp only[A2 hk (show u.length<=9223372036854775807 by omega),w,r9,c]
   exact⟨_,rfl⟩
  ·have c:u[i]?=none:=List.getElem?_eq_none (by omega)
   rw[if_neg (by simpa using hk)]
   simp only[r9,c]
   exact⟨_,rfl⟩
theorem U0j(g:l0)(hf:K0 g=true):O8 g=some (r6 g):=by
 obtain⟨a,e,f,h⟩:=C1 hf
 have i:=A8 g (by omega)
 obtain⟨r,n,es⟩:=g
 simp only at e f h
 obtain⟨N,rfl⟩:∃ N:Nat,n=(N:Int):=⟨n.toNat,by omega⟩
 obtain⟨R,rfl⟩:∃ R:Nat,r=(R:Int):=⟨r.toNat,by omega⟩
 unfold O8
 have b:∀ x,P8 (List.replicate N (none:Option (List Int))) x=none:=λx=>by
  unfold P8
  rw[List.getD_eq_getElem?_getD,List.getElem?_replicate];split<;>rfl
 have j:WOk N ((List.replicate N (none:Option (List Int))).set (0:Int).toNat (some [])) [0]:=by
  refine⟨by simp,λx h0 a=>?_,λx=>?_⟩
  ·rw[Y00 (iR 0) (by simp;omega) h0]
   by_cases c:x=0
   ·rw[if_pos c];simp[c]
   ·rw[if_neg c,b];simp[c]
  ·by_cases hz:0<=x
   ·rw[Y00 (iR 0) (by simp;omega) hz]
    split
    ·simp
    ·rw[b];simp
   ·have:P8 ((List.replicate N (none:Option (List Int))).set (0:Int).toNat (some [])) x=P8 ((List.replicate N (none:Option (List Int))).set (0:Int).toNat (some [])) 0:=by
     unfold P8;rw[show x.toNat=(0:Int).toNat by omega]
    rw[this,Y00 (iR 0) (by simp;omega) (iR 0),if_pos rfl];simp
 obtain⟨l,h0⟩:=f0n R N (by omega) es a (by omega) (by omega) (N+1) 0 U0 _ [0] ⟨by simp,λx d=>by simp at d;subst d;omega⟩ j (by simp) (by omega) (D1 (by omega))
 have k:gi (List.replicate N (none:Option (List Int))) 0=some none:=by
  rw[n0i (x:=none)];rw[List.getElem?_replicate,if_pos (by omega)]
 simp only[i,hf,oB,Bool.not_true,B8,Int.toNat_natCast]
 rw[if_neg (by simp),H0 (by omega),oB,k,oB]
 rw[show((0:Nat):Int)=0 from rfl]at h0
 rw[h0]
 rfl
def L3(g:l0):l0:=M8 g (r6 g)
theorem r08(g:l0)(hf:K0 g=true):C7 g=some (L3 g):=by
 obtain⟨b,d,f,h⟩:=C1 hf
 have i:=A8 g (by omega)
 have j:=U0j g hf
 obtain⟨a,m⟩:=b09 hf
 have k:=u00 _ _ a.1 a.2
 obtain⟨r,n,es⟩:=g
 simp only at d f h
 obtain⟨N,rfl⟩:∃ N:Nat,n=(N:Int):=⟨n.toNat,by omega⟩
 simp only[Int.toNat_natCast]at a k
 have l:=t0i r N es (r6 (r,(N:Int),es)) (λe c=>⟨(b e c).1,(b e c).2.1⟩) a.2 (by omega) (by omega) (by omega)
 unfold C7
 simp only[i,hf,oB,Bool.not_true,j,l]
 rfl
theorem s08(g:l0)(hf:K0 g=true):B7 g=some (L3 g):=by
 obtain⟨l,d,e,f⟩:=C1 hf
 have i:T0 g=true:=by
  unfold K0 at hf;exact(Bool.and_eq_true _ _▸hf).1
 have j:=T0j g hf
 obtain⟨a,b⟩:=b09 hf
 have c:=u00 _ _ a.1 a.2
 obtain⟨r,n,es⟩:=g
 simp only at d e f
 obtain⟨N,rfl⟩:∃ N:Nat,n=(N:Int):=⟨n.toNat,by omega⟩
 simp only[Int.toNat_natCast]at a c
 have k:=h0a r N es (r6 (r,(N:Int),es)) i a.2 a.1 b c
 unfold B7
 simp only[oB,j,k]
 rw[if_neg (by simp;intro h;rw[h]at b;simp at b)]
 rfl
def lf(a:Nat->Bool):Nat->Nat->Option Nat
 |0,v=>none
 |d+1,v=>bif a v then some v else lf a d (v+1)
theorem t08{a:Nat->Bool}:∀(d v k:Nat),lf a d v=some k->v<=k/\k<v+d
 |0,v,k,h=>by cases h
 |d+1,v,k,h=>by
  unfold lf at h
  cases hb:a v
  ·rw[hb]at h;have:=t08 d (v+1) k h;omega
  ·rw[hb]at h;cases h;omega
theorem u0f{a b:Nat->Bool}:∀(d v:Nat),(∀ k,v<=k->k<v+d->a k=b k)->lf a d v=lf b d v
 |0,v,h=>rfl
 |d+1,v,h=>by unfold lf;rw[h v (Nat.le_refl _) (by omega),u0f d (v+1) λk c e=>h k (by omega) (by omega)]
def c0o(es:List O0):List Int:=itS es (es.length+1) [0]
def p0c(es:List O0)(v:Nat):Bool:=decide (N03 (v:Int) es<2) || !decide ((v:Int)∈c0o es)
def Q9(g:l0):Option Nat:=lf (p0c g.2.2) (g.2.1.toNat-1) 1
theorem E0l(g:l0)(b:T0 g=true):j00 g 0=some (c0o g.2.2)/\(c0o g.2.2).length<=100000:=by
 obtain⟨i,d,e,a⟩:=N2 b
 have h:=r8 g (by omega)
 obtain⟨r,n,es⟩:=g
 simp only at d e a
 unfold j00 c0o
 have c:=n0f es a (es.length+1) 0 U0 [0] (by omega) (D1 (by omega)) (by simp)
 have f:=T0m es (es.length+1) [0]
 refine⟨?_,?_⟩
 ·rw[show((0:Nat):Int)=0 from rfl]at c
  simp only[h,b,oB,Bool.not_true,Bool.not_false,O1,m03,inR,w64 (show -9223372036854775808<=n-1 by omega) (show n-1<=9223372036854775807 by omega)]
  rw[if_neg (by simp;omega),c];rfl
 ·have:(es.length+1)*(2*es.length)<=121*240:=Nat.mul_le_mul (by omega) (by omega)
  simp only[List.length_singleton]at f
  simp only
  omega
theorem D0p(r:Int)(n:Nat)(es:List O0)(e:es.length<=1000)(u:List Int)(g:u.length<=100000)(f:n<=40):∀(d v fuel:Nat),v+d=n∨(d=0/\n<=v)->v<=1000->d<fuel ->
  K8 (n:Int) r es u fuel (v:Int)=some (match lf (λv=>decide (N03 (v:Int) es<2) || !decide ((v:Int)∈u)) d v with|some k => .inl (k:Int)|none => .inr ())
 |d,v,0,b,c,hf=>by omega
 |0,v,fuel+1,b,c,hf=>by
  rw[K8.eq_2,if_neg (by simp;omega)];rfl
 |d+1,v,fuel+1,b,c,hf=>by
  have h:=D0p r n es e u g f d (v+1) fuel (by omega) (by omega) (by omega)
  have i:=q0i (v:Int) es
  rw[K8.eq_2,if_pos (by simp;omega),W0g (r,(n:Int),es) _ (by simp only;omega),oB,H0 (c64 (by simp only;omega) (by simp only;omega)),oB,A2 (show v<10000 by omega) (by omega)]
  unfold lf
  by_cases c1:N03 (v:Int) es<2
  ·have a:decide (((N03 (v:Int) es:Nat):Int)<2)=true:=decide_eq_true (by omega)
   simp only[a,Bool.not_true,Y2,oB,cond_true,if_true,decide_eq_true c1,Bool.true_or]
  ·have a:decide (((N03 (v:Int) es:Nat):Int)<2)=false:=decide_eq_false (by omega)
   simp only[a,Bool.not_false,O1,a09 u _ (show u.length<=9223372036854775807 by omega),oB,cond_false,decide_eq_false c1,Bool.false_or]
   by_cases c2:(v:Int)∈u
   ·simp only[decide_eq_true c2,Bool.not_true,Bool.false_eq_true,if_false,cond_false];exact h
   ·simp only[decide_eq_false c2,Bool.not_false,if_true,cond_true]
theorem E0p(g:l0)(c:T0 g=true):O01 g=some (match Q9 g with|some k=>(k:Int)|none => -1):=by
 obtain⟨a,b⟩:=E0l g c
 obtain⟨i,d,e,f⟩:=N2 c
 obtain⟨r,n,es⟩:=g
 simp only at d e f a b
 obtain⟨N,rfl⟩:∃ N:Nat,n=(N:Int):=⟨n.toNat,by omega⟩
 unfold O01 Q9
 have h:=D0p r N es (by omega) (c0o es) b (by omega) (N-1) 1 U0 (by omega) (by omega) (D1 (by omega))
 simp only[a,oB,Int.toNat_natCast]
 rw[show(1:Int)=((1:Nat):Int) from rfl,h]
 rw[show(λv:Nat=>decide (N03 (v:Int) es<2) || !decide ((v:Int)∈c0o es))=p0c es from rfl]
 cases lf (p0c es) (N-1) 1<;>rfl
theorem v0i(r:Int)(n:Nat)(es:List O0)(o:es.length<=1000)(a:List Bool)(g:a.length=n)(p:n<=40):∀(d v fuel:Nat),1<=v->v+d=n∨(d=0/\n<=v)->v<=1000->d+1<fuel ->
  E4 (n:Int) r es a fuel 0 (v:Int)=some (match lf (λv=>decide (N03 (v:Int) es<2) || !W9 a (v:Int)) d v with|some k=>(k:Int)|none=>0)
 |d,v,0,f,h,j,hf=>by omega
 |0,v,fuel+1,f,h,j,hf=>by
  have e:decide ((v:Int)<(n:Int))=false:=decide_eq_false (by omega)
  rw[E4.eq_2,if_neg (by rw[e];simp)];rfl
 |d+1,v,fuel+1,f,h,j,hf=>by
  have q:=v0i r n es o a g p d (v+1) fuel (by omega) (by omega) (by omega) (by omega)
  have s:=q0i (v:Int) es
  have e:decide ((v:Int)<(n:Int))=true:=decide_eq_true (by omega)
  have i:∀ w:Int,E4 (n:Int) r es a fuel (v:Int) w=some (v:Int):=λw=>by
   obtain _|fuel:=fuel
   ·omega
   ·have l:decide ((v:Int)=0)=false:=decide_eq_false (by omega)
    have m:∀ b:Bool,(bif b then false else false)=false:=λb=>by cases b<;>rfl
    rw[E4.eq_2,if_neg (by rw[l,m];simp)]
  rw[E4.eq_2,if_pos (by rw[e];rfl),b0o (r,(n:Int),es) _ (by simp only;omega),oB,H0 (c64 (by simp only;omega) (by simp only;omega)),oB,A2 (show v<10000 by omega) (by omega)]
  unfold lf
  by_cases c1:N03 (v:Int) es<2
  ·have c:decide (((N03 (v:Int) es:Nat):Int)<2)=true:=decide_eq_true (by omega)
   simp only[c,Bool.not_true,Y2,oB,cond_true,if_true,decide_eq_true c1,Bool.true_or,i]
  ·have c:decide (((N03 (v:Int) es:Nat):Int)<2)=false:=decide_eq_false (by omega)
   simp only[c,Bool.not_false,O1,giB g (show(0:Int)<=(v:Int) by omega) (show(v:Int)<(n:Int) by omega),oB,cond_false,decide_eq_false c1,Bool.false_or]
   cases hb:W9 a (v:Int)
   ·simp only[Bool.not_false,if_true,cond_true,i]
   ·simp only[Bool.not_true,Bool.false_eq_true,if_false,cond_false];exact q
def wo(g:Nat):Nat->Nat->List Int
 |0,k=>[]
 |d+1,k=>if k=g then wo g d (k+1)else(k:Int)::wo g d (k+1)
theorem v0f(g:Nat):∀(d k:Nat),(wo g d k).length=d-(if k<=g/\g<k+d then 1 else 0)
 |0,k=>by simp[wo]
 |d+1,k=>by
  have a:=v0f g d (k+1)
  unfold wo
  by_cases c:k=g
  ·rw[if_pos c,a,if_neg (by omega),if_pos (by omega)];omega
  ·rw[if_neg c,List.length_cons,a]
   by_cases c2:k+1<=g/\g<k+1+d
   ·rw[if_pos c2,if_pos (by omega)];omega
   ·rw[if_neg c2,if_neg (by omega)];omega
theorem V0j(g n:Nat):∀(d k:Nat),k+d<=n->inV n (wo g d k)
 |0,k,h=>λx a=>nomatch a
 |d+1,k,h=>by
  have b:=V0j g n d (k+1) (by omega)
  unfold wo
  split
  ·exact b
  ·intro x a
   rcases List.mem_cons.1 a with rfl|a
   ·omega
   ·exact b x a
theorem w0i(n g:Nat)(j:n<=1000):∀(d k fuel:Nat) (acc:List Int),k+d=n->d<fuel->acc.length<=k ->
  M5 (n:Int) (g:Int) fuel (k:Int) acc=some (acc++wo g d k)
 |d,k,0,acc,b,hf,a=>by omega
 |0,k,fuel+1,acc,b,hf,a=>by
  rw[M5.eq_2,if_neg (by simp;omega)];simp[wo]
 |d+1,k,fuel+1,acc,b,hf,a=>by
  have f:=λi h=>w0i n g j d (k+1) fuel i (by omega) (by omega) h
  rw[M5.eq_2,if_pos (by simp;omega),A2 (show k<10000 by omega) (by omega)]
  unfold wo
  by_cases c:k=g
  ·have e:decide ((k:Int)=(g:Int))=true:=decide_eq_true (by omega)
   rw[e,if_neg (by simp),if_pos c,f _ (by omega)]
  ·have e:decide ((k:Int)=(g:Int))=false:=decide_eq_false (by omega)
   rw[e,if_pos (show(!false)=true from rfl),if_neg c,H0 (by simp;omega),oB,f _ (by simp;omega)]
   simp
theorem x0i(n:Nat)(f:n<=1000):∀(d k fuel:Nat) (acc:List Int),k+d=n->d<fuel->acc.length=k ->
  ∃ u,I6 (n:Int) fuel (k:Int) acc=some u/\u.length=n
 |d,k,0,acc,b,hf,a=>by omega
 |0,k,fuel+1,acc,b,hf,a=>by
  rw[I6.eq_2,if_neg (by simp;omega)];exact⟨_,rfl,by omega⟩
 |d+1,k,fuel+1,acc,b,hf,a=>by
  obtain⟨u,c,e⟩:=x0i n f d (k+1) fuel (acc ++ [(k:Int)]) (by omega) (by omega) (by simp;omega)
  rw[I6.eq_2,if_pos (by simp;omega),A2 (show k<10000 by omega) (by omega),H0 (by simp;omega),oB,c]
  exact⟨u,rfl,e⟩
theorem l0b{a:Type}{xs:List a}{k:Nat}(h:k<=xs.length):y05 xs 0 (k:Int)=some (xs.take k):=by
 unfold y05
 rw[if_pos (by omega)];rfl
theorem g0n:∀(n fuel:Nat) (left:List Int) (r:Int) (es:List O0),1<=n->n<=40->inN n es->es.length<=120->left.length=n->n<fuel ->
  ∃(a:l0) (e:List Int),N5 fuel left r (n:Int) es=some (.inl (a,e))/\a.2.1<=(n:Int)/\(a.2.1=(n:Int)↔lf (p0c es) (n-1) 1=none)
 |n,0,left,r,es,f,g,b,u,w,hf=>by omega
 |n,fuel+1,left,r,es,f,g,b,u,w,hf=>by
  obtain⟨c,q,A,s⟩:=Q0j r n es b (by omega) f (by omega)
  have o:=v0i r n es (by omega) c A g (n-1) 1 U0 (Nat.le_refl _) (by omega) (by omega) (D1 (by omega))
  have t:lf (λv=>decide (N03 (v:Int) es<2) || !W9 c (v:Int)) (n-1) 1=lf (p0c es) (n-1) 1:=u0f _ _ λk D E=>by
   unfold p0c
   have:=s (k:Int) (by omega) (by omega)
   have i:=j0b es 0 (k:Int)
   congr 2
   cases hb:W9 c (k:Int)
   ·symm;exact decide_eq_false λh=>by rw[this.2 (i.1 h)]at hb;cases hb
   ·symm;exact decide_eq_true (i.2 (this.1 hb))
  rw[t]at o
  rw[N5.eq_2,q,oB,show(1:Int)=((1:Nat):Int) from rfl,o,oB]
  cases hlf:lf (p0c es) (n-1) 1 with
  |none =>
   exact⟨(r,(n:Int),es),left,by rw[if_pos (by rfl)],iR _,by simp⟩
  |some k =>
   have C:=t08 _ _ _ hlf
   have p:decide ((k:Int)=0)=false:=decide_eq_false (by omega)
   have j:=V0j k n n 0 (by omega)
   have d:=v0f k n 0
   rw[if_pos (by omega)]at d
   have m:=w0i n k (by omega) n 0 U0 [] (by omega) (D1 (by omega)) (Nat.le_refl _)
   rw[show((0:Nat):Int)=0 from rfl,List.nil_append]at m
   have x:=t0i r n es (wo k n 0) b j (by omega) (by omega) (by omega)
   have y:=g0a (r,(n:Int),es) (wo k n 0)
   have l:=e0h (r:=r) j b
   have z:IntKind.i64.wrap ((k:Int)+((1:Nat):Int))=((k+1:Nat):Int):=by rw[w64 (by omega) (by omega)];rfl
   obtain⟨a,e,B,F,G⟩:=g0n (n-1) fuel (left.take k++left.drop (k+1)) r (M8 (r,(n:Int),es) (wo k n 0)).2.2 (by omega) (by omega) (by rw[d]at l;exact l) (by simp only at y;omega) (by simp only[List.length_append,List.length_take,List.length_drop];omega) (by omega)
   refine⟨a,e,?_,by omega,?_⟩
   ·simp only[p,Bool.false_eq_true,if_false,m,oB,x]
    rw[show M8 (r,(n:Int),es) (wo k n 0)=(r,((n-1:Nat):Int),(M8 (r,(n:Int),es) (wo k n 0)).2.2) by rw[←d];rfl]
    simp only[z]
    rw[l0b (by omega),oB,v01 (by omega),oB,H0 (by simp only[List.length_take,List.length_drop];omega),oB,B]
   ·constructor
    ·intro h;omega
    ·intro h;cases h
theorem F0l(g:l0)(i:T0 g=true):∃(a:l0) (b:List Int),U7 g=some (a,b)/\(a.2.1=g.2.1↔Q9 g=none):=by
 obtain⟨d,k,l,f⟩:=N2 i
 have p:=O00 g (by omega)
 have m:=l00 g (by omega)
 obtain⟨r,n,es⟩:=g
 simp only at k l f
 obtain⟨N,rfl⟩:∃ N:Nat,n=(N:Int):=⟨n.toNat,by omega⟩
 have o:inN N es:=λe h=>⟨(d e h).1,(d e h).2.1⟩
 obtain⟨u,c,j⟩:=x0i N (by omega) N 0 U0 [] (by omega) (D1 (by omega)) rfl
 obtain⟨a,b,q,t,s⟩:=g0n N U0 u r es (by omega) (by omega) o f j (D1 (by omega))
 refine⟨a,b,?_,?_⟩
 ·unfold U7
  rw[show((0:Nat):Int)=0 from rfl]at c
  simp only[m,oB,p,i,Bool.not_true,Bool.false_eq_true,if_false,c,q,a9]
 ·simp only[Q9,Int.toNat_natCast];exact s
def O2(g:l0):Bool:=K0 g&&((Q9 g).isNone&&F06 (L3 g) g)
theorem E2{g:l0}(h:K0 g=true):T0 g=true:=by
 unfold K0 at h;exact(Bool.and_eq_true _ _▸h).1
theorem f0h{g:l0}(hf:K0 g=true):(L3 g).2.2.length<=120:=by
 have:=g0a g (r6 g)
 have:=(C1 hf).2.2.2
 unfold L3;omega
theorem H02(g:l0)(j:g.2.2.length<=140737488355328):G7 g=some (O2 g):=by
 have b:=A8 g j
 unfold O2
 by_cases hf:K0 g=true
 ·obtain⟨e,t,d,a⟩:=F0l g (E2 hf)
  have f:=r08 g hf
  have h:=X0g (L3 g) g (by have:=f0h hf;omega)
  obtain⟨r,n,es⟩:=g
  obtain⟨u,m,s⟩:=e
  unfold G7
  simp only at a
  generalize L3 (r,n,es)=C at *
  obtain⟨o,p,q⟩:=C
  simp only[b,hf,oB,Bool.not_true,Bool.false_eq_true,if_false,d,f]
  by_cases c:m=n
  ·have:=a.1 c
   simp only[decide_eq_true c,O1,oB,h,cond_true,this,Option.isNone_none,Bool.true_and]
  ·have l:(Q9 (r,n,es)).isNone=false:=by
    cases hq:Q9 (r,n,es)with
    |none=>exact absurd (a.2 hq) c
    |some k=>rfl
   simp only[decide_eq_false c,Y2,oB,cond_false,l,Bool.false_and,Bool.and_false]
 ·have i:K0 g=false:=Bool.eq_false_iff.2 hf
  obtain⟨r,n,es⟩:=g
  unfold G7
  simp only[b,i,oB,Bool.not_false,if_true,Bool.false_and]
theorem n07(g:l0)(j:g.2.2.length<=140737488355328):M00 g=some (O2 g):=by
 have a:=H6 g j
 unfold O2
 by_cases hf:K0 g=true
 ·have f:=E0p g (E2 hf)
  have d:=s08 g hf
  have e:=Z0g (L3 g) g (by have:=f0h hf;omega)
  obtain⟨p,q,c,s⟩:=C1 hf
  obtain⟨r,n,es⟩:=g
  unfold M00
  generalize L3 (r,n,es)=C at *
  obtain⟨l,m,o⟩:=C
  simp only[a,hf,oB,O1,f,cond_true]
  cases hq:Q9 (r,n,es)with
  |none =>
   simp only[H0 (show I0 (-1) by decide),oB,show decide ((-1:Int)<0)=true from rfl,O1,d,e,cond_true,Option.isNone_none,Bool.true_and]
  |some k =>
   have i:=t08 _ _ _ hq
   simp only at c
   simp only at i
   have b:decide ((k:Int)<0)=false:=decide_eq_false (by omega)
   simp only[H0 (show I0 (k:Int) from c64 (by omega) (by omega)),oB,b,Y2,cond_false,Option.isNone_some,Bool.false_and,Bool.and_false]
 ·have h:K0 g=false:=Bool.eq_false_iff.2 hf
  obtain⟨r,n,es⟩:=g
  unfold M00
  simp only[a,h,oB,Y2,H0 (show I0 0 by decide),cond_false,Bool.false_and]
def d0s(l:U0d):Prop:=l.length<=140737488355328/\∀ e∈l,e.1.size<=140737488355328/\e.2.2.2.length<=140737488355328
def F0p(l:U0d):Prop:=l.length<=1048576/\∀ e∈l,e.1.size<=1048576/\e.2.2.2.length<=1048576
theorem F0p.ok{l:U0d}(h:F0p l):d0s l:=⟨by have:=h.1;omega,λe a=>by have:=h.2 e a;omega⟩
theorem W0j{e:Type}{c:e->e->Int}(h:t00 c):∀ {l:List e},(∀ i x y,l[i]?=some x->l[i+1]?=some y->c x y<0)->Asc c l
 | [],_=>List.Pairwise.nil
 | [x],_=>List.pairwise_singleton _ _
 |x::y::l,f=>by
  have j:Asc c (y::l):=W0j h λi a b k m=>f (i+1) a b (by simpa using k) (by simpa using m)
  have g:=f 0 x y rfl rfl
  refine List.pairwise_cons.2 ⟨λz d=>?_,j⟩
  rcases List.mem_cons.1 d with rfl|d
  ·exact g
  ·exact h.trans _ _ _ g ((List.pairwise_cons.1 j).1 z d)
theorem G0p{d:Type}{e:d->d->Int}:∀ {l:List d},Asc e l->∀ {i:Nat} {x y:d},l[i]?=some x->l[i+1]?=some y->e x y<0
 | [],_,i,x,y,b,_=>by simp at b
 |a::l,h,0,x,y,b,c=>by
  simp at b c;subst b
  exact(List.pairwise_cons.1 h).1 y (List.mem_of_getElem? c)
 |a::l,h,i+1,x,y,b,c=>G0p (List.pairwise_cons.1 h).2 (i:=i) (by simpa using b) (by simpa using c)
theorem H0p{r a:Int}{es:List O0}:∀ {d k:Nat},(∀ i,k<=i->i<k+d->s0p r a es i=false)->okE r a es d k=true
 |0,k,h=>rfl
 |d+1,k,h=>by
  simp only[okE,Bool.and_eq_true,Bool.not_eq_true']
  exact⟨h k (Nat.le_refl _) (by omega),H0p λi b c=>h i (by omega) (by omega)⟩
theorem Z00(g:l0):T0 g=true↔inG g/\(1<=g.1/\g.1<=3)/\(1<=g.2.1/\g.2.1<=40)/\g.2.2.length<=120/\Asc Q0 g.2.2:=by
 constructor
 ·intro h
  obtain⟨m,c,d,k⟩:=N2 h
  refine⟨m,c,d,k,W0j p6 λi x y a b=>?_⟩
  simp only[T0,Bool.and_eq_true]at h
  have l:=w0l h.1.1.1 (i+1) (Nat.zero_le _) (by have:=(List.getElem?_eq_some_iff.1 b).1;omega)
  rw[a0b b]at l
  simp only[Nat.add_sub_cancel,a,Bool.or_eq_false_iff]at l
  have:=l.2
  simp only[show decide (0<i+1)=true by simp,Bool.true_and,decide_eq_false_iff_not]at this
  have e:b0f x y=Q0 x y:=rfl
  omega
 ·rintro⟨m,c,d,k,o⟩
  obtain⟨r,n,es⟩:=g
  simp only at c d k o
  simp only[T0,inR,Bool.and_eq_true,decide_eq_true_eq]
  refine⟨⟨⟨H0p λi _ s=>?_,c⟩,d⟩,k⟩
  have a:=L5 (show i<es.length by omega)
  generalize es[i]=e at a
  rw[a0b a]
  have q:=m e (List.mem_of_getElem? a)
  simp only at q
  simp only[Bool.or_eq_false_iff,Bool.not_eq_false',h06,inR,Bool.and_eq_true,decide_eq_true_eq]
  rw[w64 (by omega) (by omega)]
  refine⟨⟨⟨⟨by omega,by omega⟩,by omega,by omega⟩,by omega,by omega⟩,?_⟩
  cases i with
  |zero=>rfl
  |succ j =>
   have b:=L5 (show j<es.length by omega)
   generalize es[j]=f at b
   have:=G0p o b a
   simp only[Nat.add_sub_cancel,b]
   have p:b0f f e=Q0 f e:=rfl
   simp[p];omega
theorem m0b{r:Int}{n:Int}{es:List O0}(d:1<=r/\r<=3)(c:1<=n/\n<=40)(f:es.length<=120)(b:inG (r,n,es)):T0 (r,n,w4 Q0 [] es)=true:=by
 refine(Z00 _).2 ⟨λe a=>b e ?_,d,c,?_,j02 p6 _ _ List.Pairwise.nil⟩
 ·rcases(S8 p6 e es []).1 a with h|h
  ·simp at h
  ·exact h
 ·have:=D00 es []
  simp only[List.length_nil]at this
  simp only;omega
def n0b(a b:O0):List (Int×Int) :=
 bif decide (a.2.1=b.2.1)then(bif decide (a.1=b.1)then [(if b.2.2<a.2.2 then b.2.2 else a.2.2,if b.2.2>a.2.2 then b.2.2 else a.2.2)]else [])++(bif decide (a.2.2=b.2.2)then [(if b.1<a.1 then b.1 else a.1,if b.1>a.1 then b.1 else a.1)]else [])else []
def y03(a:O0):List O0->List (Int×Int)
 | []=>[]
 |b::r=>n0b a b++y03 a r
def Q8:List O0->List (Int×Int)
 | []=>[]
 |a::r=>y03 a r++Q8 r
theorem d0o(a b:O0):(n0b a b).length<=2:=by
 unfold n0b
 cases decide (a.2.1=b.2.1)<;>cases decide (a.1=b.1)<;>cases decide (a.2.2=b.2.2)<;>simp
theorem q0c(a:O0):∀ l,(y03 a l).length<=2*l.length
 | []=>by simp[y03]
 |b::r=>by have:=d0o a b;have:=q0c a r;simp only[y03,List.length_append,List.length_cons];omega
def mvV(f:Int×Int)(v:Int):Int:=if v=f.2 then f.1 else if v>f.2 then v-1 else v
def mvE(f:Int×Int)(e:O0):O0:=(mvV f e.1,e.2.1,mvV f e.2.2)
def X01(g:l0)(f:Int×Int):l0:=(g.1,g.2.1-1,w4 Q0 [] (g.2.2.map (mvE f)))
def okF(g:l0)(f:Int×Int):Prop:=0<=f.1/\f.1<f.2/\f.2<g.2.1
theorem Q05{g:l0}{f:Int×Int}(k:T0 g=true)(hf:okF g f):T0 (X01 g f)=true:=by
 obtain⟨l,m,q,n,_⟩:=(Z00 g).1 k
 obtain⟨o,f2,f3⟩:=hf
 refine m0b m ⟨by omega,by omega⟩ (by simpa using n) λe i=>?_
 obtain⟨h,j,rfl⟩:=List.mem_map.1 i
 obtain⟨b,c,d⟩:=l h j
 have a:∀ v:Int,0<=v/\v<g.2.1->0<=mvV f v/\mvV f v<g.2.1-1:=λv p=>by
  unfold mvV;split
  ·omega
  ·split<;>omega
 exact⟨a _ b,a _ c,d⟩
theorem X0j{g:l0}(j:inG g){a:O0}(m:a∈g.2.2):∀ {l:List O0},(∀ b∈l,b∈g.2.2/\a≠b)->∀ f∈y03 a l,okF g f
 | [],_,f,hf=>by simp[y03]at hf
 |b::r,h,f,hf=>by
  rcases List.mem_append.1 (show f∈n0b a b++y03 a r from hf)with hf|hf
  ·have s:=j b (h b mS).1
   have q:=j a m
   have u:=(h b mS).2
   obtain⟨c,n,d⟩:=a
   obtain⟨e,p,i⟩:=b
   simp only at q s
   unfold n0b at hf
   simp only at hf
   by_cases c1:n=p
   ·have k : ¬ (c=e/\d=i):=λ⟨x,y⟩=>u (by rw[x,c1,y])
    simp only[c1,decide_true,cond_true,List.mem_append]at hf
    rcases hf with hf|hf
    ·by_cases c2:c=e
     ·simp only[c2,decide_true,cond_true,List.mem_singleton]at hf
      subst hf
      have:d≠i:=λy=>k ⟨c2,y⟩
      unfold okF
      simp only
      split<;>split<;>omega
     ·simp[c2]at hf
    ·by_cases c2:d=i
     ·simp only[c2,decide_true,cond_true,List.mem_singleton]at hf
      subst hf
      have:c≠e:=λy=>k ⟨y,c2⟩
      unfold okF
      simp only
      split<;>split<;>omega
     ·simp[c2]at hf
   ·simp[c1]at hf
  ·exact X0j j m (λo t=>h o (mC _ t)) f hf
theorem Y0j{g:l0}(i:inG g):∀ {l:List O0},(∀ b∈l,b∈g.2.2)->Asc Q0 l->∀ f∈Q8 l,okF g f
 | [],_,_,f,hf=>by simp[Q8]at hf
 |a::r,h,d,f,hf=>by
  rcases List.mem_append.1 (show f∈y03 a r++Q8 r from hf)with hf|hf
  ·refine X0j i (h a mS) (λb c=>⟨h b (mC _ c),λe=>?_⟩) f hf
   have:=(List.pairwise_cons.1 d).1 b c
   rw[e,p6.refl]at this;omega
  ·exact Y0j i (λb c=>h b (mC _ c)) (List.pairwise_cons.1 d).2 f hf
theorem r05{g:l0}(a:T0 g=true):∀ f∈Q8 g.2.2,okF g f:=by
 obtain⟨b,_,_,_,c⟩:=(Z00 g).1 a
 exact Y0j b (λ_ h=>h) c
def p01:Nat->l0->l0×List (Int×Int)
 |0,g=>(g,[])
 |n+1,g=>match Q8 g.2.2 with
  | []=>(g,[])
  |f::_=>((p01 n (X01 g f)).1,f::(p01 n (X01 g f)).2)
def V8(g:l0):l0×List (Int×Int):=bif T0 g then p01 40 g else(g,[])
theorem g0d:∀(n:Nat) {g:l0},T0 g=true->T0 (p01 n g).1=true
 |0,g,h=>h
 |n+1,g,h=>by
  unfold p01
  cases e:Q8 g.2.2 with
  |nil=>exact h
  |cons f l=>exact g0d n (Q05 h (r05 h f (by rw[e];exact mS)))
theorem i0a:∀(n:Nat) {g:l0},T0 g=true->g.2.1<=(n:Int)+1->Q8 (p01 n g).1.2.2 = []
 |0,g,h,a=>by
  cases e:Q8 g.2.2 with
  |nil=>exact e
  |cons f l =>
   have:=r05 h f (by rw[e];exact mS)
   unfold okF at this
   omega
 |n+1,g,h,a=>by
  unfold p01
  cases e:Q8 g.2.2 with
  |nil=>exact e
  |cons f l=>exact i0a n (Q05 h (r05 h f (by rw[e];exact mS))) (by show g.2.1-1<=_;omega)
theorem e0o(a b:O0):n0b a b = []↔L04 a b=false:=by
 unfold n0b L04
 cases decide (a.2.1=b.2.1)<;>cases decide (a.1=b.1)<;>cases decide (a.2.2=b.2.2)<;>simp
theorem g0h(a:O0):∀ l,y03 a l = []↔∀ b∈l,L04 a b=false
 | []=>by simp[y03]
 |b::r=>by
  rw[y03,List.append_eq_nil_iff,e0o,g0h a r]
  simp
theorem r0c:∀ l,Q8 l = []↔l.Pairwise λa b=>L04 a b=false
 | []=>by simp[Q8]
 |a::r=>by rw[Q8,List.append_eq_nil_iff,g0h,r0c r,List.pairwise_cons]
theorem s05(g:l0):K0 g=true↔T0 g=true/\Q8 g.2.2 = []:=by
 unfold K0
 rw[Bool.and_eq_true,l0c,r0c]
theorem t05{g:l0}(h:T0 g=true):K0 (V8 g).1=true:=by
 have a:=(N2 h).2.2.1
 unfold V8
 rw[h]
 exact(s05 _).2 ⟨g0d 40 h,i0a 40 h (by omega)⟩
theorem h0h(l:List O0)(a c e:Int)(s:l.length<=1000):∀(d k fuel:Nat) (acc:List Y5),k+d=l.length->d<fuel->acc.length+2*d<=4000000 ->
  G5 l c a e fuel (k:Int) acc=some (acc++y03 (a,c,e) (l.drop k))
 |d,k,0,acc,m,hf,j=>by omega
 |0,k,fuel+1,acc,m,hf,j=>by
  rw[G5.eq_2,if_neg (by simp;omega),J1 (by omega)]
  simp[y03]
 |d+1,k,fuel+1,acc,m,hf,j=>by
  have n:k<l.length:=by omega
  have i:=L5 n
  generalize l[k]=b at i
  obtain⟨o,p,q⟩:=b
  have g:∀ f:List Y5,f.length+2*d<=4000000->G5 l c a e fuel ((k+1:Nat):Int) f=some (f++y03 (a,c,e) (l.drop (k+1))):=λf h=>h0h l a c e s d (k+1) fuel f (by omega) (by omega) h
  rw[G5.eq_2,if_pos (by simp;omega),P2 i,oB,A2 n (by omega),N1 i]
  simp only[y03,n0b]
  cases decide (c=p)
  ·simp only[Bool.not_false,if_true,cond_false,List.nil_append]
   exact g acc (by omega)
  ·cases decide (a=o)<;>cases decide (e=q)
   all_goals simp only[Bool.not_true,Bool.false_eq_true,if_false,if_true,cond_true,cond_false,List.nil_append,List.append_nil]
   ·exact g acc (by omega)
   ·rw[H0 (by simp;omega),oB,g _ (by simp;omega)];simp
   ·rw[H0 (by simp;omega),oB,g _ (by simp;omega)];simp
   ·rw[H0 (by simp;omega),oB,H0 (by simp;omega),oB,g _ (by simp;omega)];simp
theorem i0h(l:List O0)(m:l.length<=1000):∀(d k fuel:Nat) (acc:List Y5),k+d=l.length->d<fuel->acc.length+2000*d<=3000000 ->
  t9 l fuel (k:Int) acc=some (acc++Q8 (l.drop k))
 |d,k,0,acc,h,hf,g=>by omega
 |0,k,fuel+1,acc,h,hf,g=>by
  rw[t9.eq_2,if_neg (by simp;omega),J1 (by omega)]
  simp[Q8]
 |d+1,k,fuel+1,acc,h,hf,g=>by
  have i:k<l.length:=by omega
  have a:=L5 i
  generalize l[k]=b at a
  obtain⟨c,e,f⟩:=b
  have h0:=h0h (l.drop (k+1)) c e f (by simp;omega) (l.length-(k+1)) 0 U0 acc (by simp) (D1 (by omega)) (by omega)
  have j:=q0c (c,e,f) (l.drop (k+1))
  simp only[List.length_drop]at j
  rw[t9.eq_2,if_pos (by simp;omega),P2 a,oB]
  simp only[A2 i (show l.length<=9223372036854775807 by omega)]
  rw[v01 (by omega),oB,show(0:Int)=((0:Nat):Int) from rfl,h0,oB,i0h l m d (k+1) fuel _ (by omega) (by omega) (by simp only[List.length_append,List.drop_zero,List.length_drop]at j ⊢;omega),N1 a,Q8]
  simp
theorem j0h(l:List O0)(u:l.length<=1000)(i:Nat)(a c e:Int)(o:l[i]?=some (a,c,e)):∀(d k fuel:Nat) (acc:List Y5),k+d=l.length->d<fuel->acc.length+2*d<=4000000 ->
  K4 l (i:Int) fuel (k:Int) acc=some (acc++y03 (a,c,e) (l.drop k))
 |d,k,0,acc,n,hf,m=>by omega
 |0,k,fuel+1,acc,n,hf,m=>by
  rw[K4.eq_2,if_neg (by simp;omega),J1 (by omega)]
  simp[y03]
 |d+1,k,fuel+1,acc,n,hf,m=>by
  have p:k<l.length:=by omega
  have j:=L5 p
  generalize l[k]=b at j
  obtain⟨q,s,t⟩:=b
  have g:∀ f:List Y5,f.length+2*d<=4000000->K4 l (i:Int) fuel ((k+1:Nat):Int) f=some (f++y03 (a,c,e) (l.drop (k+1))):=λf h=>j0h l u i a c e o d (k+1) fuel f (by omega) (by omega) h
  rw[K4.eq_2,if_pos (by simp;omega),P2 o,oB]
  simp only[]
  rw[P2 j,oB,A2 p (by omega),N1 j]
  simp only[y03,n0b]
  cases decide (c=s)
  ·simp only[Bool.false_eq_true,if_false,cond_false,List.nil_append]
   exact g acc (by omega)
  ·cases decide (a=q)<;>cases decide (e=t)
   all_goals simp only[Bool.not_true,Bool.false_eq_true,if_false,if_true,cond_true,cond_false,List.nil_append,List.append_nil]
   ·exact g acc (by omega)
   ·rw[H0 (by simp;omega),oB,g _ (by simp;omega)];simp
   ·rw[H0 (by simp;omega),oB,g _ (by simp;omega)];simp
   ·rw[H0 (by simp;omega),oB,H0 (by simp;omega),oB,g _ (by simp;omega)];simp
theorem k0h(l:List O0)(j:l.length<=1000):∀(d k fuel:Nat) (acc:List Y5),k+d=l.length->d<fuel->acc.length+2000*d<=3000000 ->
  V7 l fuel (k:Int) acc=some (acc++Q8 (l.drop k))
 |d,k,0,acc,h,hf,g=>by omega
 |0,k,fuel+1,acc,h,hf,g=>by
  rw[V7.eq_2,if_neg (by simp;omega),J1 (by omega)]
  simp[Q8]
 |d+1,k,fuel+1,acc,h,hf,g=>by
  have i:k<l.length:=by omega
  have a:=L5 i
  generalize l[k]=b at a
  obtain⟨c,e,f⟩:=b
  have h0:=j0h l j k c e f a (l.length-(k+1)) (k+1) U0 acc (by omega) (D1 (by omega)) (by omega)
  have m:=q0c (c,e,f) (l.drop (k+1))
  simp only[List.length_drop]at m
  rw[V7.eq_2,if_pos (by simp;omega),A2 i (by omega),h0,oB,k0h l j d (k+1) fuel _ (by omega) (by omega) (by simp only[List.length_append,List.length_drop]at m ⊢;omega),N1 a,Q8]
  simp
theorem Z0j(g:l0)(a:g.2.2.length<=1000):O03 g=some (Q8 g.2.2):=by
 obtain⟨r,n,es⟩:=g
 unfold O03
 simp only
 rw[show(0:Int)=((0:Nat):Int) from rfl,i0h es a es.length 0 U0 [] (by omega) (D1 (by simp only at a;omega)) (by simp only at a;simp;omega)]
 rfl
theorem a0k(g:l0)(a:g.2.2.length<=1000):o02 g=some (Q8 g.2.2):=by
 obtain⟨r,n,es⟩:=g
 unfold o02
 simp only
 rw[show(0:Int)=((0:Nat):Int) from rfl,k0h es a es.length 0 U0 [] (by omega) (D1 (by simp only at a;omega)) (by simp only at a;simp;omega)]
 rfl
def z03(g:l0):Y5×Bool:=bif T0 g then(match Q8 g.2.2 with
 | []=>((0,0),false)
 |f::_=>(f,true))else((0,0),false)
theorem w0d(g:l0)(c:g.2.2.length<=140737488355328):a00 g=some (z03 g):=by
 have b:=O00 g c
 have a:=Z0j g
 unfold z03
 cases hg:T0 g with
 |false =>
  obtain⟨r,n,es⟩:=g
  unfold a00
  simp only[b,hg,oB];rfl
 |true =>
  have a:=a (by have:=(N2 hg).2.2.2;omega)
  obtain⟨r,n,es⟩:=g
  unfold a00
  simp only[b,hg,a,oB,cond_true]
  simp only at a
  cases Q8 es with
  |nil=>rfl
  |cons f l =>
   rw[if_neg (by simp),if_neg (by simp;omega),n0i rfl]
   rfl
theorem x0d(g:l0)(c:g.2.2.length<=140737488355328):Y9 g=some (z03 g):=by
 have b:=r8 g c
 have a:=a0k g
 unfold z03
 cases hg:T0 g with
 |false =>
  obtain⟨r,n,es⟩:=g
  unfold Y9
  simp only[b,hg,oB];rfl
 |true =>
  have a:=a (by have:=(N2 hg).2.2.2;omega)
  obtain⟨r,n,es⟩:=g
  unfold Y9
  simp only[b,hg,a,oB,cond_true]
  simp only at a
  cases Q8 es with
  |nil=>rfl
  |cons f l =>
   rw[if_neg (by simp),if_neg (by simp;omega),n0i rfl]
   rfl
theorem h0n(v:Int)(f:Y5)(d:0<=v/\v<1000)(hf:0<=f.1/\f.1<f.2):I02 v f=some (mvV f v):=by
 obtain⟨a,b⟩:=f
 simp only at hf
 unfold I02 mvV
 simp only
 by_cases c:v=b
 ·rw[if_pos (by simp[c]),if_neg (by simp;omega),if_pos c]
 ·rw[if_neg (by simp[c]),if_neg c]
  by_cases c2:v>b
  ·rw[if_pos (by simp[c2]),if_pos c2,w64 (by omega) (by omega)]
  ·rw[if_neg (by simp;omega),if_neg c2]
theorem b0k(v:Int)(f:Y5)(d:0<=v/\v<1000):V6 v f=some (mvV f v):=by
 obtain⟨a,b⟩:=f
 unfold V6 mvV
 simp only
 by_cases c:v=b
 ·rw[if_pos (by simp[c]),if_pos c]
 ·rw[if_neg (by simp[c]),if_neg c]
  by_cases c2:v>b
  ·rw[if_pos (by simp[c2]),if_pos c2,w64 (by omega) (by omega)]
  ·rw[if_neg (by simp;omega),if_neg c2]
theorem y0i{f:Y5}{v:Int}(a:0<=v/\v<1000)(hf:0<=f.1/\f.1<1000):I0 (mvV f v):=by
 unfold mvV
 split
 ·exact⟨by omega,by omega⟩
 ·split
  ·exact⟨by omega,by omega⟩
  ·exact⟨by omega,by omega⟩
theorem c0k(es:List O0)(f:Y5)(r n:Int)(s:es.length<=1000)(o:∀ e∈es,(0<=e.1/\e.1<1000)/\(0<=e.2.2/\e.2.2<1000))(hf:0<=f.1/\f.1<f.2)(q:f.2<1000):∀(d k fuel:Nat) (acc:List O0),k+d=es.length->d<fuel->acc.length<=k ->
  Q4 es f.1 f.2 fuel (k:Int) r n acc=some (r,n,w4 Q0 acc ((es.drop k).map (mvE f)))
 |d,k,0,acc,l,m,j=>by omega
 |0,k,fuel+1,acc,l,m,j=>by
  rw[Q4.eq_2,if_neg (by simp;omega),J1 (by omega)]
  rfl
 |d+1,k,fuel+1,acc,l,m,j=>by
  have c:k<es.length:=by omega
  have g:=L5 c
  have a:=o _ (List.getElem_mem c)
  generalize es[k]=b at g a
  obtain⟨h,p,i⟩:=b
  simp only at a
  have t:=G06 (mvE f (h,p,i)) acc
  rw[Q4.eq_2,if_pos (by simp;omega),P2 g,oB]
  simp only[]
  rw[h0n h (f.1,f.2) a.1 hf,oB,H0 (y0i a.1 ⟨hf.1,by show f.1<1000;omega⟩),oB,h0n i (f.1,f.2) a.2 hf,oB,H0 (y0i a.2 ⟨hf.1,by show f.1<1000;omega⟩),oB,
   M04 acc _ (by omega),oB,A2 c (by omega),N1 g,List.map_cons]
  exact c0k es f r n s o hf q d (k+1) fuel _ (by omega) (by omega) (Nat.le_trans t (by omega))
theorem d0k{g:l0}{f:Y5}(d:T0 g=true)(hf:okF g f):W7 g f=some (X01 g f,true):=by
 obtain⟨k,o,l,m⟩:=N2 d
 have i:=r8 g (by omega)
 obtain⟨c,f2,f3⟩:=hf
 obtain⟨r,n,es⟩:=g
 obtain⟨a,b⟩:=f
 simp only at c f2 f3 l m
 have h:=c0k es (a,b) r (IntKind.i64.wrap (n-1)) (by omega) (λe j=>by
  have:=k e j
  simp only at this
  exact⟨⟨by omega,by omega⟩,by omega,by omega⟩) ⟨c,f2⟩ (by simp only;omega) es.length 0 U0 [] (by omega) (D1 (by omega)) (Nat.le_refl _)
 unfold W7
 simp only[i,d,oB]
 rw[if_neg (by simp;omega),show(0:Int)=((0:Nat):Int) from rfl,h,w64 (by omega) (by omega)]
 rfl
theorem e0k(es:List O0)(f:Y5)(s:es.length<=1000)(n:∀ e∈es,(0<=e.1/\e.1<1000)/\(0<=e.2.2/\e.2.2<1000))(hf:0<=f.1/\f.1<1000):∀(d k fuel:Nat),k+d=es.length->d<fuel ->
  R4 es f.1 f.2 fuel (k:Int) ((es.take k).map (mvE f)++es.drop k)=some (es.map (mvE f))
 |d,k,0,j,l=>by omega
 |0,k,fuel+1,j,l=>by
  rw[R4.eq_2,if_neg (by simp;omega),J1 (by omega),List.append_nil,List.take_of_length_le (by omega)]
 |d+1,k,fuel+1,j,l=>by
  have g:k<es.length:=by omega
  have c:=L5 g
  have a:=n _ (List.getElem_mem g)
  generalize es[k]=b at c a
  have m:((es.take k).map (mvE f)).length=k:=by simp;omega
  have q:((es.take k).map (mvE f)++es.drop k)[k]?=some b:=by
   rw[List.getElem?_append_right (by omega),m,N1 c];simp
  have t:∀ y,((es.take k).map (mvE f)++es.drop k).set k y=(es.take k).map (mvE f)++y::es.drop (k+1):=λy=>by
   rw[List.set_append_right _ _ (by omega),m,N1 c];simp
  obtain⟨h,p,i⟩:=b
  simp only at a
  have e:(es.take (k+1)).map (mvE f)++es.drop (k+1)=(es.take k).map (mvE f)++mvE f (h,p,i)::es.drop (k+1):=by
   rw[R0m c];simp
  have o:=e0k es f s n hf d (k+1) fuel (by omega) (by omega)
  rw[e]at o
  rw[R4.eq_2,if_pos (by simp;omega),P2 q,oB]
  simp only[]
  rw[b0k h (f.1,f.2) a.1,oB,H0 (y0i a.1 hf),oB,b0k i (f.1,f.2) a.2,oB,H0 (y0i a.2 hf),oB]
  simp only[oB]
  rw[show((k:Nat):Int).toNat=k from Int.toNat_natCast k,t,A2 g (by omega)]
  exact o
theorem f0k{g:l0}{f:Y5}(d:T0 g=true)(hf:okF g f):Y7 g f=some (X01 g f,true):=by
 obtain⟨l,p,m,o⟩:=N2 d
 have i:=O00 g (by omega)
 have j:=l00 g (by omega)
 obtain⟨c,f2,f3⟩:=hf
 obtain⟨r,n,es⟩:=g
 obtain⟨a,b⟩:=f
 simp only at c f2 f3 m o
 have h:=e0k es (a,b) (by omega) (λe k=>by
  have:=l e k
  simp only at this
  exact⟨⟨by omega,by omega⟩,by omega,by omega⟩) ⟨c,by simp only;omega⟩ es.length 0 U0 (by omega) (D1 (by omega))
 simp only[List.take_zero,List.map_nil,List.nil_append,List.drop_zero]at h
 unfold Y7
 simp only[i,j,d,oB]
 rw[if_neg (by simp;omega),show(0:Int)=((0:Nat):Int) from rfl,h,oB,o08 _ (by simp;omega),oB,w64 (by omega) (by omega)]
 rfl
def r02(g:l0):l0×Y5×Bool:=bif T0 g then(match Q8 g.2.2 with
 | []=>(g,(0,0),false)
 |f::_=>(X01 g f,f,true))else(g,(0,0),false)
theorem u08(g:l0)(j:g.2.2.length<=1099511627776):F01 g=some (r02 g):=by
 have c:=x0d g (by omega)
 have d:=J9 g j
 have i:∀ f,T0 g=true->okF g f->W7 g f=some (X01 g f,true):=λf a b=>d0k a b
 have h:T0 g=true->∀ f∈Q8 g.2.2,okF g f:=r05
 unfold z03 at c
 unfold r02
 obtain⟨r,n,es⟩:=g
 unfold F01
 simp only[c,oB]
 cases hg:T0 (r,n,es)with
 |false=>simp only[cond_false,Bool.not_false,if_true,d,oB]
 |true =>
  simp only[cond_true]
  simp only at h
  cases e:Q8 es with
  |nil=>simp only[Bool.not_false,if_true,d,oB]
  |cons f l =>
   simp only[Bool.not_true,Bool.false_eq_true,if_false,i f hg (h hg f (by rw[e];exact mS)),oB]
theorem v08(g:l0)(j:g.2.2.length<=1099511627776):I01 g=some (r02 g):=by
 have c:=w0d g (by omega)
 have d:=l00 g j
 have i:∀ f,T0 g=true->okF g f->Y7 g f=some (X01 g f,true):=λf a b=>f0k a b
 have h:T0 g=true->∀ f∈Q8 g.2.2,okF g f:=r05
 unfold z03 at c
 unfold r02
 obtain⟨r,n,es⟩:=g
 unfold I01
 simp only[c,oB]
 cases hg:T0 (r,n,es)with
 |false=>simp only[cond_false,Bool.not_false,if_true,d,oB]
 |true =>
  simp only[cond_true]
  simp only at h
  cases e:Q8 es with
  |nil=>simp only[Bool.not_false,if_true,d,oB]
  |cons f l =>
   simp only[Bool.not_true,Bool.false_eq_true,if_false,i f hg (h hg f (by rw[e];exact mS)),oB]
def e0s:(l0×l9) ⊕ (Int×Int×N0×(List Y5))->Option (l0×l9):=λX=>a9 X (λS=>match S with
 |(a,b,c,e)=>some ((a,b,c),e))
theorem w0f:∀(d k fuel:Nat) (g:l0) (acc:List Y5),k+d=40->d<fuel->T0 g=true->acc.length=k ->
  (U6 fuel (k:Int) g.1 g.2.1 g.2.2 acc).bind e0s=some ((p01 d g).1,acc++(p01 d g).2)
 |d,k,0,g,acc,h,hf,a,c=>by omega
 |0,k,fuel+1,g,acc,h,hf,a,c=>by
  rw[U6.eq_2,if_neg (by simp;omega)]
  simp[e0s,a9,p01]
 |d+1,k,fuel+1,g,acc,h,hf,a,c=>by
  have b:=u08 g (by have:=(N2 a).2.2.2;omega)
  have i:=r05 a
  unfold r02 at b
  rw[a]at b
  simp only[cond_true]at b
  rw[U6.eq_2,if_pos (by simp;omega),show(g.1,g.2.1,g.2.2)=g from rfl,b]
  unfold p01
  cases e:Q8 g.2.2 with
  |nil=>simp[e0s,a9]
  |cons f l =>
   have j:=w0f d (k+1) fuel (X01 g f) (acc ++ [f]) (by omega) (by omega) (Q05 a (i f (by rw[e];exact mS))) (by simp[c])
   simp only[oB,Bool.not_true,Bool.false_eq_true,if_false]
   rw[H0 (by simp;omega),oB,A2 (show k<1000 by omega) (by omega)]
   refine j.trans ?_
   simp
theorem I09(g:l0)(b:g.2.2.length<=1099511627776):p02 g=some (V8 g):=by
 have a:=u08 g b
 have c:=J9 g b
 have d:=w0f 40 0 U0 g [] rfl (D1 (by omega))
 unfold V8
 obtain⟨r,n,es⟩:=g
 unfold p02
 simp only[c,oB]
 cases hg:T0 (r,n,es)with
 |false =>
  unfold r02 at a
  rw[hg]at a
  simp only[cond_false]at a
  rw[show U0=(U0-1)+1 from rfl,U6.eq_2,if_pos (by simp),a]
  rfl
 |true=>exact d hg rfl
theorem x0f:∀(d fuel:Nat) (g:l0) (acc:List Y5),d<fuel->T0 g=true->Q8 (p01 d g).1.2.2 = []->acc.length+d<=1000 ->
  Z7 fuel g.1 g.2.1 g.2.2 acc=some (.inl ((p01 d g).1,acc++(p01 d g).2))
 |d,0,g,acc,hf,a,c,j=>by omega
 |d,fuel+1,g,acc,hf,a,c,j=>by
  have b:=v08 g (by have:=(N2 a).2.2.2;omega)
  have i:=r05 a
  unfold r02 at b
  rw[a]at b
  simp only[cond_true]at b
  rw[Z7.eq_2,show(g.1,g.2.1,g.2.2)=g from rfl,b]
  cases e:Q8 g.2.2 with
  |nil =>
   have h:p01 d g=(g,[]):=by
    cases d with
    |zero=>rfl
    |succ d=>unfold p01;rw[e]
   rw[h]
   simp
  |cons f l =>
   cases d with
   |zero=>exact absurd e (by rw[show Q8 g.2.2 = [] from c];simp)
   |succ d =>
    have h:p01 (d+1) g=((p01 d (X01 g f)).1,f::(p01 d (X01 g f)).2):=by
     show(match Q8 g.2.2 with | []=>(g,[])|f::_=>((p01 d (X01 g f)).1,f::(p01 d (X01 g f)).2))=_
     rw[e]
    rw[h]at c ⊢
    have k:=x0f d fuel (X01 g f) (acc ++ [f]) (by omega) (Q05 a (i f (by rw[e];exact mS))) c (by simp;omega)
    simp only[oB,Bool.not_true,Bool.false_eq_true,if_false]
    rw[H0 (by simp;omega),oB]
    refine k.trans ?_
    simp
theorem J09(g:l0)(c:g.2.2.length<=1099511627776):q02 g=some (V8 g):=by
 have b:=v08 g c
 have d:=l00 g c
 have e:=x0f 40 U0 g [] (D1 (by omega))
 have f:T0 g=true->Q8 (p01 40 g).1.2.2 = []:=λa=>i0a 40 a (by have:=(N2 a).2.2.1;omega)
 unfold V8
 obtain⟨r,n,es⟩:=g
 unfold q02
 simp only[d,oB]
 cases a:T0 (r,n,es)with
 |false =>
  unfold r02 at b
  rw[a]at b
  simp only[cond_false]at b
  rw[show U0=(U0-1)+1 from rfl,Z7.eq_2,b]
  rfl
 |true =>
  have h:=e a (f a) (by simp)
  simp only at h
  rw[h]
  rfl
theorem S04{g:l0}(h:T0 g=true):Asc Q0 g.2.2:=((Z00 g).1 h).2.2.2.2
def stp(u x v:Int):O0:=if x<0 then(v,-x,u)else(u,x,v)
def b03(v:Int):List Int->Int->Int->List O0
 | [],_,_=>[]
 | [x],u,_=>[stp u x v]
 |x::y::r,u,n=>stp u x n::b03 v (y::r) n (n+1)
theorem c09(v:Int):∀(w:List Int) (u n:Int),(b03 v w u n).length=w.length
 | [],_,_=>rfl
 | [x],_,_=>rfl
 |x::y::r,u,n=>by simp only[b03,List.length_cons,c09 v (y::r)]
theorem z0i(u x v:Int)(a:E5 x):q01 u x v=some (stp u x v):=by
 unfold q01 stp
 by_cases c:x<0
 ·rw[if_pos (by simp[c]),if_pos c,n08 a.1 a.2]
 ·rw[if_neg (by simp;omega),if_neg c]
theorem A0i(w:List Int)(v:Int)(r:Int)(e:∀ x∈w,E5 x)(l:w.length<=1000):∀(d k fuel:Nat) (u n:Int) (es:List O0),k+d=w.length->d<fuel->0<=n->n<=1000+k->es.length<=1000+k ->
  W6 w v fuel u (k:Int) r n es=some (r,n+((d-1:Nat):Int),es++b03 v (w.drop k) u n)
 |d,k,0,u,n,es,j,hf,h0,h,i=>by omega
 |0,k,fuel+1,u,n,es,j,hf,h0,h,i=>by
  rw[W6.eq_2,if_neg (by simp;omega),J1 (by omega)]
  simp[b03]
 |d+1,k,fuel+1,u,n,es,j,hf,h0,h,i=>by
  have a:k<w.length:=by omega
  have f:=L5 a
  have b:=e _ (List.getElem_mem a)
  generalize w[k]=x at f b
  rw[W6.eq_2,if_pos (by simp;omega),P2 f,oB,X0e (by omega) (by omega),N1 f]
  by_cases c:k+1<w.length
  ·rw[if_pos (by simp;omega),z0i u x n b,oB]
   have m:=L5 c
   generalize w[k+1]=y at m
   have g:=A0i w v r e l d (k+1) fuel n (n+1) (es ++ [stp u x n]) (by omega) (by omega) (by omega) (by omega) (by simp;omega)
   simp only[]
   rw[H0 (by simp;omega),oB,A2 a (by omega),w64 (show(-9223372036854775808:Int)<=n+1 by omega) (by omega)]
   refine g.trans ?_
   rw[N1 m]
   simp only[b03,List.append_assoc,List.singleton_append]
   congr 3
   omega
  ·have o:d=0:=by omega
   subst o
   rw[if_neg (by simp;omega),z0i u x v b,oB]
   have g:=A0i w v r e l 0 (k+1) fuel v n (es ++ [stp u x v]) (by omega) (by omega) h0 (by omega) (by simp;omega)
   simp only[]
   rw[H0 (by simp;omega),oB,A2 a (by omega)]
   refine g.trans ?_
   rw[J1 (show k+1=w.length by omega)]
   simp[b03]
theorem B0i(w:List Int)(v:Int)(r:Int)(h:∀ x∈w,E5 x/\x≠0)(o:w.length<=1000):∀(d k fuel:Nat) (u n:Int) (es:List O0),k+d=w.length->d<fuel->0<=n->n<=1000+k->es.length<=1000+k ->
  F5 w v fuel u (k:Int) r n es=some (r,n+((d-1:Nat):Int),w4 Q0 es (b03 v (w.drop k) u n))
 |d,k,0,u,n,es,m,hf,h0,j,l=>by omega
 |0,k,fuel+1,u,n,es,m,hf,h0,j,l=>by
  rw[F5.eq_2,if_neg (by simp;omega),J1 (by omega)]
  simp[b03,w4]
 |d+1,k,fuel+1,u,n,es,m,hf,h0,j,l=>by
  have f:k<w.length:=by omega
  have g:=L5 f
  have b:=h _ (List.getElem_mem f)
  generalize w[k]=x at g b
  have p:∀ e,(g00 Q0 e es).length<=1000+(k+1):=λe=>by have:=G06 e es;omega
  rw[F5.eq_2,if_pos (by simp;omega),N1 g]
  by_cases c:k+1<w.length
  ·have i:=L5 c
   generalize w[k+1]=y at i
   have a:=B0i w v r h o d (k+1) fuel n (n+1) (g00 Q0 (stp u x n) es) (by omega) (by omega) (by omega) (by omega) (p _)
   rw[N1 i]at a
   rw[A2 f (by omega),if_pos (by simp;omega),P2 g,oB,w64 (show(-9223372036854775808:Int)<=n+1 by omega) (by omega),N1 i]
   have fin:some (r,n+1+((d-1:Nat):Int),w4 Q0 (g00 Q0 (stp u x n) es) (b03 v (y::w.drop (k+1+1)) n (n+1)))=some (r,n+((d+1-1:Nat):Int),w4 Q0 es (b03 v (x::y::w.drop (k+1+1)) u n)):=by
    simp only[b03,w4]
    congr 3
    omega
   by_cases c2:x>0
   ·have e:stp u x n=(u,x,n):=by unfold stp;rw[if_neg (by omega)]
    rw[if_pos (by simp[c2])]
    simp only[oB]
    rw[M04 es _ (by omega),oB,←e]
    exact a.trans fin
   ·have e:stp u x n=(n,-x,u):=by unfold stp;rw[if_pos (by omega)]
    rw[if_neg (by simp;omega)]
    simp only[oB]
    rw[n08 b.1.1 b.1.2,M04 es _ (by omega),oB,←e]
    exact a.trans fin
  ·have q:d=0:=by omega
   subst q
   have a:=B0i w v r h o 0 (k+1) fuel v n (g00 Q0 (stp u x v) es) (by omega) (by omega) h0 (by omega) (p _)
   rw[J1 (show k+1=w.length by omega)]at a ⊢
   rw[A2 f (by omega),if_neg (by simp;omega),P2 g,oB]
   have fin:some (r,n+((0-1:Nat):Int),w4 Q0 (g00 Q0 (stp u x v) es) (b03 v [] v n))=some (r,n+((0+1-1:Nat):Int),w4 Q0 es (b03 v [x] u n)):=by
    simp[b03,w4]
   by_cases c2:x>0
   ·have e:stp u x v=(u,x,v):=by unfold stp;rw[if_neg (by omega)]
    rw[if_pos (by simp[c2])]
    simp only[oB]
    rw[M04 es _ (by omega),oB,←e]
    exact a.trans fin
   ·have e:stp u x v=(v,-x,u):=by unfold stp;rw[if_pos (by omega)]
    rw[if_neg (by simp;omega)]
    simp only[oB]
    rw[n08 b.1.1 b.1.2,M04 es _ (by omega),oB,←e]
    exact a.trans fin
theorem y0f{es p:List O0}(a:Asc Q0 es):w4 Q0 [] (es++p)=w4 Q0 es p :=
 e0a p6 (j02 p6 _ _ .nil) (j02 p6 _ _ a) λx=>by
  rw[S8 p6,S8 p6];simp
def C3(g:l0)(u:Int)(w:List Int)(v:Int):l0×Bool :=
 bif !w.isEmpty&&decide (g.2.1+(w.length:Int)-1<=40)&&decide (g.2.2.length+w.length<=120)then((g.1,g.2.1+((w.length-1:Nat):Int),w4 Q0 g.2.2 (b03 v w u g.2.1)),true)else(g,false)
theorem g03{r:Int}{w:List Int}(h:U1 r w=true):w.length<=24/\∀ x∈w,E5 x/\x≠0 /\ -r<=x/\x<=r:=by
 have a:=h
 simp only[U1,Bool.and_eq_true,decide_eq_true_eq]at a
 refine⟨a.1.2,λx c=>?_⟩
 obtain⟨i,b⟩:=List.getElem?_of_mem c
 have:=M0j h b
 exact⟨⟨⟨by omega,by omega⟩,by omega⟩,this.2.2⟩
theorem i06{g:l0}{u v:Int}{w:List Int}(d:T0 g=true)(f:0<=u/\u<g.2.1)(i:0<=v/\v<g.2.1)(j:U1 g.1 w=true):m00 g u w v=some (C3 g u w v):=by
 obtain⟨y,z,p,q⟩:=N2 d
 obtain⟨A,k⟩:=g03 j
 have l:=r8 g (by omega)
 have m:=J9 g (by omega)
 have b:=F02 g.1 w (by omega)
 obtain⟨r,n,es⟩:=g
 simp only at p q f i b
 have o:IntKind.i64.wrap (n-1)=n-1:=w64 (by omega) (by omega)
 have e:∀ x:Int,0<=x/\x<n->inR 0 (n-1) x=true:=λx a=>by simp[inR];omega
 have h:=B0i w v r (λx a=>⟨(k x a).1,(k x a).2.1⟩) (by omega) w.length 0 U0 u n es (by omega) (D1 (by omega)) (by omega) (by omega) (by omega)
 unfold m00 C3
 simp only[l,m,d,oB,Bool.not_true,Bool.not_false,O1,cond_false,o,m03,e u f,e v i,b,j]
 rw[w64 (show(-9223372036854775808:Int)<=n+((w.length:Nat):Int) by omega) (by omega),w64 (show(-9223372036854775808:Int)<=n+((w.length:Nat):Int)-1 by omega) (by omega),w64 (show(-9223372036854775808:Int)<=((es.length:Nat):Int)+((w.length:Nat):Int) by omega) (by omega)]
 by_cases c:(w≠[]/\n+(w.length:Int)-1<=40)/\es.length+w.length<=120
 ·have t:w.length≠0:=by simpa using c.1.1
  rw[if_neg (by simp only[Bool.not_eq_true];simp[c.1.1];omega),show(0:Int)=((0:Nat):Int) from rfl,h,oB]
  rw[show(!w.isEmpty&&decide (n+(w.length:Int)-1<=40)&&decide (es.length+w.length<=120))=true by simp[c.1.1,c.1.2,c.2]]
  rfl
 ·rw[show(!w.isEmpty&&decide (n+(w.length:Int)-1<=40)&&decide (es.length+w.length<=120))=false by
   rw[←Bool.not_eq_true];simpa using c]
  rw[if_pos ?_]
  ·rfl
  ·by_cases d1:w = []
   ·simp[d1]
   ·by_cases d2:n+(w.length:Int)-1<=40
    ·have s : ¬ es.length+w.length<=120:=λh=>c ⟨⟨d1,d2⟩,h⟩
     have:decide (((es.length:Nat):Int)+((w.length:Nat):Int)>120)=true:=by simp;omega
     rw[this];simp
    ·have:decide (n+((w.length:Nat):Int)-1>40)=true:=by simp;omega
     rw[this];simp
theorem I0p{g:l0}(a:T0 g=true){u:Int}(b:0<=u/\u<g.2.1):I4 g u=some true:=by
 obtain⟨d,e,c,f⟩:=N2 a
 obtain⟨r,n,es⟩:=g
 simp only at c b
 unfold I4
 simp only[L03]
 rw[w64 (by omega) (by omega)]
 simp[inR];omega
theorem j06{g:l0}{u v:Int}{w:List Int}(a:T0 g=true)(e:0<=u/\u<g.2.1)(f:0<=v/\v<g.2.1)(i:U1 g.1 w=true):a01 g u w v=some (C3 g u w v):=by
 obtain⟨z,A,p,q⟩:=N2 a
 obtain⟨B,s⟩:=g03 i
 have j:=O00 g (by omega)
 have k:=l00 g (by omega)
 have b:=G02 g.1 w (by omega)
 have l:=I0p a e
 have m:=I0p a f
 have d:=S04 a
 obtain⟨r,n,es⟩:=g
 simp only at p q e f b d
 have h:=A0i w v r (λx o=>(s x o).1) (by omega) w.length 0 U0 u n es (by omega) (D1 (by omega)) (by omega) (by omega) (by omega)
 have y:=c09 v w u n
 unfold a01 C3
 simp only[j,k,a,oB,Bool.not_true,Bool.not_false,O1,cond_false,l,m]
 rw[w64 (show(-9223372036854775808:Int)<=n+((w.length:Nat):Int) by omega) (by omega),w64 (show(-9223372036854775808:Int)<=n+((w.length:Nat):Int)-1 by omega) (by omega),w64 (show(-9223372036854775808:Int)<=((es.length:Nat):Int)+((w.length:Nat):Int) by omega) (by omega)]
 by_cases d1:w = []
 ·subst d1
  simp[chk]
 rw[show decide (((w.length:Nat):Int)=0)=false by simp[d1],show(!false)=true from rfl,O1,b,oB,i]
 by_cases c:n+(w.length:Int)-1<=40/\es.length+w.length<=120
 ·rw[if_neg (by simp only[Bool.not_eq_true];simp;omega),show(0:Int)=((0:Nat):Int) from rfl,h,oB]
  rw[show(!w.isEmpty&&decide (n+(w.length:Int)-1<=40)&&decide (es.length+w.length<=120))=true by simp[d1,c.1,c.2]]
  simp only[List.drop_zero,cond_true]
  rw[o08 _ (by simp;omega),y0f d]
  rfl
 ·rw[show(!w.isEmpty&&decide (n+(w.length:Int)-1<=40)&&decide (es.length+w.length<=120))=false by
   rw[←Bool.not_eq_true];simp only[Bool.and_eq_true,decide_eq_true_eq,Bool.not_eq_true'];omega]
  rw[if_pos ?_]
  ·rfl
  ·by_cases d2:n+(w.length:Int)-1<=40
   ·have t : ¬ es.length+w.length<=120:=λh=>c ⟨d2,h⟩
    have:decide (((es.length:Nat):Int)+((w.length:Nat):Int)>120)=true:=by simp;omega
    rw[this];simp
   ·have:decide (n+((w.length:Nat):Int)-1>40)=true:=by simp;omega
    rw[this];simp
def ng(x:Int):Int:=IntKind.i64.wrap (0-x)
def inv(w:List Int):List Int:=(w.map ng).reverse
theorem U0q(w:List Int):(inv w).length=w.length:=by simp[inv]
def s0k(w:List Int):Prop:=∀ x∈w,I0 x
def q0b(l x:Int):Bool := !(l == 0) && !(l == -9223372036854775808)&&(x == ng l)
def S02(s:List Int)(x:Int):List Int:=match s with
 | []=>[x]
 |l::t=>bif q0b l x then t else x::l::t
def J07(s w:List Int):List Int:=w.foldl S02 s
def Red:List Int->Bool
 | []=>true
 | [_]=>true
 |x::l::t => !q0b l x&&Red (l::t)
theorem N0p(s a b:List Int):J07 s (a++b)=J07 (J07 s a) b:=List.foldl_append
theorem x0c(s:List Int)(x:Int):(S02 s x).length<=s.length+1:=by
 cases s with
 |nil=>simp[S02]
 |cons l t =>
  simp only[S02]
  cases q0b l x<;>simp<;>omega
theorem r0b:∀(w s:List Int),(J07 s w).length<=s.length+w.length
 | [],s=>by simp[J07]
 |x::w,s=>by
  have:=r0b w (S02 s x)
  have:=x0c s x
  simp only[J07,List.foldl_cons,List.length_cons]at *
  omega
theorem O0p{b:List Int}{x:Int}(h:s0k b)(c:I0 x):s0k (S02 b x):=by
 cases b with
 |nil=>intro y a;simp[S02]at a;subst a;exact c
 |cons l t =>
  simp only[S02]
  cases q0b l x with
  |true=>exact λy a=>h y (mC _ a)
  |false =>
   intro y a
   rcases List.mem_cons.1 a with rfl|a
   ·exact c
   ·exact h y a
theorem i0o{l x:Int}(b:I0 l)(c:I0 x):(!(x == 0)&&(l == ng x) && !(l == x))=q0b l x:=by
 unfold q0b ng
 have e:∀ {z:Int},I0 z->IntKind.i64.wrap (0-z)=if z = -9223372036854775808 then -9223372036854775808 else -z:=λ{z} a=>by
  split
  ·rename_i h;subst h;decide
  ·rw[w64 (by have:=a.1;have:=a.2;omega) (by have:=a.1;have:=a.2;omega)];omega
 rw[e b,e c]
 have d:=b.1
 have f:=b.2
 have g:=c.1
 have i:=c.2
 rw[Bool.eq_iff_iff]
 simp only[Bool.and_eq_true,Bool.not_eq_true',beq_iff_eq,beq_eq_false_iff_ne,ne_eq]
 split<;>split<;>omega
theorem G0f{l:Int}{t:List Int}:(l::t).reverse[t.length]?=some l:=by
 rw[List.reverse_cons,List.getElem?_append_right (by simp)]
 simp
theorem r0h(l:Int)(t:List Int):(l::t).reverse.take t.length=t.reverse:=by
 rw[List.reverse_cons,List.take_append_of_le_length (by simp),List.take_of_length_le (by simp)]
theorem A03(w:List Int)(hw:s0k w)(hl:w.length<=1099511627776):∀(d k fuel:Nat) (s:List Int),k+d=w.length->d<fuel->s0k s->s.length<=k ->
  i4 w fuel (k:Int) s.reverse=some (J07 s (w.drop k)).reverse
 |d,k,0,s,hk,hf,hs,hsl=>by omega
 |0,k,fuel+1,s,hk,hf,hs,hsl=>by
  rw[i4.eq_2,if_neg (by simp;omega),J1 (by omega)]
  rfl
 |d+1,k,fuel+1,s,hk,hf,hs,hsl=>by
  have hkl:k<w.length:=by omega
  have hx:=L5 hkl
  have hx64:=hw _ (List.mem_of_getElem? hx)
  generalize w[k]=x at hx hx64
  have next:=A03 w hw hl d (k+1) fuel (S02 s x) (by omega) (by omega) (O0p hs hx64) (by have:=x0c s x;omega)
  rw[N1 hx]
  show _=some (J07 (S02 s x) (w.drop (k+1))).reverse
  rw[←next,i4.eq_2,if_pos (by simp;omega),oB,H0 (by rw[List.length_reverse];omega),oB]
  rw[A2 hkl (by omega:w.length<=9223372036854775807)]
  have e0:decide (x=0)=(x == 0):=by rw[Bool.eq_iff_iff];simp
  cases s with
  |nil =>
   have hz:decide ((((([]:List Int).reverse).length:Nat):Int)>0)=false:=rfl
   simp only[hz,Y2,oB,cond_false,Bool.false_eq_true,if_false,P2 hx]
   rw[H0 (by simp)]
   rfl
  |cons l t =>
   have hl64:=hs l mS
   have hp:decide ((((l::t).reverse.length:Nat):Int)>0)=true:=by simp
   have hpr:IntKind.i64.wrap ((((l::t).reverse.length:Nat):Int)-1)=((t.length:Nat):Int):=by
    rw[X0e (by simp) (by simp only[List.length_reverse,List.length_cons]at *;omega)];simp
   have hc:=i0o hl64 hx64
   have e1:decide (l=IntKind.i64.wrap (0-x))=(l == ng x):=by rw[Bool.eq_iff_iff];simp[ng]
   have e2:decide (l=x)=(l == x):=by rw[Bool.eq_iff_iff];simp
   have hpush:(grd (((l::t).reverse.length + [x].length)*8<=140737488355328))=some ():=H0 (by simp only[List.length_cons]at hsl;simp only[List.length_reverse,List.length_cons,List.length_nil];omega)
   simp only[hp,hpr,O1,oB,cond_true,P2 hx,P2 G0f,e0,S02]
   cases h0:(x == 0)with
   |true =>
    rw[h0]at hc
    simp only[Bool.not_true,Bool.false_and]at hc
    simp only[←hc,Bool.not_true,Y2,cond_false,oB,Bool.false_eq_true,if_false,hpush]
    exact congrArg _ (List.reverse_cons ..).symm
   |false =>
    rw[h0]at hc
    simp only[Bool.not_false,Bool.true_and]at hc
    simp only[Bool.not_false,O1,cond_true,oB,e1]
    cases h1:(l == ng x)with
    |false =>
     rw[h1]at hc
     simp only[Bool.false_and]at hc
     simp only[←hc,Y2,cond_false,oB,Bool.false_eq_true,if_false,hpush]
     exact congrArg _ (List.reverse_cons ..).symm
    |true =>
     rw[h1]at hc
     simp only[Bool.true_and]at hc
     simp only[O1,cond_true,oB,e2]
     cases h2:(l == x)with
     |true =>
      rw[h2]at hc
      simp only[Bool.not_true]at hc
      simp only[←hc,Bool.not_true,Bool.false_eq_true,if_false,cond_false,oB,hpush]
      exact congrArg _ (List.reverse_cons ..).symm
     |false =>
      rw[h2]at hc
      simp only[Bool.not_false]at hc
      simp only[←hc,Bool.not_false,if_true,cond_true]
      rw[H0 (by simp only[List.length_reverse,List.length_cons]at *;omega),oB,Int.toNat_natCast,r0h]
theorem T02(w:List Int)(b:s0k w)(a:w.length<=1099511627776):L6 w=some (J07 [] w).reverse:=by
 unfold L6
 have h:=A03 w b a w.length 0 U0 [] (by omega) (D1 (by omega)) (λx c=>by cases c) (by simp)
 rw[show((0:Nat):Int)=0 from rfl,List.drop_zero,List.reverse_nil]at h
 rw[h,oB,H0 (by have:=r0b w [];simp only[List.length_reverse,List.length_nil]at *;omega),oB,List.nil_append]
end Go.Proofs.YtkjhghloldgioaaGreat
