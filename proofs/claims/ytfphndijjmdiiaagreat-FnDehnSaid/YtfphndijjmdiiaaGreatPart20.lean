/- Texts of the claim, joined: Plain laws: words and presentations, as the spec and the cod and others. -/
import Derived.Test.YtfphndijjmdiiaaGreatPart18
import Derived.Test.YtfphndijjmdiiaaGreatH33
import Derived.Test.YtfphndijjmdiiaaGreatH36
import Derived.Test.YtfphndijjmdiiaaGreatPart17
namespace Go.Proofs.YtfphndijjmdiiaaGreat
open Go.H
set_option linter.unusedVariables false
set_option linter.unusedSimpArgs false
theorem N1{n:Nat}(h:n<=140737488355328):n<W0:=by unfold W0;omega
theorem S0{p:Prop}[Decidable p](h:p):grd p=some ():=by unfold grd;rw[if_pos h]
theorem I2{a:Type}(o:Option a)(d:a):chk true o d=o:=rfl
theorem Z3{a:Type}(o:Option a)(d:a):chk false o d=some d:=rfl
theorem E3{a:Type}{xs:List a}{k:Nat}{x:a}(h:xs[k]?=some x):gi xs (k:Int)=some x:=by rw[t0q];exact h
theorem g0j{a:Type}{xs:List a}{x:a}(h:xs[0]?=some x):gi xs 0=some x:=E3 (k:=0) h
theorem o0f{x:Int}(h:H0 x)(a:x ≠ -9223372036854775808):IntKind.i64.wrap (0-x) = -x:=by rw[w64 (by have:=h.1;have:=h.2;omega) (by have:=h.1;have:=h.2;omega)];omega
theorem p0f{n:Nat}(h:0<n)(a:n<=9223372036854775807):IntKind.i64.wrap ((n:Int)-1)=((n-1:Nat):Int):=by rw[w64 (by omega) (by omega)];omega
theorem w5{a:Type}{xs:List a}{k:Nat}(h:k<xs.length):xs[k]?=some xs[k]:=List.getElem?_eq_getElem h
def inR(b a x:Int):Bool:=decide (b<=x)&&decide (x<=a)
def w05(b a:Int)(w:List Int)(i:Nat):Bool :=
 match w[i]? with
 |none=>true
 |some x=>x == 0 || !inR b a x || (decide (0<i)&&match w[i-1]? with
  |none=>true
  |some y=>x == IntKind.i64.wrap (0-y))
def z03(b a:Int)(w:List Int):Nat->Nat->Bool
 |0,_=>true
 |d+1,k => !w05 b a w k&&z03 b a w d (k+1)
def L3(r:Int)(w:List Int):Bool:=inR 1 3 r&&decide (w.length<=24)&&z03 (-r) r w w.length 0
theorem A03(a b c:Int):j5 a b c=some (inR b c a):=by
 unfold j5 inR
 by_cases h:b<=a<;>simp[h]
theorem U0a(a b c:Int):E00 a b c=some (inR b c a):=A03 a b c
theorem j06(r:Int)(w:List Int)(n:w.length<=140737488355328):∀(d k fuel:Nat),k+d=w.length->d<fuel ->
  F8 w r fuel (k:Int)=some (bif z03 (IntKind.i64.wrap (0-r)) r w d k then .inr ()else .inl false)
 |d,k,0,j,hf=>by omega
 |0,k,fuel+1,j,hf=>by
  rw[F8.eq_2,if_neg (by simp;omega)]
  simp[z03]
 |d+1,k,fuel+1,j,hf=>by
  have l:k<w.length:=by omega
  have a:=w5 l
  generalize w[k]=x at a
  have next:=j06 r w n d (k+1) fuel (by omega) (by omega)
  rw[F8.eq_2,if_pos (by simp;omega)]
  generalize IntKind.i64.wrap (0-r)=lo at next ⊢
  simp only[E3 a,oB,A03,Z2 l (by omega:w.length<=9223372036854775807),next]
  have m:w05 lo r w k=(x == 0 || !inR lo r x || (decide (0<k)&&match w[k-1]? with
   |none=>true
   |some y=>x == IntKind.i64.wrap (0-y))):=by unfold w05;rw[a]
  simp only[z03,m]
  by_cases h0:x=0
  ·simp[h0,chk]
  have f:decide (x=0)=false:=by simpa using h0
  have b:(x == 0)=false:=by simpa using h0
  cases hin:inR lo r x with
  |false=>simp[f,b,hin,chk]
  |true =>
   by_cases hk0:k=0
   ·have h:decide ((k:Int)>0)=false:=by simp;omega
    have e:decide (0<k)=false:=by simp;omega
    simp only[f,b,hin,h,e,I2,Z3,Bool.not_true,Bool.not_false,Bool.and_true,Bool.false_and,Bool.or_self,Bool.true_and,cond_true,cond_false,oB,Bool.or_false,Bool.and_false,Bool.false_eq_true,if_false,cond_true,cond_false]
   ·have i:=w5 (show k-1<w.length by omega)
    generalize w[k-1]=y at i
    have o:IntKind.i64.wrap ((k:Int)-1)=((k-1:Nat):Int):=p0f (by omega) (by omega)
    have h:decide ((k:Int)>0)=true:=by simp;omega
    have e:decide (0<k)=true:=by simp;omega
    simp only[f,b,hin,h,e,o,i,E3 a,E3 i,I2,Z3,Bool.not_true,Bool.not_false,Bool.and_true,Bool.false_and,Bool.or_self,Bool.true_and,cond_true,cond_false,oB,Bool.or_false,Bool.and_false,Bool.false_or]
    by_cases hxy:x=IntKind.i64.wrap (0-y)
    ·have g:decide (x=IntKind.i64.wrap (0-y))=true:=by simpa using hxy
     have c:(x == IntKind.i64.wrap (0-y))=true:=by simpa using hxy
     simp only[g,c,if_true,Bool.not_true,Bool.false_and,Bool.false_eq_true,if_false,cond_true,cond_false]
    ·have g:decide (x=IntKind.i64.wrap (0-y))=false:=by simpa using hxy
     have c:(x == IntKind.i64.wrap (0-y))=false:=by simpa using hxy
     simp only[g,c,Bool.false_eq_true,if_false,Bool.not_false,Bool.true_and]
theorem g03(r:Int)(w:List Int)(a:w.length<=140737488355328):T8 r w=some (L3 r w):=by
 unfold T8
 have h:=j06 r w a w.length 0 W0 (by omega) (N1 a)
 rw[show((0:Nat):Int)=0 from rfl]at h
 rw[h,A03]
 unfold L3
 by_cases hr:inR 1 3 r=true
 ·have:IntKind.i64.wrap (0-r) = -r:=by
   simp only[inR,Bool.and_eq_true,decide_eq_true_eq]at hr
   rw[w64 (by omega) (by omega)];omega
  rw[this,hr]
  cases z03 (-r) r w w.length 0<;>simp[p7]<;>omega
 ·simp only[Bool.not_eq_true]at hr
  rw[hr]
  cases z03 (IntKind.i64.wrap (0-r)) r w w.length 0<;>simp[p7]
theorem C0m(r x:Int)(b:inR 1 3 r=true):i01 r x=some (!(x == 0)&&inR (-r) r x):=by
 have a:IntKind.i64.wrap (0-r) = -r:=by
  simp only[inR,Bool.and_eq_true,decide_eq_true_eq]at b
  rw[w64 (by omega) (by omega)];omega
 unfold i01
 rw[a,U0a]
 by_cases h0:x=0
 ·simp[h0,chk]
 ·simp[h0,chk]
theorem W06(y x:Int):g8 y x=some (!(y == 0) && !(y == -9223372036854775808)&&(x == IntKind.i64.wrap (0-y))):=by
 unfold g8
 by_cases h0:y=0
 ·simp[h0]
 ·by_cases h1:y = -9223372036854775808
  ·simp[h1]
  ·simp only[h0,h1,decide_false,Bool.not_false,cond_true,Option.some.injEq]
   have a:(y == 0)=false:=by simpa using h0
   have b:(y == -9223372036854775808)=false:=by simpa using h1
   rw[a,b]
   rfl
theorem k06(r:Int)(w:List Int)(hr:inR 1 3 r=true)(hl:w.length<=140737488355328):∀(d k fuel:Nat),k+d=w.length->d<fuel ->
  (∀ i,i<k->w05 (-r) r w i=false) ->
  G8 w r fuel (k:Int)=some (bif z03 (-r) r w d k then .inr ()else .inl false)
 |d,k,0,hk,hf,hp=>by omega
 |0,k,fuel+1,hk,hf,hp=>by
  rw[G8.eq_2,if_neg (by simp;omega)]
  simp[z03]
 |d+1,k,fuel+1,hk,hf,hp=>by
  have hkl:k<w.length:=by omega
  have hx:=w5 hkl
  generalize w[k]=x at hx
  have next:=λ(hb:w05 (-r) r w k=false)=>k06 r w hr hl d (k+1) fuel (by omega) (by omega) (λi hi=>by
   by_cases e:i=k
   ·subst e;exact hb
   ·exact hp i (by omega))
  rw[G8.eq_2,if_pos (by simp;omega)]
  rw[E3 hx,oB,C0m r x hr,Z2 hkl (by omega:w.length<=9223372036854775807)]
  have hbad:w05 (-r) r w k=(x == 0 || !inR (-r) r x || (decide (0<k)&&match w[k-1]? with
   |none=>true
   |some y=>x == IntKind.i64.wrap (0-y))):=by unfold w05;rw[hx]
  simp only[z03]
  by_cases h0:x=0
  ·simp[h0,chk,hbad]
  have b0:(x == 0)=false:=by simpa using h0
  cases hin:inR (-r) r x with
  |false=>simp[b0,hin,chk,hbad]
  |true =>
   by_cases hk0:k=0
   ·have hb:w05 (-r) r w k=false:=by rw[hbad];simp[h0,hin,hk0]
    rw[next hb,hb]
    have ek:decide ((k:Int)>0)=false:=by simp;omega
    simp only[b0,ek,I2,Z3,Bool.not_true,Bool.not_false,Bool.and_true,Bool.false_and,Bool.or_self,Bool.true_and,cond_true,cond_false,oB,Bool.or_false,Bool.and_false,Bool.false_eq_true,if_false,cond_true,cond_false]
   ·have hy:=w5 (show k-1<w.length by omega)
    have hpy:=hp (k-1) (by omega)
    generalize w[k-1]=y at hy
    have hy0:y≠0/\y ≠ -9223372036854775808:=by
     unfold w05 at hpy
     rw[hy]at hpy
     simp only[Bool.or_eq_false_iff,Bool.not_eq_false']at hpy
     have h1:=hpy.1.2
     simp only[inR,Bool.and_eq_true,decide_eq_true_eq]at h1 hr
     exact⟨by simpa using hpy.1.1,by omega⟩
    have b2:(y == 0)=false:=by simpa using hy0.1
    have b3:(y == -9223372036854775808)=false:=by simpa using hy0.2
    have hpr:IntKind.i64.wrap ((k:Int)-1)=((k-1:Nat):Int):=p0f (by omega) (by omega)
    have ek:decide ((k:Int)>0)=true:=by simp;omega
    have bk:decide (0<k)=true:=by simp;omega
    simp only[b0,ek,hpr,E3 hy,W06,b2,b3,I2,Z3,Bool.not_true,Bool.not_false,Bool.and_true,Bool.false_and,Bool.or_self,Bool.true_and,cond_true,cond_false,oB,Bool.or_false,Bool.and_false,Bool.false_or]
    cases b1:(x == IntKind.i64.wrap (0-y))with
    |true =>
     have hb:w05 (-r) r w k=true:=by rw[hbad,hy,bk,b0,hin];exact b1
     simp only[hb,if_true,Bool.not_true,Bool.false_and,Bool.false_eq_true,if_false,cond_true,cond_false]
    |false =>
     have hb:w05 (-r) r w k=false:=by rw[hbad,hy,bk,b0,hin];exact b1
     simp only[hb,next hb,Bool.false_eq_true,if_false,Bool.not_false,Bool.true_and]
theorem h0j(r:Int)(w:List Int)(b:w.length<=140737488355328):m02 r w=some (L3 r w):=by
 unfold m02
 rw[U0a]
 unfold L3
 cases hr:inR 1 3 r with
 |false=>simp
 |true =>
  by_cases h24:w.length<=24
  ·have h:=k06 r w hr b w.length 0 W0 (by omega) (N1 b) (λi c=>by omega)
   rw[show((0:Nat):Int)=0 from rfl]at h
   have a : ¬ (24:Int)<(w.length:Int):=by omega
   simp only[oB,h,a]
   cases z03 (-r) r w w.length 0<;>simp[p7,h24]
  ·have a:(24:Int)<(w.length:Int):=by omega
   simp[h24,a]
def tot:List (List Int)->Nat
 | []=>0
 |w::r=>w.length+tot r
theorem V1{a:Type}{xs:List a}{k:Nat}{x:a}(h:xs[k]?=some x):xs.drop k=x::xs.drop (k+1):=by
 obtain⟨b,rfl⟩:=List.getElem?_eq_some_iff.1 h
 exact List.drop_eq_getElem_cons b
theorem M1{a:Type}{xs:List a}{k:Nat}(h:k=xs.length):xs.drop k = []:=by rw[h];exact List.drop_length
theorem r03(b:List (List Int))(h:b.length<=140737488355328):∀(d k fuel a:Nat),k+d=b.length->d<fuel->a+tot (b.drop k)<=9223372036854775807 ->
  F4 b fuel (a:Int) (k:Int)=some ((a+tot (b.drop k):Nat):Int)
 |d,k,0,a,f,hf,c=>by omega
 |0,k,fuel+1,a,f,hf,c=>by
  rw[F4.eq_2,if_neg (by simp;omega),M1 (by omega)]
  rfl
 |d+1,k,fuel+1,a,f,hf,c=>by
  have g:k<b.length:=by omega
  have e:=w5 g
  generalize b[k]=x at e
  rw[V1 e]at c ⊢
  simp only[tot]at c ⊢
  rw[F4.eq_2,if_pos (by simp;omega),E3 e,oB,Z2 g (by omega:b.length<=9223372036854775807),
   show IntKind.i64.wrap ((a:Int)+((x.length:Nat):Int))=((a+x.length:Nat):Int) by rw[w64 (by omega) (by omega)];omega,
   r03 b h d (k+1) fuel (a+x.length) (by omega) (by omega) (by omega)]
  rw[Nat.add_assoc]
theorem x05(a:List (List Int))(b:a.length<=140737488355328)(c:tot a<=9223372036854775807):O8 a=some ((tot a:Nat):Int):=by
 unfold O8
 have h:=r03 a b a.length 0 W0 0 (by omega) (N1 b) (by simpa using c)
 rw[show((0:Nat):Int)=0 from rfl]at h
 rw[h]
 simp
theorem O02(b:List (List Int)):∀(fuel:Nat) (a k:Int),r6 b fuel a k=F4 b fuel a k
 |0,a,k=>rfl
 |fuel+1,a,k=>by
  rw[r6.eq_2,F4.eq_2]
  simp only[O02 b fuel]
theorem V0a(a:List (List Int))(b:a.length<=140737488355328)(c:tot a<=9223372036854775807):Q9 a=some ((tot a:Nat):Int):=by
 rw[←x05 a b c]
 unfold Q9 O8
 rw[O02]
def w07(r:Int):List (List Int)->Bool
 | []=>true
 |w::l=>L3 r w&&w07 r l
def U3(r:Int)(a:List (List Int)):Bool:=inR 1 3 r&&decide (a.length<=6)&&w07 r a&&decide (tot a<40)
theorem q0f{r:Int}:∀ {a:List (List Int)},w07 r a=true->tot a<=24*a.length
 | [],_=>by simp[tot]
 |w::l,h=>by
  simp only[w07,Bool.and_eq_true]at h
  have b:=h.1
  simp only[L3,Bool.and_eq_true,decide_eq_true_eq]at b
  have:=q0f h.2
  simp only[tot,List.length_cons]
  omega
def Y2(a:List (List Int)):Prop:=∀ w∈a,w.length<=140737488355328
theorem W04(r:Int)(a:List (List Int))(h:a.length<=140737488355328)(f:Y2 a):∀(d k fuel:Nat),k+d=a.length->d<fuel ->
  V6 a r fuel (k:Int)=some (bif w07 r (a.drop k)then .inr ()else .inl false)
 |d,k,0,c,hf=>by omega
 |0,k,fuel+1,c,hf=>by
  rw[V6.eq_2,if_neg (by simp;omega),M1 (by omega)]
  rfl
 |d+1,k,fuel+1,c,hf=>by
  have e:k<a.length:=by omega
  have b:=w5 e
  have g:=f _ (List.mem_of_getElem? b)
  generalize a[k]=x at b g
  rw[V1 b,V6.eq_2,if_pos (by simp;omega),E3 b,oB,g03 r x g,oB,Z2 e (by omega:a.length<=9223372036854775807),
   W04 r a h f d (k+1) fuel (by omega) (by omega)]
  simp only[w07]
  cases L3 r x<;>simp
theorem e08(r:Int)(a:List (List Int))(d:a.length<=140737488355328)(e:Y2 a):j00 r a=some (U3 r a):=by
 unfold j00
 have h:=W04 r a d e a.length 0 W0 (by omega) (N1 d)
 rw[show((0:Nat):Int)=0 from rfl,List.drop_zero]at h
 rw[h,oB]
 unfold U3
 cases ha:w07 r a with
 |false=>simp[p7]
 |true =>
  rw[cond_true,Z0,A03,oB]
  have:=q0f ha
  cases hr:inR 1 3 r with
  |false=>simp[chk,grd,H0]
  |true =>
   by_cases h6:a.length<=6
   ·rw[x05 a d (by omega)]
    have b:decide (((a.length:Nat):Int)<=6)=true:=by simp;omega
    have c:decide (a.length<=6)=true:=by simpa using h6
    rw[b,c,cond_true,I2,oB,S0 (by constructor<;>omega)]
    simp
    omega
   ·have b:decide (((a.length:Nat):Int)<=6)=false:=by simp;omega
    have c:decide (a.length<=6)=false:=by simpa using h6
    rw[b,c]
    simp[chk,grd,H0]
theorem X04(r:Int)(a:List (List Int))(h:a.length<=140737488355328)(f:Y2 a):∀(d k fuel:Nat),k+d=a.length->d<fuel ->
  W6 a r fuel (k:Int)=some (bif w07 r (a.drop k)then .inr ()else .inl false)
 |d,k,0,c,hf=>by omega
 |0,k,fuel+1,c,hf=>by
  rw[W6.eq_2,if_neg (by simp;omega),M1 (by omega)]
  rfl
 |d+1,k,fuel+1,c,hf=>by
  have e:k<a.length:=by omega
  have b:=w5 e
  have g:=f _ (List.mem_of_getElem? b)
  generalize a[k]=x at b g
  rw[V1 b,W6.eq_2,if_pos (by simp;omega),E3 b,oB,h0j r x g,oB,Z2 e (by omega:a.length<=9223372036854775807),
   X04 r a h f d (k+1) fuel (by omega) (by omega)]
  simp only[w07]
  cases L3 r x<;>simp
theorem r0f(r:Int)(a:List (List Int))(d:a.length<=140737488355328)(e:Y2 a):j01 r a=some (U3 r a):=by
 unfold j01
 rw[U0a,oB]
 unfold U3
 cases hr:inR 1 3 r with
 |false=>simp
 |true =>
  by_cases h6:a.length<=6
  ·have b:decide (((a.length:Nat):Int)>6)=false:=by simp;omega
   have c:decide (a.length<=6)=true:=by simpa using h6
   have h:=X04 r a d e a.length 0 W0 (by omega) (N1 d)
   rw[show((0:Nat):Int)=0 from rfl,List.drop_zero]at h
   rw[b,c,h,oB]
   cases ha:w07 r a with
   |false=>simp[p7]
   |true =>
    have:=q0f ha
    simp only[cond_true,Z0,V0a a d (by omega),oB,S0 (show H0 ((tot a:Nat):Int) by constructor<;>omega)]
    simp
    omega
  ·have b:decide (((a.length:Nat):Int)>6)=true:=by simp;omega
   have c:decide (a.length<=6)=false:=by simpa using h6
   rw[b,c]
   simp
def cyc(w:List Int):Bool:=match w[0]?,w[w.length-1]? with
 |some x,some y => !(x == IntKind.i64.wrap (0-y))
 |_,_=>false
def U09:List (List Int)->Bool
 | []=>true
 |w::l=>cyc w&&U09 l
def O1(x:l0):Bool:=U3 x.1 x.2&&U09 x.2
theorem n02(c:List (List Int))(n:c.length<=140737488355328)(l:Y2 c):∀(d k fuel:Nat),k+d=c.length->d<fuel ->
  S4 c fuel (k:Int)=some (bif U09 (c.drop k)then .inr ()else .inl false)
 |d,k,0,i,hf=>by omega
 |0,k,fuel+1,i,hf=>by
  rw[S4.eq_2,if_neg (by simp;omega),M1 (by omega)]
  rfl
 |d+1,k,fuel+1,i,hf=>by
  have j:k<c.length:=by omega
  have e:=w5 j
  have o:=l _ (List.mem_of_getElem? e)
  generalize c[k]=x at e o
  rw[V1 e,S4.eq_2,if_pos (by simp;omega),E3 e,oB,Z2 j (by omega:c.length<=9223372036854775807),
   n02 c n l d (k+1) fuel (by omega) (by omega)]
  simp only[U09]
  by_cases h0:x.length=0
  ·have:x = []:=List.length_eq_zero_iff.1 h0
   subst this
   simp[chk,cyc]
  ·have m:decide (((x.length:Nat):Int)=0)=false:=by simpa using h0
   have f:=w5 (show 0<x.length by omega)
   have g:=w5 (show x.length-1<x.length by omega)
   have h:cyc x = !(x[0] == IntKind.i64.wrap (0-x[x.length-1])):=by unfold cyc;rw[f,g]
   generalize x[0]=a at f h
   generalize x[x.length-1]=b at g h
   rw[m,p0f (by omega) (by omega),g0j f,E3 g,h]
   simp only[Bool.not_false,I2,oB,cond_false]
   cases hab:(a == IntKind.i64.wrap (0-b))with
   |true=>rw[if_pos (by simpa using hab)];rfl
   |false=>rw[if_neg (by simpa using hab)];simp
theorem d4(x:l0)(b:x.2.length<=140737488355328)(c:Y2 x.2):W2 x=some (O1 x):=by
 obtain⟨r,a⟩:=x
 unfold W2
 have h:=n02 a b c a.length 0 W0 (by omega) (N1 b)
 rw[show((0:Nat):Int)=0 from rfl,List.drop_zero]at h
 simp only[h,oB,e08 r a b c,O1]
 cases U09 a<;>simp[p7]
theorem q0c{b a:Int}{w:List Int}:∀ {d k:Nat},z03 b a w d k=true->∀ i,k<=i->i<k+d->w05 b a w i=false
 |0,k,h,i,c,f=>by omega
 |d+1,k,h,i,c,f=>by
  simp only[z03,Bool.and_eq_true,Bool.not_eq_true']at h
  by_cases e:i=k
  ·subst e;exact h.1
  ·exact q0c h.2 i (by omega) (by omega)
theorem S03{r:Int}{w:List Int}(h:L3 r w=true){i:Nat}{x:Int}(d:w[i]?=some x):(1<=r/\r<=3)/\w.length<=24/\x≠0 /\ -r<=x/\x<=r:=by
 simp only[L3,Bool.and_eq_true,decide_eq_true_eq]at h
 have c:=h.1.1
 simp only[inR,Bool.and_eq_true,decide_eq_true_eq]at c
 have a:=q0c h.2 i (Nat.zero_le _) (by have:=(List.getElem?_eq_some_iff.1 d).1;omega)
 unfold w05 at a
 rw[d]at a
 simp only[Bool.or_eq_false_iff,Bool.not_eq_false']at a
 have b:=a.1.2
 simp only[inR,Bool.and_eq_true,decide_eq_true_eq]at b
 exact⟨c,h.1.2,by simpa using a.1.1,b⟩
theorem o02(c:List (List Int))(t:c.length<=140737488355328)(o:Y2 c)(r:Int)(s:inR 1 3 r=true):∀(d k fuel:Nat),k+d=c.length->d<fuel->w07 r (c.drop k)=true ->
  T4 c fuel (k:Int)=some (bif U09 (c.drop k)then .inr ()else .inl false)
 |d,k,0,m,hf,e=>by omega
 |0,k,fuel+1,m,hf,e=>by
  rw[T4.eq_2,if_neg (by simp;omega),M1 (by omega)]
  rfl
 |d+1,k,fuel+1,m,hf,e=>by
  have n:k<c.length:=by omega
  have h:=w5 n
  have u:=o _ (List.mem_of_getElem? h)
  generalize c[k]=x at h u
  rw[V1 h]at e ⊢
  simp only[w07,Bool.and_eq_true]at e
  rw[T4.eq_2,if_pos (by simp;omega),E3 h,oB,Z2 n (by omega:c.length<=9223372036854775807),
   o02 c t o r s d (k+1) fuel (by omega) (by omega) e.2]
  simp only[U09]
  by_cases h0:x.length=0
  ·have:x = []:=List.length_eq_zero_iff.1 h0
   subst this
   simp[chk,cyc]
  ·have q:decide (((x.length:Nat):Int)=0)=false:=by simpa using h0
   have f:=w5 (show 0<x.length by omega)
   have g:=w5 (show x.length-1<x.length by omega)
   have l:cyc x = !(x[0] == IntKind.i64.wrap (0-x[x.length-1])):=by unfold cyc;rw[f,g]
   generalize x[0]=a at f l
   generalize x[x.length-1]=b at g l
   obtain⟨F,_,p,A,B⟩:=S03 e.1 f
   obtain⟨_,_,C,D,E⟩:=S03 e.1 g
   have v:IntKind.i64.wrap (0-a) = -a:=by rw[w64 (by omega) (by omega)];omega
   have w:IntKind.i64.wrap (0-b) = -b:=by rw[w64 (by omega) (by omega)];omega
   rw[q,p0f (by omega) (by omega),g0j f,E3 g,l]
   simp only[Bool.not_false,I2,oB,cond_false,W06,v,w]
   have y:(a == 0)=false:=by simpa using p
   have z:(a == -9223372036854775808)=false:=by simp;omega
   rw[y,z]
   simp only[Bool.not_false,Bool.true_and]
   by_cases hab:a = -b
   ·have i:(b == -a)=true:=by simp;omega
    have j:(a == -b)=true:=by simp;omega
    rw[i,j];rfl
   ·have i:(b == -a)=false:=by simp;omega
    have j:(a == -b)=false:=by simp;omega
    rw[i,j];simp
theorem t00(x:l0)(b:x.2.length<=140737488355328)(c:Y2 x.2):B5 x=some (O1 x):=by
 obtain⟨r,a⟩:=x
 unfold B5
 simp only[r0f r a b c,O1,oB]
 cases ha:U3 r a with
 |false=>simp
 |true =>
  simp only[U3,Bool.and_eq_true]at ha
  have h:=o02 a b c r ha.1.1.1 a.length 0 W0 (by omega) (N1 b) (by rw[List.drop_zero];exact ha.1.2)
  rw[show((0:Nat):Int)=0 from rfl,List.drop_zero]at h
  rw[h]
  cases U09 a<;>simp[p7]
def X06(r a:Int)(e:Q0):Bool:=inR 0 a e.1&&inR 0 a e.2.2&&inR 1 r e.2.1
def i0j(e f:Q0):Int:=P0 e f
theorem P0k(e f:Q0):i0j e f=if t9 e.1 f.1≠0 then t9 e.1 f.1 else if t9 e.2.1 f.2.1≠0 then t9 e.2.1 f.2.1 else t9 e.2.2 f.2.2:=rfl
theorem Y06(a b:Int):(a<b/\t9 a b = -1)∨(a>b/\t9 a b=1)∨(a=b/\t9 a b=0):=by
 unfold t9
 split
 ·omega
 ·split<;>omega
theorem j0j(e f:Q0):H0 (i0j e f):=by
 rw[P0k]
 split
 ·exact U06 _ _
 ·split<;>exact U06 _ _
theorem Q0k(g:j0)(e:Q0):v01 g e=some (X06 g.1 (IntKind.i64.wrap (g.2.1-1)) e):=by
 obtain⟨r,n,es⟩:=g
 obtain⟨a,l,b⟩:=e
 unfold v01 X06
 simp only[A03,oB]
 cases inR 0 (IntKind.i64.wrap (n-1)) a with
 |false=>rfl
 |true =>
  cases inR 0 (IntKind.i64.wrap (n-1)) b with
  |false=>rfl
  |true=>simp[chk]
theorem B02(e f:Q0):w8 e f=some (i0j e f):=by
 obtain⟨a,l,b⟩:=e
 obtain⟨g,j,i⟩:=f
 unfold w8
 rw[show W0=(W0-4)+1+1+1+1 from rfl]
 have s:IntKind.i64.wrap (0+1)=1:=by decide
 have t:IntKind.i64.wrap (1+1)=2:=by decide
 have u:IntKind.i64.wrap (2+1)=3:=by decide
 have o:∀ x y z:Int,gi [x,y,z] 0=some x:=λ_ _ _=>rfl
 have p:∀ x y z:Int,gi [x,y,z] 1=some y:=λ_ _ _=>rfl
 have q:∀ x y z:Int,gi [x,y,z] 2=some z:=λ_ _ _=>rfl
 have d0:decide ((0:Int)<3)=true:=rfl
 have k:decide ((1:Int)<3)=true:=rfl
 have m:decide ((2:Int)<3)=true:=rfl
 have n:decide ((3:Int)<3)=false:=rfl
 simp only[l7.eq_2,s,t,u,o,p,q,d0,k,m,n,if_true,oB,Bool.false_eq_true,if_false]
 rw[P0k]
 simp only
 rcases Y06 a g with⟨h,e⟩|⟨h,e⟩|⟨h,e⟩
 ·simp[e,h,p7]
 ·have : ¬ a<g:=by omega
  simp[e,h,this,p7]
 ·subst h
  rcases Y06 l j with⟨h,c⟩|⟨h,c⟩|⟨h,c⟩
  ·simp[e,c,h,p7]
  ·have : ¬ l<j:=by omega
   simp[e,c,h,this,p7]
  ·subst h
   rcases Y06 b i with⟨h,d⟩|⟨h,d⟩|⟨h,d⟩
   ·simp[e,c,d,h,p7]
   ·have : ¬ b<i:=by omega
    simp[e,c,d,h,this,p7]
   ·subst h
    simp[e,c,d,p7]
def C0q(r a:Int)(es:List Q0)(k:Nat):Bool:=match es[k]? with
 |none=>true
 |some e => !X06 r a e || (decide (0<k)&&match es[k-1]? with
  |none=>true
  |some f=>decide (i0j f e ≥ 0))
def okE(r a:Int)(es:List Q0):Nat->Nat->Bool
 |0,_=>true
 |d+1,k => !C0q r a es k&&okE r a es d (k+1)
def F1(g:j0):Bool:=okE g.1 (IntKind.i64.wrap (g.2.1-1)) g.2.2 g.2.2.length 0&&inR 1 3 g.1&&inR 1 40 g.2.1&&decide (g.2.2.length<=120)
theorem l0e{r a:Int}{es:List Q0}{k:Nat}{e:Q0}(b:es[k]?=some e):C0q r a es k=(!X06 r a e || (decide (0<k)&&match es[k-1]? with
  |none=>true
  |some f=>decide (i0j f e ≥ 0))):=by unfold C0q;rw[b]
theorem y05(r n:Int)(es:List Q0)(q:es.length<=140737488355328):∀(d k fuel:Nat),k+d=es.length->d<fuel ->
  G7 es r n fuel (k:Int)=some (bif okE r (IntKind.i64.wrap (n-1)) es d k then .inr ()else .inl false)
 |d,k,0,l,hf=>by omega
 |0,k,fuel+1,l,hf=>by
  rw[G7.eq_2,if_neg (by simp;omega)]
  simp[okE]
 |d+1,k,fuel+1,l,hf=>by
  have m:k<es.length:=by omega
  have a:=w5 m
  generalize es[k]=e at a
  obtain⟨h,i,j⟩:=e
  have next:=y05 r n es q d (k+1) fuel (by omega) (by omega)
  rw[G7.eq_2,if_pos (by simp;omega),E3 a,oB]
  simp only[Q0k,oB,Z2 m (by omega:es.length<=9223372036854775807),next,okE,l0e a]
  generalize IntKind.i64.wrap (n-1)=hi
  cases hin:X06 r hi (h,i,j)with
  |false=>simp[chk,grd,H0]
  |true =>
   by_cases hk0:k=0
   ·have c:decide ((k:Int)>0)=false:=by simp;omega
    have b:decide (0<k)=false:=by simp;omega
    simp only[c,b,Z3,Bool.not_true,Bool.not_false,Bool.and_true,Bool.false_and,Bool.or_self,Bool.true_and,cond_true,cond_false,oB,Bool.or_false,Bool.false_eq_true,if_false,S0 (show H0 0 by decide)]
   ·have g:=w5 (show k-1<es.length by omega)
    generalize es[k-1]=f at g
    obtain⟨o,p,f2⟩:=f
    have s:IntKind.i64.wrap ((k:Int)-1)=((k-1:Nat):Int):=p0f (by omega) (by omega)
    have c:decide ((k:Int)>0)=true:=by simp;omega
    have b:decide (0<k)=true:=by simp;omega
    simp only[c,b,s,g,E3 a,E3 g,I2,Bool.not_true,Bool.not_false,Bool.and_true,Bool.false_and,Bool.or_self,Bool.true_and,cond_true,cond_false,oB,Bool.or_false,Bool.false_or,B02,S0 (j0j _ _)]
    cases decide (i0j (o,p,f2) (h,i,j) ≥ 0)<;>rfl
theorem r7(g:j0)(a:g.2.2.length<=140737488355328):K4 g=some (F1 g):=by
 obtain⟨r,n,es⟩:=g
 unfold K4 F1
 simp only at a ⊢
 have h:=y05 r n es a es.length 0 W0 (by omega) (N1 a)
 rw[show((0:Nat):Int)=0 from rfl]at h
 rw[h,oB]
 cases okE r (IntKind.i64.wrap (n-1)) es es.length 0 with
 |false=>simp[p7]
 |true =>
  rw[cond_true,Z0,A03,A03,oB]
  cases inR 1 3 r with
  |false=>simp[chk]
  |true =>
   simp only[I2,oB,cond_true,Bool.true_and]
   cases inR 1 40 n with
   |false=>simp
   |true=>simp;omega
theorem D0m{r a:Int}{es:List Q0}:∀ {d k:Nat},okE r a es d k=true->∀ i,k<=i->i<k+d->C0q r a es i=false
 |0,k,h,i,b,c=>by omega
 |d+1,k,h,i,b,c=>by
  simp only[okE,Bool.and_eq_true,Bool.not_eq_true']at h
  by_cases e:i=k
  ·subst e;exact h.1
  ·exact D0m h.2 i (by omega) (by omega)
theorem s0f{n:Nat}(h:n<=9223372036854775807):n<W0:=by unfold W0;omega
def goI(x:Int):List Int->Bool×List Int
 | []=>(false,[])
 |y::l=>if x<y then(true,x::y::l)else if y=x then(true,y::l)else((goI x l).1,y::(goI x l).2)
theorem K0n(x:Int):∀ l,S8 t9 x l=bif(goI x l).1 then(goI x l).2 else(goI x l).2 ++ [x]
 | []=>rfl
 |y::l=>by
  have a:=K0n x l
  unfold S8 goI
  rcases Y06 x y with⟨h,e⟩|⟨h,e⟩|⟨h,e⟩
  ·rw[e,if_pos (by omega),if_pos h];rfl
  ·rw[e,if_neg (by omega),if_neg (by omega),if_neg (by omega),if_neg (by omega),a]
   cases (goI x l).1<;>rfl
  ·rw[e,if_neg (by omega),if_pos rfl,if_neg (by omega),if_pos h.symm];rfl
theorem t0f(l:List Int)(w:Int)(h:l.length<=1099511627776):∀(d k fuel:Nat) (acc:List Int),k+d=l.length->d<fuel->acc.length<=k+1 ->
  l5 l w fuel true (k:Int) acc=some (true,acc++l.drop k)
 |d,k,0,acc,e,hf,b=>by omega
 |0,k,fuel+1,acc,e,hf,b=>by
  rw[l5.eq_2,if_neg (by simp;omega),M1 (by omega),List.append_nil]
 |d+1,k,fuel+1,acc,e,hf,b=>by
  have f:k<l.length:=by omega
  have a:=w5 f
  generalize l[k]=x at a
  have i:=t0f l w h d (k+1) fuel (acc ++ [x]) (by omega) (by omega) (by simp;omega)
  rw[l5.eq_2,if_pos (by simp;omega),E3 a,oB]
  have g:∀ c:Bool,(bif c then(!true)else false)=false:=λc=>by cases c<;>rfl
  simp only[g,Bool.false_eq_true,if_false,oB,Z2 f (show l.length<=9223372036854775807 by omega),i,S0 (show(acc.length + [x].length)*8<=140737488355328 by simp;omega)]
  rw[V1 a]
  split<;>simp
theorem x0h(l:List Int)(w:Int)(b:l.length<=1099511627776):∀(d k fuel:Nat) (acc:List Int),k+d=l.length->d<fuel->acc.length=k ->
  l5 l w fuel false (k:Int) acc=some ((goI w (l.drop k)).1,acc++(goI w (l.drop k)).2)
 |d,k,0,acc,g,hf,f=>by omega
 |0,k,fuel+1,acc,g,hf,f=>by
  rw[l5.eq_2,if_neg (by simp;omega),M1 (by omega)]
  simp[goI]
 |d+1,k,fuel+1,acc,g,hf,f=>by
  have a:k<l.length:=by omega
  have e:=w5 a
  generalize l[k]=x at e
  have j:=x0h l w b d (k+1) fuel (acc ++ [x]) (by omega) (by omega) (by simp;omega)
  have m:=t0f l w b d (k+1) fuel (acc ++ [x]) (by omega) (by omega) (by simp;omega)
  have n:=t0f l w b d (k+1) fuel (acc ++ [w] ++ [x]) (by omega) (by omega) (by simp;omega)
  rw[l5.eq_2,if_pos (by simp;omega),E3 e,oB,V1 e]
  unfold goI
  have h:∀ c:Bool,(bif c then(!true)else false)=false:=λc=>by cases c<;>rfl
  have i:∀ c:Bool,(bif c then(!false)else false)=c:=λc=>by cases c<;>rfl
  by_cases h0:x=w
  ·rw[if_pos (by simpa using h0),oB,h,if_neg (by simp),oB,S0 (by simp;omega),oB,Z2 a (by omega),m,if_neg (by omega),if_pos h0]
   simp
  ·rw[if_neg (by simpa using h0),oB,i]
   by_cases h1:w<x
   ·rw[if_pos (by simpa using h1),S0 (by simp;omega),oB,oB,S0 (by simp;omega),oB,Z2 a (by omega),n,if_pos h1]
    simp
   ·rw[if_neg (by simpa using h1),oB,S0 (by simp;omega),oB,Z2 a (by omega),j,if_neg h1,if_neg h0]
    simp
theorem W0a(l:List Int)(w:Int)(a:l.length<=1099511627776):U8 l w=some (S8 t9 w l):=by
 unfold U8
 have h:=x0h l w a l.length 0 W0 [] (by omega) (N1 (by omega)) rfl
 rw[show((0:Nat):Int)=0 from rfl,List.drop_zero,List.nil_append]at h
 rw[h,oB,K0n]
 have b:∀ l:List Int,(goI w l).2.length<=l.length+1:=λl=>by
  induction l with
  |nil=>simp[goI]
  |cons y l c =>
   unfold goI
   split
   ·simp
   ·split
    ·simp
    ·simp only[List.length_cons];omega
 have:=b l
 cases (goI w l).1 with
 |true=>rfl
 |false =>
  simp only[Bool.not_false,if_true,cond_false]
  rw[S0 (by simp;omega),oB]
def D0q(v x:Int)(e:Q0):List Int :=
 if 0<x/\e.2.1=x/\e.1=v then [e.2.2]else if x<0/\e.2.1 = -x/\e.2.2=v then [e.1]else []
def O01(v x:Int):List Q0->List Int
 | []=>[]
 |e::es=>D0q v x e++O01 v x es
def l8(x:Int):Prop:=H0 x/\x ≠ -9223372036854775808
theorem l06(w:Int):∀ l:List Int,(S8 t9 w l).length<=l.length+1
 | []=>by simp[S8]
 |y::l=>by
  have:=l06 w l
  unfold S8
  split
  ·simp
  ·split
   ·simp
   ·simp only[List.length_cons];omega
theorem X0a(es:List Q0)(v x:Int)(m:l8 x)(s:es.length<=1099511627776):∀(d k fuel:Nat) (u:List Int),k+d=es.length->d<fuel->u.length<=k ->
  M4 es x v fuel u (k:Int)=some (i5 t9 u (O01 v x (es.drop k)))
 |d,k,0,u,p,hf,o=>by omega
 |0,k,fuel+1,u,p,hf,o=>by
  rw[M4.eq_2,if_neg (by simp;omega),M1 (by omega)]
  rfl
 |d+1,k,fuel+1,u,p,hf,o=>by
  have q:k<es.length:=by omega
  have j:=w5 q
  generalize es[k]=e at j
  obtain⟨a,l,b⟩:=e
  have n:=λw h=>X0a es v x m s d (k+1) fuel w (by omega) (by omega) h
  rw[M4.eq_2,if_pos (by simp;omega),E3 j,oB,V1 j]
  simp only[O01,D0q,o0f m.1 m.2,Z2 q (show es.length<=9223372036854775807 by omega)]
  by_cases c:0<x/\l=x/\a=v
  ·obtain⟨c,rfl,rfl⟩:=c
   have t:decide (l<0)=false:=by simp;omega
   have:=l06 b u
   rw[if_pos (by simp[c]),if_pos ⟨c,rfl,rfl⟩,W0a u b (by omega),oB,t,if_neg (by simp),n _ (by omega)]
   rfl
  ·rw[if_neg c,if_neg (by simp only[Bool.cond_eq_ite];simp;intro f g i;exact c ⟨f,g,i⟩)]
   by_cases c2:x<0/\l = -x/\b=v
   ·have:=l06 a u
    rw[if_pos c2,if_pos (by simp[c2.1,c2.2.1,c2.2.2]),W0a u a (by omega),oB,n _ (by omega)]
    rfl
   ·rw[if_neg c2,if_neg (by simp only[Bool.cond_eq_ite];simp;intro f g i;exact c2 ⟨f,g,i⟩),n _ (by omega)]
    rfl
def q04(g:j0)(v x:Int):List Int:=i5 t9 [] (O01 v x g.2.2)
theorem R0k(g:j0)(v x:Int)(b:l8 x)(a:g.2.2.length<=1099511627776):M00 g v x=some (q04 g v x):=by
 obtain⟨r,n,es⟩:=g
 unfold M00 q04
 have h:=X0a es v x b a es.length 0 W0 [] (by omega) (s0f (by simp only at a;omega)) (by simp)
 rw[show((0:Nat):Int)=0 from rfl,List.drop_zero]at h
 simp only[h,oB]
def Y0(g:j0)(v x:Int):Int:=match q04 g v x with
 | [] => -1
 |a::_=>a
theorem V09(g:j0)(v x:Int)(c:l8 x)(b:g.2.2.length<=1099511627776):i8 g v x=some (Y0 g v x):=by
 have h:=R0k g v x c b
 obtain⟨r,n,es⟩:=g
 unfold i8 Y0
 simp only[h,oB]
 cases q04 (r,n,es) v x with
 |nil=>rfl
 |cons a l=>rfl
theorem y0h{g:j0}{v x y:Int}(h:y∈q04 g v x):y∈O01 v x g.2.2:=by
 rcases(R6 h01 y _ []).1 h with h|h
 ·cases h
 ·exact h
theorem M3{v x y:Int}:∀ {es:List Q0},y∈O01 v x es↔∃ e∈es,(0<x/\e.2.1=x/\e.1=v/\y=e.2.2)∨(x<0/\e.2.1 = -x/\e.2.2=v/\y=e.1)
 | []=>by simp[O01]
 |e::es=>by
  simp only[O01,List.mem_append,M3 (es:=es),List.mem_cons,exists_eq_or_imp]
  refine or_congr ?_ Iff.rfl
  unfold D0q
  split
  ·rename_i h
   simp only[List.mem_singleton]
   constructor
   ·rintro rfl;exact .inl ⟨h.1,h.2.1,h.2.2,rfl⟩
   ·rintro(⟨_,_,_,a⟩|⟨f,_⟩)
    ·exact a
    ·omega
  ·rename_i h
   split
   ·rename_i b
    simp only[List.mem_singleton]
    constructor
    ·rintro rfl;exact .inr ⟨b.1,b.2.1,b.2.2,rfl⟩
    ·rintro(⟨f,_⟩|⟨_,_,_,a⟩)
     ·omega
     ·exact a
   ·rename_i b
    constructor
    ·intro h;cases h
    ·rintro(⟨c,a,d,_⟩|⟨c,a,d,_⟩)
     ·exact absurd ⟨c,a,d⟩ h
     ·exact absurd ⟨c,a,d⟩ b
def inG(g:j0):Prop:=∀ e∈g.2.2,(0<=e.1/\e.1<g.2.1)/\(0<=e.2.2/\e.2.2<g.2.1)/\1<=e.2.1/\e.2.1<=g.1
theorem i4{g:j0}(h:F1 g=true):inG g/\(1<=g.1/\g.1<=3)/\(1<=g.2.1/\g.2.1<=40)/\g.2.2.length<=120:=by
 obtain⟨r,n,es⟩:=g
 simp only[F1,inR,Bool.and_eq_true,decide_eq_true_eq]at h
 obtain⟨⟨⟨m,o⟩,p⟩,q⟩:=h
 refine⟨λe s=>?_,o,p,q⟩
 obtain⟨i,b⟩:=List.getElem?_of_mem s
 have a:=D0m m i (Nat.zero_le _) (by have:=(List.getElem?_eq_some_iff.1 b).1;simp only at this;omega)
 rw[l0e b]at a
 simp only[Bool.or_eq_false_iff,Bool.not_eq_false',X06,inR,Bool.and_eq_true,decide_eq_true_eq]at a
 obtain⟨⟨⟨⟨c,d⟩,f,j⟩,k,l⟩,_⟩:=a
 rw[w64 (by omega) (by omega)]at d j
 simp only
 exact⟨⟨c,by omega⟩,⟨f,by omega⟩,k,l⟩
theorem L08{g:j0}(d:inG g)(v x:Int):Y0 g v x = -1∨(0<=Y0 g v x/\Y0 g v x<g.2.1):=by
 unfold Y0
 cases hs:q04 g v x with
 |nil=>exact .inl rfl
 |cons a l =>
  right
  have b:a∈q04 g v x:=by rw[hs];exact mS
  obtain⟨e,c,h⟩:=M3.1 (y0h b)
  have:=d e c
  rcases h with⟨_,_,_,rfl⟩|⟨_,_,_,rfl⟩
  ·exact this.2.1
  ·exact this.1
theorem m0e{g:j0}(a:inG g)(b:g.2.1<=40)(v x:Int):H0 (Y0 g v x):=by
 rcases L08 a v x with h|h
 ·rw[h];decide
 ·constructor<;>omega
def h05(a b:Q0):Bool:=decide (a.2.1=b.2.1)&&(decide (a.1=b.1) || decide (a.2.2=b.2.2))
theorem r0c(a b:Q0):h05 a b=h05 b a:=by
 unfold h05
 have h:∀ x y:Int,decide (x=y)=decide (y=x):=λx y=>decide_eq_decide.2 ⟨Eq.symm,Eq.symm⟩
 rw[h a.2.1,h a.1,h a.2.2]
def noC(a:Q0):List Q0->Bool
 | []=>true
 |b::l => !h05 a b&&noC a l
def u0f:List Q0->Bool
 | []=>true
 |a::l=>noC a l&&u0f l
theorem k0j(a:Q0):∀ l,noC a l=true↔∀ b∈l,h05 a b=false
 | []=>by simp[noC]
 |b::l=>by simp[noC,k0j a l]
theorem s0c:∀ l,u0f l=true↔l.Pairwise λa b=>h05 a b=false
 | []=>by simp[u0f]
 |a::l=>by simp[u0f,s0c l,k0j,List.pairwise_cons]
def v0f:List Q0->List Q0->Bool
 |_,[]=>true
 |b,a::l=>noC a b&&v0f (b ++ [a]) l
theorem z0h:∀(l f:List Q0),v0f f l=true↔l.Pairwise (λa b=>h05 a b=false)/\∀ a∈l,∀ b∈f,h05 a b=false
 | [],f=>by simp[v0f]
 |a::l,f=>by
  simp only[v0f,Bool.and_eq_true,k0j,z0h l,List.pairwise_cons]
  constructor
  ·rintro⟨g,h,e⟩
   refine⟨⟨λb c=>by rw[r0c];exact e b c a (by simp),h⟩,λx d b c=>?_⟩
   rcases List.mem_cons.1 d with rfl|d
   ·exact g b c
   ·exact e x d b (by simp[c])
  ·rintro⟨⟨g,h⟩,e⟩
   refine⟨λb c=>e a mS b c,h,λx d b c=>?_⟩
   rcases List.mem_append.1 c with c|c
   ·exact e x (mC _ d) b c
   ·rw[List.mem_singleton.1 c,r0c];exact g x d
theorem e0p(l:List Q0):v0f [] l=u0f l:=by
 rw[Bool.eq_iff_iff,z0h,s0c]
 simp
def K0(g:j0):Bool:=F1 g&&u0f g.2.2
theorem P0u(a b e c d f:Int):(bif decide (b=d)then(bif decide (a=c)then true else decide (e=f))else false)=h05 (a,b,e) (c,d,f):=by
 unfold h05
 cases decide (b=d)<;>cases decide (a=c)<;>rfl
theorem Y0a(l:List Q0)(q:l.length<=140737488355328){i:Nat}{a:Q0}(b:l[i]?=some a):∀(d k fuel:Nat),k+d=i->d<fuel ->
  Y6 (i:Int) l fuel (k:Int)=some (bif noC a ((l.take i).drop k)then .inr ()else .inl false)
 |d,k,0,e,hf=>by omega
 |0,k,fuel+1,e,hf=>by
  have:=(List.getElem?_eq_some_iff.1 b).1
  rw[Y6.eq_2,if_neg (by simp;omega),M1 (by simp;omega)]
  rfl
 |d+1,k,fuel+1,e,hf=>by
  have t:=(List.getElem?_eq_some_iff.1 b).1
  have f:k<l.length:=by omega
  have c:=w5 f
  have g:(l.take i)[k]?=some l[k]:=by rw[List.getElem?_take,if_pos (by omega)];exact c
  have s:=Y0a l q b d (k+1) fuel (by omega) (by omega)
  generalize l[k]=x at c g
  obtain⟨h,j,m⟩:=a
  obtain⟨n,o,p⟩:=x
  rw[Y6.eq_2,if_pos (by simp;omega),E3 b,oB,V1 g]
  simp only[E3 c,oB,P0u,noC]
  cases hc:h05 (h,j,m) (n,o,p)with
  |true=>rfl
  |false =>
   rw[if_neg (by simp),Z2 f (by omega),s]
   simp
theorem E0q{a:Type}{xs:List a}{k:Nat}{x:a}(h:xs[k]?=some x):xs.take (k+1)=xs.take k ++ [x]:=by
 obtain⟨b,rfl⟩:=List.getElem?_eq_some_iff.1 h
 exact List.take_succ_eq_append_getElem b
theorem Z0a(r n:Int)(l:List Q0)(f:F1 (r,n,l)=true)(b:l.length<=140737488355328):∀(d k fuel:Nat),k+d=l.length->d<fuel ->
  L5 l r n fuel (k:Int)=some (bif v0f (l.take k) (l.drop k)then .inr ()else .inl false)
 |d,k,0,c,hf=>by omega
 |0,k,fuel+1,c,hf=>by
  have e:decide ((k:Int)<(l.length:Int))=false:=by simp;omega
  rw[L5.eq_2,e,Z3,oB,if_neg (by simp),M1 (by omega)]
  rfl
 |d+1,k,fuel+1,c,hf=>by
  have g:k<l.length:=by omega
  have a:=w5 g
  generalize l[k]=x at a
  have h0:=Y0a l b a k 0 W0 (by omega) (N1 (by omega))
  rw[show((0:Nat):Int)=0 from rfl,List.drop_zero]at h0
  have e:decide ((k:Int)<(l.length:Int))=true:=by simp;omega
  rw[L5.eq_2,e,I2,r7 (r,n,l) b,oB,f,if_pos (show(bif true then true else false)=true from rfl),h0,oB,V1 a]
  simp only[v0f]
  cases noC x (l.take k)with
  |false=>rfl
  |true =>
   simp only[cond_true,S0a,Bool.true_and]
   rw[Z2 g (by omega),←E0q a]
   exact Z0a r n l f b d (k+1) fuel (by omega) (by omega)
theorem T9(g:j0)(a:g.2.2.length<=140737488355328):F6 g=some (K0 g):=by
 have b:=r7 g a
 obtain⟨r,n,es⟩:=g
 unfold F6 K0
 simp only[b,oB]
 cases hg:F1 (r,n,es)with
 |false =>
  have c:L5 es r n W0 0=some (.inr ()):=by
   rw[show W0=(W0-1)+1 from rfl,L5.eq_2]
   by_cases e:decide ((0:Int)<(es.length:Int))=true
   ·rw[e,I2,b,oB,hg,if_neg (by simp)]
   ·rw[Bool.not_eq_true]at e
    rw[e,Z3,oB,if_neg (by simp)]
  rw[c]
  rfl
 |true =>
  have h:=Z0a r n es hg a es.length 0 W0 (by omega) (N1 a)
  rw[show((0:Nat):Int)=0 from rfl,List.drop_zero,List.take_zero,e0p]at h
  rw[h,oB]
  cases u0f es<;>rfl
def N00(g:j0):Int->List Int->Int×Nat
 |v,[]=>(v,0)
 |v,x::w=>if Y0 g v x<0 then(v,0)else((N00 g (Y0 g v x) w).1,(N00 g (Y0 g v x) w).2+1)
theorem w0f(g:j0):∀(w:List Int) (v:Int),(N00 g v w).2<=w.length
 | [],v=>by simp[N00]
 |x::w,v=>by
  have:=w0f g w (Y0 g v x)
  unfold N00
  split
  ·simp
  ·simp only[List.length_cons];omega
theorem x0f{g:j0}(a:inG g)(b:g.2.1<=40):∀(w:List Int) (v:Int),H0 v->H0 (N00 g v w).1
 | [],v,h=>h
 |x::w,v,h=>by
  unfold N00
  split
  ·exact h
  ·exact x0f a b w _ (m0e a b v x)
theorem v0d(r n:Int)(es:List Q0)(f:inG (r,n,es))(g:n<=40)(e:es.length<=1099511627776)(w:List Int)(i:∀ x∈w,l8 x)(l:w.length<=140737488355328):∀(d k fuel:Nat) (v:Int),k+d=w.length->d<fuel ->
  Z6 w r n es fuel v (k:Int)=some (bif decide ((N00 (r,n,es) v (w.drop k)).2<d)then .inl (-1,false)else .inr (N00 (r,n,es) v (w.drop k)).1)
 |d,k,0,v,c,hf=>by omega
 |0,k,fuel+1,v,c,hf=>by
  rw[Z6.eq_2,if_neg (by simp;omega),M1 (by omega)]
  rfl
 |d+1,k,fuel+1,v,c,hf=>by
  have a:k<w.length:=by omega
  have b:=w5 a
  have j:=i _ (List.getElem_mem a)
  generalize w[k]=x at b j
  rw[Z6.eq_2,if_pos (by simp;omega),E3 b,oB,V09 (r,n,es) v x j e,oB,S0 (m0e f g v x),oB,V1 b]
  unfold N00
  by_cases h:Y0 (r,n,es) v x<0
  ·rw[if_pos (by simpa using h),if_pos h]
   simp
  ·rw[if_neg (by simpa using h),if_neg h,Z2 a (by omega),v0d r n es f g e w i l d (k+1) fuel _ (by omega) (by omega)]
   simp only[Nat.add_lt_add_iff_right]
theorem F0q(g:j0)(hf:K0 g=true)(v:Int)(j:0<=v/\v<g.2.1)(w:List Int)(k:∀ x∈w,l8 x)(a:w.length<=140737488355328):
  k00 g v w=some (bif decide ((N00 g v w).2<w.length)then(-1,false)else((N00 g v w).1,true)):=by
 have f:F1 g=true:=by unfold K0 at hf;simp only[Bool.and_eq_true]at hf;exact hf.1
 obtain⟨e,_,b,d⟩:=i4 f
 have c:=T9 g (by omega)
 obtain⟨r,n,es⟩:=g
 simp only at j b d
 unfold k00
 have h:=v0d r n es e b.2 (by omega) w k a w.length 0 W0 v (by omega) (N1 a)
 rw[show((0:Nat):Int)=0 from rfl,List.drop_zero]at h
 have i:inR 0 (n-1) v=true:=by simp only[inR,Bool.and_eq_true,decide_eq_true_eq];omega
 simp only[c,hf,oB,Bool.not_true,Bool.not_false,I2,A03,w64 (show -9223372036854775808<=n-1 by omega) (show n-1<=9223372036854775807 by omega),i,cond_false,Bool.false_eq_true,if_false,h]
 cases decide ((N00 (r,n,es) v w).2<w.length)<;>rfl
theorem D2{g:j0}(h:K0 g=true):inG g/\(1<=g.1/\g.1<=3)/\(1<=g.2.1/\g.2.1<=40)/\g.2.2.length<=120:=by
 unfold K0 at h
 simp only[Bool.and_eq_true]at h
 exact i4 h.1
def a0b(v:Int)(e:Q0):Nat:=(if e.1=v then 1 else 0)+(if e.2.2=v then 1 else 0)
def Y02(v:Int):List Q0->Nat
 | []=>0
 |e::r=>a0b v e+Y02 v r
theorem B0s(v:Int)(e:Q0):a0b v e<=2:=by unfold a0b;split<;>split<;>omega
theorem L0n(v:Int):∀ l,Y02 v l<=2*l.length
 | []=>by simp[Y02]
 |e::r=>by have:=B0s v e;have:=L0n v r;simp only[Y02,List.length_cons];omega
theorem y0f(es:List Q0)(v:Int)(o:es.length<=1099511627776):∀(d k fuel acc:Nat),k+d=es.length->d<fuel->acc<=2*k ->
  o5 es v fuel (acc:Int) (k:Int)=some ((acc+Y02 v (es.drop k):Nat):Int)
 |d,k,0,acc,j,hf,i=>by omega
 |0,k,fuel+1,acc,j,hf,i=>by
  rw[o5.eq_2,if_neg (by simp;omega),M1 (by omega)];rfl
 |d+1,k,fuel+1,acc,j,hf,i=>by
  have m:k<es.length:=by omega
  have f:=w5 m
  generalize es[k]=e at f
  obtain⟨a,l,b⟩:=e
  have c:=λn h=>y0f es v o d (k+1) fuel n (by omega) (by omega) h
  have g:IntKind.i64.wrap ((acc:Int)+1)=((acc+1:Nat):Int):=by rw[w64 (by omega) (by omega)];rfl
  have p:IntKind.i64.wrap (((acc+1:Nat):Int)+1)=((acc+2:Nat):Int):=by rw[w64 (by omega) (by omega)];rfl
  rw[o5.eq_2,if_pos (by simp;omega),E3 f,V1 f]
  simp only[oB,Y02,a0b,Z2 m (show es.length<=9223372036854775807 by omega)]
  by_cases c1:a=v
  ·rw[if_pos (by simpa using c1),if_pos c1]
   by_cases c2:b=v
   ·rw[if_pos (by simpa using c2),if_pos c2,g,p,c _ (by omega)];congr 2;omega
   ·rw[if_neg (by simpa using c2),if_neg c2,g,c _ (by omega)];congr 2;omega
  ·rw[if_neg (by simpa using c1),if_neg c1]
   by_cases c2:b=v
   ·rw[if_pos (by simpa using c2),if_pos c2,g,c _ (by omega)];congr 2;omega
   ·rw[if_neg (by simpa using c2),if_neg c2,c _ (by omega)];congr 2;omega
theorem f0p(g:j0)(v:Int)(a:g.2.2.length<=1099511627776):k01 g v=some ((Y02 v g.2.2:Nat):Int):=by
 obtain⟨r,n,es⟩:=g
 unfold k01
 have h:=y0f es v a es.length 0 W0 0 (by omega) (N1 (by simp only at a;omega)) (Nat.zero_le _)
 rw[show((0:Nat):Int)=0 from rfl,List.drop_zero,Nat.zero_add]at h
 simp only[h,oB]
def M0n(g h:j0):Bool:=decide (g=h)
theorem C0s(x y:Q0):eqE x y=true↔x=y:=by simp[eqE]
theorem A0h(a b:List Q0)(l:a.length=b.length)(j:a.length<=9223372036854775807):∀(d k fuel:Nat),k+d=a.length->d<fuel ->
  P5 a b fuel (k:Int)=some (if a.drop k=b.drop k then .inr ()else .inl false)
 |d,k,0,g,hf=>by omega
 |0,k,fuel+1,g,hf=>by
  rw[P5.eq_2,if_neg (by simp;omega),M1 (by omega),M1 (by omega)];rfl
 |d+1,k,fuel+1,g,hf=>by
  have i:k<a.length:=by omega
  have m:k<b.length:=by omega
  have e:=w5 i
  have f:=w5 m
  generalize a[k]=x at e
  generalize b[k]=y at f
  have o:=A0h a b l j d (k+1) fuel (by omega) (by omega)
  rw[P5.eq_2,if_pos (by simp;omega),E3 e,E3 f,V1 e,V1 f]
  simp only[oB,Z2 i j,o]
  by_cases c:x=y
  ·subst c
   rw[if_neg (by simp[eqE])]
   simp
  ·have n:eqE x y=false:=Bool.eq_false_iff.2 λh=>c ((C0s x y).1 h)
   rw[if_pos (show(!eqE x y)=true by rw[n];rfl),if_neg (by simp[c])]
theorem g0p(g h:j0)(b:g.2.2.length<=9223372036854775807):R9 g h=some (M0n g h):=by
 obtain⟨r,n,es⟩:=g
 obtain⟨j,i,a⟩:=h
 unfold R9 M0n
 by_cases c1:r=j
 ·by_cases c2:n=i
  ·by_cases hab:es.length=a.length
   ·have h:=A0h es a hab b es.length 0 W0 (by omega) (by unfold W0;simp only at b;omega)
    simp only[c1,c2,hab,decide_true,Bool.not_true,cond_false,Prod.mk.injEq,true_and]
    rw[if_neg (by simp),show(0:Int)=((0:Nat):Int) from rfl,h,List.drop_zero,List.drop_zero]
    by_cases c:es=a
    ·rw[if_pos c];simp[p7,c]
    ·rw[if_neg c];simp[p7,c]
   ·have f : ¬ es=a:=λe=>hab (by rw[e])
    have d:decide (((es.length:Nat):Int)=((a.length:Nat):Int))=false:=decide_eq_false (by omega)
    simp only[c1,c2,d,decide_true,Bool.not_true,Bool.not_false,cond_false,if_true,Prod.mk.injEq,true_and,f,decide_false]
  ·simp[c1,c2]
 ·simp[c1]
def goE(x:Q0):List Q0->Bool×List Q0
 | []=>(false,[])
 |y::l=>if P0 x y<0 then(true,x::y::l)else if P0 x y=0 then(true,y::l)else((goE x l).1,y::(goE x l).2)
theorem N0n(x:Q0):∀ l,S8 P0 x l=bif(goE x l).1 then(goE x l).2 else(goE x l).2 ++ [x]
 | []=>rfl
 |y::l=>by
  have a:=N0n x l
  unfold S8 goE
  by_cases c1:P0 x y<0
  ·rw[if_pos c1,if_pos c1];rfl
  ·rw[if_neg c1,if_neg c1]
   by_cases c2:P0 x y=0
   ·rw[if_pos c2,if_pos c2];rfl
   ·rw[if_neg c2,if_neg c2,a];cases (goE x l).1<;>rfl
theorem t0c(l:List Q0)(w0 i j:Int)(n:l.length<=1099511627776):∀(d k fuel:Nat) (acc:List Q0),k+d=l.length->d<fuel->acc.length<=k+1 ->
  n5 l w0 i j fuel true (k:Int) acc=some (true,acc++l.drop k)
 |d,k,0,acc,g,hf,f=>by omega
 |0,k,fuel+1,acc,g,hf,f=>by
  rw[n5.eq_2,if_neg (by simp;omega),M1 (by omega),List.append_nil]
 |d+1,k,fuel+1,acc,g,hf,f=>by
  have h:k<l.length:=by omega
  have c:=w5 h
  generalize l[k]=e at c
  obtain⟨a,x,b⟩:=e
  have o:=t0c l w0 i j n d (k+1) fuel (acc ++ [(a,x,b)]) (by omega) (by omega) (by simp;omega)
  rw[n5.eq_2,if_pos (by simp;omega),V1 c]
  simp only[E3 c,oB,B02,S0 (j0j _ _),Z2 h (show l.length<=9223372036854775807 by omega),Bool.not_true]
  have m:∀ b:Bool,(bif b then false else false)=false:=λb=>by cases b<;>rfl
  simp only[m,Bool.false_eq_true,if_false]
  rw[S0 (by simp;omega),oB,o]
  simp
theorem z0f(l:List Q0)(w0 c f:Int)(h:l.length<=1099511627776):∀(d k fuel:Nat) (acc:List Q0),k+d=l.length->d<fuel->acc.length=k ->
  n5 l w0 c f fuel false (k:Int) acc=some ((goE (w0,c,f) (l.drop k)).1,acc++(goE (w0,c,f) (l.drop k)).2)
 |d,k,0,acc,j,hf,i=>by omega
 |0,k,fuel+1,acc,j,hf,i=>by
  rw[n5.eq_2,if_neg (by simp;omega),M1 (by omega)];simp[goE]
 |d+1,k,fuel+1,acc,j,hf,i=>by
  have m:k<l.length:=by omega
  have g:=w5 m
  generalize l[k]=e at g
  obtain⟨a,x,b⟩:=e
  have n:=z0f l w0 c f h d (k+1) fuel (acc ++ [(a,x,b)]) (by omega) (by omega) (by simp;omega)
  have o:=t0c l w0 c f h d (k+1) fuel (acc ++ [(a,x,b)]) (by omega) (by omega) (by simp;omega)
  have p:=t0c l w0 c f h d (k+1) fuel ((acc ++ [(w0,c,f)]) ++ [(a,x,b)]) (by omega) (by omega) (by simp;omega)
  rw[n5.eq_2,if_pos (by simp;omega),V1 g]
  simp only[E3 g,oB,B02,S0 (j0j _ _),Z2 m (show l.length<=9223372036854775807 by omega),Bool.not_true,Bool.not_false,goE]
  show _=_
  unfold i0j
  by_cases c1:P0 (w0,c,f) (a,x,b)=0
  ·rw[if_pos (by simpa using c1),if_neg (by simp[c1]),if_neg (by omega),if_pos c1]
   rw[S0 (by simp;omega),oB,o];simp
  ·rw[if_neg (by simpa using c1)]
   by_cases c2:P0 (w0,c,f) (a,x,b)<0
   ·rw[if_pos (by simp[c2]),if_pos c2,S0 (by simp;omega),oB,S0 (by simp;omega),oB,p];simp
   ·rw[if_neg (by simp[c2]),if_neg c2,if_neg c1,S0 (by simp;omega),oB,n];simp
theorem Z06(l:List Q0)(e:Q0)(c:l.length<=1099511627776):j8 l e=some (S8 P0 e l):=by
 obtain⟨w0,a,b⟩:=e
 unfold j8
 have h:=z0f l w0 a b c l.length 0 W0 [] (by omega) (N1 (by omega)) rfl
 rw[show((0:Nat):Int)=0 from rfl,List.drop_zero,List.nil_append]at h
 simp only[h,oB,N0n]
 have d:∀ l:List Q0,(goE (w0,a,b) l).2.length<=l.length+1:=λl=>by
  induction l with
  |nil=>simp[goE]
  |cons y l f =>
   unfold goE
   split
   ·simp
   ·split
    ·simp
    ·simp only[List.length_cons];omega
 have:=d l
 cases (goE (w0,a,b) l).1 with
 |true=>rfl
 |false =>
  simp only[Bool.not_false,if_true,cond_false]
  rw[S0 (by simp;omega),oB]
theorem v04(e:Q0):∀ l:List Q0,(S8 P0 e l).length<=l.length+1
 | []=>by simp[S8]
 |y::l=>by
  have:=v04 e l
  unfold S8
  split
  ·simp
  ·split
   ·simp
   ·simp only[List.length_cons];omega
theorem C02(g:j0)(a:g.2.2.length<=1099511627776):Q3 g=some g:=by
 obtain⟨r,n,es⟩:=g
 unfold Q3
 simp only
 rw[S0 (by simp only[List.length_nil,Nat.zero_add];simp only at a;omega)];rfl
inductive Rch (es:List Q0) (v:Int):Int->Prop
 |base:Rch es v v
 |fwd {e:Q0}:e∈es->Rch es v e.1->Rch es v e.2.2
 |bwd {e:Q0}:e∈es->Rch es v e.2.2->Rch es v e.1
theorem Rch.closed{es:List Q0}{v:Int}:∀ e∈es,Rch es v e.1↔Rch es v e.2.2:=λe a=>⟨.fwd a,.bwd a⟩
theorem Rch.sub{es:List Q0}{v:Int}{P:Int->Prop}(c:P v)(a:∀ e∈es,P e.1↔P e.2.2):∀ {x},Rch es v x->P x
 |_,.base=>c
 |_,.fwd b h=>(a _ b).1 (Rch.sub c a h)
 |_,.bwd b h=>(a _ b).2 (Rch.sub c a h)
def inN(n:Nat)(es:List Q0):Prop:=∀ e∈es,(0<=e.1/\e.1<(n:Int))/\(0<=e.2.2/\e.2.2<(n:Int))
theorem z0t(l:List Int)(w:Int)(g:l.length<=9223372036854775807):∀(d k fuel:Nat),k+d=l.length->d<fuel ->
  c9 l w fuel (k:Int)=some (if w∈l.drop k then .inl true else .inr ())
 |d,k,0,b,hf=>by omega
 |0,k,fuel+1,b,hf=>by
  rw[c9.eq_2,if_neg (by simp;omega),M1 (by omega)];simp
 |d+1,k,fuel+1,b,hf=>by
  have f:k<l.length:=by omega
  have a:=w5 f
  generalize l[k]=x at a
  have i:=z0t l w g d (k+1) fuel (by omega) (by omega)
  rw[c9.eq_2,if_pos (by simp;omega),V1 a]
  simp only[E3 a,oB,Z2 f g,i,List.mem_cons]
  by_cases c:x=w
  ·rw[if_pos (by simpa using c),if_pos (.inl c.symm)]
  ·rw[if_neg (by simpa using c)]
   by_cases c2:w∈l.drop (k+1)
   ·rw[if_pos c2,if_pos (.inr c2)]
   ·rw[if_neg c2,if_neg (λh=>h.elim (λe=>c e.symm) c2)]
theorem n0e(l:List Int)(w:Int)(a:l.length<=9223372036854775807):B9 l w=some (decide (w∈l)):=by
 unfold B9
 have h:=z0t l w a l.length 0 W0 (by omega) (by unfold W0;omega)
 rw[show((0:Nat):Int)=0 from rfl,List.drop_zero]at h
 rw[h,oB]
 by_cases c:w∈l
 ·rw[if_pos c];simp[p7,c]
 ·rw[if_neg c];simp[p7,c]
def s1(u:List Int)(e:Q0):List Int:=if e.1∈u then S8 t9 e.2.2 u else u
def s2(u:List Int)(e:Q0):List Int:=if e.2.2∈u then S8 t9 e.1 u else u
def pS:List Q0->List Int->List Int
 | [],u=>u
 |e::r,u=>pS r (s2 (s1 u e) e)
theorem u0c{u:List Int}{e:Q0}{x:Int}:x∈s1 u e↔x∈u∨(e.1∈u/\x=e.2.2):=by
 unfold s1
 split
 ·rename_i h;rw[R03 h01];constructor
  ·rintro(a|a)
   ·exact .inr ⟨h,a⟩
   ·exact .inl a
  ·rintro(a|⟨_,a⟩)
   ·exact .inr a
   ·exact .inl a
 ·rename_i h;constructor
  ·exact .inl
  ·rintro(a|⟨a,_⟩)
   ·exact a
   ·exact absurd a h
theorem v0c{u:List Int}{e:Q0}{x:Int}:x∈s2 u e↔x∈u∨(e.2.2∈u/\x=e.1):=by
 unfold s2
 split
 ·rename_i h;rw[R03 h01];constructor
  ·rintro(a|a)
   ·exact .inr ⟨h,a⟩
   ·exact .inl a
  ·rintro(a|⟨_,a⟩)
   ·exact .inr a
   ·exact .inl a
 ·rename_i h;constructor
  ·exact .inl
  ·rintro(a|⟨a,_⟩)
   ·exact a
   ·exact absurd a h
theorem G0q(u:List Int)(e:Q0):(s1 u e).length<=u.length+1:=by
 unfold s1;split
 ·exact l06 _ _
 ·omega
theorem H0q(u:List Int)(e:Q0):(s2 u e).length<=u.length+1:=by
 unfold s2;split
 ·exact l06 _ _
 ·omega
theorem E0m:∀(es:List Q0) (u:List Int),(pS es u).length<=u.length+2*es.length
 | [],u=>by simp[pS]
 |e::r,u=>by
  have:=E0m r (s2 (s1 u e) e)
  have:=H0q (s1 u e) e
  have:=G0q u e
  simp only[pS,List.length_cons];omega
theorem a07:∀(es:List Q0) (u:List Int) (x:Int),x∈u->x∈pS es u
 | [],u,x,h=>h
 |e::r,u,x,h=>a07 r _ x (v0c.2 (.inl (u0c.2 (.inl h))))
theorem A0f{P:Int->Prop}:∀(es:List Q0) (u:List Int),(∀ e∈es,P e.1↔P e.2.2)->(∀ x∈u,P x)->∀ x∈pS es u,P x
 | [],u,b,a=>a
 |e::r,u,b,a=>A0f r _ (λe f=>b e (mC _ f)) λx g=>by
  have d:=b e mS
  have c:∀ y∈s1 u e,P y:=λy i=>by
   rcases u0c.1 i with h|⟨h,rfl⟩
   ·exact a y h
   ·exact d.1 (a _ h)
  rcases v0c.1 g with h|⟨h,rfl⟩
  ·exact c x h
  ·exact d.2 (c _ h)
theorem S0k:∀(es:List Q0) (u:List Int) (e:Q0),e∈es->e.1∈u∨e.2.2∈u->e.1∈pS es u/\e.2.2∈pS es u
 |c::r,u,e,a,h=>by
  simp only[pS]
  rcases List.mem_cons.1 a with rfl|a
  ·have b:e.2.2∈s1 u e:=by
    rcases h with h|h
    ·exact u0c.2 (.inr ⟨h,rfl⟩)
    ·exact u0c.2 (.inl h)
   exact⟨a07 r _ _ (v0c.2 (.inr ⟨b,rfl⟩)),a07 r _ _ (v0c.2 (.inl b))⟩
  ·exact S0k r _ e a (h.imp (λh=>v0c.2 (.inl (u0c.2 (.inl h)))) λh=>v0c.2 (.inl (u0c.2 (.inl h))))
def act(es:List Q0)(u:List Int):Nat:=es.countP λe=>decide (e.1∈u)&&decide (e.2.2∈u)
def clo(es:List Q0)(u:List Int):Prop:=∀ e∈es,e.1∈u↔e.2.2∈u
theorem f0u(es:List Q0)(u:List Int):act es u<=es.length:=List.countP_le_length
theorem B0h{e:Type}{p q:e->Bool}:∀ {l:List e},(∀ x∈l,p x=true->q x=true)->(∃ x∈l,p x=false/\q x=true)->l.countP p<l.countP q
 | [],_,⟨x,a,_⟩=>nomatch a
 |y::l,h,⟨x,a,c,d⟩=>by
  have f:l.countP p<=l.countP q:=List.countP_mono_left λz b=>h z (mC _ b)
  rcases List.mem_cons.1 a with rfl|a
  ·rw[List.countP_cons_of_neg (by simp[c]),List.countP_cons_of_pos d];omega
  ·have g:=B0h (l:=l) (λz b=>h z (mC _ b)) ⟨x,a,c,d⟩
   cases hp:p y
   ·rw[List.countP_cons_of_neg (by simp[hp])]
    have:l.countP q<=(y::l).countP q:=by rw[List.countP_cons];omega
    omega
   ·rw[List.countP_cons_of_pos hp,List.countP_cons_of_pos (h y mS hp)];omega
theorem b0b{es:List Q0}{u:List Int}(h:clo es u)(x:Int):x∈pS es u↔x∈u :=
 ⟨A0f (P:=λx=>x∈u) es u h (λ_ h=>h) x,a07 es u x⟩
theorem I0q{es:List Q0}{u:List Int}:clo es (pS es u)∨act es u<act es (pS es u):=by
 by_cases h:clo es u
 ·left
  intro e a
  rw[b0b h,b0b h];exact h e a
 ·right
  have:∃ e∈es,¬ (e.1∈u↔e.2.2∈u):=by
   refine Classical.byContradiction λb=>h λe a=>?_
   exact Classical.byContradiction λd=>b ⟨e,a,d⟩
  obtain⟨e,a,c⟩:=this
  refine B0h (λx g h=>?_) ⟨e,a,?_,?_⟩
  ·simp only[Bool.and_eq_true,decide_eq_true_eq]at h ⊢
   exact⟨a07 _ _ _ h.1,a07 _ _ _ h.2⟩
  ·rw[Bool.eq_false_iff]
   intro h
   simp only[Bool.and_eq_true,decide_eq_true_eq]at h
   exact c ⟨λ_=>h.2,λ_=>h.1⟩
  ·have f:e.1∈u∨e.2.2∈u:=by
    refine Classical.byContradiction λb=>c ⟨λh=>absurd (.inl h) b,λh=>absurd (.inr h) b⟩
   have:=S0k es u e a f
   simp only[Bool.and_eq_true,decide_eq_true_eq];exact this
def itS(es:List Q0):Nat->List Int->List Int
 |0,u=>u
 |j+1,u=>itS es j (pS es u)
theorem O0n(es:List Q0):∀(j:Nat) (u:List Int),(itS es j u).length<=u.length+j*(2*es.length)
 |0,u=>by simp[itS]
 |j+1,u=>by have:=O0n es j (pS es u);have:=E0m es u;simp only[itS,Nat.add_mul,Nat.one_mul];omega
theorem P0n(es:List Q0):∀(j:Nat) (u:List Int),clo es u->clo es (itS es j u)
 |0,u,h=>h
 |j+1,u,h=>P0n es j _ λe a=>by rw[b0b h,b0b h];exact h e a
theorem Q0n(es:List Q0):∀(j:Nat) (u:List Int),clo es (itS es j u)∨act es u+j<=act es (itS es j u)
 |0,u => .inr (Nat.le_refl _)
 |j+1,u=>by
  rcases I0q (es:=es) (u:=u)with h|h
  ·exact .inl (P0n es j _ h)
  ·rcases Q0n es j (pS es u)with a|a
   ·exact .inl a
   ·right;simp only[itS];omega
theorem T0k(es:List Q0):∀(j:Nat) (u:List Int) (x:Int),x∈u->x∈itS es j u
 |0,u,x,h=>h
 |j+1,u,x,h=>T0k es j _ x (a07 es u x h)
theorem C0h{P:Int->Prop}(es:List Q0)(b:∀ e∈es,P e.1↔P e.2.2):∀(j:Nat) (u:List Int),(∀ x∈u,P x)->∀ x∈itS es j u,P x
 |0,u,a=>a
 |j+1,u,a=>C0h es b j _ (A0f es u b a)
theorem b07(es:List Q0)(v x:Int):x∈itS es (es.length+1) [v]↔Rch es v x:=by
 constructor
 ·exact C0h (P:=Rch es v) es Rch.closed _ _ (λy a=>by simp at a;subst a;exact .base) x
 ·have b:clo es (itS es (es.length+1) [v]):=by
   rcases Q0n es (es.length+1) [v]with h|h
   ·exact h
   ·have:=f0u es (itS es (es.length+1) [v]);omega
  exact Rch.sub (P:=λx=>x∈itS es (es.length+1) [v]) (T0k _ _ _ _ (by simp)) b
theorem B0f(es:List Q0)(p:es.length<=9223372036854775807):∀(d k fuel:Nat) (u:List Int),k+d=es.length->d<fuel->u.length+2*d<=1099511627776 ->
  c4 es fuel u (k:Int)=some (pS (es.drop k) u)
 |d,k,0,u,n,hf,q=>by omega
 |0,k,fuel+1,u,n,hf,q=>by
  rw[c4.eq_2,if_neg (by simp;omega),M1 (by omega)];rfl
 |d+1,k,fuel+1,u,n,hf,q=>by
  have o:k<es.length:=by omega
  have m:=w5 o
  generalize es[k]=e at m
  obtain⟨a,l,b⟩:=e
  have i:=λt h=>B0f es p d (k+1) fuel t (by omega) (by omega) h
  have s:=G0q u (a,l,b)
  have g:=H0q (s1 u (a,l,b)) (a,l,b)
  rw[c4.eq_2,if_pos (by simp;omega),V1 m]
  simp only[E3 m,oB,n0e u _ (by omega),Z2 o p,pS]
  by_cases c:a∈u
  ·rw[if_pos (by simpa using c),W0a _ _ (by omega),oB]
   have j:s1 u (a,l,b)=S8 t9 b u:=if_pos c
   rw[j]at s g ⊢
   rw[n0e _ _ (by omega),oB]
   by_cases c2:b∈S8 t9 b u
   ·rw[if_pos (by simpa using c2),W0a _ _ (by omega),oB]
    have f:s2 (S8 t9 b u) (a,l,b)=S8 t9 a (S8 t9 b u):=if_pos c2
    rw[f]at g ⊢
    exact i _ (by omega)
   ·rw[if_neg (by simpa using c2)]
    have f:s2 (S8 t9 b u) (a,l,b)=S8 t9 b u:=if_neg c2
    rw[f]
    exact i _ (by omega)
  ·rw[if_neg (by simpa using c)]
   have j:s1 u (a,l,b)=u:=if_neg c
   rw[j]at g ⊢
   by_cases c2:b∈u
   ·rw[if_pos (by simpa using c2),W0a _ _ (by omega),oB]
    have f:s2 u (a,l,b)=S8 t9 a u:=if_pos c2
    rw[f]at g ⊢
    exact i _ (by omega)
   ·rw[if_neg (by simpa using c2)]
    have f:s2 u (a,l,b)=u:=if_neg c2
    rw[f]
    exact i _ (by omega)
theorem C0f(es:List Q0)(c:es.length<=120):∀(d k fuel:Nat) (u:List Int),k+d=es.length+1->d<fuel->u.length<=1+k*240 ->
  Q5 es fuel u (k:Int)=some (itS es d u)
 |d,k,0,u,a,hf,b=>by omega
 |0,k,fuel+1,u,a,hf,b=>by
  rw[Q5.eq_2,if_neg (by rw[w64 (by omega) (by omega)];simp;omega)];rfl
 |d+1,k,fuel+1,u,a,hf,b=>by
  have h0:=B0f es (by omega) es.length 0 W0 u (by omega) (N1 (by omega)) (by omega)
  rw[show((0:Nat):Int)=0 from rfl,List.drop_zero]at h0
  have e:=C0f es c d (k+1) fuel (pS es u) (by omega) (by omega) (by have:=E0m es u;omega)
  rw[Q5.eq_2,if_pos (by rw[w64 (by omega) (by omega)];simp;omega),h0,oB,Z2 (show k<1000 by omega) (by omega),e]
  rfl
def getI(P:List Int)(v:Int):Int:=P.getD v.toNat (-1)
def P01:List Int->Nat->List Int->List Int
 |A,k,[]=>A
 |A,k,v::r=>P01 (A.set v.toNat (k:Int)) (k+1) r
def plc(n:Nat)(o:List Int):List Int:=P01 (List.replicate n (-1)) 0 o
theorem D0f:∀(o:List Int) (k:Nat) (A:List Int),(P01 A k o).length=A.length
 | [],k,A=>rfl
 |v::r,k,A=>by rw[P01,D0f r];simp
def inV(n:Nat)(o:List Int):Prop:=∀ v∈o,0<=v/\v<(n:Int)
theorem T03{A:List Int}{v x:Int}{y:Int}(h0:0<=v)(a:v.toNat<A.length)(b:0<=x):getI (A.set v.toNat y) x=if x=v then y else getI A x:=by
 unfold getI
 rw[List.getD_eq_getElem?_getD,List.getD_eq_getElem?_getD,List.getElem?_set]
 by_cases c:x=v
 ·rw[if_pos c,if_pos (by rw[c]),if_pos a];rfl
 ·rw[if_neg c,if_neg (by omega)]
theorem c0b{n:Nat}:∀(o:List Int) (k:Nat) (A:List Int),A.length=n->inV n o->(∀ x,0<=x -> -1<=getI A x/\getI A x<(k:Int))->∀ x,0<=x -> -1<=getI (P01 A k o) x/\getI (P01 A k o) x<((k+o.length:Nat):Int)
 | [],k,A,c,a,h,x,b=>h x b
 |v::r,k,A,c,a,h,x,b=>by
  have e:=a v mS
  have:=c0b r (k+1) (A.set v.toNat (k:Int)) (by simp[c]) (λw f=>a w (mC _ f)) (λy d=>by
   rw[T03 e.1 (by omega) d]
   have:=h y d
   split<;>omega) x b
  rw[P01,List.length_cons,show k+(r.length+1)=k+1+r.length by omega];exact this
theorem f08(n:Nat)(x:Int):getI (List.replicate n (-1)) x = -1:=by
 unfold getI
 rw[List.getD_eq_getElem?_getD,List.getElem?_replicate]
 split<;>rfl
theorem M08{n:Nat}{o:List Int}(b:inV n o){x:Int}(a:0<=x): -1<=getI (plc n o) x/\getI (plc n o) x<(o.length:Int):=by
 have:=c0b o 0 (List.replicate n (-1)) (by simp) b (λx a=>by rw[f08];omega) x a
 rw[Nat.zero_add]at this;exact this
theorem D0s(n:Nat)(o:List Int):(plc n o).length=n:=by unfold plc;rw[D0f];simp
def pE(P:List Int):List Q0->List Q0
 | []=>[]
 |e::r=>bif decide (0<=getI P e.1)&&decide (0<=getI P e.2.2)then(getI P e.1,e.2.1,getI P e.2.2)::pE P r else pE P r
theorem F0m(P:List Int):∀ es,(pE P es).length<=es.length
 | []=>by simp[pE]
 |e::r=>by
  have:=F0m P r
  unfold pE
  cases decide (0<=getI P e.1)&&decide (0<=getI P e.2.2)<;>simp only[cond_true,cond_false,List.length_cons]<;>omega
def F00(g:j0)(o:List Int):j0:=(g.1,(o.length:Int),i5 P0 [] (pE (plc g.2.1.toNat o) g.2.2))
theorem P02:∀(r l:List Q0),(i5 P0 l r).length<=l.length+r.length
 | [],l=>by simp[i5]
 |e::r,l=>by have:=P02 r (S8 P0 e l);have:=v04 e l;simp only[i5,List.length_cons];omega
theorem G0m(g:j0)(o:List Int):(F00 g o).2.2.length<=g.2.2.length:=by
 have:=P02 (pE (plc g.2.1.toNat o) g.2.2) []
 have:=F0m (plc g.2.1.toNat o) g.2.2
 simp only[F00,List.length_nil]at *;omega
theorem J0q(A:List Int)(i k:Nat):(A.map (·+1)).set i (((k+1:Nat):Int))=(A.set i (k:Int)).map (·+1):=by
 rw[List.map_set];rfl
theorem E0f{A:List Int}{n:Nat}(d:A.length=n){x:Int}(h0:0<=x)(c:x<n):gi (A.map (·+1)) x=some (getI A x+1):=by
 have b:x.toNat<A.length:=by omega
 have e:x=((x.toNat:Nat):Int):=by omega
 have a:gi (A.map (·+1)) ((x.toNat:Nat):Int)=some (getI A x+1):=by
  rw[t0q,List.getElem?_map,List.getElem?_eq_getElem b]
  unfold getI
  rw[List.getD_eq_getElem?_getD,List.getElem?_eq_getElem b];rfl
 rw[←e]at a;exact a
theorem F0f{n:Nat}:∀(o:List Int) (k:Nat) (A:List Int) (x:Int),A.length=n->inV n o->0<=x->x ∉ o->getI (P01 A k o) x=getI A x
 | [],k,A,x,c,a,b,h=>rfl
 |v::r,k,A,x,c,a,b,h=>by
  have f:=a v mS
  rw[P01,F0f r _ _ x (by simp[c]) (λw g=>a w (mC _ g)) b (λd=>h (mC _ d)),T03 f.1 (by omega) b,if_neg (λe=>h (by rw[e];exact mS))]
theorem K0q(r:Int)(n:Nat)(es:List Q0)(o:List Int)(h:inV n o)(l:o.Nodup)(t:1<=n/\n<=1000000)(s:o.length<=1099511627776):∀(d k fuel:Nat) (A:List Int),A.length=n->(∀ x,0<=x -> -1<=getI A x/\getI A x<=1099511627776)->(∀ x∈o.drop k,getI A x = -1)->k+d=o.length->d<fuel ->
  p5 o (n:Int) r es fuel (k:Int) (A.map (·+1))=some (.inr ((P01 A k (o.drop k)).map (·+1)))
 |d,k,0,A,f,i,c,j,hf=>by omega
 |0,k,fuel+1,A,f,i,c,j,hf=>by
  rw[p5.eq_2,if_neg (by simp;omega),M1 (by omega)];rfl
 |d+1,k,fuel+1,A,f,i,c,j,hf=>by
  have m:k<o.length:=by omega
  have a:=w5 m
  have b:=h _ (List.mem_of_getElem? a)
  have g:=V1 a
  generalize o[k]=v at a b g
  have p:(o.drop k).Nodup:=l.sublist (List.drop_sublist _ _)
  rw[g]at p c
  have q:=c v mS
  have w:=K0q r n es o h l t s d (k+1) fuel (A.set v.toNat (k:Int)) (by simp[f]) (λx a=>by
   rw[T03 b.1 (by omega) a];have:=i x a;split<;>omega) (λx a=>by
   have u:=h x (List.mem_of_mem_drop a)
   rw[T03 b.1 (by omega) u.1,if_neg (λe=>(List.nodup_cons.1 p).1 (by rw[←e];exact a))]
   exact c x (mC _ a)) (by omega) (by omega)
  rw[p5.eq_2,if_pos (by simp;omega),g,E3 a]
  simp only[oB,A03,w64 (show -9223372036854775808<=(n:Int)-1 by omega) (show(n:Int)-1<=9223372036854775807 by omega),inR,show decide (0<=v)=true by simpa using b.1,show decide (v<=(n:Int)-1)=true by simp;omega,Bool.and_self,Bool.not_true,Bool.not_false,I2,E0f f b.1 b.2,q,cond_false]
  rw[if_neg (by decide),Z2 m (by omega),J0q,w]
  rfl
theorem L0q(es:List Q0){n:Nat}(s:inN n es)(u:es.length<=1099511627776)(P:List Int)(g:P.length=n)(i:∀ x,0<=x -> -1<=getI P x/\getI P x<=1099511627776)(r m:Int):∀(d k fuel:Nat) (acc:List Q0),k+d=es.length->d<fuel->acc.length<=k ->
  A4 es (P.map (·+1)) fuel (k:Int) r m acc=some (r,m,i5 P0 acc (pE P (es.drop k)))
 |d,k,0,acc,p,hf,o=>by omega
 |0,k,fuel+1,acc,p,hf,o=>by
  rw[A4.eq_2,if_neg (by simp;omega),M1 (by omega)];rfl
 |d+1,k,fuel+1,acc,p,hf,o=>by
  have q:k<es.length:=by omega
  have f:=w5 q
  have c:=s _ (List.mem_of_getElem? f)
  generalize es[k]=e at f c
  obtain⟨a,l,b⟩:=e
  have j:=λt h=>L0q es s u P g i r m d (k+1) fuel t (by omega) (by omega) h
  have v:=i a c.1.1
  have w:=i b c.2.1
  rw[A4.eq_2,if_pos (by simp;omega),V1 f]
  simp only[E3 f,oB,E0f g c.1.1 c.1.2,E0f g c.2.1 c.2.2,Z2 q (show es.length<=9223372036854775807 by omega),pE]
  by_cases c1:0<=getI P a
  ·simp only[show decide (getI P a+1>0)=true by simp;omega,I2,oB,cond_true,show decide (0<=getI P a)=true by simpa using c1,Bool.true_and]
   by_cases c2:0<=getI P b
   ·rw[if_pos (by simp;omega),w64 (by omega) (by omega),w64 (by omega) (by omega),show getI P a+1-1=getI P a by omega,show getI P b+1-1=getI P b by omega]
    rw[Z06 _ _ (by omega),oB,j _ (by have:=v04 (getI P a,l,getI P b) acc;omega)]
    simp[c2,i5]
   ·rw[if_neg (by simp;omega),j _ (by omega)]
    simp[c2]
  ·simp only[show decide (getI P a+1>0)=false by simp;omega,Z3,oB,cond_false,show decide (0<=getI P a)=false by simpa using c1,Bool.false_and]
   rw[if_neg (by simp),j _ (by omega)]
theorem G0f(r:Int)(n:Nat)(es:List Q0)(o:List Int)(f:F1 (r,(n:Int),es)=true)(g:inV n o)(l:o.Nodup)(t:1<=o.length)(u:o.length<=n):
  H7 (r,(n:Int),es) o=some (F00 (r,(n:Int),es) o,true):=by
 obtain⟨h,p,q,s⟩:=i4 f
 simp only at p q s
 have m:inN n es:=λe d=>⟨(h e d).1,(h e d).2.1⟩
 have k:=r7 (r,(n:Int),es) (by simp only;omega)
 unfold H7
 have a:=K0q r n es o g l (by omega) (by omega) o.length 0 W0 (List.replicate n (-1)) (by simp) (λx b=>by rw[f08];omega) (λx b=>f08 n x) (by omega) (N1 (by omega))
 have c:=L0q es m (by omega) (plc n o) (D0s n o) (λx b=>by have:=M08 g b;omega) r ((o.length:Nat):Int) es.length 0 W0 [] (by omega) (N1 (by omega)) (Nat.le_refl _)
 rw[show((0:Nat):Int)=0 from rfl,List.drop_zero]at c a
 rw[show(List.replicate n (-1:Int)).map (·+1)=List.replicate n 0 by simp]at a
 rw[show P01 (List.replicate n (-1)) 0 o=plc n o from rfl]at a
 have i:decide (((o.length:Nat):Int)=0)=false:=decide_eq_false (by omega)
 have j:decide (((o.length:Nat):Int)>(n:Int))=false:=decide_eq_false (by omega)
 simp only[k,f,oB,Bool.not_true,cond_false,Int.toNat_natCast,i,j]
 rw[if_neg (by simp),S0 (by omega),oB,a]
 simp only[oB,p7,c]
 rfl
theorem c07:∀(n:Nat) (o:List Int),o.Nodup->inV n o->o.length<=n
 |0,[],_,_=>Nat.le_refl _
 |0,x::r,_,h=>by have:=h x mS;omega
 |n+1,o,c,h=>by
  have d:inV n (o.erase (n:Int)):=λx e=>by
   obtain⟨f,a⟩:=(List.Nodup.mem_erase_iff c).1 e
   have:=h x a;omega
  have b:=c07 n _ (c.erase _) d
  by_cases a:(n:Int)∈o
  ·rw[List.length_erase_of_mem a]at b;omega
  ·rw[List.erase_of_not_mem a]at b;omega
def U9:Nat->Nat->List Int
 |0,_=>[]
 |d+1,i=>(i:Int) :: -(i:Int)::U9 d (i+1)
theorem H0f:∀ d i,(U9 d i).length=2*d
 |0,i=>rfl
 |d+1,i=>by simp only[U9,List.length_cons,H0f d];omega
theorem R0n:∀(d i:Nat),i+d<=1000->∀ x∈U9 d i,l8 x
 |0,i,h,x,a=>nomatch a
 |d+1,i,h,x,a=>by
  simp only[U9,List.mem_cons]at a
  rcases a with rfl|rfl|a
  ·exact⟨⟨by omega,by omega⟩,by omega⟩
  ·exact⟨⟨by omega,by omega⟩,by omega⟩
  ·exact R0n d (i+1) (by omega) x a
theorem M0q(R:Nat)(c:R<=900):∀(d i fuel:Nat) (acc:List Int),i+d=R+1->d<fuel->acc.length+2*d<=10000 ->
  s6 (R:Int) fuel (i:Int) acc=some (acc++U9 d i)
 |d,i,0,acc,b,hf,a=>by omega
 |0,i,fuel+1,acc,b,hf,a=>by
  rw[s6.eq_2,if_neg (by simp;omega)];simp[U9]
 |d+1,i,fuel+1,acc,b,hf,a=>by
  have e:=M0q R c d (i+1) fuel ((acc ++ [(i:Int)]) ++ [-(i:Int)]) (by omega) (by omega) (by simp;omega)
  have f:IntKind.i64.wrap (0-(i:Int)) = -(i:Int):=by rw[w64 (by omega) (by omega)];omega
  rw[s6.eq_2,if_pos (by simp;omega),f,S0 (by simp;omega),oB,S0 (by simp;omega),oB,Z2 (show i<1000 by omega) (by omega),e]
  simp[U9]
theorem N0q(R:Nat)(a:R<=900):P8 (R:Int)=some (U9 R 1):=by
 unfold P8
 rw[show(1:Int)=((1:Nat):Int) from rfl,M0q R a R 1 W0 [] (by omega) (N1 (by omega)) (by simp;omega)];rfl
def W09(u:List Int)(x:Int):List Int:=if 0<=x/\x ∉ u then u ++ [x]else u
def s03(g:j0)(v:Int):List Int->List Int->List Int
 | [],u=>u
 |x::r,u=>s03 g v r (W09 u (Y0 g v x))
def V9(g:j0)(a:List Int):Nat->Nat->List Int->List Int
 |0,i,u=>u
 |f+1,i,u=>match u[i]? with
  |some v=>V9 g a f (i+1) (s03 g v a u)
  |none=>u
def gud(n:Nat)(u:List Int):Prop:=u.Nodup/\inV n u
theorem O0q{n:Nat}{u:List Int}{x:Int}(h:gud n u)(i:x = -1∨(0<=x/\x<(n:Int))):gud n (W09 u x):=by
 unfold W09
 split
 ·rename_i g
  refine⟨List.nodup_append.2 ⟨h.1,by simp,λa f b d=>?_⟩,λy c=>?_⟩
  ·simp at d;subst d;exact λe=>g.2 (e▸f)
  ·rcases List.mem_append.1 c with c|c
   ·exact h.2 y c
   ·simp at c;subst c;omega
 ·exact h
theorem I0f(u:List Int)(x:Int):∃ t,W09 u x=u++t:=by
 unfold W09;split
 ·exact⟨_,rfl⟩
 ·exact⟨[],by simp⟩
theorem w04(g:j0)(v:Int):∀(c u:List Int),∃ t,s03 g v c u=u++t
 | [],u=>⟨[],by simp[s03]⟩
 |x::r,u=>by
  obtain⟨d,a⟩:=I0f u (Y0 g v x)
  obtain⟨e,b⟩:=w04 g v r (W09 u (Y0 g v x))
  exact⟨d++e,by rw[s03,b,a,List.append_assoc]⟩
theorem m06{r:Int}{n:Nat}{es:List Q0}(a:inG (r,(n:Int),es))(v:Int):∀(b u:List Int),gud n u->gud n (s03 (r,(n:Int),es) v b u)
 | [],u,h=>h
 |x::l,u,h=>m06 a v l _ (O0q h (L08 a v x))
theorem J0f{r:Int}{n:Nat}{es:List Q0}(a:inG (r,(n:Int),es))(b:List Int):∀(f i:Nat) (u:List Int),gud n u->gud n (V9 (r,(n:Int),es) b f i u)
 |0,i,u,h=>h
 |f+1,i,u,h=>by
  unfold V9
  split
  ·exact J0f a b f _ _ (m06 a _ _ _ h)
  ·exact h
theorem K0f(g:j0)(a:List Int):∀(f i:Nat) (u:List Int),u.length<=(V9 g a f i u).length
 |0,i,u=>Nat.le_refl _
 |f+1,i,u=>by
  unfold V9
  split
  ·rename_i v _
   obtain⟨t,e⟩:=w04 g v a u
   have:=K0f g a f (i+1) (s03 g v a u)
   rw[e]at this ⊢;simp only[List.length_append]at this;omega
  ·exact Nat.le_refl _
theorem S0n(r:Int)(n:Nat)(es:List Q0)(g:inG (r,(n:Int),es))(A:n<=40)(m:es.length<=1099511627776)(a:List Int)(p:∀ x∈a,l8 x)(z:a.length<=1000000)(i:Nat)(v:Int):∀(d k fuel:Nat) (u:List Int),gud n u->u[i]?=some v->k+d=a.length->d<fuel ->
  j4 a (i:Int) r (n:Int) es fuel (k:Int) u=some (s03 (r,(n:Int),es) v (a.drop k) u)
 |d,k,0,u,c,b,j,hf=>by omega
 |0,k,fuel+1,u,c,b,j,hf=>by
  rw[j4.eq_2,if_neg (by simp;omega),M1 (by omega)];rfl
 |d+1,k,fuel+1,u,c,b,j,hf=>by
  have o:k<a.length:=by omega
  have f:=w5 o
  have q:=p _ (List.mem_of_getElem? f)
  have l:=V1 f
  generalize a[k]=x at f q l
  have D:=c07 n u c.1 c.2
  have B:Y0 (r,(n:Int),es) v x = -1∨(0<=Y0 (r,(n:Int),es) v x/\Y0 (r,(n:Int),es) v x<(n:Int)):=L08 g v x
  have s:=O0q c B
  have w:(W09 u (Y0 (r,(n:Int),es) v x))[i]?=some v:=by
   obtain⟨t,e⟩:=I0f u (Y0 (r,(n:Int),es) v x)
   rw[e,List.getElem?_append_left (List.getElem?_eq_some_iff.1 b).1];exact b
  have C:=S0n r n es g A m a p z i v d (k+1) fuel _ s w (by omega) (by omega)
  rw[j4.eq_2,if_pos (by simp;omega),l]
  simp only[E3 b,E3 f,oB,V09 (r,(n:Int),es) v x q m,S0 (m0e g (show(n:Int)<=40 by omega) v x),Z2 o (show a.length<=9223372036854775807 by omega),s03]
  rw[←C]
  generalize Y0 (r,(n:Int),es) v x=y at *
  unfold W09
  by_cases c1:0<=y
  ·simp only[show decide (y ≥ 0)=true by simpa using c1,I2,n0e u y (by omega),oB,cond_true]
   by_cases c2:y∈u
   ·rw[if_neg (by simp[c2]),if_neg (by simp[c2])]
   ·rw[if_pos (by simp[c2]),if_pos ⟨c1,c2⟩,S0 (by simp;omega),oB]
  ·simp only[show decide (y ≥ 0)=false by simpa using c1,Z3,oB,cond_false]
   rw[if_neg (by simp),if_neg (λh=>c1 h.1)]
theorem T0n(r:Int)(n:Nat)(es:List Q0)(d:inG (r,(n:Int),es))(m:n<=40)(h:es.length<=1099511627776)(a:List Int)(l:∀ x∈a,l8 x)(k:a.length<=1000000):∀(f i fuel:Nat) (u:List Int),gud n u->i<=u.length->n+1<=i+f->f<fuel ->
  J5 a r (n:Int) es fuel (i:Int) u=some (V9 (r,(n:Int),es) a f i u)
 |f,i,0,u,b,j,g,hf=>by omega
 |0,i,fuel+1,u,b,j,g,hf=>by have:=c07 n u b.1 b.2;omega
 |f+1,i,fuel+1,u,b,j,g,hf=>by
  have p:=c07 n u b.1 b.2
  rw[J5.eq_2,oB,S0 (by omega),oB]
  by_cases hk:i<u.length
  ·have c:=w5 hk
   generalize u[i]=v at c
   have h0:=S0n r n es d m h a l k i v a.length 0 W0 u b c (by omega) (N1 (by omega))
   rw[show((0:Nat):Int)=0 from rfl,List.drop_zero]at h0
   obtain⟨t,e⟩:=w04 (r,(n:Int),es) v a u
   have o:=T0n r n es d m h a l k f (i+1) fuel _ (m06 d v a u b) (by rw[e,List.length_append];omega) (by omega) (by omega)
   rw[if_pos (by simpa using hk),h0,oB,Z2 hk (by omega),o]
   simp only[V9,c]
  ·have c:u[i]?=none:=List.getElem?_eq_none (by omega)
   rw[if_neg (by simpa using hk)]
   simp only[V9,c]
def S5(g:j0):List Int:=V9 g (U9 g.1.toNat 1) (g.2.1.toNat+1) 0 [0]
theorem n06{g:j0}(hf:K0 g=true):gud g.2.1.toNat (S5 g)/\1<=(S5 g).length:=by
 obtain⟨c,d,e,f⟩:=D2 hf
 obtain⟨r,n,es⟩:=g
 simp only at d e f
 obtain⟨a,rfl⟩:∃ a:Nat,n=(a:Int):=⟨n.toNat,by omega⟩
 refine⟨?_,?_⟩
 ·exact J0f c _ _ _ _ ⟨by simp,λx b=>by simp at b;subst b;show(0:Int)<=0/\(0:Int)<(((a:Int).toNat:Nat):Int);omega⟩
 ·exact K0f _ _ _ _ [0]
theorem U0k(g:j0)(hf:K0 g=true):J8 g=some (S5 g):=by
 obtain⟨c,d,e,f⟩:=D2 hf
 have h:=T9 g (by omega)
 obtain⟨r,n,es⟩:=g
 simp only at d e f
 obtain⟨a,rfl⟩:∃ a:Nat,n=(a:Int):=⟨n.toNat,by omega⟩
 obtain⟨R,rfl⟩:∃ R:Nat,r=(R:Int):=⟨r.toNat,by omega⟩
 unfold J8
 have h0:=T0n (R:Int) a es c (by omega) (by omega) (U9 R 1) (R0n R 1 (by omega)) (by rw[H0f];omega) (a+1) 0 W0 [0] ⟨by simp,λx b=>by simp at b;subst b;omega⟩ (by simp) (by omega) (N1 (by omega))
 simp only[h,hf,oB,Bool.not_true,N0q R (by omega)]
 rw[show((0:Nat):Int)=0 from rfl]at h0
 rw[if_neg (by simp),h0]
 rfl
def Z02(W:List (Option (List Int)))(x:Int):Option (List Int):=W.getD x.toNat none
theorem o06{A:List (Option (List Int))}{v x:Int}{y:Option (List Int)}(h0:0<=v)(a:v.toNat<A.length)(b:0<=x):Z02 (A.set v.toNat y) x=if x=v then y else Z02 A x:=by
 unfold Z02
 rw[List.getD_eq_getElem?_getD,List.getD_eq_getElem?_getD,List.getElem?_set]
 by_cases c:x=v
 ·rw[if_pos c,if_pos (by rw[c]),if_pos a];rfl
 ·rw[if_neg c,if_neg (by omega)]
structure WOk (n:Nat) (W:List (Option (List Int))) (u:List Int):Prop where
 len:W.length=n
 iff:∀ x,0<=x->x<(n:Int)->((Z02 W x).isNone=true↔x ∉ u)
 short:∀ x,((Z02 W x).getD []).length<=u.length
def B4(g:j0):j0:=F00 g (S5 g)
theorem w0d(g:j0)(hf:K0 g=true):n7 g=some (B4 g):=by
 obtain⟨m,e,f,i⟩:=D2 hf
 have j:F1 g=true:=by
  unfold K0 at hf;exact(Bool.and_eq_true _ _▸hf).1
 have k:=U0k g hf
 obtain⟨a,c⟩:=n06 hf
 have d:=c07 _ _ a.1 a.2
 obtain⟨r,n,es⟩:=g
 simp only at e f i
 obtain⟨b,rfl⟩:∃ b:Nat,n=(b:Int):=⟨n.toNat,by omega⟩
 simp only[Int.toNat_natCast]at a d
 have l:=G0f r b es (S5 (r,(b:Int),es)) j a.2 a.1 c d
 unfold n7
 simp only[oB,k,l]
 rw[if_neg (by simp;intro h;rw[h]at c;simp at c)]
 rfl
def lf(a:Nat->Bool):Nat->Nat->Option Nat
 |0,v=>none
 |d+1,v=>bif a v then some v else lf a d (v+1)
theorem L0f{a:Nat->Bool}:∀(d v k:Nat),lf a d v=some k->v<=k/\k<v+d
 |0,v,k,h=>by cases h
 |d+1,v,k,h=>by
  unfold lf at h
  cases hb:a v
  ·rw[hb]at h;have:=L0f d (v+1) k h;omega
  ·rw[hb]at h;cases h;omega
def H0m(es:List Q0):List Int:=itS es (es.length+1) [0]
def l0j(es:List Q0)(v:Nat):Bool:=decide (Y02 (v:Int) es<2) || !decide ((v:Int)∈H0m es)
def G00(g:j0):Option Nat:=lf (l0j g.2.2) (g.2.1.toNat-1) 1
theorem I0m(g:j0)(b:F1 g=true):S9 g 0=some (H0m g.2.2)/\(H0m g.2.2).length<=100000:=by
 obtain⟨i,d,e,a⟩:=i4 b
 have h:=r7 g (by omega)
 obtain⟨r,n,es⟩:=g
 simp only at d e a
 unfold S9 H0m
 have c:=C0f es a (es.length+1) 0 W0 [0] (by omega) (N1 (by omega)) (by simp)
 have f:=O0n es (es.length+1) [0]
 refine⟨?_,?_⟩
 ·rw[show((0:Nat):Int)=0 from rfl]at c
  simp only[h,b,oB,Bool.not_true,Bool.not_false,I2,A03,inR,w64 (show -9223372036854775808<=n-1 by omega) (show n-1<=9223372036854775807 by omega)]
  rw[if_neg (by simp;omega),c];rfl
 ·have:(es.length+1)*(2*es.length)<=121*240:=Nat.mul_le_mul (by omega) (by omega)
  simp only[List.length_singleton]at f
  simp only
  omega
theorem P0q(r:Int)(n:Nat)(es:List Q0)(e:es.length<=1000)(u:List Int)(g:u.length<=100000)(f:n<=40):∀(d v fuel:Nat),v+d=n∨(d=0/\n<=v)->v<=1000->d<fuel ->
  H8 (n:Int) r es u fuel (v:Int)=some (match lf (λv=>decide (Y02 (v:Int) es<2) || !decide ((v:Int)∈u)) d v with|some k => .inl (k:Int)|none => .inr ())
 |d,v,0,b,c,hf=>by omega
 |0,v,fuel+1,b,c,hf=>by
  rw[H8.eq_2,if_neg (by simp;omega)];rfl
 |d+1,v,fuel+1,b,c,hf=>by
  have h:=P0q r n es e u g f d (v+1) fuel (by omega) (by omega) (by omega)
  have i:=L0n (v:Int) es
  rw[H8.eq_2,if_pos (by simp;omega),f0p (r,(n:Int),es) _ (by simp only;omega),oB,S0 (c64 (by simp only;omega) (by simp only;omega)),oB,Z2 (show v<10000 by omega) (by omega)]
  unfold lf
  by_cases c1:Y02 (v:Int) es<2
  ·have a:decide (((Y02 (v:Int) es:Nat):Int)<2)=true:=decide_eq_true (by omega)
   simp only[a,Bool.not_true,Z3,oB,cond_true,if_true,decide_eq_true c1,Bool.true_or]
  ·have a:decide (((Y02 (v:Int) es:Nat):Int)<2)=false:=decide_eq_false (by omega)
   simp only[a,Bool.not_false,I2,n0e u _ (show u.length<=9223372036854775807 by omega),oB,cond_false,decide_eq_false c1,Bool.false_or]
   by_cases c2:(v:Int)∈u
   ·simp only[decide_eq_true c2,Bool.not_true,Bool.false_eq_true,if_false,cond_false];exact h
   ·simp only[decide_eq_false c2,Bool.not_false,if_true,cond_true]
theorem Q0q(g:j0)(d:F1 g=true):w01 g=some (match G00 g with|some k=>(k:Int)|none => -1):=by
 obtain⟨b,c⟩:=I0m g d
 obtain⟨j,e,f,h⟩:=i4 d
 obtain⟨r,n,es⟩:=g
 simp only at e f h b c
 obtain⟨a,rfl⟩:∃ a:Nat,n=(a:Int):=⟨n.toNat,by omega⟩
 unfold w01 G00
 have i:=P0q r a es (by omega) (H0m es) c (by omega) (a-1) 1 W0 (by omega) (by omega) (N1 (by omega))
 simp only[b,oB,Int.toNat_natCast]
 rw[show(1:Int)=((1:Nat):Int) from rfl,i]
 rw[show(λv:Nat=>decide (Y02 (v:Int) es<2) || !decide ((v:Int)∈H0m es))=l0j es from rfl]
 cases lf (l0j es) (a-1) 1<;>rfl
def wo(g:Nat):Nat->Nat->List Int
 |0,k=>[]
 |d+1,k=>if k=g then wo g d (k+1)else(k:Int)::wo g d (k+1)
theorem R0q(g:Nat):∀(d k:Nat),(wo g d k).length=d-(if k<=g/\g<k+d then 1 else 0)
 |0,k=>by simp[wo]
 |d+1,k=>by
  have a:=R0q g d (k+1)
  unfold wo
  by_cases c:k=g
  ·rw[if_pos c,a,if_neg (by omega),if_pos (by omega)];omega
  ·rw[if_neg c,List.length_cons,a]
   by_cases c2:k+1<=g/\g<k+1+d
   ·rw[if_pos c2,if_pos (by omega)];omega
   ·rw[if_neg c2,if_neg (by omega)];omega
theorem A0t(g n:Nat):∀(d k:Nat),k+d<=n->inV n (wo g d k)
 |0,k,h=>λx a=>nomatch a
 |d+1,k,h=>by
  have b:=A0t g n d (k+1) (by omega)
  unfold wo
  split
  ·exact b
  ·intro x a
   rcases List.mem_cons.1 a with rfl|a
   ·omega
   ·exact b x a
def u00(g:j0):Bool:=K0 g&&((G00 g).isNone&&M0n (B4 g) g)
theorem T5{g:j0}(h:K0 g=true):F1 g=true:=by
 unfold K0 at h;exact(Bool.and_eq_true _ _▸h).1
theorem h0p{g:j0}(hf:K0 g=true):(B4 g).2.2.length<=120:=by
 have:=G0m g (S5 g)
 have:=(D2 hf).2.2.2
 unfold B4;omega
theorem m0j(g:j0)(j:g.2.2.length<=140737488355328):x01 g=some (u00 g):=by
 have a:=T9 g j
 unfold u00
 by_cases hf:K0 g=true
 ·have f:=Q0q g (T5 hf)
  have d:=w0d g hf
  have e:=g0p (B4 g) g (by have:=h0p hf;omega)
  obtain⟨p,q,c,s⟩:=D2 hf
  obtain⟨r,n,es⟩:=g
  unfold x01
  generalize B4 (r,n,es)=C at *
  obtain⟨l,m,o⟩:=C
  simp only[a,hf,oB,I2,f,cond_true]
  cases hq:G00 (r,n,es)with
  |none =>
   simp only[S0 (show H0 (-1) by decide),oB,show decide ((-1:Int)<0)=true from rfl,I2,d,e,cond_true,Option.isNone_none,Bool.true_and]
  |some k =>
   have i:=L0f _ _ _ hq
   simp only at c
   simp only at i
   have b:decide ((k:Int)<0)=false:=decide_eq_false (by omega)
   simp only[S0 (show H0 (k:Int) from c64 (by omega) (by omega)),oB,b,Z3,cond_false,Option.isNone_some,Bool.false_and,Bool.and_false]
 ·have h:K0 g=false:=Bool.eq_false_iff.2 hf
  obtain⟨r,n,es⟩:=g
  unfold x01
  simp only[a,h,oB,Z3,S0 (show H0 0 by decide),cond_false,Bool.false_and]
theorem V0k{d:Type}{cf:d->d->Int}(h:b9 cf):∀ {l:List d},(∀ i x y,l[i]?=some x->l[i+1]?=some y->cf x y<0)->Asc cf l
 | [],_=>List.Pairwise.nil
 | [x],_=>List.pairwise_singleton _ _
 |x::y::l,e=>by
  have g:Asc cf (y::l):=V0k h λi a b j k=>e (i+1) a b (by simpa using j) (by simpa using k)
  have f:=e 0 x y rfl rfl
  refine List.pairwise_cons.2 ⟨λz c=>?_,g⟩
  rcases List.mem_cons.1 c with rfl|c
  ·exact f
  ·exact h.trans _ _ _ f ((List.pairwise_cons.1 g).1 z c)
theorem S0q{d:Type}{cf:d->d->Int}:∀ {l:List d},Asc cf l->∀ {i:Nat} {x y:d},l[i]?=some x->l[i+1]?=some y->cf x y<0
 | [],_,i,x,y,b,_=>by simp at b
 |a::l,h,0,x,y,b,c=>by
  simp at b c;subst b
  exact(List.pairwise_cons.1 h).1 y (List.mem_of_getElem? c)
 |a::l,h,i+1,x,y,b,c=>S0q (List.pairwise_cons.1 h).2 (i:=i) (by simpa using b) (by simpa using c)
theorem T0q{r a:Int}{es:List Q0}:∀ {d k:Nat},(∀ i,k<=i->i<k+d->C0q r a es i=false)->okE r a es d k=true
 |0,k,h=>rfl
 |d+1,k,h=>by
  simp only[okE,Bool.and_eq_true,Bool.not_eq_true']
  exact⟨h k (Nat.le_refl _) (by omega),T0q λi b c=>h i (by omega) (by omega)⟩
theorem y01(g:j0):F1 g=true↔inG g/\(1<=g.1/\g.1<=3)/\(1<=g.2.1/\g.2.1<=40)/\g.2.2.length<=120/\Asc P0 g.2.2:=by
 constructor
 ·intro h
  obtain⟨m,c,d,k⟩:=i4 h
  refine⟨m,c,d,k,V0k O5 λi x y a b=>?_⟩
  simp only[F1,Bool.and_eq_true]at h
  have l:=D0m h.1.1.1 (i+1) (Nat.zero_le _) (by have:=(List.getElem?_eq_some_iff.1 b).1;omega)
  rw[l0e b]at l
  simp only[Nat.add_sub_cancel,a,Bool.or_eq_false_iff]at l
  have:=l.2
  simp only[show decide (0<i+1)=true by simp,Bool.true_and,decide_eq_false_iff_not]at this
  have e:i0j x y=P0 x y:=rfl
  omega
 ·rintro⟨m,c,d,k,o⟩
  obtain⟨r,n,es⟩:=g
  simp only at c d k o
  simp only[F1,inR,Bool.and_eq_true,decide_eq_true_eq]
  refine⟨⟨⟨T0q λi _ s=>?_,c⟩,d⟩,k⟩
  have a:=w5 (show i<es.length by omega)
  generalize es[i]=e at a
  rw[l0e a]
  have q:=m e (List.mem_of_getElem? a)
  simp only at q
  simp only[Bool.or_eq_false_iff,Bool.not_eq_false',X06,inR,Bool.and_eq_true,decide_eq_true_eq]
  rw[w64 (by omega) (by omega)]
  refine⟨⟨⟨⟨by omega,by omega⟩,by omega,by omega⟩,by omega,by omega⟩,?_⟩
  cases i with
  |zero=>rfl
  |succ j =>
   have b:=w5 (show j<es.length by omega)
   generalize es[j]=f at b
   have:=S0q o b a
   simp only[Nat.add_sub_cancel,b]
   have p:i0j f e=P0 f e:=rfl
   simp[p];omega
theorem d0b{r:Int}{n:Int}{es:List Q0}(d:1<=r/\r<=3)(c:1<=n/\n<=40)(f:es.length<=120)(b:inG (r,n,es)):F1 (r,n,i5 P0 [] es)=true:=by
 refine(y01 _).2 ⟨λe a=>b e ?_,d,c,?_,V04 O5 _ _ List.Pairwise.nil⟩
 ·rcases(R6 O5 e es []).1 a with h|h
  ·simp at h
  ·exact h
 ·have:=P02 es []
  simp only[List.length_nil]at this
  simp only;omega
def p06(a b:Q0):List (Int×Int) :=
 bif decide (a.2.1=b.2.1)then(bif decide (a.1=b.1)then [(if b.2.2<a.2.2 then b.2.2 else a.2.2,if b.2.2>a.2.2 then b.2.2 else a.2.2)]else [])++(bif decide (a.2.2=b.2.2)then [(if b.1<a.1 then b.1 else a.1,if b.1>a.1 then b.1 else a.1)]else [])else []
def Q02(a:Q0):List Q0->List (Int×Int)
 | []=>[]
 |b::r=>p06 a b++Q02 a r
def W9:List Q0->List (Int×Int)
 | []=>[]
 |a::r=>Q02 a r++W9 r
theorem i0p(a b:Q0):(p06 a b).length<=2:=by
 unfold p06
 cases decide (a.2.1=b.2.1)<;>cases decide (a.1=b.1)<;>cases decide (a.2.2=b.2.2)<;>simp
theorem D0h(a:Q0):∀ l,(Q02 a l).length<=2*l.length
 | []=>by simp[Q02]
 |b::r=>by have:=i0p a b;have:=D0h a r;simp only[Q02,List.length_append,List.length_cons];omega
def mvV(f:Int×Int)(v:Int):Int:=if v=f.2 then f.1 else if v>f.2 then v-1 else v
def mvE(f:Int×Int)(e:Q0):Q0:=(mvV f e.1,e.2.1,mvV f e.2.2)
def z05(g:j0)(f:Int×Int):j0:=(g.1,g.2.1-1,i5 P0 [] (g.2.2.map (mvE f)))
def okF(g:j0)(f:Int×Int):Prop:=0<=f.1/\f.1<f.2/\f.2<g.2.1
theorem A05{g:j0}{f:Int×Int}(k:F1 g=true)(hf:okF g f):F1 (z05 g f)=true:=by
 obtain⟨l,m,q,n,_⟩:=(y01 g).1 k
 obtain⟨o,f2,f3⟩:=hf
 refine d0b m ⟨by omega,by omega⟩ (by simpa using n) λe i=>?_
 obtain⟨h,j,rfl⟩:=List.mem_map.1 i
 obtain⟨b,c,d⟩:=l h j
 have a:∀ v:Int,0<=v/\v<g.2.1->0<=mvV f v/\mvV f v<g.2.1-1:=λv p=>by
  unfold mvV;split
  ·omega
  ·split<;>omega
 exact⟨a _ b,a _ c,d⟩
theorem W0k{g:j0}(j:inG g){a:Q0}(m:a∈g.2.2):∀ {l:List Q0},(∀ b∈l,b∈g.2.2/\a≠b)->∀ f∈Q02 a l,okF g f
 | [],_,f,hf=>by simp[Q02]at hf
 |b::r,h,f,hf=>by
  rcases List.mem_append.1 (show f∈p06 a b++Q02 a r from hf)with hf|hf
  ·have s:=j b (h b mS).1
   have q:=j a m
   have u:=(h b mS).2
   obtain⟨c,n,d⟩:=a
   obtain⟨e,p,i⟩:=b
   simp only at q s
   unfold p06 at hf
   simp only at hf
   by_cases c1:n=p
   ·have k : ¬ (c=e/\d=i):=λ⟨x,y⟩=>u (by rw[x,c1,y])
    simp only[c1,decide_true,cond_true,List.mem_append]at hf
    rcases hf with hf|hf
    ·by_cases c2:c=e
     ·simp only[c2,decide_true,cond_true,List.mem_singleton]at hf
      subst hf
      have:d≠i:=λy=>k ⟨c2,y⟩
      unfold okF
      simp only
      split<;>split<;>omega
     ·simp[c2]at hf
    ·by_cases c2:d=i
     ·simp only[c2,decide_true,cond_true,List.mem_singleton]at hf
      subst hf
      have:c≠e:=λy=>k ⟨y,c2⟩
      unfold okF
      simp only
      split<;>split<;>omega
     ·simp[c2]at hf
   ·simp[c1]at hf
  ·exact W0k j m (λo t=>h o (mC _ t)) f hf
theorem X0k{g:j0}(i:inG g):∀ {l:List Q0},(∀ b∈l,b∈g.2.2)->Asc P0 l->∀ f∈W9 l,okF g f
 | [],_,_,f,hf=>by simp[W9]at hf
 |a::r,h,d,f,hf=>by
  rcases List.mem_append.1 (show f∈Q02 a r++W9 r from hf)with hf|hf
  ·refine W0k i (h a mS) (λb c=>⟨h b (mC _ c),λe=>?_⟩) f hf
   have:=(List.pairwise_cons.1 d).1 b c
   rw[e,O5.refl]at this;omega
  ·exact X0k i (λb c=>h b (mC _ c)) (List.pairwise_cons.1 d).2 f hf
theorem Y04{g:j0}(a:F1 g=true):∀ f∈W9 g.2.2,okF g f:=by
 obtain⟨b,_,_,_,c⟩:=(y01 g).1 a
 exact X0k b (λ_ h=>h) c
def Z04:Nat->j0->j0×List (Int×Int)
 |0,g=>(g,[])
 |n+1,g=>match W9 g.2.2 with
  | []=>(g,[])
  |f::_=>((Z04 n (z05 g f)).1,f::(Z04 n (z05 g f)).2)
def I6(g:j0):j0×List (Int×Int):=bif F1 g then Z04 40 g else(g,[])
theorem g08:∀(n:Nat) {g:j0},F1 g=true->F1 (Z04 n g).1=true
 |0,g,h=>h
 |n+1,g,h=>by
  unfold Z04
  cases e:W9 g.2.2 with
  |nil=>exact h
  |cons f l=>exact g08 n (A05 h (Y04 h f (by rw[e];exact mS)))
theorem M0f:∀(n:Nat) {g:j0},F1 g=true->g.2.1<=(n:Int)+1->W9 (Z04 n g).1.2.2 = []
 |0,g,h,a=>by
  cases e:W9 g.2.2 with
  |nil=>exact e
  |cons f l =>
   have:=Y04 h f (by rw[e];exact mS)
   unfold okF at this
   omega
 |n+1,g,h,a=>by
  unfold Z04
  cases e:W9 g.2.2 with
  |nil=>exact e
  |cons f l=>exact M0f n (A05 h (Y04 h f (by rw[e];exact mS))) (by show g.2.1-1<=_;omega)
theorem j0p(a b:Q0):p06 a b = []↔h05 a b=false:=by
 unfold p06 h05
 cases decide (a.2.1=b.2.1)<;>cases decide (a.1=b.1)<;>cases decide (a.2.2=b.2.2)<;>simp
theorem E0h(a:Q0):∀ l,Q02 a l = []↔∀ b∈l,h05 a b=false
 | []=>by simp[Q02]
 |b::r=>by
  rw[Q02,List.append_eq_nil_iff,j0p,E0h a r]
  simp
theorem w0c:∀ l,W9 l = []↔l.Pairwise λa b=>h05 a b=false
 | []=>by simp[W9]
 |a::r=>by rw[W9,List.append_eq_nil_iff,E0h,w0c r,List.pairwise_cons]
theorem Q01(g:j0):K0 g=true↔F1 g=true/\W9 g.2.2 = []:=by
 unfold K0
 rw[Bool.and_eq_true,s0c,w0c]
theorem N0f{g:j0}(h:F1 g=true):K0 (I6 g).1=true:=by
 have a:=(i4 h).2.2.1
 unfold I6
 rw[h]
 exact(Q01 _).2 ⟨g08 40 h,M0f 40 h (by omega)⟩
theorem F0h(l:List Q0)(u:l.length<=1000)(i:Nat)(a c e:Int)(o:l[i]?=some (a,c,e)):∀(d k fuel:Nat) (acc:List Z8),k+d=l.length->d<fuel->acc.length+2*d<=4000000 ->
  d5 l (i:Int) fuel (k:Int) acc=some (acc++Q02 (a,c,e) (l.drop k))
 |d,k,0,acc,n,hf,m=>by omega
 |0,k,fuel+1,acc,n,hf,m=>by
  rw[d5.eq_2,if_neg (by simp;omega),M1 (by omega)]
  simp[Q02]
 |d+1,k,fuel+1,acc,n,hf,m=>by
  have p:k<l.length:=by omega
  have j:=w5 p
  generalize l[k]=b at j
  obtain⟨q,s,t⟩:=b
  have g:∀ f:List Z8,f.length+2*d<=4000000->d5 l (i:Int) fuel ((k+1:Nat):Int) f=some (f++Q02 (a,c,e) (l.drop (k+1))):=λf h=>F0h l u i a c e o d (k+1) fuel f (by omega) (by omega) h
  rw[d5.eq_2,if_pos (by simp;omega),E3 o,oB]
  simp only[]
  rw[E3 j,oB,Z2 p (by omega),V1 j]
  simp only[Q02,p06]
  cases decide (c=s)
  ·simp only[Bool.false_eq_true,if_false,cond_false,List.nil_append]
   exact g acc (by omega)
  ·cases decide (a=q)<;>cases decide (e=t)
   all_goals simp only[Bool.not_true,Bool.false_eq_true,if_false,if_true,cond_true,cond_false,List.nil_append,List.append_nil]
   ·exact g acc (by omega)
   ·rw[S0 (by simp;omega),oB,g _ (by simp;omega)];simp
   ·rw[S0 (by simp;omega),oB,g _ (by simp;omega)];simp
   ·rw[S0 (by simp;omega),oB,S0 (by simp;omega),oB,g _ (by simp;omega)];simp
theorem G0h(l:List Q0)(j:l.length<=1000):∀(d k fuel:Nat) (acc:List Z8),k+d=l.length->d<fuel->acc.length+2000*d<=3000000 ->
  I7 l fuel (k:Int) acc=some (acc++W9 (l.drop k))
 |d,k,0,acc,h,hf,g=>by omega
 |0,k,fuel+1,acc,h,hf,g=>by
  rw[I7.eq_2,if_neg (by simp;omega),M1 (by omega)]
  simp[W9]
 |d+1,k,fuel+1,acc,h,hf,g=>by
  have i:k<l.length:=by omega
  have a:=w5 i
  generalize l[k]=b at a
  obtain⟨c,e,f⟩:=b
  have h0:=F0h l j k c e f a (l.length-(k+1)) (k+1) W0 acc (by omega) (N1 (by omega)) (by omega)
  have m:=D0h (c,e,f) (l.drop (k+1))
  simp only[List.length_drop]at m
  rw[I7.eq_2,if_pos (by simp;omega),Z2 i (by omega),h0,oB,G0h l j d (k+1) fuel _ (by omega) (by omega) (by simp only[List.length_append,List.length_drop]at m ⊢;omega),V1 a,W9]
  simp
theorem Y0k(g:j0)(a:g.2.2.length<=1000):R01 g=some (W9 g.2.2):=by
 obtain⟨r,n,es⟩:=g
 unfold R01
 simp only
 rw[show(0:Int)=((0:Nat):Int) from rfl,G0h es a es.length 0 W0 [] (by omega) (N1 (by simp only at a;omega)) (by simp only at a;simp;omega)]
 rfl
def h08(g:j0):Z8×Bool:=bif F1 g then(match W9 g.2.2 with
 | []=>((0,0),false)
 |f::_=>(f,true))else((0,0),false)
theorem Q0d(g:j0)(c:g.2.2.length<=140737488355328):H9 g=some (h08 g):=by
 have b:=r7 g c
 have a:=Y0k g
 unfold h08
 cases hg:F1 g with
 |false =>
  obtain⟨r,n,es⟩:=g
  unfold H9
  simp only[b,hg,oB];rfl
 |true =>
  have a:=a (by have:=(i4 hg).2.2.2;omega)
  obtain⟨r,n,es⟩:=g
  unfold H9
  simp only[b,hg,a,oB,cond_true]
  simp only at a
  cases W9 es with
  |nil=>rfl
  |cons f l =>
   rw[if_neg (by simp),if_neg (by simp;omega),g0j rfl]
   rfl
theorem U0n(v:Int)(f:Z8)(d:0<=v/\v<1000)(hf:0<=f.1/\f.1<f.2):c02 v f=some (mvV f v):=by
 obtain⟨a,b⟩:=f
 simp only at hf
 unfold c02 mvV
 simp only
 by_cases c:v=b
 ·rw[if_pos (by simp[c]),if_neg (by simp;omega),if_pos c]
 ·rw[if_neg (by simp[c]),if_neg c]
  by_cases c2:v>b
  ·rw[if_pos (by simp[c2]),if_pos c2,w64 (by omega) (by omega)]
  ·rw[if_neg (by simp;omega),if_neg c2]
theorem U0q{f:Z8}{v:Int}(a:0<=v/\v<1000)(hf:0<=f.1/\f.1<1000):H0 (mvV f v):=by
 unfold mvV
 split
 ·exact⟨by omega,by omega⟩
 ·split
  ·exact⟨by omega,by omega⟩
  ·exact⟨by omega,by omega⟩
theorem Z0k(es:List Q0)(f:Z8)(r n:Int)(s:es.length<=1000)(o:∀ e∈es,(0<=e.1/\e.1<1000)/\(0<=e.2.2/\e.2.2<1000))(hf:0<=f.1/\f.1<f.2)(q:f.2<1000):∀(d k fuel:Nat) (acc:List Q0),k+d=es.length->d<fuel->acc.length<=k ->
  s5 es f.1 f.2 fuel (k:Int) r n acc=some (r,n,i5 P0 acc ((es.drop k).map (mvE f)))
 |d,k,0,acc,l,m,j=>by omega
 |0,k,fuel+1,acc,l,m,j=>by
  rw[s5.eq_2,if_neg (by simp;omega),M1 (by omega)]
  rfl
 |d+1,k,fuel+1,acc,l,m,j=>by
  have c:k<es.length:=by omega
  have g:=w5 c
  have a:=o _ (List.getElem_mem c)
  generalize es[k]=b at g a
  obtain⟨h,p,i⟩:=b
  simp only at a
  have t:=v04 (mvE f (h,p,i)) acc
  rw[s5.eq_2,if_pos (by simp;omega),E3 g,oB]
  simp only[]
  rw[U0n h (f.1,f.2) a.1 hf,oB,S0 (U0q a.1 ⟨hf.1,by show f.1<1000;omega⟩),oB,U0n i (f.1,f.2) a.2 hf,oB,S0 (U0q a.2 ⟨hf.1,by show f.1<1000;omega⟩),oB,
   Z06 acc _ (by omega),oB,Z2 c (by omega),V1 g,List.map_cons]
  exact Z0k es f r n s o hf q d (k+1) fuel _ (by omega) (by omega) (Nat.le_trans t (by omega))
theorem a0l{g:j0}{f:Z8}(d:F1 g=true)(hf:okF g f):J7 g f=some (z05 g f,true):=by
 obtain⟨k,o,l,m⟩:=i4 d
 have i:=r7 g (by omega)
 obtain⟨c,f2,f3⟩:=hf
 obtain⟨r,n,es⟩:=g
 obtain⟨a,b⟩:=f
 simp only at c f2 f3 l m
 have h:=Z0k es (a,b) r (IntKind.i64.wrap (n-1)) (by omega) (λe j=>by
  have:=k e j
  simp only at this
  exact⟨⟨by omega,by omega⟩,by omega,by omega⟩) ⟨c,f2⟩ (by simp only;omega) es.length 0 W0 [] (by omega) (N1 (by omega)) (Nat.le_refl _)
 unfold J7
 simp only[i,d,oB]
 rw[if_neg (by simp;omega),show(0:Int)=((0:Nat):Int) from rfl,h,w64 (by omega) (by omega)]
 rfl
def d07(g:j0):j0×Z8×Bool:=bif F1 g then(match W9 g.2.2 with
 | []=>(g,(0,0),false)
 |f::_=>(z05 g f,f,true))else(g,(0,0),false)
theorem i08(g:j0)(j:g.2.2.length<=1099511627776):p01 g=some (d07 g):=by
 have c:=Q0d g (by omega)
 have d:=C02 g j
 have i:∀ f,F1 g=true->okF g f->J7 g f=some (z05 g f,true):=λf a b=>a0l a b
 have h:F1 g=true->∀ f∈W9 g.2.2,okF g f:=Y04
 unfold h08 at c
 unfold d07
 obtain⟨r,n,es⟩:=g
 unfold p01
 simp only[c,oB]
 cases hg:F1 (r,n,es)with
 |false=>simp only[cond_false,Bool.not_false,if_true,d,oB]
 |true =>
  simp only[cond_true]
  simp only at h
  cases e:W9 es with
  |nil=>simp only[Bool.not_false,if_true,d,oB]
  |cons f l =>
   simp only[Bool.not_true,Bool.false_eq_true,if_false,i f hg (h hg f (by rw[e];exact mS)),oB]
def g0u:(j0×A02) ⊕ (Int×Int×T2×(List Z8))->Option (j0×A02):=λX=>p7 X (λS=>match S with
 |(a,b,c,e)=>some ((a,b,c),e))
theorem O0f:∀(d k fuel:Nat) (g:j0) (acc:List Z8),k+d=40->d<fuel->F1 g=true->acc.length=k ->
  (J6 fuel (k:Int) g.1 g.2.1 g.2.2 acc).bind g0u=some ((Z04 d g).1,acc++(Z04 d g).2)
 |d,k,0,g,acc,h,hf,a,c=>by omega
 |0,k,fuel+1,g,acc,h,hf,a,c=>by
  rw[J6.eq_2,if_neg (by simp;omega)]
  simp[g0u,p7,Z04]
 |d+1,k,fuel+1,g,acc,h,hf,a,c=>by
  have b:=i08 g (by have:=(i4 a).2.2.2;omega)
  have i:=Y04 a
  unfold d07 at b
  rw[a]at b
  simp only[cond_true]at b
  rw[J6.eq_2,if_pos (by simp;omega),show(g.1,g.2.1,g.2.2)=g from rfl,b]
  unfold Z04
  cases e:W9 g.2.2 with
  |nil=>simp[g0u,p7]
  |cons f l =>
   have j:=O0f d (k+1) fuel (z05 g f) (acc ++ [f]) (by omega) (by omega) (A05 a (i f (by rw[e];exact mS))) (by simp[c])
   simp only[oB,Bool.not_true,Bool.false_eq_true,if_false]
   rw[S0 (by simp;omega),oB,Z2 (show k<1000 by omega) (by omega)]
   refine j.trans ?_
   simp
theorem J05(g:j0)(b:g.2.2.length<=1099511627776):n8 g=some (I6 g):=by
 have a:=i08 g b
 have c:=C02 g b
 have d:=O0f 40 0 W0 g [] rfl (N1 (by omega))
 unfold I6
 obtain⟨r,n,es⟩:=g
 unfold n8
 simp only[c,oB]
 cases hg:F1 (r,n,es)with
 |false =>
  unfold d07 at a
  rw[hg]at a
  simp only[cond_false]at a
  rw[show W0=(W0-1)+1 from rfl,J6.eq_2,if_pos (by simp),a]
  rfl
 |true=>exact d hg rfl
theorem q06{g:j0}(h:F1 g=true):Asc P0 g.2.2:=((y01 g).1 h).2.2.2.2
def stp(u x v:Int):Q0:=if x<0 then(v,-x,u)else(u,x,v)
def S01(v:Int):List Int->Int->Int->List Q0
 | [],_,_=>[]
 | [x],u,_=>[stp u x v]
 |x::y::r,u,n=>stp u x n::S01 v (y::r) n (n+1)
theorem N08(v:Int):∀(w:List Int) (u n:Int),(S01 v w u n).length=w.length
 | [],_,_=>rfl
 | [x],_,_=>rfl
 |x::y::r,u,n=>by simp only[S01,List.length_cons,N08 v (y::r)]
theorem n0j(w:List Int)(v:Int)(r:Int)(h:∀ x∈w,l8 x/\x≠0)(o:w.length<=1000):∀(d k fuel:Nat) (u n:Int) (es:List Q0),k+d=w.length->d<fuel->0<=n->n<=1000+k->es.length<=1000+k ->
  K5 w v fuel u (k:Int) r n es=some (r,n+((d-1:Nat):Int),i5 P0 es (S01 v (w.drop k) u n))
 |d,k,0,u,n,es,m,hf,h0,j,l=>by omega
 |0,k,fuel+1,u,n,es,m,hf,h0,j,l=>by
  rw[K5.eq_2,if_neg (by simp;omega),M1 (by omega)]
  simp[S01,i5]
 |d+1,k,fuel+1,u,n,es,m,hf,h0,j,l=>by
  have f:k<w.length:=by omega
  have g:=w5 f
  have b:=h _ (List.getElem_mem f)
  generalize w[k]=x at g b
  have p:∀ e,(S8 P0 e es).length<=1000+(k+1):=λe=>by have:=v04 e es;omega
  rw[K5.eq_2,if_pos (by simp;omega),V1 g]
  by_cases c:k+1<w.length
  ·have i:=w5 c
   generalize w[k+1]=y at i
   have a:=n0j w v r h o d (k+1) fuel n (n+1) (S8 P0 (stp u x n) es) (by omega) (by omega) (by omega) (by omega) (p _)
   rw[V1 i]at a
   rw[Z2 f (by omega),if_pos (by simp;omega),E3 g,oB,w64 (show(-9223372036854775808:Int)<=n+1 by omega) (by omega),V1 i]
   have fin:some (r,n+1+((d-1:Nat):Int),i5 P0 (S8 P0 (stp u x n) es) (S01 v (y::w.drop (k+1+1)) n (n+1)))=some (r,n+((d+1-1:Nat):Int),i5 P0 es (S01 v (x::y::w.drop (k+1+1)) u n)):=by
    simp only[S01,i5]
    congr 3
    omega
   by_cases c2:x>0
   ·have e:stp u x n=(u,x,n):=by unfold stp;rw[if_neg (by omega)]
    rw[if_pos (by simp[c2])]
    simp only[oB]
    rw[Z06 es _ (by omega),oB,←e]
    exact a.trans fin
   ·have e:stp u x n=(n,-x,u):=by unfold stp;rw[if_pos (by omega)]
    rw[if_neg (by simp;omega)]
    simp only[oB]
    rw[o0f b.1.1 b.1.2,Z06 es _ (by omega),oB,←e]
    exact a.trans fin
  ·have q:d=0:=by omega
   subst q
   have a:=n0j w v r h o 0 (k+1) fuel v n (S8 P0 (stp u x v) es) (by omega) (by omega) h0 (by omega) (p _)
   rw[M1 (show k+1=w.length by omega)]at a ⊢
   rw[Z2 f (by omega),if_neg (by simp;omega),E3 g,oB]
   have fin:some (r,n+((0-1:Nat):Int),i5 P0 (S8 P0 (stp u x v) es) (S01 v [] v n))=some (r,n+((0+1-1:Nat):Int),i5 P0 es (S01 v [x] u n)):=by
    simp[S01,i5]
   by_cases c2:x>0
   ·have e:stp u x v=(u,x,v):=by unfold stp;rw[if_neg (by omega)]
    rw[if_pos (by simp[c2])]
    simp only[oB]
    rw[Z06 es _ (by omega),oB,←e]
    exact a.trans fin
   ·have e:stp u x v=(v,-x,u):=by unfold stp;rw[if_pos (by omega)]
    rw[if_neg (by simp;omega)]
    simp only[oB]
    rw[o0f b.1.1 b.1.2,Z06 es _ (by omega),oB,←e]
    exact a.trans fin
def A2(g:j0)(u:Int)(w:List Int)(v:Int):j0×Bool :=
 bif !w.isEmpty&&decide (g.2.1+(w.length:Int)-1<=40)&&decide (g.2.2.length+w.length<=120)then((g.1,g.2.1+((w.length-1:Nat):Int),i5 P0 g.2.2 (S01 v w u g.2.1)),true)else(g,false)
theorem O08{r:Int}{w:List Int}(h:L3 r w=true):w.length<=24/\∀ x∈w,l8 x/\x≠0 /\ -r<=x/\x<=r:=by
 have a:=h
 simp only[L3,Bool.and_eq_true,decide_eq_true_eq]at a
 refine⟨a.1.2,λx c=>?_⟩
 obtain⟨i,b⟩:=List.getElem?_of_mem c
 have:=S03 h b
 exact⟨⟨⟨by omega,by omega⟩,by omega⟩,this.2.2⟩
theorem x09{g:j0}{u v:Int}{w:List Int}(d:F1 g=true)(f:0<=u/\u<g.2.1)(i:0<=v/\v<g.2.1)(j:L3 g.1 w=true):Y9 g u w v=some (A2 g u w v):=by
 obtain⟨y,z,p,q⟩:=i4 d
 obtain⟨A,k⟩:=O08 j
 have l:=r7 g (by omega)
 have m:=C02 g (by omega)
 have b:=g03 g.1 w (by omega)
 obtain⟨r,n,es⟩:=g
 simp only at p q f i b
 have o:IntKind.i64.wrap (n-1)=n-1:=w64 (by omega) (by omega)
 have e:∀ x:Int,0<=x/\x<n->inR 0 (n-1) x=true:=λx a=>by simp[inR];omega
 have h:=n0j w v r (λx a=>⟨(k x a).1,(k x a).2.1⟩) (by omega) w.length 0 W0 u n es (by omega) (N1 (by omega)) (by omega) (by omega) (by omega)
 unfold Y9 A2
 simp only[l,m,d,oB,Bool.not_true,Bool.not_false,I2,cond_false,o,A03,e u f,e v i,b,j]
 rw[w64 (show(-9223372036854775808:Int)<=n+((w.length:Nat):Int) by omega) (by omega),w64 (show(-9223372036854775808:Int)<=n+((w.length:Nat):Int)-1 by omega) (by omega),w64 (show(-9223372036854775808:Int)<=((es.length:Nat):Int)+((w.length:Nat):Int) by omega) (by omega)]
 by_cases c:(w≠[]/\n+(w.length:Int)-1<=40)/\es.length+w.length<=120
 ·have t:w.length≠0:=by simpa using c.1.1
  rw[if_neg (by simp only[Bool.not_eq_true];simp[c.1.1];omega),show(0:Int)=((0:Nat):Int) from rfl,h,oB]
  rw[show(!w.isEmpty&&decide (n+(w.length:Int)-1<=40)&&decide (es.length+w.length<=120))=true by simp[c.1.1,c.1.2,c.2]]
  rfl
 ·rw[show(!w.isEmpty&&decide (n+(w.length:Int)-1<=40)&&decide (es.length+w.length<=120))=false by
   rw[←Bool.not_eq_true];simpa using c]
  rw[if_pos ?_]
  ·rfl
  ·by_cases d1:w = []
   ·simp[d1]
   ·by_cases d2:n+(w.length:Int)-1<=40
    ·have s : ¬ es.length+w.length<=120:=λh=>c ⟨⟨d1,d2⟩,h⟩
     have:decide (((es.length:Nat):Int)+((w.length:Nat):Int)>120)=true:=by simp;omega
     rw[this];simp
    ·have:decide (n+((w.length:Nat):Int)-1>40)=true:=by simp;omega
     rw[this];simp
def A3(g:j0):j0×Bool:=bif decide (g.2.1<40)then((g.1,g.2.1+1,g.2.2),true)else(g,false)
theorem R0d{g:j0}(a:F1 g=true):I9 g=some (A3 g):=by
 obtain⟨f,h,e,i⟩:=i4 a
 have b:=r7 g (by omega)
 have d:=C02 g (by omega)
 obtain⟨r,n,es⟩:=g
 simp only at e
 unfold I9 A3
 simp only[b,d,a,oB,Bool.not_true,cond_false]
 by_cases c:n<40
 ·rw[if_neg (by simp;omega),w64 (by omega) (by omega)];simp[c]
 ·rw[if_pos (by simp;omega)];simp[c]
theorem S0d{g:j0}(a:F1 g=true):F1 (A3 g).1=true:=by
 unfold A3
 by_cases c:g.2.1<40
 ·simp only[c,decide_true,cond_true]
  obtain⟨d,f,j,h,i⟩:=(y01 g).1 a
  refine(y01 _).2 ⟨λe b=>?_,f,?_,h,i⟩
  ·have:=d e b
   simp only
   omega
  ·simp only;omega
 ·simp only[c,decide_false,cond_false];exact a
theorem E0s{es:List Q0}{e:Q0}(a:Asc P0 es)(b:e∈es):S8 P0 e es=es :=
 T09 O5 (n0f O5 _ _ a) a λx=>by
  rw[R03 O5]
  constructor
  ·rintro(rfl|h)
   ·exact b
   ·exact h
  ·exact .inr
theorem b0l(e:Q0):∀ {es:List Q0},e ∉ es->(S8 P0 e es).length=es.length+1
 | [],_=>rfl
 |y::l,h=>by
  have d:=b0l e (es:=l) λb=>h (mC _ b)
  unfold S8
  split
  ·rfl
  ·split
   ·rename_i c
    exact absurd (O5.eq _ _ c) λa=>h (by rw[a];exact mS)
   ·simp only[List.length_cons,d]
def n9(g:j0)(e:Q0):j0×Bool:=bif decide (g.2.2.length<120) && !decide (e∈g.2.2)then((g.1,g.2.1,S8 P0 e g.2.2),true)else(g,false)
def V0q(g:j0)(e:Q0):Prop:=(0<=e.1/\e.1<g.2.1)/\(0<=e.2.2/\e.2.2<g.2.1)/\1<=e.2.1/\e.2.1<=g.1
theorem h0u{g:j0}(b:F1 g=true){e:Q0}(a:V0q g e):X06 g.1 (IntKind.i64.wrap (g.2.1-1)) e=true:=by
 obtain⟨c,d,f,h⟩:=i4 b
 rw[w64 (by omega) (by omega)]
 unfold V0q at a
 simp only[X06,inR,Bool.and_eq_true,decide_eq_true_eq]
 omega
theorem O0g{g:j0}{e:Q0}(a:F1 g=true)(o:V0q g e):Z9 g e=some (n9 g e):=by
 obtain⟨q,s,t,p⟩:=i4 a
 have l:=r7 g (by omega)
 have m:=C02 g (by omega)
 have i:=Q0k g e
 rw[h0u a o]at i
 have j:=Z06 g.2.2 e (by omega)
 have k:=q06 a
 obtain⟨r,n,es⟩:=g
 obtain⟨b,f,h⟩:=e
 simp only at p k j
 unfold Z9 n9
 simp only[l,m,a,oB,Bool.not_true,Bool.not_false,cond_false,I2,i]
 by_cases c:es.length<120
 ·rw[if_neg (by simp;omega),j,oB]
  by_cases d:(b,f,h)∈es
  ·rw[E0s k d]
   simp[c,d]
  ·have:=b0l (b,f,h) d
   simp only[this,c,d,decide_true,decide_false,Bool.not_false,Bool.and_true,cond_true]
   simp
   omega
 ·rw[if_pos (by simp;omega)]
  simp[c]
def a05(g:j0)(v:Int):List Int->List Q0
 | []=>[]
 |x::r=>(bif decide (Y0 g v x<0)then [(v,x,-1)]else [])++a05 g v r
def j08(g:j0):Nat->Nat->List Q0
 |0,_=>[]
 |d+1,v=>a05 g (v:Int) (U9 g.1.toNat 1)++j08 g d (v+1)
theorem H0h(g:j0)(v:Int):∀ l,(a05 g v l).length<=l.length
 | []=>Nat.le_refl _
 |x::r=>by
  have:=H0h g v r
  simp only[a05,List.length_append,List.length_cons]
  cases decide (Y0 g v x<0)<;>simp<;>omega
theorem c0l(g:j0)(j:F1 g=true)(v:Int)(a:List Int)(l:∀ x∈a,l8 x)(o:a.length<=1000):∀(d k fuel:Nat) (acc:List Q0),k+d=a.length->d<fuel->acc.length+d<=100000 ->
  n4 a g.1 g.2.1 g.2.2 v fuel (k:Int) acc=some (acc++a05 g v (a.drop k))
 |d,k,0,acc,i,hf,f=>by omega
 |0,k,fuel+1,acc,i,hf,f=>by
  rw[n4.eq_2,if_neg (by simp;omega),M1 (by omega)]
  simp[a05]
 |d+1,k,fuel+1,acc,i,hf,f=>by
  obtain⟨p,s,q,t⟩:=i4 j
  have c:k<a.length:=by omega
  have e:=w5 c
  have m:=l _ (List.getElem_mem c)
  generalize a[k]=x at e m
  have n:∀ b:List Q0,b.length+d<=100000->n4 a g.1 g.2.1 g.2.2 v fuel ((k+1:Nat):Int) b=some (b++a05 g v (a.drop (k+1))):=λb h=>c0l g j v a l o d (k+1) fuel b (by omega) (by omega) h
  rw[n4.eq_2,if_pos (by simp;omega),E3 e,oB,show(g.1,g.2.1,g.2.2)=g from rfl,V09 g v x m (by omega),oB,S0 (m0e p q.2 v x),oB,Z2 c (by omega),V1 e,a05]
  cases decide (Y0 g v x<0)with
  |true =>
   rw[if_pos rfl,oB,S0 (by simp;omega),oB,n _ (by simp;omega)]
   simp
  |false =>
   rw[if_neg (by simp),n _ (by omega)]
   simp
theorem r06:∀(d i:Nat) (x:Int),x∈U9 d i->∃ j:Nat,i<=j/\j<i+d/\(x=(j:Int)∨x = -(j:Int))
 |0,i,x,h=>by simp[U9]at h
 |d+1,i,x,h=>by
  simp only[U9,List.mem_cons]at h
  rcases h with rfl|rfl|h
  ·exact⟨i,Nat.le_refl _,by omega,.inl rfl⟩
  ·exact⟨i,Nat.le_refl _,by omega,.inr rfl⟩
  ·obtain⟨j,b,c,a⟩:=r06 d (i+1) x h
   exact⟨j,by omega,by omega,a⟩
theorem d0l(g:j0)(a:K0 g=true):∀(d k fuel:Nat) (acc:List Q0),k+d=g.2.1.toNat->d<fuel->acc.length+100*d<=10000 ->
  C5 g.2.1 g.1 g.2.2 fuel (k:Int) acc=some (acc++j08 g d k)
 |d,k,0,acc,c,hf,b=>by omega
 |0,k,fuel+1,acc,c,hf,b=>by
  obtain⟨l,m,n,o⟩:=D2 a
  rw[C5.eq_2,show decide (((k:Nat):Int)<g.2.1)=false by simp;omega]
  simp[chk,j08]
 |d+1,k,fuel+1,acc,c,hf,b=>by
  obtain⟨l,m,n,o⟩:=D2 a
  have f:=((Q01 g).1 a).1
  obtain⟨R,e⟩:∃ R:Nat,g.1=(R:Int):=⟨g.1.toNat,by omega⟩
  have h:∀ x∈U9 g.1.toNat 1,l8 x:=λx i=>by
   obtain⟨j,p,q,s⟩:=r06 _ _ _ i
   refine⟨⟨by omega,by omega⟩,by omega⟩
  have t:=H0f g.1.toNat 1
  have u:=H0h g (k:Int) (U9 g.1.toNat 1)
  have h0:=c0l g f (k:Int) (U9 g.1.toNat 1) h (by omega) (U9 g.1.toNat 1).length 0 W0 acc (by omega) (N1 (by omega)) (by omega)
  rw[C5.eq_2,show decide (((k:Nat):Int)<g.2.1)=true by simp;omega,I2,show(g.1,g.2.1,g.2.2)=g from rfl,T9 g (by omega),oB,a]
  rw[if_pos (show(bif true then true else false)=true from rfl),show P8 g.1=some (U9 g.1.toNat 1) by rw[e,N0q R (by omega)];rfl,oB,show(0:Int)=((0:Nat):Int) from rfl,h0,oB,Z2 (show k<1000 by omega) (by omega),d0l g a d (k+1) fuel _ (by omega) (by omega) (by simp;omega),j08]
  simp
def K7(g:j0):List Q0:=j08 g g.2.1.toNat 0
theorem P0g{g:j0}(hf:K0 g=true):A8 g=some (K7 g):=by
 obtain⟨a,b,c,d⟩:=D2 hf
 have h:=d0l g hf g.2.1.toNat 0 W0 [] (by omega) (N1 (by omega)) (by simp;omega)
 obtain⟨r,n,es⟩:=g
 unfold A8 K7
 simp only at h ⊢
 rw[show(0:Int)=((0:Nat):Int) from rfl,h];simp
theorem I0h{g:j0}{v:Int}{e:Q0}:∀ {l:List Int},e∈a05 g v l->e.1=v/\e.2.1∈l/\e.2.2 = -1
 | [],h=>nomatch h
 |x::r,h=>by
  simp only[a05,List.mem_append]at h
  rcases h with h|h
  ·cases hd:decide (Y0 g v x<0)with
   |true =>
    rw[hd]at h
    simp at h
    subst h
    exact⟨rfl,mS,rfl⟩
   |false=>rw[hd]at h;simp at h
  ·obtain⟨a,b,c⟩:=I0h h
   exact⟨a,mC _ b,c⟩
theorem J0h{g:j0}{e:Q0}:∀ {d k:Nat},e∈j08 g d k->((k:Int)<=e.1/\e.1<(k:Int)+d)/\e.2.1∈U9 g.1.toNat 1
 |0,k,h=>nomatch h
 |d+1,k,h=>by
  rcases List.mem_append.1 (show e∈a05 g (k:Int) (U9 g.1.toNat 1)++j08 g d (k+1) from h)with h|h
  ·obtain⟨b,a,_⟩:=I0h h
   exact⟨by omega,a⟩
  ·obtain⟨b,a⟩:=J0h h
   exact⟨by omega,a⟩
theorem k08{g:j0}(hf:K0 g=true){e:Q0}(h:e∈K7 g):(0<=e.1/\e.1<g.2.1)/\e.2.1≠0 /\ -g.1<=e.2.1/\e.2.1<=g.1:=by
 obtain⟨i,k,l,m⟩:=D2 hf
 obtain⟨b,a⟩:=J0h h
 obtain⟨j,c,d,f⟩:=r06 _ _ _ a
 refine⟨by omega,by omega,by omega,by omega⟩
theorem R02{x:l0}(h:O1 x=true):∀ w∈x.2,L3 x.1 w=true:=by
 simp only[O1,U3,Bool.and_eq_true]at h
 have a:∀ {b:List (List Int)},w07 x.1 b=true->∀ w∈b,L3 x.1 w=true:=by
  intro b
  induction b with
  |nil=>intro _ w a;cases a
  |cons v r c =>
   intro h w a
   simp only[w07,Bool.and_eq_true]at h
   rcases List.mem_cons.1 a with rfl|a
   ·exact h.1
   ·exact c h.2 w a
 exact a h.1.1.2
theorem o0j{x:l0}(h:O1 x=true):∀ w∈x.2,(∀ y∈w,l8 y)/\w.length<=24:=λw c=>by
 have a:=R02 h w c
 refine⟨λy d=>?_,?_⟩
 ·obtain⟨i,b⟩:=List.getElem?_of_mem d
  have:=S03 a b
  refine⟨⟨by omega,by omega⟩,by omega⟩
 ·simp only[L3,Bool.and_eq_true,decide_eq_true_eq]at a
  exact a.1.2
theorem P0f{x:l0}(h:O1 x=true):x.2.length<=6:=by
 simp only[O1,U3,Bool.and_eq_true,decide_eq_true_eq]at h
 exact h.1.1.1.2
def W0q(g:j0)(v:Int)(r:List Int):Bool:=bif decide ((N00 g v r).2<r.length)then true else !decide ((N00 g v r).1=v)
def Q0f(g:j0)(v:Int):List (List Int)->Nat->Option Nat
 | [],_=>none
 |r::l,i=>bif W0q g v r then some i else Q0f g v l (i+1)
def x07(g:j0)(a:List (List Int)):Nat->Nat->Option (Nat×Nat)
 |0,_=>none
 |d+1,v=>match Q0f g (v:Int) a 0 with
  |some i=>some (v,i)
  |none=>x07 g a d (v+1)
def V0n(q:Option (Nat×Nat)):Int×Int:=match q with
 |some (v,i)=>((v:Int),(i:Int))
 |none=>(-1,-1)
def K05(p:l0)(g:j0):Int×Int:=bif O1 p&&K0 g&&decide (p.1=g.1)then V0n (x07 g p.2 g.2.1.toNat 0)else(-1,-1)
theorem R0f(a:List (List Int))(h:∀ w∈a,(∀ y∈w,l8 y)/\w.length<=24)(r n:Int)(es:List Q0)(hf:K0 (r,n,es)=true)(q:a.length<=6)(v:Int)(j:0<=v/\v<n):∀(d k fuel:Nat),k+d=a.length->d<fuel ->
  R5 a r n es v fuel (k:Int)=some (match Q0f (r,n,es) v (a.drop k) k with|some i => .inl (v,(i:Int))|none => .inr ())
 |d,k,0,e,f=>by omega
 |0,k,fuel+1,e,f=>by
  rw[R5.eq_2,if_neg (by simp;omega),M1 (by omega)]
  rfl
 |d+1,k,fuel+1,e,f=>by
  have b:k<a.length:=by omega
  have c:=w5 b
  obtain⟨l,s⟩:=h _ (List.getElem_mem b)
  generalize a[k]=w at c l s
  obtain⟨p,_,g,o⟩:=D2 hf
  simp only at g o
  have m:H0 v:=⟨by omega,by omega⟩
  rw[R5.eq_2,if_pos (by simp;omega),E3 c,oB,F0q (r,n,es) hf v j w l (by omega),oB,V1 c]
  simp only[Q0f,W0q]
  cases decide ((N00 (r,n,es) v w).2<w.length)with
  |true =>
   simp only[cond_true,S0 (show H0 (-1) by decide),oB,Bool.not_false,if_true]
  |false =>
   simp only[cond_false,S0 (x0f p g.2 w v m),oB,Bool.not_true]
   cases decide ((N00 (r,n,es) v w).1=v)with
   |false=>rfl
   |true =>
    rw[if_neg (by simp),Z2 b (by omega)]
    exact R0f a h r n es hf q v j d (k+1) fuel (by omega) (by omega)
theorem S0f(b:List (List Int))(r:Int)(a:Nat)(es:List Q0)(c:O1 (r,b)=true)(hf:K0 (r,(a:Int),es)=true)(h:b.length<=140737488355328)(j:Y2 b):∀(d k fuel:Nat),k+d=a->d<fuel ->
  G4 (a:Int) r b r es fuel (k:Int)=some (match x07 (r,(a:Int),es) b d k with|some (v,i) => .inl ((v:Int),(i:Int))|none => .inr ())
 |d,k,0,f,g=>by omega
 |0,k,fuel+1,f,g=>by
  have e:decide ((k:Int)<(a:Int))=false:=by simp;omega
  rw[G4.eq_2,e,Z3,oB]
  simp only[cond_false,Z3,oB]
  rw[if_neg (by simp)]
  rfl
 |d+1,k,fuel+1,f,g=>by
  obtain⟨n,_,m,l⟩:=D2 hf
  simp only at m l
  have e:decide ((k:Int)<(a:Int))=true:=by simp;omega
  have h0:=R0f b (o0j c) r (a:Int) es hf (P0f c) (k:Int) ⟨by omega,by omega⟩ b.length 0 W0 (by omega) (N1 (by omega))
  rw[show((0:Nat):Int)=0 from rfl,List.drop_zero]at h0
  rw[G4.eq_2,e,I2,d4 (r,b) h j,oB,c]
  simp only[cond_true,I2,T9 (r,(a:Int),es) (show es.length<=140737488355328 by omega),hf,oB,decide_true,if_true,h0]
  simp only[x07]
  cases Q0f (r,(a:Int),es) (k:Int) b 0 with
  |some i=>rfl
  |none =>
   simp only[S0a]
   rw[Z2 (show k<a by omega) (by omega)]
   exact S0f b r a es c hf h j d (k+1) fuel (by omega) (by omega)
theorem e0b(p:l0)(g:j0)(f:p.2.length<=140737488355328)(i:Y2 p.2)(m:g.2.2.length<=140737488355328):Q8 p g=some (K05 p g):=by
 have k:=d4 p f i
 have j:=T9 g m
 unfold K05
 obtain⟨a,c⟩:=p
 obtain⟨r,n,es⟩:=g
 unfold Q8
 have q:(O1 (a,c)&&K0 (r,n,es)&&decide (a=r))=false->G4 n a c r es W0 0=some (.inr ()):=λd=>by
  rw[show W0=(W0-1)+1 from rfl,G4.eq_2]
  cases decide ((0:Int)<n)with
  |false=>simp[chk]
  |true =>
   simp only[I2,k,oB,cond_true]
   cases e:O1 (a,c)with
   |false=>simp[chk]
   |true =>
    simp only[I2,j,oB,cond_true]
    rw[e]at d
    cases hf:K0 (r,n,es)with
    |false=>simp
    |true =>
     rw[hf]at d
     simp only[Bool.true_and]at d
     simp[d]
 cases hall:(O1 (a,c)&&K0 (r,n,es)&&decide (a=r))with
 |false =>
  simp only[q hall,oB,hall,cond_false]
  rfl
 |true =>
  simp only[Bool.and_eq_true,decide_eq_true_eq]at hall
  obtain⟨⟨e,hf⟩,rfl⟩:=hall
  obtain⟨s,_,o,l⟩:=D2 hf
  simp only at o l
  obtain⟨b,rfl⟩:∃ b:Nat,n=(b:Int):=⟨n.toNat,by omega⟩
  have h:=S0f c a b es e hf f i b 0 W0 (by omega) (N1 (by omega))
  rw[show((0:Nat):Int)=0 from rfl]at h
  simp only[h,oB,e,hf,decide_true,Bool.true_and,cond_true,Int.toNat_natCast]
  cases x07 (a,(b:Int),es) c b 0<;>rfl
theorem K0h{g:j0}{v:Int}:∀ {l:List (List Int)} {k i:Nat},Q0f g v l k=some i->k<=i/\i<k+l.length
 | [],k,i,h=>nomatch h
 |r::l,k,i,h=>by
  unfold Q0f at h
  cases hb:W0q g v r with
  |true =>
   rw[hb]at h
   simp only[cond_true,Option.some.injEq]at h
   subst h
   simp
  |false =>
   rw[hb]at h
   have:=K0h (l:=l) (k:=k+1) (i:=i) h
   simp only[List.length_cons];omega
theorem x0c{g:j0}{a:List (List Int)}:∀ {d k v i:Nat},x07 g a d k=some (v,i)->(k<=v/\v<k+d)/\i<a.length
 |0,k,v,i,h=>nomatch h
 |d+1,k,v,i,h=>by
  unfold x07 at h
  cases hr:Q0f g (k:Int) a 0 with
  |some j =>
   rw[hr]at h
   simp only[Option.some.injEq,Prod.mk.injEq]at h
   obtain⟨rfl,rfl⟩:=h
   have:=K0h hr
   omega
  |none =>
   rw[hr]at h
   have:=x0c (d:=d) (k:=k+1) h
   omega
def L0h(p:l0)(g:j0)(v i:Nat):j0×Bool×Bool:=match p.2[i]? with
 |some w=>bif(A2 g (v:Int) w (v:Int)).2 then((I6 (A2 g (v:Int) w (v:Int)).1).1,true,true)else(g,false,false)
 |none=>(g,false,false)
def M0h(g:j0):j0×Bool×Bool:=match K7 g with
 | []=>(g,false,true)
 |e::_=>bif(A3 g).2 then(bif(n9 (A3 g).1 (stp e.1 e.2.1 g.2.1)).2 then((n9 (A3 g).1 (stp e.1 e.2.1 g.2.1)).1,true,true)else(g,false,false))else(g,false,false)
def J2(p:l0)(g:j0):j0×Bool×Bool:=bif O1 p&&K0 g&&decide (p.1=g.1)then(match x07 g p.2 g.2.1.toNat 0 with
 |some (v,i)=>L0h p g v i
 |none=>M0h g)else(g,false,false)
theorem x0d{g:j0}(a:F1 g=true)(u:Int)(w:List Int)(v:Int):(A2 g u w v).1.2.2.length<=120:=by
 have q:=(i4 a).2.2.2
 unfold A2
 cases hc:(!w.isEmpty&&decide (g.2.1+(w.length:Int)-1<=40)&&decide (g.2.2.length+w.length<=120))with
 |false=>exact q
 |true =>
  simp only[Bool.and_eq_true,decide_eq_true_eq]at hc
  have b:=P02 (S01 v w u g.2.1) g.2.2
  have c:=N08 v w u g.2.1
  simp only[cond_true]
  omega
theorem i0u{g:j0}(hf:K0 g=true){e:Q0}(b:e∈K7 g)(a:(A3 g).2=true):V0q (A3 g).1 (stp e.1 e.2.1 g.2.1):=by
 obtain⟨d,f,h,i⟩:=k08 hf b
 obtain⟨j,k,l,m⟩:=D2 hf
 unfold A3 at a ⊢
 by_cases c:g.2.1<40
 ·simp only[c,decide_true,cond_true]
  unfold stp V0q
  split<;>(simp only;omega)
 ·simp[c]at a
theorem f0b(p:l0)(g:j0)(I:p.2.length<=140737488355328)(J:Y2 p.2)(O:g.2.2.length<=1099511627776):a00 p g=some (J2 p g):=by
 have L:=d4 p I J
 have M:=T9 g (by omega)
 have j:=C02 g O
 have G:=e0b p g I J (by omega)
 have N:K0 g=true->A8 g=some (K7 g):=P0g
 have A:K0 g=true->I9 g=some (A3 g):=λh=>R0d ((Q01 g).1 h).1
 have d:K0 g=true->∀ e∈K7 g,(A3 g).2=true->Z9 (A3 g).1 (stp e.1 e.2.1 g.2.1)=some (n9 (A3 g).1 (stp e.1 e.2.1 g.2.1)):=λh e C P=>O0g (S0d ((Q01 g).1 h).1) (i0u h C P)
 have y:O1 p=true->K0 g=true->p.1=g.1->∀ v i:Nat,x07 g p.2 g.2.1.toNat 0=some (v,i)->∃ w,p.2[i]?=some w/\Y9 g (v:Int) w (v:Int)=some (A2 g (v:Int) w (v:Int))/\n8 (A2 g (v:Int) w (v:Int)).1=some (I6 (A2 g (v:Int) w (v:Int)).1)/\v<=40/\i<=6:=λa b c v i x=>by
  obtain⟨m,k⟩:=x0c x
  have H:=((Q01 g).1 b).1
  obtain⟨Q,R,S,T⟩:=D2 b
  refine⟨p.2[i],w5 k,x09 H ⟨by omega,by omega⟩ ⟨by omega,by omega⟩ (by rw[←c];exact R02 a _ (List.getElem_mem k)),J05 _ (by have:=x0d H (v:Int) p.2[i] (v:Int);omega),by omega,by have:=P0f a;omega⟩
 have B:K0 g=true->∀ e∈K7 g,(0<=e.1/\e.1<g.2.1)/\e.2.1≠0 /\ -3<=e.2.1/\e.2.1<=3:=λh e C=>by
  obtain⟨m,k,o,D⟩:=k08 h C
  obtain⟨Q,R,S,T⟩:=D2 h
  exact⟨m,k,by omega,by omega⟩
 unfold K05 at G
 unfold J2 M0h
 obtain⟨f,z⟩:=p
 obtain⟨r,n,es⟩:=g
 unfold a00
 simp only[L,oB]
 cases hp:O1 (f,z)with
 |false=>simp only[Bool.not_false,Bool.not_true,Z3,oB,cond_true,if_true,j,Bool.false_and,cond_false]
 |true =>
  simp only[Bool.not_true,Bool.not_false,I2,M,oB,cond_false,Bool.true_and]
  cases hf:K0 (r,n,es)with
  |false=>simp only[Bool.not_false,cond_true,if_true,j,oB,Bool.false_and,cond_false]
  |true =>
   simp only[Bool.not_true,cond_false,Bool.true_and]
   by_cases hr:f=r
   ·subst hr
    have t:Q8 (f,z) (f,n,es)=some (V0n (x07 (f,n,es) z n.toNat 0)):=by
     rw[G];simp only[hp,hf,decide_true,Bool.and_true,cond_true]
    simp only[decide_true,Bool.not_true,Bool.false_eq_true,if_false,cond_true]
    have y:=y hp hf rfl
    simp only at y
    cases x:x07 (f,n,es) z n.toNat 0 with
    |some q =>
     obtain⟨v,i⟩:=q
     obtain⟨w,m,k,o,D,W⟩:=y v i x
     rw[x]at t
     simp only[V0n]at t
     rw[t,oB]
     try simp only[]
     rw[S0 (show H0 ((v:Nat):Int) from⟨by omega,by omega⟩),oB,S0 (show H0 ((i:Nat):Int) from⟨by omega,by omega⟩),oB,if_pos (by simp),E3 m,oB,k,oB]
     unfold L0h
     simp only[m]
     revert o
     generalize A2 (f,n,es) (v:Int) w (v:Int)=ap
     intro o
     obtain⟨F,E⟩:=ap
     try simp only at o
     cases E with
     |false=>simp only[Bool.not_false,if_true,j,oB,cond_false]
     |true=>simp only[Bool.not_true,Bool.false_eq_true,if_false,o,oB,cond_true]
    |none =>
     rw[x]at t
     simp only[V0n]at t
     rw[t,oB]
     try simp only[]
     rw[S0 (show H0 (-1) from⟨by omega,by omega⟩),oB,oB,if_neg (by simp),N hf,oB]
     have d:=d hf
     have B:=B hf
     have A:=A hf
     cases hm:K7 (f,n,es)with
     |nil=>simp only[List.length_nil];rw[if_pos (by simp),j];rfl
     |cons e l =>
      have d:=d e (by rw[hm];exact mS)
      obtain⟨m,k,o,D⟩:=B e (by rw[hm];exact mS)
      rw[if_neg (by simp;omega),A,oB]
      revert d
      generalize A3 (f,n,es)=av
      intro d
      obtain⟨F,E⟩:=av
      simp only at d
      simp only[]
      cases E with
      |false=>simp only[Bool.not_false,if_true,j,oB,cond_false]
      |true =>
       have d:=d rfl
       simp only[Bool.not_true,Bool.false_eq_true,if_false,cond_true]
       obtain⟨u,s,U⟩:=e
       simp only at m k o D d
       rw[g0j rfl]
       simp only[oB]
       revert d
       generalize n9 F (stp u s n)=ae
       intro d
       obtain⟨V,K⟩:=ae
       by_cases c:s<0
       ·rw[if_pos (by simp[c]),w64 (by omega) (by omega),show((n,0-s,u):Q0)=stp u s n by unfold stp;rw[if_pos c,Int.zero_sub],d]
        cases K<;>simp[j]
       ·rw[if_neg (by simp;omega),show((u,s,n):Q0)=stp u s n by unfold stp;rw[if_neg c],d]
        cases K<;>simp[j]
   ·simp only[hr,decide_false,Bool.not_false,if_true,j,oB,cond_false]
theorem J0m(g:Nat):∀(d k:Nat) (x:Int),x∈wo g d k->∃ j:Nat,x=(j:Int)/\k<=j/\j<k+d
 |0,k,x,h=>nomatch h
 |d+1,k,x,h=>by
  unfold wo at h
  split at h
  ·obtain⟨j,a,b,c⟩:=J0m g d (k+1) x h
   exact⟨j,a,by omega,by omega⟩
  ·rcases List.mem_cons.1 h with rfl|h
   ·exact⟨k,rfl,Nat.le_refl _,by omega⟩
   ·obtain⟨j,a,b,c⟩:=J0m g d (k+1) x h
    exact⟨j,a,by omega,by omega⟩
theorem b05(g:Nat):∀(d k:Nat),(wo g d k).Nodup
 |0,k=>List.nodup_nil
 |d+1,k=>by
  unfold wo
  split
  ·exact b05 g d (k+1)
  ·refine List.nodup_cons.2 ⟨λh=>?_,b05 g d (k+1)⟩
   obtain⟨j,a,b,c⟩:=J0m g d (k+1) _ h
   omega
theorem T0f(P:List Int):∀(es:List Q0),∀ e∈pE P es,∃ a∈es,e=(getI P a.1,a.2.1,getI P a.2.2)/\0<=getI P a.1/\0<=getI P a.2.2
 | [],e,h=>nomatch h
 |b::r,e,h=>by
  unfold pE at h
  cases hb:decide (0<=getI P b.1)&&decide (0<=getI P b.2.2)
  ·rw[hb]at h
   obtain⟨a,c,d⟩:=T0f P r e h
   exact⟨a,mC _ c,d⟩
  ·rw[hb]at h
   simp only[Bool.and_eq_true,decide_eq_true_eq]at hb
   rcases List.mem_cons.1 h with rfl|h
   ·exact⟨b,mS,rfl,hb.1,hb.2⟩
   ·obtain⟨a,c,d⟩:=T0f P r e h
    exact⟨a,mC _ c,d⟩
theorem X09{g:j0}{o:List Int}(f:F1 g=true)(b:inV g.2.1.toNat o)(p:1<=o.length)(q:o.length<=40):F1 (F00 g o)=true:=by
 obtain⟨k,l,t,u⟩:=i4 f
 have s:=F0m (plc g.2.1.toNat o) g.2.2
 refine d0b l ⟨by omega,by omega⟩ (by omega) λe d=>?_
 obtain⟨a,c,rfl,i,j⟩:=T0f _ _ e d
 have h:=k a c
 have m:=(M08 b (x:=a.1) (by omega)).2
 have n:=(M08 b (x:=a.2.2) (by omega)).2
 exact⟨⟨i,m⟩,⟨j,n⟩,h.2.2⟩
theorem U0f{n:Nat}:∀(o:List Int) (k:Nat) (A:List Int),A.length=n->inV n o->o.Nodup->(∀ x,0<=x->getI A x<(k:Int))->(∀ x y,0<=x->0<=y->0<=getI A x->getI A x=getI A y->x=y) ->
  ∀ x y,0<=x->0<=y->0<=getI (P01 A k o) x->getI (P01 A k o) x=getI (P01 A k o) y->x=y
 | [],k,A,h,e,i,c,d=>d
 |v::r,k,A,h,e,i,c,d=>by
  have f:=e v mS
  refine U0f r (k+1) (A.set v.toNat (k:Int)) (by simp[h]) (λw j=>e w (mC _ j)) (List.nodup_cons.1 i).2 (λx b=>?_) (λx y b g h0 a=>?_)
  ·rw[T03 f.1 (by omega) b]
   have:=c x b
   split<;>omega
  ·rw[T03 f.1 (by omega) b]at h0 a
   rw[T03 f.1 (by omega) g]at a
   have l:=c x b
   have m:=c y g
   by_cases c1:x=v
   ·by_cases c2:y=v
    ·rw[c1,c2]
    ·rw[if_pos c1,if_neg c2]at a;omega
   ·by_cases c2:y=v
    ·rw[if_neg c1,if_pos c2]at a;omega
    ·rw[if_neg c1]at h0;rw[if_neg c1,if_neg c2]at a
     exact d x y b g h0 a
theorem g0b{n:Nat}{o:List Int}(d:inV n o)(b:o.Nodup){x y:Int}(a:0<=x)(e:0<=y)(h0:0<=getI (plc n o) x)(c:getI (plc n o) x=getI (plc n o) y):x=y:=by
 refine U0f o 0 (List.replicate n (-1)) (by simp) d b (λx a=>by rw[f08];omega) (λx y _ _ h _=>by rw[f08]at h;omega) x y a e h0 c
theorem X0q{es:List Q0}(h:es.Pairwise λa b=>h05 a b=false){a b:Q0}(f:a∈es)(i:b∈es)(k:a≠b):h05 a b=false:=by
 induction es with
 |nil=>cases f
 |cons c r l =>
  obtain⟨e,j⟩:=List.pairwise_cons.1 h
  rcases List.mem_cons.1 f with rfl|g
  ·rcases List.mem_cons.1 i with rfl|d
   ·exact absurd rfl k
   ·exact e b d
  ·rcases List.mem_cons.1 i with rfl|d
   ·rw[r0c];exact e a g
   ·exact l j g d
theorem F0s{es:List Q0}(i:Asc P0 es)(h:∀ a∈es,∀ b∈es,a≠b->h05 a b=false):es.Pairwise λa b=>h05 a b=false:=by
 induction es with
 |nil=>exact .nil
 |cons c r k =>
  obtain⟨f,g⟩:=List.pairwise_cons.1 i
  refine List.pairwise_cons.2 ⟨λb d=>h c mS b (mC _ d) λe=>?_,k g λa j b d=>h a (mC _ j) b (mC _ d)⟩
  have:=f b d
  rw[e,O5.refl]at this;omega
theorem y0c{g:j0}(c:F1 g=true):K0 g=true↔∀ a∈g.2.2,∀ b∈g.2.2,a≠b->h05 a b=false:=by
 rw[Q01,w0c]
 exact⟨λh a d b e f=>X0q h.2 d e f,λh=>⟨c,F0s (graph_asc' c) h⟩⟩
where graph_asc' {g:j0} (h:F1 g=true):Asc P0 g.2.2:=((y01 g).1 h).2.2.2.2
theorem U03{g:j0}{o:List Int}(hf:K0 g=true)(j:inV g.2.1.toNat o)(m:o.Nodup)(s:1<=o.length)(t:o.length<=40):K0 (F00 g o)=true:=by
 have i:=T5 hf
 obtain⟨n,F,G,H⟩:=i4 i
 refine(y0c (X09 i j s t)).2 λa u b v z=>?_
 have mem:∀ e∈(F00 g o).2.2,∃ a∈g.2.2,e=(getI (plc g.2.1.toNat o) a.1,a.2.1,getI (plc g.2.1.toNat o) a.2.2)/\0<=getI (plc g.2.1.toNat o) a.1/\0<=getI (plc g.2.1.toNat o) a.2.2:=λe y=>by
  rcases(R6 O5 e _ _).1 y with h|h
  ·cases h
  ·exact T0f _ _ e h
 obtain⟨d,k,rfl,B,C⟩:=mem a u
 obtain⟨f,l,rfl,D,E⟩:=mem b v
 have A:d≠f:=λe=>z (by rw[e])
 have c:=(y0c i).1 hf d k f l A
 have p:=n d k
 have q:=n f l
 unfold h05 at c ⊢
 simp only[Bool.and_eq_false_iff,Bool.or_eq_false_iff,decide_eq_false_iff_not]at c ⊢
 rcases c with c|⟨w,x⟩
 ·exact .inl c
 ·exact .inr ⟨λe=>w (g0b j m p.1.1 q.1.1 B e),λe=>x (g0b j m p.2.1.1 q.2.1.1 C e)⟩
def H00:Nat->j0->j0
 |0,g=>g
 |d+1,g=>match G00 g with
  |none=>g
  |some k=>H00 d (F00 g (wo k g.2.1.toNat 0))
theorem h0b{g:j0}{k:Nat}(h:G00 g=some k):1<=k/\k<g.2.1.toNat:=by
 have:=L0f _ _ _ h
 omega
theorem s06{g:j0}(b:F1 g=true){k:Nat}(h:G00 g=some k):inV g.2.1.toNat (wo k g.2.1.toNat 0)/\(wo k g.2.1.toNat 0).length=g.2.1.toNat-1/\1<=(wo k g.2.1.toNat 0).length/\(wo k g.2.1.toNat 0).length<=40:=by
 obtain⟨d,e,f,i⟩:=i4 b
 have c:=h0b h
 have a:=R0q k g.2.1.toNat 0
 rw[if_pos (by omega)]at a
 exact⟨A0t k _ _ 0 (by omega),a,by omega,by omega⟩
theorem h03:∀(d:Nat) {g:j0},K0 g=true->K0 (H00 d g)=true
 |0,g,h=>h
 |d+1,g,h=>by
  unfold H00
  cases e:G00 g with
  |none=>exact h
  |some k =>
   obtain⟨a,f,b,c⟩:=s06 (T5 h) e
   exact h03 d (U03 h a (b05 _ _ _) b c)
theorem V0f(n g:Nat)(i:n<=1000)(u:List Int)(j:u.length=n):∀(d k fuel:Nat) (acc a:List Int),k+d=n->d<fuel->acc.length<=k->a.length<=k ->
  ∃ v,U5 (n:Int) (g:Int) u fuel (k:Int) acc a=some (acc++wo g d k,v)/\v.length+acc.length=a.length+(acc++wo g d k).length
 |d,k,0,acc,a,h,hf,b,f=>by omega
 |0,k,fuel+1,acc,a,h,hf,b,f=>by
  rw[U5.eq_2,if_neg (by simp;omega)];exact⟨a,by simp[wo],by simp[wo]⟩
 |d+1,k,fuel+1,acc,a,h,hf,b,f=>by
  have l:=w5 (show k<u.length by omega)
  generalize u[k]=x at l
  rw[U5.eq_2,if_pos (by simp;omega),Z2 (show k<10000 by omega) (by omega)]
  unfold wo
  by_cases c:k=g
  ·have e:decide ((k:Int)=(g:Int))=true:=decide_eq_true (by omega)
   rw[e,if_neg (by simp),if_pos c]
   exact V0f n g i u j d (k+1) fuel acc a (by omega) (by omega) (by omega) (by omega)
  ·have e:decide ((k:Int)=(g:Int))=false:=decide_eq_false (by omega)
   rw[e,if_pos (show(!false)=true from rfl),if_neg c,S0 (by simp;omega),oB,E3 l,oB,S0 (by simp;omega),oB]
   obtain⟨v,m,o⟩:=V0f n g i u j d (k+1) fuel (acc ++ [(k:Int)]) (a ++ [x]) (by omega) (by omega) (by simp;omega) (by simp;omega)
   refine⟨v,by rw[m];simp,?_⟩
   simp only[List.length_append,List.length_cons,List.length_nil]at o ⊢
   omega
theorem e0l(g:j0)(a:F1 g=true):∀(d k fuel:Nat) (acc:List Int),k+d=g.2.1.toNat->d<fuel->acc.length=k ->
  ∃ u,w6 g.2.1 g.1 g.2.2 fuel (k:Int) acc=some u/\u.length=g.2.1.toNat
 |d,k,0,acc,c,hf,b=>by omega
 |0,k,fuel+1,acc,c,hf,b=>by
  obtain⟨h,i,j,l⟩:=i4 a
  rw[w6.eq_2,show decide (((k:Nat):Int)<g.2.1)=false by simp;omega]
  exact⟨acc,by simp[chk],by omega⟩
 |d+1,k,fuel+1,acc,c,hf,b=>by
  obtain⟨h,i,j,l⟩:=i4 a
  obtain⟨u,e,f⟩:=e0l g a d (k+1) fuel (acc ++ [(k:Int)]) (by omega) (by omega) (by simp;omega)
  rw[w6.eq_2,show decide (((k:Nat):Int)<g.2.1)=true by simp;omega,I2,show(g.1,g.2.1,g.2.2)=g from rfl,r7 g (by omega),oB,a]
  rw[if_pos (show(bif true then true else false)=true from rfl),S0 (by simp;omega),oB,Z2 (show k<1000 by omega) (by omega),e]
  exact⟨u,rfl,f⟩
theorem f0l(h:j0)(o:F1 h=true):∀(d k fuel:Nat) (g:j0) (u:List Int),k+d=40->d<fuel->F1 g=true->u.length=g.2.1.toNat->g.2.1.toNat<=d+1 ->
  ∃ v,(t6 h.1 h.2.1 h.2.2 fuel u (k:Int) g.1 g.2.1 g.2.2).bind (λX=>p7 X (λy=>match y with|(a,b,c,e)=>some ((b,c,e),a)))=some (H00 d g,v)
 |d,k,0,g,u,s,hf,i,x,t=>by omega
 |0,k,fuel+1,g,u,s,hf,i,x,t=>by
  rw[t6.eq_2,show decide (((k:Nat):Int)<40)=false by simp;omega]
  exact⟨u,by simp[chk,p7,H00]⟩
 |d+1,k,fuel+1,g,u,s,hf,i,x,t=>by
  obtain⟨H,I,J,K⟩:=i4 o
  obtain⟨L,M,N,O⟩:=i4 i
  have C:=Q0q g i
  rw[t6.eq_2,show decide (((k:Nat):Int)<40)=true by simp;omega,I2,show(h.1,h.2.1,h.2.2)=h from rfl,r7 h (by omega),oB,o]
  rw[if_pos (show(bif true then true else false)=true from rfl),show(g.1,g.2.1,g.2.2)=g from rfl,C]
  unfold H00
  cases e:G00 g with
  |none =>
   simp only[oB]
   rw[S0 (show H0 (-1) from⟨by omega,by omega⟩),oB,if_pos (by simp)]
   exact⟨u,rfl⟩
  |some j =>
   obtain⟨p,A,n,B⟩:=s06 i e
   have G:=h0b e
   obtain⟨f,m⟩:∃ f:Nat,g.2.1=(f:Int):=⟨g.2.1.toNat,by omega⟩
   have l:g.2.1.toNat=f:=by omega
   obtain⟨v,E,F⟩:=V0f f j (by omega) u (by omega) f 0 W0 [] [] (by omega) (N1 (by omega)) (Nat.le_refl _) (Nat.le_refl _)
   have w:=G0f g.1 f g.2.2 (wo j f 0) (by rw[←m];exact i) (by rw[←l];exact p) (b05 _ _ _) (by rw[←l];exact n) (by rw[←l];omega)
   rw[←m,show(g.1,g.2.1,g.2.2)=g from rfl]at w
   have q:=X09 i p n B
   rw[l]at q A n
   obtain⟨D,z⟩:=f0l h o d (k+1) fuel (F00 g (wo j f 0)) v (by omega) (by omega) q (by simp only[List.nil_append,List.length_nil]at F;show v.length=((wo j f 0).length:Int).toNat;omega) (by show((wo j f 0).length:Int).toNat<=d+1;omega)
   simp only[oB]
   rw[S0 (show H0 ((j:Nat):Int) from⟨by omega,by omega⟩),oB,if_neg (by simp),m,show(0:Int)=((0:Nat):Int) from rfl,E]
   simp only[oB,List.nil_append]
   rw[←m,w]
   simp only[oB]
   rw[Z2 (show k<1000 by omega) (by omega),l]
   exact⟨D,z⟩
def K0m(g:j0):j0:=H00 40 g
theorem L0m{g:j0}(a:F1 g=true):∃ v,O00 g=some (K0m g,v):=by
 obtain⟨f,h,i,j⟩:=i4 a
 have e:=C02 g (by omega)
 obtain⟨u,b,d⟩:=e0l g a g.2.1.toNat 0 W0 [] (by omega) (N1 (by omega)) rfl
 obtain⟨v,c⟩:=f0l g a 40 0 W0 g u rfl (N1 (by omega)) a d (by omega)
 refine⟨v,?_⟩
 obtain⟨r,n,es⟩:=g
 unfold O00
 simp only[e,oB]
 simp only at b c
 rw[show(0:Int)=((0:Nat):Int) from rfl,b,oB]
 exact c
def T01(g:j0):j0:=B4 (K0m g)
theorem p0j{g:j0}(hf:K0 g=true):I6 g=(g,[]):=by
 obtain⟨a,b⟩:=(Q01 g).1 hf
 unfold I6
 rw[a]
 show Z04 40 g=_
 unfold Z04
 rw[b]
theorem M0m{g:j0}(hf:K0 g=true):J9 g=some (T01 g):=by
 have b:=T5 hf
 obtain⟨e,f,h,i⟩:=i4 b
 have a:=J05 g (by omega)
 rw[p0j hf]at a
 obtain⟨v,c⟩:=L0m b
 have d:=w0d (K0m g) (h03 40 hf)
 obtain⟨r,n,es⟩:=g
 unfold J9 T01
 simp only[a,oB,c]
 simp only[d,oB]
theorem Y0q{a r u x v:Int}(b:0<=u/\u<a)(c:0<=v/\v<a)(d:x≠0 /\ -r<=x/\x<=r):(0<=(stp u x v).1/\(stp u x v).1<a)/\(0<=(stp u x v).2.2/\(stp u x v).2.2<a)/\1<=(stp u x v).2.1/\(stp u x v).2.1<=r:=by
 unfold stp
 split<;>(simp only;omega)
theorem g0l{b r v:Int}(g:0<=v/\v<b):∀(w:List Int) (u n:Int),(0<=u/\u<b)->0<=n->n+((w.length-1:Nat):Int)<=b->(∀ x∈w,x≠0 /\ -r<=x/\x<=r) ->
  ∀ e∈S01 v w u n,(0<=e.1/\e.1<b)/\(0<=e.2.2/\e.2.2<b)/\1<=e.2.1/\e.2.1<=r
 | [],u,n,d,h0,f,c,e,a=>nomatch a
 | [x],u,n,d,h0,f,c,e,a=>by
  simp only[S01,List.mem_singleton]at a
  subst a
  exact Y0q d g (c x mS)
 |x::y::l,u,n,d,h0,f,c,e,a=>by
  simp only[List.length_cons]at f
  simp only[S01]at a
  rcases List.mem_cons.1 a with rfl|a
  ·exact Y0q d ⟨h0,by omega⟩ (c x mS)
  ·exact g0l g (y::l) n (n+1) ⟨h0,by omega⟩ (by omega) (by simp only[List.length_cons];omega) (λz h=>c z (mC _ h)) e a
theorem L05{g:j0}{u v:Int}{w:List Int}(b:F1 g=true)(o:0<=u/\u<g.2.1)(p:0<=v/\v<g.2.1)(c:L3 g.1 w=true):F1 (A2 g u w v).1=true:=by
 obtain⟨f,i,q,s,j⟩:=(y01 g).1 b
 obtain⟨t,k⟩:=O08 c
 unfold A2
 cases hc:(!w.isEmpty&&decide (g.2.1+(w.length:Int)-1<=40)&&decide (g.2.2.length+w.length<=120))with
 |false=>exact b
 |true =>
  simp only[Bool.and_eq_true,decide_eq_true_eq,Bool.not_eq_true',List.isEmpty_eq_false_iff]at hc
  have n:1<=w.length:=by
   have:=List.length_pos_iff.2 hc.1.1;omega
  have l:=P02 (S01 v w u g.2.1) g.2.2
  have m:=N08 v w u g.2.1
  simp only[cond_true]
  refine(y01 _).2 ⟨λe a=>?_,i,⟨by simp only;omega,by simp only;omega⟩,by simp only;omega,V04 O5 _ _ j⟩
  simp only at a ⊢
  rcases(R6 O5 e _ _).1 a with h|h
  ·have:=f e h
   omega
  ·exact g0l ⟨by omega,by omega⟩ w u g.2.1 ⟨by omega,by omega⟩ (by omega) (iR _) (λx d=>(k x d).2) e h
theorem i0b(g:j0)(u:Int)(w:List Int)(v:Int):(A2 g u w v).1.1=g.1:=by
 unfold A2
 cases (!w.isEmpty&&decide (g.2.1+(w.length:Int)-1<=40)&&decide (g.2.2.length+w.length<=120))<;>rfl
def p02:List (List Int)->j0->j0
 | [],g=>g
 |w::r,g=>p02 r (A2 g 0 w 0).1
theorem l08:∀(c:List (List Int)) {g:j0},F1 g=true->(∀ w∈c,L3 g.1 w=true)->F1 (p02 c g)=true
 | [],g,a,b=>a
 |w::r,g,a,b=>by
  obtain⟨f,h,i,j⟩:=i4 a
  exact l08 r (L05 a ⟨iR _,by omega⟩ ⟨iR _,by omega⟩ (b w mS)) λe d=>by
   rw[i0b];exact b e (mC _ d)
theorem h0l{g:j0}{w:List Int}(a:F1 g=true)(b:L3 g.1 w=true):n01 g w=some (A2 g 0 w 0):=by
 obtain⟨c,d,e,f⟩:=i4 a
 have h:=x09 a (u:=0) (v:=0) ⟨iR _,by omega⟩ ⟨iR _,by omega⟩ b
 obtain⟨r,n,es⟩:=g
 unfold n01
 simp only[h,oB]
theorem N0h(a:List (List Int))(j:a.length<=1000):∀(d k fuel:Nat) (g:j0),k+d=a.length->d<fuel->F1 g=true->(∀ w∈a,L3 g.1 w=true) ->
  c7 a fuel (k:Int) g.1 g.2.1 g.2.2=some (p02 (a.drop k) g)
 |d,k,0,g,i,hf,b,c=>by omega
 |0,k,fuel+1,g,i,hf,b,c=>by
  rw[c7.eq_2,if_neg (by simp;omega),M1 (by omega)];rfl
 |d+1,k,fuel+1,g,i,hf,b,c=>by
  have e:k<a.length:=by omega
  have h:=w5 e
  have f:=c _ (List.getElem_mem e)
  generalize a[k]=w at h f
  obtain⟨m,n,o,p⟩:=i4 b
  have l:=N0h a j d (k+1) fuel (A2 g 0 w 0).1 (by omega) (by omega) (L05 b ⟨iR _,by omega⟩ ⟨iR _,by omega⟩ f) (by rw[i0b];exact c)
  rw[c7.eq_2,if_pos (by simp;omega),E3 h,oB,show(g.1,g.2.1,g.2.2)=g from rfl,h0l b f,oB,Z2 e (by omega),V1 h]
  exact l
def W0f(r:Int)(a:List (List Int)):j0×Bool:=bif U3 r a then(p02 a (r,1,[]),true)else((0,0,[]),false)
theorem z0c{r:Int}{a:List (List Int)}(h:U3 r a=true):(1<=r/\r<=3)/\a.length<=6/\∀ w∈a,L3 r w=true:=by
 simp only[U3,inR,Bool.and_eq_true,decide_eq_true_eq]at h
 refine⟨h.1.1.1,h.1.1.2,?_⟩
 have b:∀ {a:List (List Int)},w07 r a=true->∀ w∈a,L3 r w=true:=by
  intro a
  induction a with
  |nil=>intro _ w b;cases b
  |cons v l c =>
   intro h w b
   simp only[w07,Bool.and_eq_true]at h
   rcases List.mem_cons.1 b with rfl|b
   ·exact h.1
   ·exact c h.2 w b
 exact b h.1.2
theorem A0c{r:Int}(b:1<=r/\r<=3):F1 (r,1,[])=true:=(y01 _).2 ⟨(λe a=>by cases a),b,⟨by simp,by simp⟩,by simp,List.Pairwise.nil⟩
theorem q0j(r:Int)(a:List (List Int))(d:a.length<=140737488355328)(f:Y2 a):o01 r a=some (W0f r a):=by
 have b:=e08 r a d f
 unfold o01 W0f
 rw[b,oB]
 cases hA:U3 r a with
 |false=>rfl
 |true =>
  obtain⟨e,i,g⟩:=z0c hA
  have h:=N0h a (by omega) a.length 0 W0 (r,1,[]) (by omega) (N1 (by omega)) (A0c e) g
  have c:m01 r=some ((r,1,[]),true):=by
   unfold m01
   rw[A03,oB,if_neg (by simp[inR];omega)]
  rw[if_neg (by simp),c,oB]
  simp only[]at h ⊢
  rw[show(0:Int)=((0:Nat):Int) from rfl,h]
  rfl
def i0l:j0:=(0,0,[])
def m08(p:l0):Nat->j0->j0×Bool
 |0,_=>(i0l,false)
 |d+1,g=>bif(J2 p g).2.2 then(bif(J2 p g).2.1 then m08 p d (J2 p g).1 else(T01 g,true))else(i0l,false)
theorem P08{p:l0}{g:j0}(h:(J2 p g).2.2=true):O1 p=true/\K0 g=true/\p.1=g.1:=by
 unfold J2 at h
 cases hc:(O1 p&&K0 g&&decide (p.1=g.1))with
 |false=>rw[hc]at h;cases h
 |true =>
  simp only[Bool.and_eq_true,decide_eq_true_eq]at hc
  exact⟨hc.1.1,hc.1.2,hc.2⟩
theorem O0h{p:l0}{g:j0}(h:(J2 p g).2.1=false):(J2 p g).1=g:=by
 unfold J2 at h ⊢
 cases hc:(O1 p&&K0 g&&decide (p.1=g.1))with
 |false=>rfl
 |true =>
  rw[hc]at h
  simp only[cond_true]at h ⊢
  cases hh:x07 g p.2 g.2.1.toNat 0 with
  |some q =>
   obtain⟨v,i⟩:=q
   rw[hh]at h
   simp only[L0h]at h ⊢
   cases hi:p.2[i]? with
   |none=>rfl
   |some w =>
    rw[hi]at h
    simp only at h ⊢
    cases ha:(A2 g (v:Int) w (v:Int)).2 with
    |false=>rfl
    |true=>rw[ha]at h;cases h
  |none =>
   rw[hh]at h
   simp only[M0h]at h ⊢
   cases hm:K7 g with
   |nil=>rfl
   |cons e l =>
    rw[hm]at h
    simp only at h ⊢
    cases hv:(A3 g).2 with
    |false=>rfl
    |true =>
     rw[hv]at h
     simp only[cond_true]at h ⊢
     cases he:(n9 (A3 g).1 (stp e.1 e.2.1 g.2.1)).2 with
     |false=>rfl
     |true=>rw[he]at h;cases h
theorem Z0q{p:l0}{g:j0}(h:g.2.2.length<=1000):(J2 p g).1.2.2.length<=1000:=by
 by_cases hf:(J2 p g).2.1=false
 ·rw[O0h hf];exact h
 ·unfold J2 at hf ⊢
  cases hc:(O1 p&&K0 g&&decide (p.1=g.1))with
  |false=>exact h
  |true =>
   simp only[Bool.and_eq_true]at hc
   have b:=((Q01 g).1 hc.1.2).1
   have d:=(i4 b).2.2.2
   simp only[cond_true]
   cases x07 g p.2 g.2.1.toNat 0 with
   |some q =>
    obtain⟨v,i⟩:=q
    simp only[L0h]
    cases p.2[i]? with
    |none=>exact h
    |some w =>
     simp only
     cases (A2 g (v:Int) w (v:Int)).2 with
     |false=>exact h
     |true =>
      have a:=x0d b (v:Int) w (v:Int)
      simp only[cond_true,I6]
      cases hG:F1 (A2 g (v:Int) w (v:Int)).1 with
      |false=>simp only[cond_false];omega
      |true =>
       have:=(i4 (g08 40 hG)).2.2.2
       simp only[cond_true];omega
   |none =>
    simp only[M0h]
    cases K7 g with
    |nil=>exact h
    |cons e l =>
     simp only
     cases (A3 g).2 with
     |false=>exact h
     |true =>
      simp only[cond_true]
      have a:(A3 g).1.2.2=g.2.2:=by unfold A3;cases decide (g.2.1<40)<;>rfl
      have c:(n9 (A3 g).1 (stp e.1 e.2.1 g.2.1)).1.2.2.length<=g.2.2.length+1:=by
       have:=v04 (stp e.1 e.2.1 g.2.1) (A3 g).1.2.2
       unfold n9
       rw[a]at this ⊢
       cases (decide (g.2.2.length<120) && !decide (stp e.1 e.2.1 g.2.1∈g.2.2))with
       |false=>simp only[cond_false,a];omega
       |true=>simp only[cond_true];omega
      cases (n9 (A3 g).1 (stp e.1 e.2.1 g.2.1)).2 with
      |false=>exact h
      |true=>simp only[cond_true];omega
def Q0u:(j0×Bool) ⊕ (Int×Int×T2)->Option (j0×Bool):=λX=>p7 X (λS=>match S with
 |(a,b,c)=>some ((0,0,[]),false))
theorem W0n(p:l0)(j:p.2.length<=140737488355328)(l:Y2 p.2):∀(d k fuel:Nat) (g:j0),k+d=300->d<fuel->g.2.2.length<=1000 ->
  (W3 p.1 p.2 fuel (k:Int) g.1 g.2.1 g.2.2).bind Q0u=some (m08 p d g)
 |d,k,0,g,i,hf,h=>by omega
 |0,k,fuel+1,g,i,hf,h=>by
  rw[W3.eq_2,if_neg (by simp;omega)];rfl
 |d+1,k,fuel+1,g,i,hf,h=>by
  have o:=f0b p g j l (by omega)
  have e:(J2 p g).2.2=true->(J2 p g).2.1=false->J9 (J2 p g).1=some (T01 g):=λa b=>by
   rw[O0h b];exact M0m (P08 a).2.1
  have f:=W0n p j l d (k+1) fuel (J2 p g).1 (by omega) (by omega) (Z0q h)
  rw[W3.eq_2,if_pos (by simp;omega),show(g.1,g.2.1,g.2.2)=g from rfl,show(p.1,p.2)=p from rfl,o,oB,Z2 (show k<1000 by omega) (by omega)]
  unfold m08
  revert e f
  generalize J2 p g=q
  obtain⟨n,more,m⟩:=q
  obtain⟨a,b,c⟩:=n
  intro e f
  simp only at e f ⊢
  cases m with
  |false=>rfl
  |true =>
   cases more with
   |true=>exact f
   |false =>
    simp only[Bool.not_true,Bool.not_false,Bool.false_eq_true,if_false,if_true,e rfl rfl,oB]
    rfl
def M6(p:l0)(a:List (List Int)):j0×Bool:=bif O1 p&&U3 p.1 a then m08 p 300 (I6 (p02 a (p.1,1,[]))).1 else(i0l,false)
theorem j0l{r:Int}{a:List (List Int)}(h:U3 r a=true):(p02 a (r,1,[])).2.2.length<=120/\(I6 (p02 a (r,1,[]))).1.2.2.length<=1000:=by
 obtain⟨c,e,d⟩:=z0c h
 have b:=l08 a (A0c c) d
 refine⟨(i4 b).2.2.2,?_⟩
 have:=(D2 (N0f b)).2.2.2
 omega
theorem N0m(p:l0)(d:List (List Int))(j:p.2.length<=140737488355328)(k:Y2 p.2)(m:d.length<=140737488355328)(n:Y2 d):o8 p d=some (M6 p d):=by
 have l:=d4 p j k
 have g:=q0j p.1 d m n
 have e:U3 p.1 d=true->n8 (p02 d (p.1,1,[]))=some (I6 (p02 d (p.1,1,[]))):=λh=>J05 _ (by have:=(j0l h).1;omega)
 have f:U3 p.1 d=true->(W3 p.1 p.2 W0 ((0:Nat):Int) (I6 (p02 d (p.1,1,[]))).1.1 (I6 (p02 d (p.1,1,[]))).1.2.1 (I6 (p02 d (p.1,1,[]))).1.2.2).bind Q0u=some (m08 p 300 (I6 (p02 d (p.1,1,[]))).1):=λh=>W0n p j k 300 0 W0 _ rfl (N1 (by omega)) (j0l h).2
 unfold W0f at g
 unfold M6
 obtain⟨i,o⟩:=p
 unfold o8
 simp only at g e f ⊢
 rw[g,oB]
 cases hA:U3 i d with
 |false =>
  rw[Bool.and_false];rfl
 |true =>
  have e:=e hA
  have f:=f hA
  simp only[cond_true,Bool.not_true,Bool.not_false,I2,cond_false,l,oB,Bool.and_true]
  cases hP:O1 (i,o)with
  |false=>rfl
  |true =>
   rw[if_neg (by simp)]
   revert e f
   generalize p02 d (i,1,[])=fl
   intro e f
   obtain⟨a,b,c⟩:=fl
   simp only[e,oB]
   exact f
theorem y0d(p:l0):∀(d:Nat) (g:j0),m08 p d g=(i0l,false)∨∃ a,K0 a=true/\m08 p d g=(T01 a,true)
 |0,g => .inl rfl
 |d+1,g=>by
  unfold m08
  cases h:(J2 p g).2.2 with
  |false=>exact .inl rfl
  |true =>
   cases h2:(J2 p g).2.1 with
   |true=>exact y0d p d _
   |false=>exact .inr ⟨g,(P08 h).2.1,rfl⟩
theorem O0m(p:l0)(a:List (List Int)):M6 p a=(i0l,false)∨∃ b,K0 b=true/\M6 p a=(T01 b,true):=by
 unfold M6
 cases O1 p&&U3 p.1 a with
 |false=>exact .inl rfl
 |true=>exact y0d p 300 _
def ng(x:Int):Int:=IntKind.i64.wrap (0-x)
def inv(w:List Int):List Int:=(w.map ng).reverse
theorem C9(w:List Int):(inv w).length=w.length:=by simp[inv]
def P3(w:List Int):Prop:=∀ x∈w,H0 x
theorem c04(w:List Int):P3 (inv w):=λx a=>by
 simp only[inv,List.mem_reverse,List.mem_map]at a
 obtain⟨y,_,rfl⟩:=a
 exact F0 _
theorem b0r{w:List Int}{k:Nat}{x:Int}(a:w[k]?=some x):inv (w.drop k)=inv (w.drop (k+1)) ++ [ng x]:=by
 rw[V1 a]
 simp[inv]
theorem V03(w:List Int)(c:w.length<=1099511627776):∀(k fuel:Nat),k<=w.length->k<fuel ->
  O3 w fuel ((k:Int)-1) (inv (w.drop k))=some (inv w)
 |k,0,b,hf=>by omega
 |0,fuel+1,b,hf=>by
  rw[O3.eq_2,if_neg (by simp)]
  rfl
 |k+1,fuel+1,b,hf=>by
  have a:=w5 (show k<w.length by omega)
  have next:=V03 w c k fuel (by omega) (by omega)
  generalize w[k]=x at a
  rw[b0r a]at next
  have d:=C9 (w.drop (k+1))
  rw[List.length_drop]at d
  rw[show(((k+1:Nat):Int)-1)=(k:Int) by omega,O3.eq_2,if_pos (by simp),E3 a,oB,S0 (by simp only[List.length_singleton];omega),oB,
   w64 (by omega) (by omega)]
  exact next
theorem Q00(w:List Int)(a:w.length<=1099511627776):S3 w=some (inv w):=by
 unfold S3
 have h:=V03 w a w.length W0 (Nat.le_refl _) (N1 (by omega))
 rw[List.drop_length]at h
 rw[w64 (by omega) (by omega),show([]:D0)=inv [] from rfl,h]
 rfl
theorem i03(w:List Int):∀(fuel:Nat) (k:Int) (u:List Int),S6 w fuel k u=O3 w fuel k u
 |0,k,u=>rfl
 |fuel+1,k,u=>by
  rw[S6.eq_2,O3.eq_2]
  simp only[i03 w fuel]
theorem d02(w:List Int)(a:w.length<=1099511627776):d7 w=some (inv w):=by
 rw[←Q00 w a]
 unfold d7 S3
 rw[S0 (by omega),oB,i03]
 rfl
def h02(l x:Int):Bool := !(l == 0) && !(l == -9223372036854775808)&&(x == ng l)
def C4(s:List Int)(x:Int):List Int:=match s with
 | []=>[x]
 |l::t=>bif h02 l x then t else x::l::t
def t7(s w:List Int):List Int:=w.foldl C4 s
def Red:List Int->Bool
 | []=>true
 | [_]=>true
 |x::l::t => !h02 l x&&Red (l::t)
theorem a0g{x:Int}{t:List Int}(h:Red (x::t)=true):Red t=true:=by
 cases t with
 |nil=>rfl
 |cons l t=>simp only[Red,Bool.and_eq_true]at h;exact h.2
theorem m0p{s:List Int}(x:Int)(h:Red s=true):Red (C4 s x)=true:=by
 cases s with
 |nil=>rfl
 |cons l t =>
  simp only[C4]
  cases hc:h02 l x with
  |true=>exact a0g h
  |false=>simp only[cond_false,Red,hc,h];rfl
theorem W03:∀(w s:List Int),Red s=true->Red (t7 s w)=true
 | [],s,h=>h
 |x::w,s,h=>W03 w (C4 s x) (m0p x h)
theorem b00(s a b:List Int):t7 s (a++b)=t7 (t7 s a) b:=List.foldl_append
theorem t06:∀(s:List Int),Red s=true->t7 [] s.reverse=s
 | [],h=>rfl
 |x::t,h=>by
  rw[List.reverse_cons,b00,t06 t (a0g h)]
  show C4 t x=_
  cases t with
  |nil=>rfl
  |cons l t =>
   simp only[Red,Bool.and_eq_true,Bool.not_eq_true']at h
   simp only[C4,h.1,cond_false]
theorem E0c(s:List Int)(x:Int):(C4 s x).length<=s.length+1:=by
 cases s with
 |nil=>simp[C4]
 |cons l t =>
  simp only[C4]
  cases h02 l x<;>simp<;>omega
theorem q01:∀(w s:List Int),(t7 s w).length<=s.length+w.length
 | [],s=>by simp[t7]
 |x::w,s=>by
  have:=q01 w (C4 s x)
  have:=E0c s x
  simp only[t7,List.foldl_cons,List.length_cons]at *
  omega
theorem b0g{b:List Int}{x:Int}(h:P3 b)(c:H0 x):P3 (C4 b x):=by
 cases b with
 |nil=>intro y a;simp[C4]at a;subst a;exact c
 |cons l t =>
  simp only[C4]
  cases h02 l x with
  |true=>exact λy a=>h y (mC _ a)
  |false =>
   intro y a
   rcases List.mem_cons.1 a with rfl|a
   ·exact c
   ·exact h y a
theorem k0b:∀(w a:List Int),P3 a->P3 w->P3 (t7 a w)
 | [],a,b,c=>b
 |x::w,a,b,c=>k0b w (C4 a x) (b0g b (c x mS)) λy d=>c y (mC _ d)
theorem n0p{l x:Int}(b:H0 l)(c:H0 x):(!(x == 0)&&(l == ng x) && !(l == x))=h02 l x:=by
 unfold h02 ng
 have e:∀ {z:Int},H0 z->IntKind.i64.wrap (0-z)=if z = -9223372036854775808 then -9223372036854775808 else -z:=λ{z} a=>by
  split
  ·rename_i h;subst h;decide
  ·rw[w64 (by have:=a.1;have:=a.2;omega) (by have:=a.1;have:=a.2;omega)];omega
 rw[e b,e c]
 have d:=b.1
 have f:=b.2
 have g:=c.1
 have i:=c.2
 rw[Bool.eq_iff_iff]
 simp only[Bool.and_eq_true,Bool.not_eq_true',beq_iff_eq,beq_eq_false_iff_ne,ne_eq]
 split<;>split<;>omega
theorem c0g{l:Int}{t:List Int}:(l::t).reverse[t.length]?=some l:=by
 rw[List.reverse_cons,List.getElem?_append_right (by simp)]
 simp
theorem T0h(l:Int)(t:List Int):(l::t).reverse.take t.length=t.reverse:=by
 rw[List.reverse_cons,List.take_append_of_le_length (by simp),List.take_of_length_le (by simp)]
theorem S02(w:List Int)(hw:P3 w)(hl:w.length<=1099511627776):∀(d k fuel:Nat) (s:List Int),k+d=w.length->d<fuel->P3 s->s.length<=k ->
  C3 w fuel (k:Int) s.reverse=some (t7 s (w.drop k)).reverse
 |d,k,0,s,hk,hf,hs,hsl=>by omega
 |0,k,fuel+1,s,hk,hf,hs,hsl=>by
  rw[C3.eq_2,if_neg (by simp;omega),M1 (by omega)]
  rfl
 |d+1,k,fuel+1,s,hk,hf,hs,hsl=>by
  have hkl:k<w.length:=by omega
  have hx:=w5 hkl
  have hx64:=hw _ (List.mem_of_getElem? hx)
  generalize w[k]=x at hx hx64
  have next:=S02 w hw hl d (k+1) fuel (C4 s x) (by omega) (by omega) (b0g hs hx64) (by have:=E0c s x;omega)
  rw[V1 hx]
  show _=some (t7 (C4 s x) (w.drop (k+1))).reverse
  rw[←next,C3.eq_2,if_pos (by simp;omega),oB,S0 (by rw[List.length_reverse];omega),oB]
  rw[Z2 hkl (by omega:w.length<=9223372036854775807)]
  have e0:decide (x=0)=(x == 0):=by rw[Bool.eq_iff_iff];simp
  cases s with
  |nil =>
   have hz:decide ((((([]:List Int).reverse).length:Nat):Int)>0)=false:=rfl
   simp only[hz,Z3,oB,cond_false,Bool.false_eq_true,if_false,E3 hx]
   rw[S0 (by simp)]
   rfl
  |cons l t =>
   have hl64:=hs l mS
   have hp:decide ((((l::t).reverse.length:Nat):Int)>0)=true:=by simp
   have hpr:IntKind.i64.wrap ((((l::t).reverse.length:Nat):Int)-1)=((t.length:Nat):Int):=by
    rw[p0f (by simp) (by simp only[List.length_reverse,List.length_cons]at *;omega)];simp
   have hc:=n0p hl64 hx64
   have e1:decide (l=IntKind.i64.wrap (0-x))=(l == ng x):=by rw[Bool.eq_iff_iff];simp[ng]
   have e2:decide (l=x)=(l == x):=by rw[Bool.eq_iff_iff];simp
   have hpush:(grd (((l::t).reverse.length + [x].length)*8<=140737488355328))=some ():=S0 (by simp only[List.length_cons]at hsl;simp only[List.length_reverse,List.length_cons,List.length_nil];omega)
   simp only[hp,hpr,I2,oB,cond_true,E3 hx,E3 c0g,e0,C4]
   cases h0:(x == 0)with
   |true =>
    rw[h0]at hc
    simp only[Bool.not_true,Bool.false_and]at hc
    simp only[←hc,Bool.not_true,Z3,cond_false,oB,Bool.false_eq_true,if_false,hpush]
    exact congrArg _ (List.reverse_cons ..).symm
   |false =>
    rw[h0]at hc
    simp only[Bool.not_false,Bool.true_and]at hc
    simp only[Bool.not_false,I2,cond_true,oB,e1]
    cases h1:(l == ng x)with
    |false =>
     rw[h1]at hc
     simp only[Bool.false_and]at hc
     simp only[←hc,Z3,cond_false,oB,Bool.false_eq_true,if_false,hpush]
     exact congrArg _ (List.reverse_cons ..).symm
    |true =>
     rw[h1]at hc
     simp only[Bool.true_and]at hc
     simp only[I2,cond_true,oB,e2]
     cases h2:(l == x)with
     |true =>
      rw[h2]at hc
      simp only[Bool.not_true]at hc
      simp only[←hc,Bool.not_true,Bool.false_eq_true,if_false,cond_false,oB,hpush]
      exact congrArg _ (List.reverse_cons ..).symm
     |false =>
      rw[h2]at hc
      simp only[Bool.not_false]at hc
      simp only[←hc,Bool.not_false,if_true,cond_true]
      rw[S0 (by simp only[List.length_reverse,List.length_cons]at *;omega),oB,Int.toNat_natCast,T0h]
theorem B8(w:List Int)(b:P3 w)(a:w.length<=1099511627776):T1 w=some (t7 [] w).reverse:=by
 unfold T1
 have h:=S02 w b a w.length 0 W0 [] (by omega) (N1 (by omega)) (λx c=>by cases c) (by simp)
 rw[show((0:Nat):Int)=0 from rfl,List.drop_zero,List.reverse_nil]at h
 rw[h,oB,S0 (by have:=q01 w [];simp only[List.length_reverse,List.length_nil]at *;omega),oB,List.nil_append]
theorem L9{a b:List Int}(c:P3 a)(d:P3 b):P3 (a++b):=λx e=>by
 rcases List.mem_append.1 e with h|h
 ·exact c x h
 ·exact d x h
theorem R08{a:List Int}(b:P3 a):P3 a.reverse:=λx c=>b x (List.mem_reverse.1 c)
theorem X0n:P3 []:=λx a=>by cases a
def j03(u g:List Int):List Int:=(t7 [] (inv g++u++g)).reverse
theorem e0g(u v:List Int):t7 [] ((t7 [] u).reverse++v)=t7 [] (u++v):=by
 rw[b00,t06 _ (W03 u [] rfl),b00]
theorem Y09(w:List Int)(a:P3 w):P3 (t7 [] w).reverse:=R08 (k0b w [] X0n a)
theorem r0l(u g:List Int):(j03 u g).length<=u.length+2*g.length:=by
 unfold j03
 have:=q01 (inv g++u++g) []
 have:=C9 g
 simp only[List.length_reverse,List.length_append,List.length_nil]at *
 omega
theorem G0s{u g:List Int}(b:P3 u)(a:P3 g):P3 (j03 u g):=Y09 _ (L9 (L9 (c04 g) b) a)
theorem g04(w:List Int)(hl:w.length<=1099511627776)(n0:Nat)(hn:n0<=1099511627776):∀(d k fuel:Nat) (s:List Int),k+d=w.length->d<fuel->s.length<=n0+k ->
  K6 w fuel (k:Int) s.reverse=some (t7 s (w.drop k)).reverse
 |d,k,0,s,hk,hf,hsl=>by omega
 |0,k,fuel+1,s,hk,hf,hsl=>by
  rw[K6.eq_2,if_neg (by simp;omega),M1 (by omega)]
  rfl
 |d+1,k,fuel+1,s,hk,hf,hsl=>by
  have hkl:k<w.length:=by omega
  have hx:=w5 hkl
  generalize w[k]=x at hx
  have next:=g04 w hl n0 hn d (k+1) fuel (C4 s x) (by omega) (by omega) (by have:=E0c s x;omega)
  rw[V1 hx]
  show _=some (t7 (C4 s x) (w.drop (k+1))).reverse
  rw[←next,K6.eq_2,if_pos (by simp;omega),E3 hx,oB,oB,S0 (by rw[List.length_reverse];omega),oB,oB,oB]
  rw[Z2 hkl (by omega:w.length<=9223372036854775807)]
  cases s with
  |nil =>
   have hz:decide ((((([]:List Int).reverse).length:Nat):Int)>0)=false:=rfl
   simp only[hz,Z3,oB,cond_false,Bool.false_eq_true,if_false]
   rw[S0 (by simp)]
   rfl
  |cons l t =>
   have hp:decide ((((l::t).reverse.length:Nat):Int)>0)=true:=by simp
   have hpr:IntKind.i64.wrap ((((l::t).reverse.length:Nat):Int)-1)=((t.length:Nat):Int):=by
    rw[p0f (by simp) (by simp only[List.length_cons]at hsl;simp only[List.length_reverse,List.length_cons];omega)];simp
   have hpush:(grd (((l::t).reverse.length + [x].length)*8<=140737488355328))=some ():=S0 (by simp only[List.length_cons]at hsl;simp only[List.length_reverse,List.length_cons,List.length_nil];omega)
   have hlen:(grd ((l::t).reverse.length<=9223372036854775807))=some ():=S0 (by rw[List.length_reverse];omega)
   simp only[hp,hpr,I2,oB,cond_true,E3 c0g,W06,C4]
   have hcc:(!(l == 0) && !(l == -9223372036854775808)&&(x == IntKind.i64.wrap (0-l)))=h02 l x:=rfl
   rw[hcc]
   cases hc:h02 l x with
   |true =>
    simp only[if_true,cond_true,hlen,oB]
    rw[S0 (by simp only[List.length_reverse,List.length_cons];omega),oB,Int.toNat_natCast,T0h]
   |false =>
    simp only[Bool.false_eq_true,if_false,cond_false,hpush,hlen,oB]
    exact congrArg _ (List.reverse_cons ..).symm
def u06:List (List Int)->Nat
 | []=>0
 |w::r=>w.length+u06 r
def H0c(s:List Int):List (List Int)->List Int
 | []=>s
 |w::r=>H0c (t7 s w) r
theorem h04(b:List (List Int))(h:b.length<=1099511627776):∀(d k fuel:Nat) (a:List Int),k+d=b.length->d<fuel->a.length+u06 (b.drop k)<=1099511627776 ->
  M7 b fuel (k:Int) a.reverse=some (H0c a (b.drop k)).reverse
 |d,k,0,a,f,hf,c=>by omega
 |0,k,fuel+1,a,f,hf,c=>by
  rw[M7.eq_2,if_neg (by simp;omega),M1 (by omega)]
  rfl
 |d+1,k,fuel+1,a,f,hf,c=>by
  have g:k<b.length:=by omega
  have e:=w5 g
  generalize b[k]=w at e
  rw[V1 e]at c ⊢
  simp only[u06]at c
  have i:=q01 w a
  have h0:=g04 w (by omega) a.length (by omega) w.length 0 W0 a (by omega) (N1 (by omega)) (by omega)
  rw[show((0:Nat):Int)=0 from rfl,List.drop_zero]at h0
  rw[M7.eq_2,if_pos (by simp;omega),E3 e,oB,h0,oB,Z2 g (by omega:b.length<=9223372036854775807)]
  exact h04 b h d (k+1) fuel (t7 a w) (by omega) (by omega) (by omega)
theorem H03(a:List (List Int))(c:a.length<=1099511627776)(b:u06 a<=1099511627776):d9 a=some (H0c [] a).reverse:=by
 unfold d9
 have h:=h04 a c a.length 0 W0 [] (by omega) (N1 (by omega)) (by simpa using b)
 rw[show((0:Nat):Int)=0 from rfl,List.drop_zero,List.reverse_nil]at h
 rw[h]
 rfl
theorem D8(a b:List Int)(c:P3 a)(d:P3 b)(e:a.length+b.length<=1099511627776):C2 a b=some (t7 [] (a++b)).reverse:=by
 unfold C2
 rw[S0 (by simp only[List.length_nil];omega),oB,S0 (by simp only[List.length_append,List.length_nil];omega),oB,List.nil_append,
  B8 _ (L9 c d) (by simp only[List.length_append];omega)]
 rfl
theorem S08{x:l0}(h:O1 x=true){i:Nat}{u:List Int}(e:x.2[i]?=some u):P3 u/\u.length<=24:=by
 simp only[O1,U3,Bool.and_eq_true]at h
 have a:∀ {b:List (List Int)},w07 x.1 b=true->∀ w∈b,L3 x.1 w=true:=by
  intro b
  induction b with
  |nil=>intro _ w a;cases a
  |cons v r g =>
   intro h w a
   simp only[w07,Bool.and_eq_true]at h
   rcases List.mem_cons.1 a with rfl|a
   ·exact h.1
   ·exact g h.2 w a
 have c:=a h.1.1.2 u (List.mem_of_getElem? e)
 refine⟨λy f=>?_,?_⟩
 ·obtain⟨j,d⟩:=List.getElem?_of_mem f
  obtain⟨k,_,_,l,m⟩:=S03 c d
  constructor<;>omega
 ·simp only[L3,Bool.and_eq_true,decide_eq_true_eq]at c
  exact c.1.2
theorem g0g{x:l0}(h:O1 x=true):x.2.length<=6:=by
 simp only[O1,U3,Bool.and_eq_true,decide_eq_true_eq]at h
 exact h.1.1.1.2
end Go.Proofs.YtfphndijjmdiiaaGreat
