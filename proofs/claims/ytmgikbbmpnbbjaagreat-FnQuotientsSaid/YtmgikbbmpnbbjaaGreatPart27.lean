/- Texts of the claim, joined: Plain laws: words and presentations, as the spec and the cod and others. -/
import Derived.Test.YtmgikbbmpnbbjaaGreatPart22
import Derived.Test.YtmgikbbmpnbbjaaGreatH33
import Derived.Test.YtmgikbbmpnbbjaaGreatH36
import Derived.Test.YtmgikbbmpnbbjaaGreatPart21
namespace Go.Proofs.YtmgikbbmpnbbjaaGreat
open Go.H
set_option linter.unusedVariables false
set_option linter.unusedSimpArgs false
theorem E1{n:Nat}(h:n<=140737488355328):n<V0:=by unfold V0;omega
theorem F0{p:Prop}[Decidable p](h:p):grd p=some ():=by unfold grd;rw[if_pos h]
theorem Y1{a:Type}(o:Option a)(d:a):chk true o d=o:=rfl
theorem P3{a:Type}(o:Option a)(d:a):chk false o d=some d:=rfl
theorem Z2{a:Type}{xs:List a}{k:Nat}{x:a}(h:xs[k]?=some x):gi xs (k:Int)=some x:=by rw[y0d];exact h
theorem Y06{a:Type}{xs:List a}{x:a}(h:xs[0]?=some x):gi xs 0=some x:=Z2 (k:=0) h
theorem y0e{x:Int}(h:H0 x)(a:x ≠ -9223372036854775808):IntKind.i64.wrap (0-x) = -x:=by rw[w64 (by have:=h.1;have:=h.2;omega) (by have:=h.1;have:=h.2;omega)];omega
theorem v09{n:Nat}(h:0<n)(a:n<=9223372036854775807):IntKind.i64.wrap ((n:Int)-1)=((n-1:Nat):Int):=by rw[w64 (by omega) (by omega)];omega
theorem A5{a:Type}{xs:List a}{k:Nat}(h:k<xs.length):xs[k]?=some xs[k]:=List.getElem?_eq_getElem h
def inR(b a x:Int):Bool:=decide (b<=x)&&decide (x<=a)
def G06(b a:Int)(w:List Int)(i:Nat):Bool :=
 match w[i]? with
 |none=>true
 |some x=>x == 0 || !inR b a x || (decide (0<i)&&match w[i-1]? with
  |none=>true
  |some y=>x == IntKind.i64.wrap (0-y))
def q04(b a:Int)(w:List Int):Nat->Nat->Bool
 |0,_=>true
 |d+1,k => !G06 b a w k&&q04 b a w d (k+1)
def M3(r:Int)(w:List Int):Bool:=inR 1 3 r&&decide (w.length<=24)&&q04 (-r) r w w.length 0
theorem r04(a b c:Int):T4 a b c=some (inR b c a):=by
 unfold T4 inR
 by_cases h:b<=a<;>simp[h]
theorem Y02(a b c:Int):p6 a b c=some (inR b c a):=r04 a b c
theorem B07(r:Int)(w:List Int)(n:w.length<=140737488355328):∀(d k fuel:Nat),k+d=w.length->d<fuel ->
  V8 w r fuel (k:Int)=some (bif q04 (IntKind.i64.wrap (0-r)) r w d k then .inr ()else .inl false)
 |d,k,0,j,hf=>by omega
 |0,k,fuel+1,j,hf=>by
  rw[V8.eq_2,if_neg (by simp;omega)]
  simp[q04]
 |d+1,k,fuel+1,j,hf=>by
  have l:k<w.length:=by omega
  have a:=A5 l
  generalize w[k]=x at a
  have next:=B07 r w n d (k+1) fuel (by omega) (by omega)
  rw[V8.eq_2,if_pos (by simp;omega)]
  generalize IntKind.i64.wrap (0-r)=lo at next ⊢
  simp only[Z2 a,oB,r04,V2 l (by omega:w.length<=9223372036854775807),next]
  have m:G06 lo r w k=(x == 0 || !inR lo r x || (decide (0<k)&&match w[k-1]? with
   |none=>true
   |some y=>x == IntKind.i64.wrap (0-y))):=by unfold G06;rw[a]
  simp only[q04,m]
  by_cases h0:x=0
  ·simp[h0,chk]
  have f:decide (x=0)=false:=by simpa using h0
  have b:(x == 0)=false:=by simpa using h0
  cases hin:inR lo r x with
  |false=>simp[f,b,hin,chk]
  |true =>
   by_cases hk0:k=0
   ·have h:decide ((k:Int)>0)=false:=by simp;omega
    have e:decide (0<k)=false:=by simp;omega
    simp only[f,b,hin,h,e,Y1,P3,Bool.not_true,Bool.not_false,Bool.and_true,Bool.false_and,Bool.or_self,Bool.true_and,cond_true,cond_false,oB,Bool.or_false,Bool.and_false,Bool.false_eq_true,if_false,cond_true,cond_false]
   ·have i:=A5 (show k-1<w.length by omega)
    generalize w[k-1]=y at i
    have o:IntKind.i64.wrap ((k:Int)-1)=((k-1:Nat):Int):=v09 (by omega) (by omega)
    have h:decide ((k:Int)>0)=true:=by simp;omega
    have e:decide (0<k)=true:=by simp;omega
    simp only[f,b,hin,h,e,o,i,Z2 a,Z2 i,Y1,P3,Bool.not_true,Bool.not_false,Bool.and_true,Bool.false_and,Bool.or_self,Bool.true_and,cond_true,cond_false,oB,Bool.or_false,Bool.and_false,Bool.false_or]
    by_cases hxy:x=IntKind.i64.wrap (0-y)
    ·have g:decide (x=IntKind.i64.wrap (0-y))=true:=by simpa using hxy
     have c:(x == IntKind.i64.wrap (0-y))=true:=by simpa using hxy
     simp only[g,c,if_true,Bool.not_true,Bool.false_and,Bool.false_eq_true,if_false,cond_true,cond_false]
    ·have g:decide (x=IntKind.i64.wrap (0-y))=false:=by simpa using hxy
     have c:(x == IntKind.i64.wrap (0-y))=false:=by simpa using hxy
     simp only[g,c,Bool.false_eq_true,if_false,Bool.not_false,Bool.true_and]
theorem j08(r:Int)(w:List Int)(a:w.length<=140737488355328):q01 r w=some (M3 r w):=by
 unfold q01
 have h:=B07 r w a w.length 0 V0 (by omega) (E1 a)
 rw[show((0:Nat):Int)=0 from rfl]at h
 rw[h,r04]
 unfold M3
 by_cases hr:inR 1 3 r=true
 ·have:IntKind.i64.wrap (0-r) = -r:=by
   simp only[inR,Bool.and_eq_true,decide_eq_true_eq]at hr
   rw[w64 (by omega) (by omega)];omega
  rw[this,hr]
  cases q04 (-r) r w w.length 0<;>simp[l7]<;>omega
 ·simp only[Bool.not_eq_true]at hr
  rw[hr]
  cases q04 (IntKind.i64.wrap (0-r)) r w w.length 0<;>simp[l7]
theorem v0n(r x:Int)(b:inR 1 3 r=true):Y01 r x=some (!(x == 0)&&inR (-r) r x):=by
 have a:IntKind.i64.wrap (0-r) = -r:=by
  simp only[inR,Bool.and_eq_true,decide_eq_true_eq]at b
  rw[w64 (by omega) (by omega)];omega
 unfold Y01
 rw[a,Y02]
 by_cases h0:x=0
 ·simp[h0,chk]
 ·simp[h0,chk]
theorem k08(y x:Int):H8 y x=some (!(y == 0) && !(y == -9223372036854775808)&&(x == IntKind.i64.wrap (0-y))):=by
 unfold H8
 by_cases h0:y=0
 ·simp[h0]
 ·by_cases h1:y = -9223372036854775808
  ·simp[h1]
  ·simp only[h0,h1,decide_false,Bool.not_false,cond_true,Option.some.injEq]
   have a:(y == 0)=false:=by simpa using h0
   have b:(y == -9223372036854775808)=false:=by simpa using h1
   rw[a,b]
   rfl
theorem C07(r:Int)(w:List Int)(hr:inR 1 3 r=true)(hl:w.length<=140737488355328):∀(d k fuel:Nat),k+d=w.length->d<fuel ->
  (∀ i,i<k->G06 (-r) r w i=false) ->
  W8 w r fuel (k:Int)=some (bif q04 (-r) r w d k then .inr ()else .inl false)
 |d,k,0,hk,hf,hp=>by omega
 |0,k,fuel+1,hk,hf,hp=>by
  rw[W8.eq_2,if_neg (by simp;omega)]
  simp[q04]
 |d+1,k,fuel+1,hk,hf,hp=>by
  have hkl:k<w.length:=by omega
  have hx:=A5 hkl
  generalize w[k]=x at hx
  have next:=λ(hb:G06 (-r) r w k=false)=>C07 r w hr hl d (k+1) fuel (by omega) (by omega) (λi hi=>by
   by_cases e:i=k
   ·subst e;exact hb
   ·exact hp i (by omega))
  rw[W8.eq_2,if_pos (by simp;omega)]
  rw[Z2 hx,oB,v0n r x hr,V2 hkl (by omega:w.length<=9223372036854775807)]
  have hbad:G06 (-r) r w k=(x == 0 || !inR (-r) r x || (decide (0<k)&&match w[k-1]? with
   |none=>true
   |some y=>x == IntKind.i64.wrap (0-y))):=by unfold G06;rw[hx]
  simp only[q04]
  by_cases h0:x=0
  ·simp[h0,chk,hbad]
  have b0:(x == 0)=false:=by simpa using h0
  cases hin:inR (-r) r x with
  |false=>simp[b0,hin,chk,hbad]
  |true =>
   by_cases hk0:k=0
   ·have hb:G06 (-r) r w k=false:=by rw[hbad];simp[h0,hin,hk0]
    rw[next hb,hb]
    have ek:decide ((k:Int)>0)=false:=by simp;omega
    simp only[b0,ek,Y1,P3,Bool.not_true,Bool.not_false,Bool.and_true,Bool.false_and,Bool.or_self,Bool.true_and,cond_true,cond_false,oB,Bool.or_false,Bool.and_false,Bool.false_eq_true,if_false,cond_true,cond_false]
   ·have hy:=A5 (show k-1<w.length by omega)
    have hpy:=hp (k-1) (by omega)
    generalize w[k-1]=y at hy
    have hy0:y≠0/\y ≠ -9223372036854775808:=by
     unfold G06 at hpy
     rw[hy]at hpy
     simp only[Bool.or_eq_false_iff,Bool.not_eq_false']at hpy
     have h1:=hpy.1.2
     simp only[inR,Bool.and_eq_true,decide_eq_true_eq]at h1 hr
     exact⟨by simpa using hpy.1.1,by omega⟩
    have b2:(y == 0)=false:=by simpa using hy0.1
    have b3:(y == -9223372036854775808)=false:=by simpa using hy0.2
    have hpr:IntKind.i64.wrap ((k:Int)-1)=((k-1:Nat):Int):=v09 (by omega) (by omega)
    have ek:decide ((k:Int)>0)=true:=by simp;omega
    have bk:decide (0<k)=true:=by simp;omega
    simp only[b0,ek,hpr,Z2 hy,k08,b2,b3,Y1,P3,Bool.not_true,Bool.not_false,Bool.and_true,Bool.false_and,Bool.or_self,Bool.true_and,cond_true,cond_false,oB,Bool.or_false,Bool.and_false,Bool.false_or]
    cases b1:(x == IntKind.i64.wrap (0-y))with
    |true =>
     have hb:G06 (-r) r w k=true:=by rw[hbad,hy,bk,b0,hin];exact b1
     simp only[hb,if_true,Bool.not_true,Bool.false_and,Bool.false_eq_true,if_false,cond_true,cond_false]
    |false =>
     have hb:G06 (-r) r w k=false:=by rw[hbad,hy,bk,b0,hin];exact b1
     simp only[hb,next hb,Bool.false_eq_true,if_false,Bool.not_false,Bool.true_and]
theorem l08(r:Int)(w:List Int)(b:w.length<=140737488355328):r01 r w=some (M3 r w):=by
 unfold r01
 rw[Y02]
 unfold M3
 cases hr:inR 1 3 r with
 |false=>simp
 |true =>
  by_cases h24:w.length<=24
  ·have h:=C07 r w hr b w.length 0 V0 (by omega) (E1 b) (λi c=>by omega)
   rw[show((0:Nat):Int)=0 from rfl]at h
   have a : ¬ (24:Int)<(w.length:Int):=by omega
   simp only[oB,h,a]
   cases q04 (-r) r w w.length 0<;>simp[l7,h24]
  ·have a:(24:Int)<(w.length:Int):=by omega
   simp[h24,a]
def tot:List (List Int)->Nat
 | []=>0
 |w::r=>w.length+tot r
theorem V1{a:Type}{xs:List a}{k:Nat}{x:a}(h:xs[k]?=some x):xs.drop k=x::xs.drop (k+1):=by
 obtain⟨b,rfl⟩:=List.getElem?_eq_some_iff.1 h
 exact List.drop_eq_getElem_cons b
theorem P1{a:Type}{xs:List a}{k:Nat}(h:k=xs.length):xs.drop k = []:=by rw[h];exact List.drop_length
theorem h04(b:List (List Int))(h:b.length<=140737488355328):∀(d k fuel a:Nat),k+d=b.length->d<fuel->a+tot (b.drop k)<=9223372036854775807 ->
  B4 b fuel (a:Int) (k:Int)=some ((a+tot (b.drop k):Nat):Int)
 |d,k,0,a,f,hf,c=>by omega
 |0,k,fuel+1,a,f,hf,c=>by
  rw[B4.eq_2,if_neg (by simp;omega),P1 (by omega)]
  rfl
 |d+1,k,fuel+1,a,f,hf,c=>by
  have g:k<b.length:=by omega
  have e:=A5 g
  generalize b[k]=x at e
  rw[V1 e]at c ⊢
  simp only[tot]at c ⊢
  rw[B4.eq_2,if_pos (by simp;omega),Z2 e,oB,V2 g (by omega:b.length<=9223372036854775807),
   show IntKind.i64.wrap ((a:Int)+((x.length:Nat):Int))=((a+x.length:Nat):Int) by rw[w64 (by omega) (by omega)];omega,
   h04 b h d (k+1) fuel (a+x.length) (by omega) (by omega) (by omega)]
  rw[Nat.add_assoc]
theorem H06(a:List (List Int))(b:a.length<=140737488355328)(c:tot a<=9223372036854775807):o9 a=some ((tot a:Nat):Int):=by
 unfold o9
 have h:=h04 a b a.length 0 V0 0 (by omega) (E1 b) (by simpa using c)
 rw[show((0:Nat):Int)=0 from rfl]at h
 rw[h]
 simp
theorem A03(b:List (List Int)):∀(fuel:Nat) (a k:Int),F6 b fuel a k=B4 b fuel a k
 |0,a,k=>rfl
 |fuel+1,a,k=>by
  rw[F6.eq_2,B4.eq_2]
  simp only[A03 b fuel]
theorem p0c(a:List (List Int))(b:a.length<=140737488355328)(c:tot a<=9223372036854775807):E00 a=some ((tot a:Nat):Int):=by
 rw[←H06 a b c]
 unfold E00 o9
 rw[A03]
def o0a(r:Int):List (List Int)->Bool
 | []=>true
 |w::l=>M3 r w&&o0a r l
def G3(r:Int)(a:List (List Int)):Bool:=inR 1 3 r&&decide (a.length<=6)&&o0a r a&&decide (tot a<40)
theorem s0g{r:Int}:∀ {a:List (List Int)},o0a r a=true->tot a<=24*a.length
 | [],_=>by simp[tot]
 |w::l,h=>by
  simp only[o0a,Bool.and_eq_true]at h
  have b:=h.1
  simp only[M3,Bool.and_eq_true,decide_eq_true_eq]at b
  have:=s0g h.2
  simp only[tot,List.length_cons]
  omega
def U2(a:List (List Int)):Prop:=∀ w∈a,w.length<=140737488355328
theorem Z05(r:Int)(a:List (List Int))(h:a.length<=140737488355328)(f:U2 a):∀(d k fuel:Nat),k+d=a.length->d<fuel ->
  t7 a r fuel (k:Int)=some (bif o0a r (a.drop k)then .inr ()else .inl false)
 |d,k,0,c,hf=>by omega
 |0,k,fuel+1,c,hf=>by
  rw[t7.eq_2,if_neg (by simp;omega),P1 (by omega)]
  rfl
 |d+1,k,fuel+1,c,hf=>by
  have e:k<a.length:=by omega
  have b:=A5 e
  have g:=f _ (List.mem_of_getElem? b)
  generalize a[k]=x at b g
  rw[V1 b,t7.eq_2,if_pos (by simp;omega),Z2 b,oB,j08 r x g,oB,V2 e (by omega:a.length<=9223372036854775807),
   Z05 r a h f d (k+1) fuel (by omega) (by omega)]
  simp only[o0a]
  cases M3 r x<;>simp
theorem w09(r:Int)(a:List (List Int))(d:a.length<=140737488355328)(e:U2 a):Z00 r a=some (G3 r a):=by
 unfold Z00
 have h:=Z05 r a d e a.length 0 V0 (by omega) (E1 d)
 rw[show((0:Nat):Int)=0 from rfl,List.drop_zero]at h
 rw[h,oB]
 unfold G3
 cases ha:o0a r a with
 |false=>simp[l7]
 |true =>
  rw[cond_true,Y0,r04,oB]
  have:=s0g ha
  cases hr:inR 1 3 r with
  |false=>simp[chk,grd,H0]
  |true =>
   by_cases h6:a.length<=6
   ·rw[H06 a d (by omega)]
    have b:decide (((a.length:Nat):Int)<=6)=true:=by simp;omega
    have c:decide (a.length<=6)=true:=by simpa using h6
    rw[b,c,cond_true,Y1,oB,F0 (by constructor<;>omega)]
    simp
    omega
   ·have b:decide (((a.length:Nat):Int)<=6)=false:=by simp;omega
    have c:decide (a.length<=6)=false:=by simpa using h6
    rw[b,c]
    simp[chk,grd,H0]
theorem a06(r:Int)(a:List (List Int))(h:a.length<=140737488355328)(f:U2 a):∀(d k fuel:Nat),k+d=a.length->d<fuel ->
  w7 a r fuel (k:Int)=some (bif o0a r (a.drop k)then .inr ()else .inl false)
 |d,k,0,c,hf=>by omega
 |0,k,fuel+1,c,hf=>by
  rw[w7.eq_2,if_neg (by simp;omega),P1 (by omega)]
  rfl
 |d+1,k,fuel+1,c,hf=>by
  have e:k<a.length:=by omega
  have b:=A5 e
  have g:=f _ (List.mem_of_getElem? b)
  generalize a[k]=x at b g
  rw[V1 b,w7.eq_2,if_pos (by simp;omega),Z2 b,oB,l08 r x g,oB,V2 e (by omega:a.length<=9223372036854775807),
   a06 r a h f d (k+1) fuel (by omega) (by omega)]
  simp only[o0a]
  cases M3 r x<;>simp
theorem x09(r:Int)(a:List (List Int))(d:a.length<=140737488355328)(e:U2 a):a01 r a=some (G3 r a):=by
 unfold a01
 rw[Y02,oB]
 unfold G3
 cases hr:inR 1 3 r with
 |false=>simp
 |true =>
  by_cases h6:a.length<=6
  ·have b:decide (((a.length:Nat):Int)>6)=false:=by simp;omega
   have c:decide (a.length<=6)=true:=by simpa using h6
   have h:=a06 r a d e a.length 0 V0 (by omega) (E1 d)
   rw[show((0:Nat):Int)=0 from rfl,List.drop_zero]at h
   rw[b,c,h,oB]
   cases ha:o0a r a with
   |false=>simp[l7]
   |true =>
    have:=s0g ha
    simp only[cond_true,Y0,p0c a d (by omega),oB,F0 (show H0 ((tot a:Nat):Int) by constructor<;>omega)]
    simp
    omega
  ·have b:decide (((a.length:Nat):Int)>6)=true:=by simp;omega
   have c:decide (a.length<=6)=false:=by simpa using h6
   rw[b,c]
   simp
def cyc(w:List Int):Bool:=match w[0]?,w[w.length-1]? with
 |some x,some y => !(x == IntKind.i64.wrap (0-y))
 |_,_=>false
def E0l:List (List Int)->Bool
 | []=>true
 |w::l=>cyc w&&E0l l
def K3(x:D0):Bool:=G3 x.1 x.2&&E0l x.2
theorem Z02(c:List (List Int))(n:c.length<=140737488355328)(l:U2 c):∀(d k fuel:Nat),k+d=c.length->d<fuel ->
  O4 c fuel (k:Int)=some (bif E0l (c.drop k)then .inr ()else .inl false)
 |d,k,0,i,hf=>by omega
 |0,k,fuel+1,i,hf=>by
  rw[O4.eq_2,if_neg (by simp;omega),P1 (by omega)]
  rfl
 |d+1,k,fuel+1,i,hf=>by
  have j:k<c.length:=by omega
  have e:=A5 j
  have o:=l _ (List.mem_of_getElem? e)
  generalize c[k]=x at e o
  rw[V1 e,O4.eq_2,if_pos (by simp;omega),Z2 e,oB,V2 j (by omega:c.length<=9223372036854775807),
   Z02 c n l d (k+1) fuel (by omega) (by omega)]
  simp only[E0l]
  by_cases h0:x.length=0
  ·have:x = []:=List.length_eq_zero_iff.1 h0
   subst this
   simp[chk,cyc]
  ·have m:decide (((x.length:Nat):Int)=0)=false:=by simpa using h0
   have f:=A5 (show 0<x.length by omega)
   have g:=A5 (show x.length-1<x.length by omega)
   have h:cyc x = !(x[0] == IntKind.i64.wrap (0-x[x.length-1])):=by unfold cyc;rw[f,g]
   generalize x[0]=a at f h
   generalize x[x.length-1]=b at g h
   rw[m,v09 (by omega) (by omega),Y06 f,Z2 g,h]
   simp only[Bool.not_false,Y1,oB,cond_false]
   cases hab:(a == IntKind.i64.wrap (0-b))with
   |true=>rw[if_pos (by simpa using hab)];rfl
   |false=>rw[if_neg (by simpa using hab)];simp
theorem f8(x:D0)(b:x.2.length<=140737488355328)(c:U2 x.2):L4 x=some (K3 x):=by
 obtain⟨r,a⟩:=x
 unfold L4
 have h:=Z02 a b c a.length 0 V0 (by omega) (E1 b)
 rw[show((0:Nat):Int)=0 from rfl,List.drop_zero]at h
 simp only[h,oB,w09 r a b c,K3]
 cases E0l a<;>simp[l7]
theorem B0d{b a:Int}{w:List Int}:∀ {d k:Nat},q04 b a w d k=true->∀ i,k<=i->i<k+d->G06 b a w i=false
 |0,k,h,i,c,f=>by omega
 |d+1,k,h,i,c,f=>by
  simp only[q04,Bool.and_eq_true,Bool.not_eq_true']at h
  by_cases e:i=k
  ·subst e;exact h.1
  ·exact B0d h.2 i (by omega) (by omega)
theorem I06{r:Int}{w:List Int}(h:M3 r w=true){i:Nat}{x:Int}(d:w[i]?=some x):(1<=r/\r<=3)/\w.length<=24/\x≠0 /\ -r<=x/\x<=r:=by
 simp only[M3,Bool.and_eq_true,decide_eq_true_eq]at h
 have c:=h.1.1
 simp only[inR,Bool.and_eq_true,decide_eq_true_eq]at c
 have a:=B0d h.2 i (Nat.zero_le _) (by have:=(List.getElem?_eq_some_iff.1 d).1;omega)
 unfold G06 at a
 rw[d]at a
 simp only[Bool.or_eq_false_iff,Bool.not_eq_false']at a
 have b:=a.1.2
 simp only[inR,Bool.and_eq_true,decide_eq_true_eq]at b
 exact⟨c,h.1.2,by simpa using a.1.1,b⟩
theorem a03(c:List (List Int))(t:c.length<=140737488355328)(o:U2 c)(r:Int)(s:inR 1 3 r=true):∀(d k fuel:Nat),k+d=c.length->d<fuel->o0a r (c.drop k)=true ->
  P4 c fuel (k:Int)=some (bif E0l (c.drop k)then .inr ()else .inl false)
 |d,k,0,m,hf,e=>by omega
 |0,k,fuel+1,m,hf,e=>by
  rw[P4.eq_2,if_neg (by simp;omega),P1 (by omega)]
  rfl
 |d+1,k,fuel+1,m,hf,e=>by
  have n:k<c.length:=by omega
  have h:=A5 n
  have u:=o _ (List.mem_of_getElem? h)
  generalize c[k]=x at h u
  rw[V1 h]at e ⊢
  simp only[o0a,Bool.and_eq_true]at e
  rw[P4.eq_2,if_pos (by simp;omega),Z2 h,oB,V2 n (by omega:c.length<=9223372036854775807),
   a03 c t o r s d (k+1) fuel (by omega) (by omega) e.2]
  simp only[E0l]
  by_cases h0:x.length=0
  ·have:x = []:=List.length_eq_zero_iff.1 h0
   subst this
   simp[chk,cyc]
  ·have q:decide (((x.length:Nat):Int)=0)=false:=by simpa using h0
   have f:=A5 (show 0<x.length by omega)
   have g:=A5 (show x.length-1<x.length by omega)
   have l:cyc x = !(x[0] == IntKind.i64.wrap (0-x[x.length-1])):=by unfold cyc;rw[f,g]
   generalize x[0]=a at f l
   generalize x[x.length-1]=b at g l
   obtain⟨G,_,p,A,C⟩:=I06 e.1 f
   obtain⟨_,_,D,E,F⟩:=I06 e.1 g
   have v:IntKind.i64.wrap (0-a) = -a:=by rw[w64 (by omega) (by omega)];omega
   have w:IntKind.i64.wrap (0-b) = -b:=by rw[w64 (by omega) (by omega)];omega
   rw[q,v09 (by omega) (by omega),Y06 f,Z2 g,l]
   simp only[Bool.not_false,Y1,oB,cond_false,k08,v,w]
   have y:(a == 0)=false:=by simpa using p
   have z:(a == -9223372036854775808)=false:=by simp;omega
   rw[y,z]
   simp only[Bool.not_false,Bool.true_and]
   by_cases hab:a = -b
   ·have i:(b == -a)=true:=by simp;omega
    have j:(a == -b)=true:=by simp;omega
    rw[i,j];rfl
   ·have i:(b == -a)=false:=by simp;omega
    have j:(a == -b)=false:=by simp;omega
    rw[i,j];simp
theorem O9(x:D0)(b:x.2.length<=140737488355328)(c:U2 x.2):M4 x=some (K3 x):=by
 obtain⟨r,a⟩:=x
 unfold M4
 simp only[x09 r a b c,K3,oB]
 cases ha:G3 r a with
 |false=>simp
 |true =>
  simp only[G3,Bool.and_eq_true]at ha
  have h:=a03 a b c r ha.1.1.1 a.length 0 V0 (by omega) (E1 b) (by rw[List.drop_zero];exact ha.1.2)
  rw[show((0:Nat):Int)=0 from rfl,List.drop_zero]at h
  rw[h]
  cases E0l a<;>simp[l7]
def e05(r a:Int)(e:N0):Bool:=inR 0 a e.1&&inR 0 a e.2.2&&inR 1 r e.2.1
def t0g(e f:N0):Int:=P0 e f
theorem u0g(e f:N0):t0g e f=if Y9 e.1 f.1≠0 then Y9 e.1 f.1 else if Y9 e.2.1 f.2.1≠0 then Y9 e.2.1 f.2.1 else Y9 e.2.2 f.2.2:=rfl
theorem m08(a b:Int):(a<b/\Y9 a b = -1)∨(a>b/\Y9 a b=1)∨(a=b/\Y9 a b=0):=by
 unfold Y9
 split
 ·omega
 ·split<;>omega
theorem s0f(e f:N0):H0 (t0g e f):=by
 rw[u0g]
 split
 ·exact Z0j _ _
 ·split<;>exact Z0j _ _
theorem F0l(g:j0)(e:N0):o02 g e=some (e05 g.1 (IntKind.i64.wrap (g.2.1-1)) e):=by
 obtain⟨r,n,es⟩:=g
 obtain⟨a,l,b⟩:=e
 unfold o02 e05
 simp only[r04,oB]
 cases inR 0 (IntKind.i64.wrap (n-1)) a with
 |false=>rfl
 |true =>
  cases inR 0 (IntKind.i64.wrap (n-1)) b with
  |false=>rfl
  |true=>simp[chk]
theorem I08(g:j0)(e:N0):Y7 g e=some (e05 g.1 (IntKind.i64.wrap (g.2.1-1)) e):=by
 obtain⟨r,n,es⟩:=g
 obtain⟨a,l,b⟩:=e
 unfold Y7 S6 e05
 simp only[Y02,oB]
 cases inR 0 (IntKind.i64.wrap (n-1)) a with
 |false=>rfl
 |true =>
  cases inR 0 (IntKind.i64.wrap (n-1)) b with
  |false=>rfl
  |true=>simp[chk]
theorem m03(e f:N0):T8 e f=some (t0g e f):=by
 obtain⟨a,l,b⟩:=e
 obtain⟨g,j,i⟩:=f
 unfold T8
 rw[show V0=(V0-4)+1+1+1+1 from rfl]
 have s:IntKind.i64.wrap (0+1)=1:=by decide
 have t:IntKind.i64.wrap (1+1)=2:=by decide
 have u:IntKind.i64.wrap (2+1)=3:=by decide
 have o:∀ x y z:Int,gi [x,y,z] 0=some x:=λ_ _ _=>rfl
 have p:∀ x y z:Int,gi [x,y,z] 1=some y:=λ_ _ _=>rfl
 have q:∀ x y z:Int,gi [x,y,z] 2=some z:=λ_ _ _=>rfl
 have d0:decide ((0:Int)<3)=true:=rfl
 have k:decide ((1:Int)<3)=true:=rfl
 have m:decide ((2:Int)<3)=true:=rfl
 have n:decide ((3:Int)<3)=false:=rfl
 simp only[G7.eq_2,s,t,u,o,p,q,d0,k,m,n,if_true,oB,Bool.false_eq_true,if_false]
 rw[u0g]
 simp only
 rcases m08 a g with⟨h,e⟩|⟨h,e⟩|⟨h,e⟩
 ·simp[e,h,l7]
 ·have : ¬ a<g:=by omega
  simp[e,h,this,l7]
 ·subst h
  rcases m08 l j with⟨h,c⟩|⟨h,c⟩|⟨h,c⟩
  ·simp[e,c,h,l7]
  ·have : ¬ l<j:=by omega
   simp[e,c,h,this,l7]
  ·subst h
   rcases m08 b i with⟨h,d⟩|⟨h,d⟩|⟨h,d⟩
   ·simp[e,c,d,h,l7]
   ·have : ¬ b<i:=by omega
    simp[e,c,d,h,this,l7]
   ·subst h
    simp[e,c,d,l7]
theorem h0q(a b:Int):P7 a b=some (Y9 a b):=by
 unfold P7 Y9
 by_cases h:a<b
 ·simp[h]
 ·by_cases h2:a>b<;>simp[h,h2]
theorem b06(e f:N0):e00 e f=some (t0g e f):=by
 obtain⟨a,l,b⟩:=e
 obtain⟨c,d,g⟩:=f
 rw[u0g]
 unfold e00
 simp only[h0q,oB,F0 (Z0j _ _)]
 by_cases h1:Y9 a c=0
 ·by_cases h2:Y9 l d=0
  ·simp[h1,h2]
  ·simp[h1,h2]
 ·simp[h1]
def t0r(r a:Int)(es:List N0)(k:Nat):Bool:=match es[k]? with
 |none=>true
 |some e => !e05 r a e || (decide (0<k)&&match es[k-1]? with
  |none=>true
  |some f=>decide (t0g f e ≥ 0))
def okE(r a:Int)(es:List N0):Nat->Nat->Bool
 |0,_=>true
 |d+1,k => !t0r r a es k&&okE r a es d (k+1)
def U0(g:j0):Bool:=okE g.1 (IntKind.i64.wrap (g.2.1-1)) g.2.2 g.2.2.length 0&&inR 1 3 g.1&&inR 1 40 g.2.1&&decide (g.2.2.length<=120)
theorem q0c{r a:Int}{es:List N0}{k:Nat}{e:N0}(b:es[k]?=some e):t0r r a es k=(!e05 r a e || (decide (0<k)&&match es[k-1]? with
  |none=>true
  |some f=>decide (t0g f e ≥ 0))):=by unfold t0r;rw[b]
theorem J06(r n:Int)(es:List N0)(q:es.length<=140737488355328):∀(d k fuel:Nat),k+d=es.length->d<fuel ->
  W7 es r n fuel (k:Int)=some (bif okE r (IntKind.i64.wrap (n-1)) es d k then .inr ()else .inl false)
 |d,k,0,l,hf=>by omega
 |0,k,fuel+1,l,hf=>by
  rw[W7.eq_2,if_neg (by simp;omega)]
  simp[okE]
 |d+1,k,fuel+1,l,hf=>by
  have m:k<es.length:=by omega
  have a:=A5 m
  generalize es[k]=e at a
  obtain⟨h,i,j⟩:=e
  have next:=J06 r n es q d (k+1) fuel (by omega) (by omega)
  rw[W7.eq_2,if_pos (by simp;omega),Z2 a,oB]
  simp only[F0l,oB,V2 m (by omega:es.length<=9223372036854775807),next,okE,q0c a]
  generalize IntKind.i64.wrap (n-1)=hi
  cases hin:e05 r hi (h,i,j)with
  |false=>simp[chk,grd,H0]
  |true =>
   by_cases hk0:k=0
   ·have c:decide ((k:Int)>0)=false:=by simp;omega
    have b:decide (0<k)=false:=by simp;omega
    simp only[c,b,P3,Bool.not_true,Bool.not_false,Bool.and_true,Bool.false_and,Bool.or_self,Bool.true_and,cond_true,cond_false,oB,Bool.or_false,Bool.false_eq_true,if_false,F0 (show H0 0 by decide)]
   ·have g:=A5 (show k-1<es.length by omega)
    generalize es[k-1]=f at g
    obtain⟨o,p,f2⟩:=f
    have s:IntKind.i64.wrap ((k:Int)-1)=((k-1:Nat):Int):=v09 (by omega) (by omega)
    have c:decide ((k:Int)>0)=true:=by simp;omega
    have b:decide (0<k)=true:=by simp;omega
    simp only[c,b,s,g,Z2 a,Z2 g,Y1,Bool.not_true,Bool.not_false,Bool.and_true,Bool.false_and,Bool.or_self,Bool.true_and,cond_true,cond_false,oB,Bool.or_false,Bool.false_or,m03,F0 (s0f _ _)]
    cases decide (t0g (o,p,f2) (h,i,j) ≥ 0)<;>rfl
theorem L7(g:j0)(a:g.2.2.length<=140737488355328):H4 g=some (U0 g):=by
 obtain⟨r,n,es⟩:=g
 unfold H4 U0
 simp only at a ⊢
 have h:=J06 r n es a es.length 0 V0 (by omega) (E1 a)
 rw[show((0:Nat):Int)=0 from rfl]at h
 rw[h,oB]
 cases okE r (IntKind.i64.wrap (n-1)) es es.length 0 with
 |false=>simp[l7]
 |true =>
  rw[cond_true,Y0,r04,r04,oB]
  cases inR 1 3 r with
  |false=>simp[chk]
  |true =>
   simp only[Y1,oB,cond_true,Bool.true_and]
   cases inR 1 40 n with
   |false=>simp
   |true=>simp;omega
theorem K06(r n:Int)(es:List N0)(q:es.length<=140737488355328):∀(d k fuel:Nat),k+d=es.length->d<fuel ->
  Z7 es r n fuel (k:Int)=some (bif okE r (IntKind.i64.wrap (n-1)) es d k then .inr ()else .inl false)
 |d,k,0,l,hf=>by omega
 |0,k,fuel+1,l,hf=>by
  rw[Z7.eq_2,if_neg (by simp;omega)]
  simp[okE]
 |d+1,k,fuel+1,l,hf=>by
  have m:k<es.length:=by omega
  have a:=A5 m
  generalize es[k]=e at a
  obtain⟨h,i,j⟩:=e
  have next:=K06 r n es q d (k+1) fuel (by omega) (by omega)
  rw[Z7.eq_2,if_pos (by simp;omega),Z2 a,oB]
  simp only[I08,oB,V2 m (by omega:es.length<=9223372036854775807),next,okE,q0c a]
  generalize IntKind.i64.wrap (n-1)=hi
  cases hin:e05 r hi (h,i,j)with
  |false=>simp[chk,grd,H0]
  |true =>
   by_cases hk0:k=0
   ·have c:decide ((k:Int)>0)=false:=by simp;omega
    have b:decide (0<k)=false:=by simp;omega
    simp only[c,b,P3,Bool.not_true,Bool.not_false,Bool.and_true,Bool.false_and,Bool.or_self,Bool.true_and,cond_true,cond_false,oB,Bool.or_false,Bool.false_eq_true,if_false,F0 (show H0 0 by decide)]
   ·have g:=A5 (show k-1<es.length by omega)
    generalize es[k-1]=f at g
    obtain⟨o,p,f2⟩:=f
    have s:IntKind.i64.wrap ((k:Int)-1)=((k-1:Nat):Int):=v09 (by omega) (by omega)
    have c:decide ((k:Int)>0)=true:=by simp;omega
    have b:decide (0<k)=true:=by simp;omega
    simp only[c,b,s,g,Z2 a,Z2 g,Y1,Bool.not_true,Bool.not_false,Bool.and_true,Bool.false_and,Bool.or_self,Bool.true_and,cond_true,cond_false,oB,Bool.or_false,Bool.false_or,b06,F0 (s0f _ _)]
    cases decide (t0g (o,p,f2) (h,i,j) ≥ 0)<;>rfl
theorem o00(g:j0)(c:g.2.2.length<=140737488355328):G6 g=some (U0 g):=by
 obtain⟨r,n,es⟩:=g
 unfold G6 U0
 simp only at c ⊢
 rw[Y02,Y02,oB]
 cases hr:inR 1 3 r with
 |false=>simp[chk]
 |true =>
  simp only[Bool.not_true,Bool.not_false,Y1,oB,cond_false]
  cases hn:inR 1 40 n with
  |false=>simp
  |true =>
   by_cases h120:es.length<=120
   ·have h:=K06 r n es c es.length 0 V0 (by omega) (E1 c)
    rw[show((0:Nat):Int)=0 from rfl]at h
    have a:decide (((es.length:Nat):Int)>120)=false:=by simp;omega
    have b:decide (es.length<=120)=true:=by simpa using h120
    simp only[a,b,Bool.not_true,cond_false,Bool.false_eq_true,if_false,h,oB]
    cases okE r (IntKind.i64.wrap (n-1)) es es.length 0<;>rfl
   ·have a:decide (((es.length:Nat):Int)>120)=true:=by simp;omega
    have b:decide (es.length<=120)=false:=by simpa using h120
    simp only[a,b,Bool.not_true,cond_false,if_true,Bool.and_false]
theorem w0n{r a:Int}{es:List N0}:∀ {d k:Nat},okE r a es d k=true->∀ i,k<=i->i<k+d->t0r r a es i=false
 |0,k,h,i,b,c=>by omega
 |d+1,k,h,i,b,c=>by
  simp only[okE,Bool.and_eq_true,Bool.not_eq_true']at h
  by_cases e:i=k
  ·subst e;exact h.1
  ·exact w0n h.2 i (by omega) (by omega)
theorem G0l{n:Nat}(h:n<=9223372036854775807):n<V0:=by unfold V0;omega
def goI(x:Int):List Int->Bool×List Int
 | []=>(false,[])
 |y::l=>if x<y then(true,x::y::l)else if y=x then(true,y::l)else((goI x l).1,y::(goI x l).2)
theorem O0o(x:Int):∀ l,X00 Y9 x l=bif(goI x l).1 then(goI x l).2 else(goI x l).2 ++ [x]
 | []=>rfl
 |y::l=>by
  have a:=O0o x l
  unfold X00 goI
  rcases m08 x y with⟨h,e⟩|⟨h,e⟩|⟨h,e⟩
  ·rw[e,if_pos (by omega),if_pos h];rfl
  ·rw[e,if_neg (by omega),if_neg (by omega),if_neg (by omega),if_neg (by omega),a]
   cases (goI x l).1<;>rfl
  ·rw[e,if_neg (by omega),if_pos rfl,if_neg (by omega),if_pos h.symm];rfl
theorem v0g(l:List Int)(w:Int)(h:l.length<=1099511627776):∀(d k fuel:Nat) (acc:List Int),k+d=l.length->d<fuel->acc.length<=k+1 ->
  U4 l w fuel true (k:Int) acc=some (true,acc++l.drop k)
 |d,k,0,acc,e,hf,b=>by omega
 |0,k,fuel+1,acc,e,hf,b=>by
  rw[U4.eq_2,if_neg (by simp;omega),P1 (by omega),List.append_nil]
 |d+1,k,fuel+1,acc,e,hf,b=>by
  have f:k<l.length:=by omega
  have a:=A5 f
  generalize l[k]=x at a
  have i:=v0g l w h d (k+1) fuel (acc ++ [x]) (by omega) (by omega) (by simp;omega)
  rw[U4.eq_2,if_pos (by simp;omega),Z2 a,oB]
  have g:∀ c:Bool,(bif c then(!true)else false)=false:=λc=>by cases c<;>rfl
  simp only[g,Bool.false_eq_true,if_false,oB,V2 f (show l.length<=9223372036854775807 by omega),i,F0 (show(acc.length + [x].length)*8<=140737488355328 by simp;omega)]
  rw[V1 a]
  split<;>simp
theorem r0i(l:List Int)(w:Int)(b:l.length<=1099511627776):∀(d k fuel:Nat) (acc:List Int),k+d=l.length->d<fuel->acc.length=k ->
  U4 l w fuel false (k:Int) acc=some ((goI w (l.drop k)).1,acc++(goI w (l.drop k)).2)
 |d,k,0,acc,g,hf,f=>by omega
 |0,k,fuel+1,acc,g,hf,f=>by
  rw[U4.eq_2,if_neg (by simp;omega),P1 (by omega)]
  simp[goI]
 |d+1,k,fuel+1,acc,g,hf,f=>by
  have a:k<l.length:=by omega
  have e:=A5 a
  generalize l[k]=x at e
  have j:=r0i l w b d (k+1) fuel (acc ++ [x]) (by omega) (by omega) (by simp;omega)
  have m:=v0g l w b d (k+1) fuel (acc ++ [x]) (by omega) (by omega) (by simp;omega)
  have n:=v0g l w b d (k+1) fuel (acc ++ [w] ++ [x]) (by omega) (by omega) (by simp;omega)
  rw[U4.eq_2,if_pos (by simp;omega),Z2 e,oB,V1 e]
  unfold goI
  have h:∀ c:Bool,(bif c then(!true)else false)=false:=λc=>by cases c<;>rfl
  have i:∀ c:Bool,(bif c then(!false)else false)=c:=λc=>by cases c<;>rfl
  by_cases h0:x=w
  ·rw[if_pos (by simpa using h0),oB,h,if_neg (by simp),oB,F0 (by simp;omega),oB,V2 a (by omega),m,if_neg (by omega),if_pos h0]
   simp
  ·rw[if_neg (by simpa using h0),oB,i]
   by_cases h1:w<x
   ·rw[if_pos (by simpa using h1),F0 (by simp;omega),oB,oB,F0 (by simp;omega),oB,V2 a (by omega),n,if_pos h1]
    simp
   ·rw[if_neg (by simpa using h1),oB,F0 (by simp;omega),oB,V2 a (by omega),j,if_neg h1,if_neg h0]
    simp
theorem r0c(l:List Int)(w:Int)(a:l.length<=1099511627776):F9 l w=some (X00 Y9 w l):=by
 unfold F9
 have h:=r0i l w a l.length 0 V0 [] (by omega) (E1 (by omega)) rfl
 rw[show((0:Nat):Int)=0 from rfl,List.drop_zero,List.nil_append]at h
 rw[h,oB,O0o]
 have b:∀ l:List Int,(goI w l).2.length<=l.length+1:=λl=>by
  induction l with
  |nil=>simp[goI]
  |cons y l c =>
   unfold goI
   split
   ·simp
   ·split
    ·simp
    ·simp only[List.length_cons];omega
 have:=b l
 cases (goI w l).1 with
 |true=>rfl
 |false =>
  simp only[Bool.not_false,if_true,cond_false]
  rw[F0 (by simp;omega),oB]
def s0i(v x:Int)(e:N0):List Int :=
 if 0<x/\e.2.1=x/\e.1=v then [e.2.2]else if x<0/\e.2.1 = -x/\e.2.2=v then [e.1]else []
def P9(v x:Int):List N0->List Int
 | []=>[]
 |e::es=>s0i v x e++P9 v x es
theorem i0q(v x:Int)(e:N0):(s0i v x e).length<=1:=by unfold s0i;split<;>(try split)<;>simp
theorem w0g(v x:Int):∀ es,(P9 v x es).length<=es.length
 | []=>by simp[P9]
 |e::es=>by
  have a:=i0q v x e
  have b:=w0g v x es
  simp only[P9,List.length_append,List.length_cons]
  omega
def Y4(x:Int):Prop:=H0 x/\x ≠ -9223372036854775808
theorem s0c(es:List N0)(v x:Int)(f:Y4 x)(t:es.length<=1099511627776):∀(d k fuel:Nat) (acc:List Int),k+d=es.length->d<fuel->acc.length<=k ->
  l5 es x v fuel (k:Int) acc=some (acc++P9 v x (es.drop k))
 |d,k,0,acc,p,hf,o=>by omega
 |0,k,fuel+1,acc,p,hf,o=>by
  rw[l5.eq_2,if_neg (by simp;omega),P1 (by omega)]
  simp[P9]
 |d+1,k,fuel+1,acc,p,hf,o=>by
  have q:k<es.length:=by omega
  have m:=A5 q
  generalize es[k]=e at m
  obtain⟨a,l,b⟩:=e
  have n:=λs h=>s0c es v x f t d (k+1) fuel s (by omega) (by omega) h
  have u:decide (x = -9223372036854775808)=false:=by simp;exact f.2
  rw[l5.eq_2,if_pos (by simp;omega),Z2 m,oB,V1 m]
  simp only[P9,s0i,y0e f.1 f.2,u,Bool.not_false,V2 q (show es.length<=9223372036854775807 by omega)]
  by_cases c:0<x/\l=x/\a=v
  ·obtain⟨c,rfl,rfl⟩:=c
   rw[if_pos (by simp[c]),if_pos ⟨c,rfl,rfl⟩,F0 (by simp;omega),oB,n _ (by simp;omega)]
   simp
  ·rw[if_neg c,if_neg (by simp only[Bool.cond_eq_ite];simp;intro g i j;exact c ⟨g,i,j⟩)]
   by_cases c2:x<0/\l = -x/\b=v
   ·rw[if_pos c2,if_pos (by simp[c2.1,c2.2.1,c2.2.2]),F0 (by simp;omega),oB,n _ (by simp;omega)]
    simp
   ·rw[if_neg c2,if_neg (by simp only[Bool.cond_eq_ite];simp;intro g i j;exact c2 ⟨g,i,j⟩),n _ (by omega)]
    simp
theorem D07(w:Int):∀ l:List Int,(X00 Y9 w l).length<=l.length+1
 | []=>by simp[X00]
 |y::l=>by
  have:=D07 w l
  unfold X00
  split
  ·simp
  ·split
   ·simp
   ·simp only[List.length_cons];omega
theorem t0c(es:List N0)(v x:Int)(m:Y4 x)(s:es.length<=1099511627776):∀(d k fuel:Nat) (u:List Int),k+d=es.length->d<fuel->u.length<=k ->
  I4 es x v fuel u (k:Int)=some (o6 Y9 u (P9 v x (es.drop k)))
 |d,k,0,u,p,hf,o=>by omega
 |0,k,fuel+1,u,p,hf,o=>by
  rw[I4.eq_2,if_neg (by simp;omega),P1 (by omega)]
  rfl
 |d+1,k,fuel+1,u,p,hf,o=>by
  have q:k<es.length:=by omega
  have j:=A5 q
  generalize es[k]=e at j
  obtain⟨a,l,b⟩:=e
  have n:=λw h=>t0c es v x m s d (k+1) fuel w (by omega) (by omega) h
  rw[I4.eq_2,if_pos (by simp;omega),Z2 j,oB,V1 j]
  simp only[P9,s0i,y0e m.1 m.2,V2 q (show es.length<=9223372036854775807 by omega)]
  by_cases c:0<x/\l=x/\a=v
  ·obtain⟨c,rfl,rfl⟩:=c
   have t:decide (l<0)=false:=by simp;omega
   have:=D07 b u
   rw[if_pos (by simp[c]),if_pos ⟨c,rfl,rfl⟩,r0c u b (by omega),oB,t,if_neg (by simp),n _ (by omega)]
   rfl
  ·rw[if_neg c,if_neg (by simp only[Bool.cond_eq_ite];simp;intro f g i;exact c ⟨f,g,i⟩)]
   by_cases c2:x<0/\l = -x/\b=v
   ·have:=D07 a u
    rw[if_pos c2,if_pos (by simp[c2.1,c2.2.1,c2.2.2]),r0c u a (by omega),oB,n _ (by omega)]
    rfl
   ·rw[if_neg c2,if_neg (by simp only[Bool.cond_eq_ite];simp;intro f g i;exact c2 ⟨f,g,i⟩),n _ (by omega)]
    rfl
def h03(g:j0)(v x:Int):List Int:=o6 Y9 [] (P9 v x g.2.2)
theorem h0t(x y:Int):eqI x y=true↔x=y:=by simp[eqI]
theorem H0l(g:j0)(v x:Int)(b:Y4 x)(a:g.2.2.length<=1099511627776):x01 g v x=some (h03 g v x):=by
 obtain⟨r,n,es⟩:=g
 unfold x01 h03
 have h:=t0c es v x b a es.length 0 V0 [] (by omega) (G0l (by simp only at a;omega)) (by simp)
 rw[show((0:Nat):Int)=0 from rfl,List.drop_zero]at h
 simp only[h,oB]
theorem I0l(g:j0)(v x:Int)(b:Y4 x)(a:g.2.2.length<=1099511627776):y01 g v x=some (h03 g v x):=by
 obtain⟨r,n,es⟩:=g
 unfold y01 h03
 have h:=s0c es v x b a es.length 0 V0 [] (by omega) (G0l (by simp only at a;omega)) (by simp)
 rw[show((0:Nat):Int)=0 from rfl,List.drop_zero,List.nil_append]at h
 have c:=w0g v x es
 simp only at a
 simp only[h,oB,F0 (show(P9 v x es).length<4611686018427387904 by omega)]
 rw[←D0l X02 h0t (P9 v x es) (P9 v x es) λ_=>Iff.rfl]
 rfl
def T0(g:j0)(v x:Int):Int:=match h03 g v x with
 | [] => -1
 |a::_=>a
theorem f0b(g:j0)(v x:Int)(c:Y4 x)(b:g.2.2.length<=1099511627776):I8 g v x=some (T0 g v x):=by
 have h:=H0l g v x c b
 obtain⟨r,n,es⟩:=g
 unfold I8 T0
 simp only[h,oB]
 cases h03 (r,n,es) v x with
 |nil=>rfl
 |cons a l=>rfl
theorem g0b(g:j0)(v x:Int)(c:Y4 x)(b:g.2.2.length<=1099511627776):J8 g v x=some (T0 g v x):=by
 have h:=I0l g v x c b
 obtain⟨r,n,es⟩:=g
 unfold J8 T0
 simp only[h,oB]
 cases h03 (r,n,es) v x with
 |nil=>rfl
 |cons a l=>rfl
theorem t0i{g:j0}{v x y:Int}(h:y∈h03 g v x):y∈P9 v x g.2.2:=by
 rcases(W5 X02 y _ []).1 h with h|h
 ·cases h
 ·exact h
theorem L3{v x y:Int}:∀ {es:List N0},y∈P9 v x es↔∃ e∈es,(0<x/\e.2.1=x/\e.1=v/\y=e.2.2)∨(x<0/\e.2.1 = -x/\e.2.2=v/\y=e.1)
 | []=>by simp[P9]
 |e::es=>by
  simp only[P9,List.mem_append,L3 (es:=es),List.mem_cons,exists_eq_or_imp]
  refine or_congr ?_ Iff.rfl
  unfold s0i
  split
  ·rename_i h
   simp only[List.mem_singleton]
   constructor
   ·rintro rfl;exact .inl ⟨h.1,h.2.1,h.2.2,rfl⟩
   ·rintro(⟨_,_,_,a⟩|⟨f,_⟩)
    ·exact a
    ·omega
  ·rename_i h
   split
   ·rename_i b
    simp only[List.mem_singleton]
    constructor
    ·rintro rfl;exact .inr ⟨b.1,b.2.1,b.2.2,rfl⟩
    ·rintro(⟨f,_⟩|⟨_,_,_,a⟩)
     ·omega
     ·exact a
   ·rename_i b
    constructor
    ·intro h;cases h
    ·rintro(⟨c,a,d,_⟩|⟨c,a,d,_⟩)
     ·exact absurd ⟨c,a,d⟩ h
     ·exact absurd ⟨c,a,d⟩ b
def inG(g:j0):Prop:=∀ e∈g.2.2,(0<=e.1/\e.1<g.2.1)/\(0<=e.2.2/\e.2.2<g.2.1)/\1<=e.2.1/\e.2.1<=g.1
theorem J2{g:j0}(h:U0 g=true):inG g/\(1<=g.1/\g.1<=3)/\(1<=g.2.1/\g.2.1<=40)/\g.2.2.length<=120:=by
 obtain⟨r,n,es⟩:=g
 simp only[U0,inR,Bool.and_eq_true,decide_eq_true_eq]at h
 obtain⟨⟨⟨m,o⟩,p⟩,q⟩:=h
 refine⟨λe s=>?_,o,p,q⟩
 obtain⟨i,b⟩:=List.getElem?_of_mem s
 have a:=w0n m i (Nat.zero_le _) (by have:=(List.getElem?_eq_some_iff.1 b).1;simp only at this;omega)
 rw[q0c b]at a
 simp only[Bool.or_eq_false_iff,Bool.not_eq_false',e05,inR,Bool.and_eq_true,decide_eq_true_eq]at a
 obtain⟨⟨⟨⟨c,d⟩,f,j⟩,k,l⟩,_⟩:=a
 rw[w64 (by omega) (by omega)]at d j
 simp only
 exact⟨⟨c,by omega⟩,⟨f,by omega⟩,k,l⟩
theorem n08{g:j0}(d:inG g)(v x:Int):T0 g v x = -1∨(0<=T0 g v x/\T0 g v x<g.2.1):=by
 unfold T0
 cases hs:h03 g v x with
 |nil=>exact .inl rfl
 |cons a l =>
  right
  have b:a∈h03 g v x:=by rw[hs];exact mS
  obtain⟨e,c,h⟩:=L3.1 (t0i b)
  have:=d e c
  rcases h with⟨_,_,_,rfl⟩|⟨_,_,_,rfl⟩
  ·exact this.2.1
  ·exact this.1
theorem o08{g:j0}(a:inG g)(b:g.2.1<=40)(v x:Int):H0 (T0 g v x):=by
 rcases n08 a v x with h|h
 ·rw[h];decide
 ·constructor<;>omega
def c06(a b:N0):Bool:=decide (a.2.1=b.2.1)&&(decide (a.1=b.1) || decide (a.2.2=b.2.2))
theorem C0d(a b:N0):c06 a b=c06 b a:=by
 unfold c06
 have h:∀ x y:Int,decide (x=y)=decide (y=x):=λx y=>decide_eq_decide.2 ⟨Eq.symm,Eq.symm⟩
 rw[h a.2.1,h a.1,h a.2.2]
def noC(a:N0):List N0->Bool
 | []=>true
 |b::l => !c06 a b&&noC a l
def J0a:List N0->Bool
 | []=>true
 |a::l=>noC a l&&J0a l
theorem a0k(a:N0):∀ l,noC a l=true↔∀ b∈l,c06 a b=false
 | []=>by simp[noC]
 |b::l=>by simp[noC,a0k a l]
theorem D0d:∀ l,J0a l=true↔l.Pairwise λa b=>c06 a b=false
 | []=>by simp[J0a]
 |a::l=>by simp[J0a,D0d l,a0k,List.pairwise_cons]
def x0g:List N0->List N0->Bool
 |_,[]=>true
 |b,a::l=>noC a b&&x0g (b ++ [a]) l
theorem u0i:∀(l f:List N0),x0g f l=true↔l.Pairwise (λa b=>c06 a b=false)/\∀ a∈l,∀ b∈f,c06 a b=false
 | [],f=>by simp[x0g]
 |a::l,f=>by
  simp only[x0g,Bool.and_eq_true,a0k,u0i l,List.pairwise_cons]
  constructor
  ·rintro⟨g,h,e⟩
   refine⟨⟨λb c=>by rw[C0d];exact e b c a (by simp),h⟩,λx d b c=>?_⟩
   rcases List.mem_cons.1 d with rfl|d
   ·exact g b c
   ·exact e x d b (by simp[c])
  ·rintro⟨⟨g,h⟩,e⟩
   refine⟨λb c=>e a mS b c,h,λx d b c=>?_⟩
   rcases List.mem_append.1 c with c|c
   ·exact e x (mC _ d) b c
   ·rw[List.mem_singleton.1 c,C0d];exact g x d
theorem j0q(l:List N0):x0g [] l=J0a l:=by
 rw[Bool.eq_iff_iff,u0i,D0d]
 simp
def I0(g:j0):Bool:=U0 g&&J0a g.2.2
theorem Q0t(a b e c d f:Int):(bif decide (b=d)then(bif decide (a=c)then true else decide (e=f))else false)=c06 (a,b,e) (c,d,f):=by
 unfold c06
 cases decide (b=d)<;>cases decide (a=c)<;>rfl
theorem u0c(l:List N0)(a:N0)(n:l.length<=140737488355328):∀(d k fuel:Nat),k+d=l.length->d<fuel ->
  C7 l a.2.1 a.1 a.2.2 fuel (k:Int)=some (bif noC a (l.drop k)then .inr ()else .inl false)
 |d,k,0,g,hf=>by omega
 |0,k,fuel+1,g,hf=>by
  rw[C7.eq_2,if_neg (by simp;omega),P1 (by omega)]
  rfl
 |d+1,k,fuel+1,g,hf=>by
  have h:k<l.length:=by omega
  have b:=A5 h
  generalize l[k]=x at b
  obtain⟨c,e,f⟩:=a
  obtain⟨i,j,m⟩:=x
  rw[C7.eq_2,if_pos (by simp;omega),Z2 b,oB,V1 b]
  simp only[Q0t,noC]
  cases hc:c06 (c,e,f) (i,j,m)with
  |true=>rfl
  |false =>
   rw[if_neg (by simp),V2 h (by omega),u0c l (c,e,f) n d (k+1) fuel (by omega) (by omega)]
   simp
theorem p08{a:Type}{xs:List a}{k:Nat}(h:k<=xs.length):X06 xs (k:Int) (xs.length:Int)=some (xs.drop k):=by
 unfold X06
 rw[if_pos ⟨by omega,by omega,by omega⟩]
 simp
theorem v0c(l:List N0)(h:l.length<=140737488355328):∀(d k fuel:Nat),k+d=l.length->d<fuel ->
  D7 l fuel (k:Int)=some (bif J0a (l.drop k)then .inr ()else .inl false)
 |d,k,0,b,hf=>by omega
 |0,k,fuel+1,b,hf=>by
  rw[D7.eq_2,if_neg (by simp;omega),P1 (by omega)]
  rfl
 |d+1,k,fuel+1,b,hf=>by
  have c:k<l.length:=by omega
  have a:=A5 c
  generalize l[k]=x at a
  have h0:=u0c (l.drop (k+1)) x (by simp;omega) (l.drop (k+1)).length 0 V0 (by omega) (E1 (by simp;omega))
  rw[show((0:Nat):Int)=0 from rfl,List.drop_zero]at h0
  obtain⟨e,f,g⟩:=x
  rw[D7.eq_2,if_pos (by simp;omega),Z2 a,oB,V1 a]
  simp only[V2 c (show l.length<=9223372036854775807 by omega),p08 (show k+1<=l.length by omega),oB]
  simp only at h0
  rw[h0,oB]
  simp only[J0a]
  cases noC (e,f,g) (l.drop (k+1))with
  |false=>rfl
  |true =>
   simp only[cond_true,I0h,Bool.true_and]
   exact v0c l h d (k+1) fuel (by omega) (by omega)
theorem z01(g:j0)(a:g.2.2.length<=140737488355328):R6 g=some (I0 g):=by
 have b:=o00 g a
 obtain⟨r,n,es⟩:=g
 unfold R6 I0
 simp only[b,oB]
 cases U0 (r,n,es)with
 |false=>rfl
 |true =>
  have h:=v0c es a es.length 0 V0 (by omega) (E1 a)
  rw[show((0:Nat):Int)=0 from rfl,List.drop_zero]at h
  rw[if_neg (by simp),h,oB]
  cases J0a es<;>rfl
theorem w0c(l:List N0)(q:l.length<=140737488355328){i:Nat}{a:N0}(b:l[i]?=some a):∀(d k fuel:Nat),k+d=i->d<fuel ->
  A7 (i:Int) l fuel (k:Int)=some (bif noC a ((l.take i).drop k)then .inr ()else .inl false)
 |d,k,0,e,hf=>by omega
 |0,k,fuel+1,e,hf=>by
  have:=(List.getElem?_eq_some_iff.1 b).1
  rw[A7.eq_2,if_neg (by simp;omega),P1 (by simp;omega)]
  rfl
 |d+1,k,fuel+1,e,hf=>by
  have t:=(List.getElem?_eq_some_iff.1 b).1
  have f:k<l.length:=by omega
  have c:=A5 f
  have g:(l.take i)[k]?=some l[k]:=by rw[List.getElem?_take,if_pos (by omega)];exact c
  have s:=w0c l q b d (k+1) fuel (by omega) (by omega)
  generalize l[k]=x at c g
  obtain⟨h,j,m⟩:=a
  obtain⟨n,o,p⟩:=x
  rw[A7.eq_2,if_pos (by simp;omega),Z2 b,oB,V1 g]
  simp only[Z2 c,oB,Q0t,noC]
  cases hc:c06 (h,j,m) (n,o,p)with
  |true=>rfl
  |false =>
   rw[if_neg (by simp),V2 f (by omega),s]
   simp
theorem P0o{a:Type}{xs:List a}{k:Nat}{x:a}(h:xs[k]?=some x):xs.take (k+1)=xs.take k ++ [x]:=by
 obtain⟨b,rfl⟩:=List.getElem?_eq_some_iff.1 h
 exact List.take_succ_eq_append_getElem b
theorem x0c(r n:Int)(l:List N0)(f:U0 (r,n,l)=true)(b:l.length<=140737488355328):∀(d k fuel:Nat),k+d=l.length->d<fuel ->
  M5 l r n fuel (k:Int)=some (bif x0g (l.take k) (l.drop k)then .inr ()else .inl false)
 |d,k,0,c,hf=>by omega
 |0,k,fuel+1,c,hf=>by
  have e:decide ((k:Int)<(l.length:Int))=false:=by simp;omega
  rw[M5.eq_2,e,P3,oB,if_neg (by simp),P1 (by omega)]
  rfl
 |d+1,k,fuel+1,c,hf=>by
  have g:k<l.length:=by omega
  have a:=A5 g
  generalize l[k]=x at a
  have h0:=w0c l b a k 0 V0 (by omega) (E1 (by omega))
  rw[show((0:Nat):Int)=0 from rfl,List.drop_zero]at h0
  have e:decide ((k:Int)<(l.length:Int))=true:=by simp;omega
  rw[M5.eq_2,e,Y1,L7 (r,n,l) b,oB,f,if_pos (show(bif true then true else false)=true from rfl),h0,oB,V1 a]
  simp only[x0g]
  cases noC x (l.take k)with
  |false=>rfl
  |true =>
   simp only[cond_true,I0h,Bool.true_and]
   rw[V2 g (by omega),←P0o a]
   exact x0c r n l f b d (k+1) fuel (by omega) (by omega)
theorem I00(g:j0)(a:g.2.2.length<=140737488355328):Q6 g=some (I0 g):=by
 have b:=L7 g a
 obtain⟨r,n,es⟩:=g
 unfold Q6 I0
 simp only[b,oB]
 cases hg:U0 (r,n,es)with
 |false =>
  have c:M5 es r n V0 0=some (.inr ()):=by
   rw[show V0=(V0-1)+1 from rfl,M5.eq_2]
   by_cases e:decide ((0:Int)<(es.length:Int))=true
   ·rw[e,Y1,b,oB,hg,if_neg (by simp)]
   ·rw[Bool.not_eq_true]at e
    rw[e,P3,oB,if_neg (by simp)]
  rw[c]
  rfl
 |true =>
  have h:=x0c r n es hg a es.length 0 V0 (by omega) (E1 a)
  rw[show((0:Nat):Int)=0 from rfl,List.drop_zero,List.take_zero,j0q]at h
  rw[h,oB]
  cases J0a es<;>rfl
def E7(g:j0):Int->List Int->Int×Nat
 |v,[]=>(v,0)
 |v,x::w=>if T0 g v x<0 then(v,0)else((E7 g (T0 g v x) w).1,(E7 g (T0 g v x) w).2+1)
theorem d06(g:j0):∀(w:List Int) (v:Int),(E7 g v w).2<=w.length
 | [],v=>by simp[E7]
 |x::w,v=>by
  have:=d06 g w (T0 g v x)
  unfold E7
  split
  ·simp
  ·simp only[List.length_cons];omega
theorem E07{g:j0}(a:inG g)(b:g.2.1<=40):∀(w:List Int) (v:Int),H0 v->H0 (E7 g v w).1
 | [],v,h=>h
 |x::w,v,h=>by
  unfold E7
  split
  ·exact h
  ·exact E07 a b w _ (o08 a b v x)
def i0t(q:Int×Nat)(n:Nat)(k:Nat):(Int×Int) ⊕ Int:=bif decide (q.2<n)then .inl (q.1,((k+q.2:Nat):Int))else .inr q.1
theorem z0e(r n:Int)(es:List N0)(f:inG (r,n,es))(g:n<=40)(e:es.length<=1099511627776)(w:List Int)(i:∀ x∈w,Y4 x)(l:w.length<=140737488355328):∀(d k fuel:Nat) (v:Int),k+d=w.length->d<fuel ->
  t6 w r n es fuel v (k:Int)=some (i0t (E7 (r,n,es) v (w.drop k)) d k)
 |d,k,0,v,c,hf=>by omega
 |0,k,fuel+1,v,c,hf=>by
  rw[t6.eq_2,if_neg (by simp;omega),P1 (by omega)]
  rfl
 |d+1,k,fuel+1,v,c,hf=>by
  have a:k<w.length:=by omega
  have b:=A5 a
  have j:=i _ (List.getElem_mem a)
  generalize w[k]=x at b j
  rw[t6.eq_2,if_pos (by simp;omega),Z2 b,oB,g0b (r,n,es) v x j e,oB,F0 (o08 f g v x),oB,V1 b]
  unfold E7
  by_cases h:T0 (r,n,es) v x<0
  ·rw[if_pos (by simpa using h),if_pos h]
   simp[i0t]
  ·rw[if_neg (by simpa using h),if_neg h,V2 a (by omega),z0e r n es f g e w i l d (k+1) fuel _ (by omega) (by omega)]
   unfold i0t
   simp only[Nat.add_lt_add_iff_right]
   congr 2
   simp only[Nat.add_assoc,Nat.add_comm 1]
theorem x0n(g:j0)(c:inG g)(d:g.2.1<=40)(b:g.2.2.length<=1099511627776)(v:Int)(w:List Int)(e:∀ x∈w,Y4 x)(a:w.length<=140737488355328):Z9 g v w=some ((E7 g v w).1,(((E7 g v w).2:Nat):Int)):=by
 obtain⟨r,n,es⟩:=g
 unfold Z9
 have h:=z0e r n es c d b w e a w.length 0 V0 v (by omega) (E1 a)
 rw[show((0:Nat):Int)=0 from rfl,List.drop_zero]at h
 have f:=d06 (r,n,es) w v
 simp only[h,oB,i0t]
 by_cases hc:(E7 (r,n,es) v w).2<w.length
 ·simp[hc,l7]
 ·have:(E7 (r,n,es) v w).2=w.length:=by omega
  simp[this,l7]
theorem A0e(r n:Int)(es:List N0)(f:inG (r,n,es))(g:n<=40)(e:es.length<=1099511627776)(w:List Int)(i:∀ x∈w,Y4 x)(l:w.length<=140737488355328):∀(d k fuel:Nat) (v:Int),k+d=w.length->d<fuel ->
  B7 w r n es fuel v (k:Int)=some (bif decide ((E7 (r,n,es) v (w.drop k)).2<d)then .inl (-1,false)else .inr (E7 (r,n,es) v (w.drop k)).1)
 |d,k,0,v,c,hf=>by omega
 |0,k,fuel+1,v,c,hf=>by
  rw[B7.eq_2,if_neg (by simp;omega),P1 (by omega)]
  rfl
 |d+1,k,fuel+1,v,c,hf=>by
  have a:k<w.length:=by omega
  have b:=A5 a
  have j:=i _ (List.getElem_mem a)
  generalize w[k]=x at b j
  rw[B7.eq_2,if_pos (by simp;omega),Z2 b,oB,f0b (r,n,es) v x j e,oB,F0 (o08 f g v x),oB,V1 b]
  unfold E7
  by_cases h:T0 (r,n,es) v x<0
  ·rw[if_pos (by simpa using h),if_pos h]
   simp
  ·rw[if_neg (by simpa using h),if_neg h,V2 a (by omega),A0e r n es f g e w i l d (k+1) fuel _ (by omega) (by omega)]
   simp only[Nat.add_lt_add_iff_right]
theorem u0r(g:j0)(hf:I0 g=true)(v:Int)(j:0<=v/\v<g.2.1)(w:List Int)(k:∀ x∈w,Y4 x)(a:w.length<=140737488355328):
  b01 g v w=some (bif decide ((E7 g v w).2<w.length)then(-1,false)else((E7 g v w).1,true)):=by
 have f:U0 g=true:=by unfold I0 at hf;simp only[Bool.and_eq_true]at hf;exact hf.1
 obtain⟨e,_,b,d⟩:=J2 f
 have c:=I00 g (by omega)
 obtain⟨r,n,es⟩:=g
 simp only at j b d
 unfold b01
 have h:=A0e r n es e b.2 (by omega) w k a w.length 0 V0 v (by omega) (E1 a)
 rw[show((0:Nat):Int)=0 from rfl,List.drop_zero]at h
 have i:inR 0 (n-1) v=true:=by simp only[inR,Bool.and_eq_true,decide_eq_true_eq];omega
 simp only[c,hf,oB,Bool.not_true,Bool.not_false,Y1,r04,w64 (show -9223372036854775808<=n-1 by omega) (show n-1<=9223372036854775807 by omega),i,cond_false,Bool.false_eq_true,if_false,h]
 cases decide ((E7 (r,n,es) v w).2<w.length)<;>rfl
theorem G1{g:j0}(h:I0 g=true):inG g/\(1<=g.1/\g.1<=3)/\(1<=g.2.1/\g.2.1<=40)/\g.2.2.length<=120:=by
 unfold I0 at h
 simp only[Bool.and_eq_true]at h
 exact J2 h.1
def y0c(v:Int)(e:N0):Nat:=(if e.1=v then 1 else 0)+(if e.2.2=v then 1 else 0)
def b02(v:Int):List N0->Nat
 | []=>0
 |e::r=>y0c v e+b02 v r
theorem j0t(v:Int)(e:N0):y0c v e<=2:=by unfold y0c;split<;>split<;>omega
theorem b0k(v:Int):∀ l,b02 v l<=2*l.length
 | []=>by simp[b02]
 |e::r=>by have:=j0t v e;have:=b0k v r;simp only[b02,List.length_cons];omega
theorem y0g(es:List N0)(v:Int)(o:es.length<=1099511627776):∀(d k fuel acc:Nat),k+d=es.length->d<fuel->acc<=2*k ->
  c4 es v fuel (acc:Int) (k:Int)=some ((acc+b02 v (es.drop k):Nat):Int)
 |d,k,0,acc,j,hf,i=>by omega
 |0,k,fuel+1,acc,j,hf,i=>by
  rw[c4.eq_2,if_neg (by simp;omega),P1 (by omega)];rfl
 |d+1,k,fuel+1,acc,j,hf,i=>by
  have m:k<es.length:=by omega
  have f:=A5 m
  generalize es[k]=e at f
  obtain⟨a,l,b⟩:=e
  have c:=λn h=>y0g es v o d (k+1) fuel n (by omega) (by omega) h
  have g:IntKind.i64.wrap ((acc:Int)+1)=((acc+1:Nat):Int):=by rw[w64 (by omega) (by omega)];rfl
  have p:IntKind.i64.wrap (((acc+1:Nat):Int)+1)=((acc+2:Nat):Int):=by rw[w64 (by omega) (by omega)];rfl
  rw[c4.eq_2,if_pos (by simp;omega),Z2 f,V1 f]
  simp only[oB,b02,y0c,V2 m (show es.length<=9223372036854775807 by omega)]
  by_cases c1:a=v
  ·rw[if_pos (by simpa using c1),if_pos c1]
   by_cases c2:b=v
   ·rw[if_pos (by simpa using c2),if_pos c2,g,p,c _ (by omega)];congr 2;omega
   ·rw[if_neg (by simpa using c2),if_neg c2,g,c _ (by omega)];congr 2;omega
  ·rw[if_neg (by simpa using c1),if_neg c1]
   by_cases c2:b=v
   ·rw[if_pos (by simpa using c2),if_pos c2,g,c _ (by omega)];congr 2;omega
   ·rw[if_neg (by simpa using c2),if_neg c2,c _ (by omega)];congr 2;omega
theorem z0g(es:List N0)(v:Int):∀(fuel:Nat) (x y:Int),N5 es v fuel x y=c4 es v fuel x y
 |0,x,y=>rfl
 |fuel+1,x,y=>by
  rw[N5.eq_2,c4.eq_2]
  simp only[z0g es v fuel]
  by_cases c:(decide (y<((es.length:Nat):Int)))=true
  ·rw[if_pos c,if_pos c]
   cases hg:gi es y with
   |none=>rfl
   |some e=>simp only[oB]
  ·rw[if_neg c,if_neg c]
theorem v0i(g:j0)(v:Int)(a:g.2.2.length<=1099511627776):c01 g v=some ((b02 v g.2.2:Nat):Int):=by
 obtain⟨r,n,es⟩:=g
 unfold c01
 have h:=y0g es v a es.length 0 V0 0 (by omega) (E1 (by simp only at a;omega)) (Nat.zero_le _)
 rw[show((0:Nat):Int)=0 from rfl,List.drop_zero,Nat.zero_add]at h
 simp only[h,oB]
theorem k0q(g:j0)(v:Int)(a:g.2.2.length<=1099511627776):Z01 g v=some ((b02 v g.2.2:Nat):Int):=by
 have h:=v0i g v a
 obtain⟨r,n,es⟩:=g
 unfold Z01
 unfold c01 at h
 simp only[z0g]at h ⊢
 exact h
def B0e(g h:j0):Bool:=decide (g=h)
theorem t0f(x y:N0):eqE x y=true↔x=y:=by simp[eqE]
theorem C0e(a b:List N0)(l:a.length=b.length)(j:a.length<=9223372036854775807):∀(d k fuel:Nat),k+d=a.length->d<fuel ->
  L1 a b fuel (k:Int)=some (if a.drop k=b.drop k then .inr ()else .inl false)
 |d,k,0,g,hf=>by omega
 |0,k,fuel+1,g,hf=>by
  rw[L1.eq_2,if_neg (by simp;omega),P1 (by omega),P1 (by omega)];rfl
 |d+1,k,fuel+1,g,hf=>by
  have i:k<a.length:=by omega
  have m:k<b.length:=by omega
  have e:=A5 i
  have f:=A5 m
  generalize a[k]=x at e
  generalize b[k]=y at f
  have o:=C0e a b l j d (k+1) fuel (by omega) (by omega)
  rw[L1.eq_2,if_pos (by simp;omega),Z2 e,Z2 f,V1 e,V1 f]
  simp only[oB,V2 i j,o]
  by_cases c:x=y
  ·subst c
   rw[if_neg (by simp[eqE])]
   simp
  ·have n:eqE x y=false:=Bool.eq_false_iff.2 λh=>c ((t0f x y).1 h)
   rw[if_pos (show(!eqE x y)=true by rw[n];rfl),if_neg (by simp[c])]
theorem A0g(a b:List N0)(d:a.length<=9223372036854775807):I3 a b=some (decide (a=b)):=by
 unfold I3
 by_cases hab:a.length=b.length
 ·have h:=C0e a b hab d a.length 0 V0 (by omega) (by unfold V0;omega)
  rw[if_neg (by simp;omega),show(0:Int)=((0:Nat):Int) from rfl,h,List.drop_zero,List.drop_zero]
  by_cases c:a=b
  ·rw[if_pos c];simp[l7,c]
  ·rw[if_neg c];simp[l7,c]
 ·rw[if_pos (by simp;omega)]
  congr 1
  symm
  simp
  intro h;exact hab (by rw[h])
theorem l0q(g h:j0)(b:g.2.2.length<=9223372036854775807):G00 g h=some (B0e g h):=by
 obtain⟨r,n,es⟩:=g
 obtain⟨d,c,a⟩:=h
 unfold G00 B0e
 simp only[Prod.mk.injEq]
 by_cases c1:r=d<;>by_cases c2:n=c<;>simp[c1,c2,Y1,P3,A0g es a b]
theorem w0i(a b:List N0):∀(fuel:Nat) (k:Int),H6 a b fuel k=L1 a b fuel k
 |0,k=>rfl
 |fuel+1,k=>by
  rw[H6.eq_2,L1.eq_2]
  simp only[w0i a b fuel]
theorem E0d(g h:j0)(b:g.2.2.length<=9223372036854775807):Q7 g h=some (B0e g h):=by
 have a:=A0g g.2.2 h.2.2 b
 obtain⟨r,n,es⟩:=g
 obtain⟨d,c,e⟩:=h
 unfold Q7 B0e
 unfold I3 at a
 simp only[w0i,Prod.mk.injEq]at a ⊢
 by_cases c1:r=d
 ·by_cases c2:n=c
  ·simp only[c1,c2,decide_true,Bool.not_true,cond_false,true_and]
   rw[←a]
  ·simp[c1,c2]
 ·simp[c1]
def goE(x:N0):List N0->Bool×List N0
 | []=>(false,[])
 |y::l=>if P0 x y<0 then(true,x::y::l)else if P0 x y=0 then(true,y::l)else((goE x l).1,y::(goE x l).2)
theorem Q0o(x:N0):∀ l,X00 P0 x l=bif(goE x l).1 then(goE x l).2 else(goE x l).2 ++ [x]
 | []=>rfl
 |y::l=>by
  have a:=Q0o x l
  unfold X00 goE
  by_cases c1:P0 x y<0
  ·rw[if_pos c1,if_pos c1];rfl
  ·rw[if_neg c1,if_neg c1]
   by_cases c2:P0 x y=0
   ·rw[if_pos c2,if_pos c2];rfl
   ·rw[if_neg c2,if_neg c2,a];cases (goE x l).1<;>rfl
theorem F0d(l:List N0)(w0 i j:Int)(n:l.length<=1099511627776):∀(d k fuel:Nat) (acc:List N0),k+d=l.length->d<fuel->acc.length<=k+1 ->
  V4 l w0 i j fuel true (k:Int) acc=some (true,acc++l.drop k)
 |d,k,0,acc,g,hf,f=>by omega
 |0,k,fuel+1,acc,g,hf,f=>by
  rw[V4.eq_2,if_neg (by simp;omega),P1 (by omega),List.append_nil]
 |d+1,k,fuel+1,acc,g,hf,f=>by
  have h:k<l.length:=by omega
  have c:=A5 h
  generalize l[k]=e at c
  obtain⟨a,x,b⟩:=e
  have o:=F0d l w0 i j n d (k+1) fuel (acc ++ [(a,x,b)]) (by omega) (by omega) (by simp;omega)
  rw[V4.eq_2,if_pos (by simp;omega),V1 c]
  simp only[Z2 c,oB,m03,F0 (s0f _ _),V2 h (show l.length<=9223372036854775807 by omega),Bool.not_true]
  have m:∀ b:Bool,(bif b then false else false)=false:=λb=>by cases b<;>rfl
  simp only[m,Bool.false_eq_true,if_false]
  rw[F0 (by simp;omega),oB,o]
  simp
theorem B0g(l:List N0)(w0 c f:Int)(h:l.length<=1099511627776):∀(d k fuel:Nat) (acc:List N0),k+d=l.length->d<fuel->acc.length=k ->
  V4 l w0 c f fuel false (k:Int) acc=some ((goE (w0,c,f) (l.drop k)).1,acc++(goE (w0,c,f) (l.drop k)).2)
 |d,k,0,acc,j,hf,i=>by omega
 |0,k,fuel+1,acc,j,hf,i=>by
  rw[V4.eq_2,if_neg (by simp;omega),P1 (by omega)];simp[goE]
 |d+1,k,fuel+1,acc,j,hf,i=>by
  have m:k<l.length:=by omega
  have g:=A5 m
  generalize l[k]=e at g
  obtain⟨a,x,b⟩:=e
  have n:=B0g l w0 c f h d (k+1) fuel (acc ++ [(a,x,b)]) (by omega) (by omega) (by simp;omega)
  have o:=F0d l w0 c f h d (k+1) fuel (acc ++ [(a,x,b)]) (by omega) (by omega) (by simp;omega)
  have p:=F0d l w0 c f h d (k+1) fuel ((acc ++ [(w0,c,f)]) ++ [(a,x,b)]) (by omega) (by omega) (by simp;omega)
  rw[V4.eq_2,if_pos (by simp;omega),V1 g]
  simp only[Z2 g,oB,m03,F0 (s0f _ _),V2 m (show l.length<=9223372036854775807 by omega),Bool.not_true,Bool.not_false,goE]
  show _=_
  unfold t0g
  by_cases c1:P0 (w0,c,f) (a,x,b)=0
  ·rw[if_pos (by simpa using c1),if_neg (by simp[c1]),if_neg (by omega),if_pos c1]
   rw[F0 (by simp;omega),oB,o];simp
  ·rw[if_neg (by simpa using c1)]
   by_cases c2:P0 (w0,c,f) (a,x,b)<0
   ·rw[if_pos (by simp[c2]),if_pos c2,F0 (by simp;omega),oB,F0 (by simp;omega),oB,p];simp
   ·rw[if_neg (by simp[c2]),if_neg c2,if_neg c1,F0 (by simp;omega),oB,n];simp
theorem q08(l:List N0)(e:N0)(c:l.length<=1099511627776):K8 l e=some (X00 P0 e l):=by
 obtain⟨w0,a,b⟩:=e
 unfold K8
 have h:=B0g l w0 a b c l.length 0 V0 [] (by omega) (E1 (by omega)) rfl
 rw[show((0:Nat):Int)=0 from rfl,List.drop_zero,List.nil_append]at h
 simp only[h,oB,Q0o]
 have d:∀ l:List N0,(goE (w0,a,b) l).2.length<=l.length+1:=λl=>by
  induction l with
  |nil=>simp[goE]
  |cons y l f =>
   unfold goE
   split
   ·simp
   ·split
    ·simp
    ·simp only[List.length_cons];omega
 have:=d l
 cases (goE (w0,a,b) l).1 with
 |true=>rfl
 |false =>
  simp only[Bool.not_false,if_true,cond_false]
  rw[F0 (by simp;omega),oB]
theorem A05(e:N0):∀ l:List N0,(X00 P0 e l).length<=l.length+1
 | []=>by simp[X00]
 |y::l=>by
  have:=A05 e l
  unfold X00
  split
  ·simp
  ·split
   ·simp
   ·simp only[List.length_cons];omega
theorem z0c(es:List N0)(a:es.length<=1099511627776):l00 es=some (o6 P0 [] es):=by
 unfold l00
 rw[F0 (by simp;omega),oB,F0 (by simp;omega),oB,List.nil_append]
 exact congrArg some (D0l R3 t0f es es λ_=>Iff.rfl)
theorem n03(g:j0)(a:g.2.2.length<=1099511627776):N3 g=some g:=by
 obtain⟨r,n,es⟩:=g
 unfold N3
 simp only
 rw[F0 (by simp only[List.length_nil,Nat.zero_add];simp only at a;omega)];rfl
theorem Q01(g:j0)(a:g.2.2.length<=1099511627776):D3 g=some g:=by
 obtain⟨r,n,es⟩:=g
 unfold D3
 simp only
 rw[F0 (by simp only[List.length_nil,Nat.zero_add];simp only at a;omega)];rfl
inductive Rch (es:List N0) (v:Int):Int->Prop
 |base:Rch es v v
 |fwd {e:N0}:e∈es->Rch es v e.1->Rch es v e.2.2
 |bwd {e:N0}:e∈es->Rch es v e.2.2->Rch es v e.1
theorem Rch.closed{es:List N0}{v:Int}:∀ e∈es,Rch es v e.1↔Rch es v e.2.2:=λe a=>⟨.fwd a,.bwd a⟩
theorem Rch.sub{es:List N0}{v:Int}{P:Int->Prop}(c:P v)(a:∀ e∈es,P e.1↔P e.2.2):∀ {x},Rch es v x->P x
 |_,.base=>c
 |_,.fwd b h=>(a _ b).1 (Rch.sub c a h)
 |_,.bwd b h=>(a _ b).2 (Rch.sub c a h)
def s00(S:List Bool)(i:Int):Bool:=S.getD i.toNat false
def stJ(S:List Bool)(e:N0):List Bool:=(S.set e.1.toNat true).set e.2.2.toNat true
def pJ:List N0->Bool->List Bool->Bool×List Bool
 | [],c,S=>(c,S)
 |e::r,c,S=>bif s00 S e.1 == s00 S e.2.2 then pJ r c S else pJ r true (stJ S e)
def cF:List Bool->Nat
 | []=>0
 |b::r=>(bif b then 0 else 1)+cF r
theorem y0n:∀(S:List Bool) (i:Nat),cF (S.set i true)<=cF S
 | [],i=>by simp[cF]
 |b::r,0=>by simp[cF]
 |b::r,i+1=>by have:=y0n r i;simp only[List.set_cons_succ,cF];omega
theorem v0r:∀(S:List Bool) (i:Nat),S[i]?=some false->cF (S.set i true)<cF S
 | [],i,h=>by simp at h
 |b::r,0,h=>by simp at h;subst h;simp[cF]
 |b::r,i+1,h=>by have:=v0r r i (by simpa using h);simp only[List.set_cons_succ,cF];omega
theorem R0t:∀ S:List Bool,cF S<=S.length
 | []=>by simp[cF]
 |b::r=>by have:=R0t r;cases b<;>simp only[cF,List.length_cons,cond_true,cond_false]<;>omega
def inN(n:Nat)(es:List N0):Prop:=∀ e∈es,(0<=e.1/\e.1<(n:Int))/\(0<=e.2.2/\e.2.2<(n:Int))
theorem y09{S:List Bool}{i:Nat}(h:i<S.length)(x:Int):s00 (S.set i true) x=(decide (x.toNat=i) || s00 S x):=by
 unfold s00
 rw[List.getD_eq_getElem?_getD,List.getD_eq_getElem?_getD,List.getElem?_set]
 by_cases c:i=x.toNat
 ·rw[if_pos c,if_pos (by omega)];simp[c]
 ·rw[if_neg c]
  have:decide (x.toNat=i)=false:=by simp;exact λe=>c e.symm
  rw[this];rfl
theorem z0n:∀(es:List N0) (c:Bool) (S:List Bool),(pJ es c S).2.length=S.length
 | [],c,S=>rfl
 |e::r,c,S=>by
  unfold pJ
  cases s00 S e.1 == s00 S e.2.2
  ·simp only[cond_false];rw[z0n r];simp[stJ]
  ·simp only[cond_true];exact z0n r c S
theorem c0k{n:Nat}:∀(es:List N0) (c:Bool) (a:List Bool),a.length=n->inN n es->∀ x,s00 a x=true->s00 (pJ es c a).2 x=true
 | [],c,a,b,d,x,h=>h
 |e::r,c,a,b,d,x,h=>by
  have f:=d e mS
  have g:inN n r:=λe f=>d e (mC _ f)
  unfold pJ
  cases s00 a e.1 == s00 a e.2.2
  ·simp only[cond_false]
   refine c0k r _ _ (by simp[stJ,b]) g x ?_
   rw[stJ,y09 (by rw[List.length_set];omega),y09 (by omega),h];simp
  ·simp only[cond_true];exact c0k r c a b g x h
theorem C0g{n:Nat}{P:Int->Prop}:∀(es:List N0) (c:Bool) (a:List Bool),a.length=n->inN n es->(∀ e∈es,P e.1↔P e.2.2)->(∀ x,0<=x->s00 a x=true->P x)->∀ x,0<=x->s00 (pJ es c a).2 x=true->P x
 | [],c,a,g,i,f,d,x,h0,h=>d x h0 h
 |e::r,c,a,g,i,f,d,x,h0,h=>by
  have b:=i e mS
  have m:inN n r:=λe b=>i e (mC _ b)
  have j:=λe b=>f e (mC _ b)
  have k:=f e mS
  unfold pJ at h
  cases hb:s00 a e.1 == s00 a e.2.2
  ·rw[hb]at h
   refine C0g r true (stJ a e) (by simp[stJ,g]) m j (λy o h=>?_) x h0 h
   rw[stJ,y09 (by rw[List.length_set];omega),y09 (by omega)]at h
   simp only[Bool.or_eq_true,decide_eq_true_eq]at h
   have l:P e.1∨P e.2.2:=by
    cases h1:s00 a e.1
    ·cases h2:s00 a e.2.2
     ·rw[h1,h2]at hb;cases hb
     ·exact .inr (d _ b.2.1 h2)
    ·exact .inl (d _ b.1.1 h1)
   rcases h with h|h|h
   ·have:y=e.2.2:=by omega
    subst this;exact l.elim k.1 id
   ·have:y=e.1:=by omega
    subst this;exact l.elim id k.2
   ·exact d y o h
  ·rw[hb]at h
   exact C0g r c a g m j d x h0 h
theorem A0n{n:Nat}:∀(es:List N0) (c:Bool) (a:List Bool),a.length=n->inN n es->cF (pJ es c a).2<=cF a/\((pJ es c a).1=true->c=true∨cF (pJ es c a).2<cF a)/\((pJ es c a).1=false->c=false/\(pJ es c a).2=a/\∀ e∈es,s00 a e.1=s00 a e.2.2)
 | [],c,a,k,l=>⟨Nat.le_refl _,λh => .inl h,λh=>⟨h,rfl,λe b=>nomatch b⟩⟩
 |e::r,c,a,k,l=>by
  have b:=l e mS
  have s:inN n r:=λe b=>l e (mC _ b)
  unfold pJ
  cases hb:s00 a e.1 == s00 a e.2.2
  ·simp only[cond_false]
   obtain⟨m,o,d⟩:=A0n r true (stJ a e) (by simp[stJ,k]) s
   have v:cF (stJ a e)<cF a:=by
    have g:∀(x:Int),0<=x->x<n->s00 a x=false->a[x.toNat]?=some false:=λx w y j=>by
     have p:x.toNat<a.length:=by omega
     unfold s00 at j
     rw[List.getD_eq_getElem?_getD,List.getElem?_eq_getElem p]at j
     rw[List.getElem?_eq_getElem p];simpa using j
    cases g1:s00 a e.1
    ·have:=v0r a _ (g _ b.1.1 b.1.2 g1)
     have:=y0n (a.set e.1.toNat true) e.2.2.toNat
     unfold stJ;omega
    ·have f:s00 a e.2.2=false:=by
      cases f:s00 a e.2.2
      ·rfl
      ·rw[g1,f]at hb;cases hb
     have u:(a.set e.1.toNat true)[e.2.2.toNat]?=some false:=by
      rw[List.getElem?_set]
      by_cases q:e.1.toNat=e.2.2.toNat
      ·exfalso
       have:e.1=e.2.2:=by omega
       rw[this,f]at g1;cases g1
      ·rw[if_neg q];exact g _ b.2.1 b.2.2 f
     have:=v0r _ _ u
     have:=y0n a e.1.toNat
     unfold stJ;omega
   refine⟨by omega,λ_ => .inr (by omega),λh=>?_⟩
   have:=(d h).1;cases this
  ·simp only[cond_true]
   obtain⟨m,o,d⟩:=A0n r c a k s
   refine⟨m,o,λh=>⟨(d h).1,(d h).2.1,λt i=>?_⟩⟩
   rcases List.mem_cons.1 i with rfl|i
   ·simpa using hb
   ·exact(d h).2.2 t i
theorem giB{a:List Bool}{n:Nat}(f:a.length=n){x:Int}(h0:0<=x)(d:x<n):gi a x=some (s00 a x):=by
 have c:x.toNat<a.length:=by omega
 have e:x=((x.toNat:Nat):Int):=by omega
 have b:gi a ((x.toNat:Nat):Int)=some (s00 a x):=by
  rw[y0d,List.getElem?_eq_getElem c]
  unfold s00
  rw[List.getD_eq_getElem?_getD,List.getElem?_eq_getElem c];rfl
 rw[←e]at b;exact b
theorem x0i(es:List N0){n:Nat}(q:inN n es)(p:es.length<=9223372036854775807):∀(d k fuel:Nat) (c:Bool) (f:List Bool),f.length=n->k+d=es.length->d<fuel ->
  N4 es fuel c (k:Int) f=some (pJ (es.drop k) c f)
 |d,k,0,c,f,g,m,hf=>by omega
 |0,k,fuel+1,c,f,g,m,hf=>by
  rw[N4.eq_2,if_neg (by simp;omega),P1 (by omega)];rfl
 |d+1,k,fuel+1,c,f,g,m,hf=>by
  have o:k<es.length:=by omega
  have j:=A5 o
  have i:=q _ (List.mem_of_getElem? j)
  generalize es[k]=e at j i
  obtain⟨a,l,b⟩:=e
  have s:=λu t h=>x0i es q p d (k+1) fuel u t h (by omega) (by omega)
  rw[N4.eq_2,if_pos (by simp;omega),V1 j]
  simp only[Z2 j,oB,giB g i.1.1 i.1.2,giB g i.2.1 i.2.2,V2 o p,giB (show(f.set a.toNat true).length=n by simp[g]) i.2.1 i.2.2,pJ]
  cases hb:s00 f a == s00 f b
  ·simp only[Bool.not_false,if_true,cond_false]
   exact s _ _ (by simp[g])
  ·simp only[Bool.not_true,Bool.false_eq_true,if_false,cond_true]
   exact s _ _ g
theorem y0i(es:List N0){n:Nat}(f:inN n es)(z:es.length<=9223372036854775806):∀(m fuel:Nat) (a:List Bool),a.length=n->cF a<=m->m+1<fuel ->
  ∃ b,B5 es fuel true a=some b/\b.length=n/\(∀ x,s00 a x=true->s00 b x=true)/\(∀ e∈es,s00 b e.1=s00 b e.2.2) /\
   ∀ P:Int->Prop,(∀ e∈es,P e.1↔P e.2.2)->(∀ x,0<=x->s00 a x=true->P x)->∀ x,0<=x->s00 b x=true->P x
 |m,0,a,d,C,hf=>by omega
 |m,fuel+1,a,d,C,hf=>by
  have h0:=x0i es f (by omega) es.length 0 V0 false a d (by omega) (by unfold V0;omega)
  rw[show((0:Nat):Int)=0 from rfl,List.drop_zero]at h0
  obtain⟨p,i,j⟩:=A0n es false a d f
  have A:=z0n es false a
  rw[B5.eq_2,if_pos rfl,h0,oB]
  have l:=c0k es false a d f
  have o:=λP=>C0g (P:=P) es false a d f
  generalize pJ es false a=q at *
  obtain⟨c,b⟩:=q
  simp only at p i j A l o ⊢
  cases c with
  |true =>
   rcases i rfl with h|h
   ·cases h
   ·obtain⟨S2,s,t,u,v,w⟩:=y0i es f z (m-1) fuel b (by omega) (by omega) (by omega)
    exact⟨S2,s,t,λx D=>u x (l x D),v,λP k g=>w P k (o P k g)⟩
  |false =>
   obtain⟨_,e,y⟩:=j rfl
   subst e
   obtain _|fuel:=fuel
   ·omega
   ·rw[B5.eq_2,if_neg (by simp)]
    exact⟨_,rfl,d,λx h=>h,y,λP _ g=>g⟩
theorem J0l(r:Int)(n:Nat)(es:List N0)(p:inN n es)(o:es.length<=9223372036854775806)(s:1<=n)(t:n<=140737488355328):
  ∃ a,f00 (r,(n:Int),es) 0=some a/\a.length=n/\∀ x,0<=x->x<(n:Int)->(s00 a x=true↔Rch es 0 x):=by
 unfold f00
 simp only[Int.toNat_natCast]
 have m:gi (List.replicate n (false:Bool)) 0=some false:=by
  rw[Y06 (x:=false)];rw[List.getElem?_replicate,if_pos (by omega)]
 rw[F0 (by omega),oB,m,oB]
 have k:((List.replicate n (false:Bool)).set (0:Int).toNat true).length=n:=by simp
 obtain⟨b,d,f,g,i,j⟩:=y0i es p o n V0 _ k (by have:=R0t ((List.replicate n (false:Bool)).set (0:Int).toNat true);omega) (by unfold V0;omega)
 rw[d]
 have c:∀ x,s00 ((List.replicate n (false:Bool)).set (0:Int).toNat true) x=decide (x.toNat=0):=λx=>by
  rw[y09 (by simp;omega)]
  have:s00 (List.replicate n false) x=false:=by
   unfold s00
   rw[List.getD_eq_getElem?_getD,List.getElem?_replicate]
   split<;>rfl
  rw[this];simp
 refine⟨b,rfl,f,λx h0 q=>⟨λh=>?_,λh=>?_⟩⟩
 ·refine j (Rch es 0) Rch.closed (λy u h=>?_) x h0 h
  rw[c]at h
  have:y=0:=by simp at h;omega
  subst this;exact .base
 ·exact Rch.sub (P:=λx=>s00 b x=true) (g 0 (by rw[c];rfl)) (λe l=>by rw[i e l]) h
theorem S0t(l:List Int)(w:Int)(g:l.length<=9223372036854775807):∀(d k fuel:Nat),k+d=l.length->d<fuel ->
  N9 l w fuel (k:Int)=some (if w∈l.drop k then .inl true else .inr ())
 |d,k,0,b,hf=>by omega
 |0,k,fuel+1,b,hf=>by
  rw[N9.eq_2,if_neg (by simp;omega),P1 (by omega)];simp
 |d+1,k,fuel+1,b,hf=>by
  have f:k<l.length:=by omega
  have a:=A5 f
  generalize l[k]=x at a
  have i:=S0t l w g d (k+1) fuel (by omega) (by omega)
  rw[N9.eq_2,if_pos (by simp;omega),V1 a]
  simp only[Z2 a,oB,V2 f g,i,List.mem_cons]
  by_cases c:x=w
  ·rw[if_pos (by simpa using c),if_pos (.inl c.symm)]
  ·rw[if_neg (by simpa using c)]
   by_cases c2:w∈l.drop (k+1)
   ·rw[if_pos c2,if_pos (.inr c2)]
   ·rw[if_neg c2,if_neg (λh=>h.elim (λe=>c e.symm) c2)]
theorem u0f(l:List Int)(w:Int)(a:l.length<=9223372036854775807):j00 l w=some (decide (w∈l)):=by
 unfold j00
 have h:=S0t l w a l.length 0 V0 (by omega) (by unfold V0;omega)
 rw[show((0:Nat):Int)=0 from rfl,List.drop_zero]at h
 rw[h,oB]
 by_cases c:w∈l
 ·rw[if_pos c];simp[l7,c]
 ·rw[if_neg c];simp[l7,c]
def s1(u:List Int)(e:N0):List Int:=if e.1∈u then X00 Y9 e.2.2 u else u
def s2(u:List Int)(e:N0):List Int:=if e.2.2∈u then X00 Y9 e.1 u else u
def pS:List N0->List Int->List Int
 | [],u=>u
 |e::r,u=>pS r (s2 (s1 u e) e)
theorem G0d{u:List Int}{e:N0}{x:Int}:x∈s1 u e↔x∈u∨(e.1∈u/\x=e.2.2):=by
 unfold s1
 split
 ·rename_i h;rw[Q04 X02];constructor
  ·rintro(a|a)
   ·exact .inr ⟨h,a⟩
   ·exact .inl a
  ·rintro(a|⟨_,a⟩)
   ·exact .inr a
   ·exact .inl a
 ·rename_i h;constructor
  ·exact .inl
  ·rintro(a|⟨a,_⟩)
   ·exact a
   ·exact absurd a h
theorem H0d{u:List Int}{e:N0}{x:Int}:x∈s2 u e↔x∈u∨(e.2.2∈u/\x=e.1):=by
 unfold s2
 split
 ·rename_i h;rw[Q04 X02];constructor
  ·rintro(a|a)
   ·exact .inr ⟨h,a⟩
   ·exact .inl a
  ·rintro(a|⟨_,a⟩)
   ·exact .inr a
   ·exact .inl a
 ·rename_i h;constructor
  ·exact .inl
  ·rintro(a|⟨a,_⟩)
   ·exact a
   ·exact absurd a h
theorem w0r(u:List Int)(e:N0):(s1 u e).length<=u.length+1:=by
 unfold s1;split
 ·exact D07 _ _
 ·omega
theorem x0r(u:List Int)(e:N0):(s2 u e).length<=u.length+1:=by
 unfold s2;split
 ·exact D07 _ _
 ·omega
theorem B0n:∀(es:List N0) (u:List Int),(pS es u).length<=u.length+2*es.length
 | [],u=>by simp[pS]
 |e::r,u=>by
  have:=B0n r (s2 (s1 u e) e)
  have:=x0r (s1 u e) e
  have:=w0r u e
  simp only[pS,List.length_cons];omega
theorem r08:∀(es:List N0) (u:List Int) (x:Int),x∈u->x∈pS es u
 | [],u,x,h=>h
 |e::r,u,x,h=>r08 r _ x (H0d.2 (.inl (G0d.2 (.inl h))))
theorem D0g{P:Int->Prop}:∀(es:List N0) (u:List Int),(∀ e∈es,P e.1↔P e.2.2)->(∀ x∈u,P x)->∀ x∈pS es u,P x
 | [],u,b,a=>a
 |e::r,u,b,a=>D0g r _ (λe f=>b e (mC _ f)) λx g=>by
  have d:=b e mS
  have c:∀ y∈s1 u e,P y:=λy i=>by
   rcases G0d.1 i with h|⟨h,rfl⟩
   ·exact a y h
   ·exact d.1 (a _ h)
  rcases H0d.1 g with h|⟨h,rfl⟩
  ·exact c x h
  ·exact d.2 (c _ h)
theorem K0l:∀(es:List N0) (u:List Int) (e:N0),e∈es->e.1∈u∨e.2.2∈u->e.1∈pS es u/\e.2.2∈pS es u
 |c::r,u,e,a,h=>by
  simp only[pS]
  rcases List.mem_cons.1 a with rfl|a
  ·have b:e.2.2∈s1 u e:=by
    rcases h with h|h
    ·exact G0d.2 (.inr ⟨h,rfl⟩)
    ·exact G0d.2 (.inl h)
   exact⟨r08 r _ _ (H0d.2 (.inr ⟨b,rfl⟩)),r08 r _ _ (H0d.2 (.inl b))⟩
  ·exact K0l r _ e a (h.imp (λh=>H0d.2 (.inl (G0d.2 (.inl h)))) λh=>H0d.2 (.inl (G0d.2 (.inl h))))
def act(es:List N0)(u:List Int):Nat:=es.countP λe=>decide (e.1∈u)&&decide (e.2.2∈u)
def clo(es:List N0)(u:List Int):Prop:=∀ e∈es,e.1∈u↔e.2.2∈u
theorem B0u(es:List N0)(u:List Int):act es u<=es.length:=List.countP_le_length
theorem z0i{e:Type}{p q:e->Bool}:∀ {l:List e},(∀ x∈l,p x=true->q x=true)->(∃ x∈l,p x=false/\q x=true)->l.countP p<l.countP q
 | [],_,⟨x,a,_⟩=>nomatch a
 |y::l,h,⟨x,a,c,d⟩=>by
  have f:l.countP p<=l.countP q:=List.countP_mono_left λz b=>h z (mC _ b)
  rcases List.mem_cons.1 a with rfl|a
  ·rw[List.countP_cons_of_neg (by simp[c]),List.countP_cons_of_pos d];omega
  ·have g:=z0i (l:=l) (λz b=>h z (mC _ b)) ⟨x,a,c,d⟩
   cases hp:p y
   ·rw[List.countP_cons_of_neg (by simp[hp])]
    have:l.countP q<=(y::l).countP q:=by rw[List.countP_cons];omega
    omega
   ·rw[List.countP_cons_of_pos hp,List.countP_cons_of_pos (h y mS hp)];omega
theorem A0c{es:List N0}{u:List Int}(h:clo es u)(x:Int):x∈pS es u↔x∈u :=
 ⟨D0g (P:=λx=>x∈u) es u h (λ_ h=>h) x,r08 es u x⟩
theorem y0r{es:List N0}{u:List Int}:clo es (pS es u)∨act es u<act es (pS es u):=by
 by_cases h:clo es u
 ·left
  intro e a
  rw[A0c h,A0c h];exact h e a
 ·right
  have:∃ e∈es,¬ (e.1∈u↔e.2.2∈u):=by
   refine Classical.byContradiction λb=>h λe a=>?_
   exact Classical.byContradiction λd=>b ⟨e,a,d⟩
  obtain⟨e,a,c⟩:=this
  refine z0i (λx g h=>?_) ⟨e,a,?_,?_⟩
  ·simp only[Bool.and_eq_true,decide_eq_true_eq]at h ⊢
   exact⟨r08 _ _ _ h.1,r08 _ _ _ h.2⟩
  ·rw[Bool.eq_false_iff]
   intro h
   simp only[Bool.and_eq_true,decide_eq_true_eq]at h
   exact c ⟨λ_=>h.2,λ_=>h.1⟩
  ·have f:e.1∈u∨e.2.2∈u:=by
    refine Classical.byContradiction λb=>c ⟨λh=>absurd (.inl h) b,λh=>absurd (.inr h) b⟩
   have:=K0l es u e a f
   simp only[Bool.and_eq_true,decide_eq_true_eq];exact this
def itS(es:List N0):Nat->List Int->List Int
 |0,u=>u
 |j+1,u=>itS es j (pS es u)
theorem R0o(es:List N0):∀(j:Nat) (u:List Int),(itS es j u).length<=u.length+j*(2*es.length)
 |0,u=>by simp[itS]
 |j+1,u=>by have:=R0o es j (pS es u);have:=B0n es u;simp only[itS,Nat.add_mul,Nat.one_mul];omega
theorem S0o(es:List N0):∀(j:Nat) (u:List Int),clo es u->clo es (itS es j u)
 |0,u,h=>h
 |j+1,u,h=>S0o es j _ λe a=>by rw[A0c h,A0c h];exact h e a
theorem T0o(es:List N0):∀(j:Nat) (u:List Int),clo es (itS es j u)∨act es u+j<=act es (itS es j u)
 |0,u => .inr (Nat.le_refl _)
 |j+1,u=>by
  rcases y0r (es:=es) (u:=u)with h|h
  ·exact .inl (S0o es j _ h)
  ·rcases T0o es j (pS es u)with a|a
   ·exact .inl a
   ·right;simp only[itS];omega
theorem L0l(es:List N0):∀(j:Nat) (u:List Int) (x:Int),x∈u->x∈itS es j u
 |0,u,x,h=>h
 |j+1,u,x,h=>L0l es j _ x (r08 es u x h)
theorem A0i{P:Int->Prop}(es:List N0)(b:∀ e∈es,P e.1↔P e.2.2):∀(j:Nat) (u:List Int),(∀ x∈u,P x)->∀ x∈itS es j u,P x
 |0,u,a=>a
 |j+1,u,a=>A0i es b j _ (D0g es u b a)
theorem B04(es:List N0)(v x:Int):x∈itS es (es.length+1) [v]↔Rch es v x:=by
 constructor
 ·exact A0i (P:=Rch es v) es Rch.closed _ _ (λy a=>by simp at a;subst a;exact .base) x
 ·have b:clo es (itS es (es.length+1) [v]):=by
   rcases T0o es (es.length+1) [v]with h|h
   ·exact h
   ·have:=B0u es (itS es (es.length+1) [v]);omega
  exact Rch.sub (P:=λx=>x∈itS es (es.length+1) [v]) (L0l _ _ _ _ (by simp)) b
theorem E0g(es:List N0)(p:es.length<=9223372036854775807):∀(d k fuel:Nat) (u:List Int),k+d=es.length->d<fuel->u.length+2*d<=1099511627776 ->
  W3 es fuel u (k:Int)=some (pS (es.drop k) u)
 |d,k,0,u,n,hf,q=>by omega
 |0,k,fuel+1,u,n,hf,q=>by
  rw[W3.eq_2,if_neg (by simp;omega),P1 (by omega)];rfl
 |d+1,k,fuel+1,u,n,hf,q=>by
  have o:k<es.length:=by omega
  have m:=A5 o
  generalize es[k]=e at m
  obtain⟨a,l,b⟩:=e
  have i:=λt h=>E0g es p d (k+1) fuel t (by omega) (by omega) h
  have s:=w0r u (a,l,b)
  have g:=x0r (s1 u (a,l,b)) (a,l,b)
  rw[W3.eq_2,if_pos (by simp;omega),V1 m]
  simp only[Z2 m,oB,u0f u _ (by omega),V2 o p,pS]
  by_cases c:a∈u
  ·rw[if_pos (by simpa using c),r0c _ _ (by omega),oB]
   have j:s1 u (a,l,b)=X00 Y9 b u:=if_pos c
   rw[j]at s g ⊢
   rw[u0f _ _ (by omega),oB]
   by_cases c2:b∈X00 Y9 b u
   ·rw[if_pos (by simpa using c2),r0c _ _ (by omega),oB]
    have f:s2 (X00 Y9 b u) (a,l,b)=X00 Y9 a (X00 Y9 b u):=if_pos c2
    rw[f]at g ⊢
    exact i _ (by omega)
   ·rw[if_neg (by simpa using c2)]
    have f:s2 (X00 Y9 b u) (a,l,b)=X00 Y9 b u:=if_neg c2
    rw[f]
    exact i _ (by omega)
  ·rw[if_neg (by simpa using c)]
   have j:s1 u (a,l,b)=u:=if_neg c
   rw[j]at g ⊢
   by_cases c2:b∈u
   ·rw[if_pos (by simpa using c2),r0c _ _ (by omega),oB]
    have f:s2 u (a,l,b)=X00 Y9 a u:=if_pos c2
    rw[f]at g ⊢
    exact i _ (by omega)
   ·rw[if_neg (by simpa using c2)]
    have f:s2 u (a,l,b)=u:=if_neg c2
    rw[f]
    exact i _ (by omega)
theorem F0g(es:List N0)(c:es.length<=120):∀(d k fuel:Nat) (u:List Int),k+d=es.length+1->d<fuel->u.length<=1+k*240 ->
  Q5 es fuel u (k:Int)=some (itS es d u)
 |d,k,0,u,a,hf,b=>by omega
 |0,k,fuel+1,u,a,hf,b=>by
  rw[Q5.eq_2,if_neg (by rw[w64 (by omega) (by omega)];simp;omega)];rfl
 |d+1,k,fuel+1,u,a,hf,b=>by
  have h0:=E0g es (by omega) es.length 0 V0 u (by omega) (E1 (by omega)) (by omega)
  rw[show((0:Nat):Int)=0 from rfl,List.drop_zero]at h0
  have e:=F0g es c d (k+1) fuel (pS es u) (by omega) (by omega) (by have:=B0n es u;omega)
  rw[Q5.eq_2,if_pos (by rw[w64 (by omega) (by omega)];simp;omega),h0,oB,V2 (show k<1000 by omega) (by omega),e]
  rfl
def getI(P:List Int)(v:Int):Int:=P.getD v.toNat (-1)
def R01:List Int->Nat->List Int->List Int
 |A,k,[]=>A
 |A,k,v::r=>R01 (A.set v.toNat (k:Int)) (k+1) r
def plc(n:Nat)(o:List Int):List Int:=R01 (List.replicate n (-1)) 0 o
theorem G0g:∀(o:List Int) (k:Nat) (A:List Int),(R01 A k o).length=A.length
 | [],k,A=>rfl
 |v::r,k,A=>by rw[R01,G0g r];simp
def inV(n:Nat)(o:List Int):Prop:=∀ v∈o,0<=v/\v<(n:Int)
theorem giI{P:List Int}{n:Nat}(d:P.length=n){x:Int}(h0:0<=x)(c:x<n):gi P x=some (getI P x):=by
 have b:x.toNat<P.length:=by omega
 have e:x=((x.toNat:Nat):Int):=by omega
 have a:gi P ((x.toNat:Nat):Int)=some (getI P x):=by
  rw[y0d,List.getElem?_eq_getElem b]
  unfold getI
  rw[List.getD_eq_getElem?_getD,List.getElem?_eq_getElem b];rfl
 rw[←e]at a;exact a
theorem R04{A:List Int}{v x:Int}{y:Int}(h0:0<=v)(a:v.toNat<A.length)(b:0<=x):getI (A.set v.toNat y) x=if x=v then y else getI A x:=by
 unfold getI
 rw[List.getD_eq_getElem?_getD,List.getD_eq_getElem?_getD,List.getElem?_set]
 by_cases c:x=v
 ·rw[if_pos c,if_pos (by rw[c]),if_pos a];rfl
 ·rw[if_neg c,if_neg (by omega)]
theorem B0c{n:Nat}:∀(o:List Int) (k:Nat) (A:List Int),A.length=n->inV n o->(∀ x,0<=x -> -1<=getI A x/\getI A x<(k:Int))->∀ x,0<=x -> -1<=getI (R01 A k o) x/\getI (R01 A k o) x<((k+o.length:Nat):Int)
 | [],k,A,c,a,h,x,b=>h x b
 |v::r,k,A,c,a,h,x,b=>by
  have e:=a v mS
  have:=B0c r (k+1) (A.set v.toNat (k:Int)) (by simp[c]) (λw f=>a w (mC _ f)) (λy d=>by
   rw[R04 e.1 (by omega) d]
   have:=h y d
   split<;>omega) x b
  rw[R01,List.length_cons,show k+(r.length+1)=k+1+r.length by omega];exact this
theorem z09(n:Nat)(x:Int):getI (List.replicate n (-1)) x = -1:=by
 unfold getI
 rw[List.getD_eq_getElem?_getD,List.getElem?_replicate]
 split<;>rfl
theorem B05{n:Nat}{o:List Int}(b:inV n o){x:Int}(a:0<=x): -1<=getI (plc n o) x/\getI (plc n o) x<(o.length:Int):=by
 have:=B0c o 0 (List.replicate n (-1)) (by simp) b (λx a=>by rw[z09];omega) x a
 rw[Nat.zero_add]at this;exact this
theorem U0o(n:Nat)(o:List Int):(plc n o).length=n:=by unfold plc;rw[G0g];simp
def pE(P:List Int):List N0->List N0
 | []=>[]
 |e::r=>bif decide (0<=getI P e.1)&&decide (0<=getI P e.2.2)then(getI P e.1,e.2.1,getI P e.2.2)::pE P r else pE P r
theorem d0k(P:List Int):∀ es,(pE P es).length<=es.length
 | []=>by simp[pE]
 |e::r=>by
  have:=d0k P r
  unfold pE
  cases decide (0<=getI P e.1)&&decide (0<=getI P e.2.2)<;>simp only[cond_true,cond_false,List.length_cons]<;>omega
theorem T0t{n:Nat}{o:List Int}(d:inV n o):∀(es:List N0),inN n es->inN o.length (pE (plc n o) es)
 | [],c=>λe a=>nomatch a
 |e::r,c=>by
  have f:=T0t d r λe a=>c e (mC _ a)
  have a:=c e mS
  unfold pE
  cases hb:decide (0<=getI (plc n o) e.1)&&decide (0<=getI (plc n o) e.2.2)
  ·simpa only[cond_false] using f
  ·simp only[cond_true]
   simp only[Bool.and_eq_true,decide_eq_true_eq]at hb
   intro g b
   rcases List.mem_cons.1 b with rfl|b
   ·exact⟨⟨hb.1,(B05 d a.1.1).2⟩,hb.2,(B05 d a.2.1).2⟩
   ·exact f g b
def o7(g:j0)(o:List Int):j0:=(g.1,(o.length:Int),o6 P0 [] (pE (plc g.2.1.toNat o) g.2.2))
theorem B03:∀(r l:List N0),(o6 P0 l r).length<=l.length+r.length
 | [],l=>by simp[o6]
 |e::r,l=>by have:=B03 r (X00 P0 e l);have:=A05 e l;simp only[o6,List.length_cons];omega
theorem h0b(g:j0)(o:List Int):(o7 g o).2.2.length<=g.2.2.length:=by
 have:=B03 (pE (plc g.2.1.toNat o) g.2.2) []
 have:=d0k (plc g.2.1.toNat o) g.2.2
 simp only[o7,List.length_nil]at *;omega
theorem B0i{n:Nat}{r:Int}{es:List N0}{o:List Int}(c:inV n o)(b:inN n es):inN o.length (o7 (r,(n:Int),es) o).2.2:=by
 intro e a
 simp only[o7,Int.toNat_natCast]at a
 rcases(W5 R3 e _ _).1 a with h|h
 ·cases h
 ·exact T0t c es b e h
theorem V0o(n:Nat)(c:n<=140737488355328):∀(d k fuel:Nat),k+d=n->d<fuel ->
  n00 n fuel (k:Int) (List.replicate k (-1)++List.replicate d 0)=some (List.replicate n (-1))
 |d,k,0,a,hf=>by omega
 |0,k,fuel+1,a,hf=>by
  rw[n00.eq_2,if_neg (by simp;omega),show k=n by omega];simp
 |d+1,k,fuel+1,a,hf=>by
  have b:gi (List.replicate k (-1)++List.replicate (d+1) (0:Int)) (k:Int)=some 0:=by
   rw[y0d,List.getElem?_append_right (by simp)];simp
  have f:=V0o n c d (k+1) fuel (by omega) (by omega)
  rw[n00.eq_2,if_pos (by simp;omega),b,oB,V2 (show k<n by omega) (by omega),Int.toNat_natCast]
  have e:(List.replicate k (-1)++List.replicate (d+1) (0:Int)).set k (-1)=List.replicate (k+1) (-1)++List.replicate d 0:=by
   rw[List.set_append_right _ _ (by simp),List.length_replicate,Nat.sub_self,List.replicate_succ,List.set_cons_zero,List.replicate_succ']
   simp
  rw[e,f]
theorem W0o(o:List Int){n:Nat}(h:inV n o)(g:o.length<=9223372036854775807):∀(d k fuel:Nat) (A:List Int),A.length=n->k+d=o.length->d<fuel ->
  m00 o fuel (k:Int) A=some (R01 A k (o.drop k))
 |d,k,0,A,a,e,hf=>by omega
 |0,k,fuel+1,A,a,e,hf=>by
  rw[m00.eq_2,if_neg (by simp;omega),P1 (by omega)];rfl
 |d+1,k,fuel+1,A,a,e,hf=>by
  have f:k<o.length:=by omega
  have b:=A5 f
  have c:=h _ (List.mem_of_getElem? b)
  generalize o[k]=v at b c
  have i:=W0o o h g d (k+1) fuel (A.set v.toNat (k:Int)) (by simp[a]) (by omega) (by omega)
  rw[m00.eq_2,if_pos (by simp;omega),V1 b,Z2 b,oB,giI a c.1 c.2,oB,V2 f g,i]
  rfl
theorem X0o(es:List N0){n:Nat}(q:inN n es)(t:es.length<=1099511627776)(P:List Int)(g:P.length=n)(r m:Int):∀(d k fuel:Nat) (acc:List N0),k+d=es.length->d<fuel->acc.length<=k ->
  G9 es P fuel (k:Int) r m acc=some (r,m,acc++pE P (es.drop k))
 |d,k,0,acc,o,hf,j=>by omega
 |0,k,fuel+1,acc,o,hf,j=>by
  rw[G9.eq_2,if_neg (by simp;omega),P1 (by omega)];simp[pE]
 |d+1,k,fuel+1,acc,o,hf,j=>by
  have p:k<es.length:=by omega
  have f:=A5 p
  have c:=q _ (List.mem_of_getElem? f)
  generalize es[k]=e at f c
  obtain⟨a,l,b⟩:=e
  have i:=λs h=>X0o es q t P g r m d (k+1) fuel s (by omega) (by omega) h
  rw[G9.eq_2,if_pos (by simp;omega),V1 f]
  simp only[Z2 f,oB,giI g c.1.1 c.1.2,giI g c.2.1 c.2.2,V2 p (show es.length<=9223372036854775807 by omega),pE]
  by_cases c1:0<=getI P a
  ·simp only[show decide (getI P a ≥ 0)=true by simpa using c1,Y1,oB,cond_true,show decide (0<=getI P a)=true by simpa using c1,Bool.true_and]
   by_cases c2:0<=getI P b
   ·rw[if_pos (by simpa using c2),F0 (by simp;omega),oB,i _ (by simp;omega)]
    simp[c2]
   ·rw[if_neg (by simpa using c2),i _ (by omega)]
    simp[c2]
  ·simp only[show decide (getI P a ≥ 0)=false by simpa using c1,P3,oB,cond_false,show decide (0<=getI P a)=false by simpa using c1,Bool.false_and]
   rw[if_neg (by simp),i _ (by omega)]
theorem C0n(r:Int)(n:Nat)(es:List N0)(o:List Int)(d:inN n es)(e:inV n o)(g:n<=1000000)(c:es.length<=1099511627776)(f:o.length<=1099511627776):
  z03 (r,(n:Int),es) o=some (o7 (r,(n:Int),es) o):=by
 unfold z03
 have b:=V0o n (by omega) n 0 V0 (by omega) (E1 (by omega))
 have a:=W0o o e (by omega) o.length 0 V0 (List.replicate n (-1)) (by simp) (by omega) (E1 (by omega))
 have h0:=X0o es d c (plc n o) (U0o n o) r ((o.length:Nat):Int) es.length 0 V0 [] (by omega) (E1 (by omega)) (Nat.le_refl _)
 rw[show((0:Nat):Int)=0 from rfl]at h0 a b
 rw[List.replicate_zero,List.nil_append]at b
 rw[List.drop_zero]at a
 rw[List.drop_zero,List.nil_append]at h0
 simp only[Int.toNat_natCast]
 rw[F0 (by omega),oB,oB,List.length_replicate,F0 (by omega),oB,b,oB,a,oB]
 rw[show R01 (List.replicate n (-1)) 0 o=plc n o from rfl,h0]
 simp only[oB]
 rw[z0c _ (by have:=d0k (plc n o) es;omega),oB]
 rfl
theorem z0r(A:List Int)(i k:Nat):(A.map (·+1)).set i (((k+1:Nat):Int))=(A.set i (k:Int)).map (·+1):=by
 rw[List.map_set];rfl
theorem H0g{A:List Int}{n:Nat}(d:A.length=n){x:Int}(h0:0<=x)(c:x<n):gi (A.map (·+1)) x=some (getI A x+1):=by
 have b:x.toNat<A.length:=by omega
 have e:x=((x.toNat:Nat):Int):=by omega
 have a:gi (A.map (·+1)) ((x.toNat:Nat):Int)=some (getI A x+1):=by
  rw[y0d,List.getElem?_map,List.getElem?_eq_getElem b]
  unfold getI
  rw[List.getD_eq_getElem?_getD,List.getElem?_eq_getElem b];rfl
 rw[←e]at a;exact a
theorem I0g{n:Nat}:∀(o:List Int) (k:Nat) (A:List Int) (x:Int),A.length=n->inV n o->0<=x->x ∉ o->getI (R01 A k o) x=getI A x
 | [],k,A,x,c,a,b,h=>rfl
 |v::r,k,A,x,c,a,b,h=>by
  have f:=a v mS
  rw[R01,I0g r _ _ x (by simp[c]) (λw g=>a w (mC _ g)) b (λd=>h (mC _ d)),R04 f.1 (by omega) b,if_neg (λe=>h (by rw[e];exact mS))]
theorem A0r(r:Int)(n:Nat)(es:List N0)(o:List Int)(h:inV n o)(l:o.Nodup)(t:1<=n/\n<=1000000)(s:o.length<=1099511627776):∀(d k fuel:Nat) (A:List Int),A.length=n->(∀ x,0<=x -> -1<=getI A x/\getI A x<=1099511627776)->(∀ x∈o.drop k,getI A x = -1)->k+d=o.length->d<fuel ->
  W4 o (n:Int) r es fuel (k:Int) (A.map (·+1))=some (.inr ((R01 A k (o.drop k)).map (·+1)))
 |d,k,0,A,f,i,c,j,hf=>by omega
 |0,k,fuel+1,A,f,i,c,j,hf=>by
  rw[W4.eq_2,if_neg (by simp;omega),P1 (by omega)];rfl
 |d+1,k,fuel+1,A,f,i,c,j,hf=>by
  have m:k<o.length:=by omega
  have a:=A5 m
  have b:=h _ (List.mem_of_getElem? a)
  have g:=V1 a
  generalize o[k]=v at a b g
  have p:(o.drop k).Nodup:=l.sublist (List.drop_sublist _ _)
  rw[g]at p c
  have q:=c v mS
  have w:=A0r r n es o h l t s d (k+1) fuel (A.set v.toNat (k:Int)) (by simp[f]) (λx a=>by
   rw[R04 b.1 (by omega) a];have:=i x a;split<;>omega) (λx a=>by
   have u:=h x (List.mem_of_mem_drop a)
   rw[R04 b.1 (by omega) u.1,if_neg (λe=>(List.nodup_cons.1 p).1 (by rw[←e];exact a))]
   exact c x (mC _ a)) (by omega) (by omega)
  rw[W4.eq_2,if_pos (by simp;omega),g,Z2 a]
  simp only[oB,r04,w64 (show -9223372036854775808<=(n:Int)-1 by omega) (show(n:Int)-1<=9223372036854775807 by omega),inR,show decide (0<=v)=true by simpa using b.1,show decide (v<=(n:Int)-1)=true by simp;omega,Bool.and_self,Bool.not_true,Bool.not_false,Y1,H0g f b.1 b.2,q,cond_false]
  rw[if_neg (by decide),V2 m (by omega),z0r,w]
  rfl
theorem B0r(es:List N0){n:Nat}(s:inN n es)(u:es.length<=1099511627776)(P:List Int)(g:P.length=n)(i:∀ x,0<=x -> -1<=getI P x/\getI P x<=1099511627776)(r m:Int):∀(d k fuel:Nat) (acc:List N0),k+d=es.length->d<fuel->acc.length<=k ->
  A4 es (P.map (·+1)) fuel (k:Int) r m acc=some (r,m,o6 P0 acc (pE P (es.drop k)))
 |d,k,0,acc,p,hf,o=>by omega
 |0,k,fuel+1,acc,p,hf,o=>by
  rw[A4.eq_2,if_neg (by simp;omega),P1 (by omega)];rfl
 |d+1,k,fuel+1,acc,p,hf,o=>by
  have q:k<es.length:=by omega
  have f:=A5 q
  have c:=s _ (List.mem_of_getElem? f)
  generalize es[k]=e at f c
  obtain⟨a,l,b⟩:=e
  have j:=λt h=>B0r es s u P g i r m d (k+1) fuel t (by omega) (by omega) h
  have v:=i a c.1.1
  have w:=i b c.2.1
  rw[A4.eq_2,if_pos (by simp;omega),V1 f]
  simp only[Z2 f,oB,H0g g c.1.1 c.1.2,H0g g c.2.1 c.2.2,V2 q (show es.length<=9223372036854775807 by omega),pE]
  by_cases c1:0<=getI P a
  ·simp only[show decide (getI P a+1>0)=true by simp;omega,Y1,oB,cond_true,show decide (0<=getI P a)=true by simpa using c1,Bool.true_and]
   by_cases c2:0<=getI P b
   ·rw[if_pos (by simp;omega),w64 (by omega) (by omega),w64 (by omega) (by omega),show getI P a+1-1=getI P a by omega,show getI P b+1-1=getI P b by omega]
    rw[q08 _ _ (by omega),oB,j _ (by have:=A05 (getI P a,l,getI P b) acc;omega)]
    simp[c2,o6]
   ·rw[if_neg (by simp;omega),j _ (by omega)]
    simp[c2]
  ·simp only[show decide (getI P a+1>0)=false by simp;omega,P3,oB,cond_false,show decide (0<=getI P a)=false by simpa using c1,Bool.false_and]
   rw[if_neg (by simp),j _ (by omega)]
theorem J0g(r:Int)(n:Nat)(es:List N0)(o:List Int)(f:U0 (r,(n:Int),es)=true)(g:inV n o)(l:o.Nodup)(t:1<=o.length)(u:o.length<=n):
  c8 (r,(n:Int),es) o=some (o7 (r,(n:Int),es) o,true):=by
 obtain⟨h,p,q,s⟩:=J2 f
 simp only at p q s
 have m:inN n es:=λe d=>⟨(h e d).1,(h e d).2.1⟩
 have k:=L7 (r,(n:Int),es) (by simp only;omega)
 unfold c8
 have a:=A0r r n es o g l (by omega) (by omega) o.length 0 V0 (List.replicate n (-1)) (by simp) (λx b=>by rw[z09];omega) (λx b=>z09 n x) (by omega) (E1 (by omega))
 have c:=B0r es m (by omega) (plc n o) (U0o n o) (λx b=>by have:=B05 g b;omega) r ((o.length:Nat):Int) es.length 0 V0 [] (by omega) (E1 (by omega)) (Nat.le_refl _)
 rw[show((0:Nat):Int)=0 from rfl,List.drop_zero]at c a
 rw[show(List.replicate n (-1:Int)).map (·+1)=List.replicate n 0 by simp]at a
 rw[show R01 (List.replicate n (-1)) 0 o=plc n o from rfl]at a
 have i:decide (((o.length:Nat):Int)=0)=false:=decide_eq_false (by omega)
 have j:decide (((o.length:Nat):Int)>(n:Int))=false:=decide_eq_false (by omega)
 simp only[k,f,oB,Bool.not_true,cond_false,Int.toNat_natCast,i,j]
 rw[if_neg (by simp),F0 (by omega),oB,a]
 simp only[oB,l7,c]
 rfl
theorem P03:∀(n:Nat) (o:List Int),o.Nodup->inV n o->o.length<=n
 |0,[],_,_=>Nat.le_refl _
 |0,x::r,_,h=>by have:=h x mS;omega
 |n+1,o,c,h=>by
  have d:inV n (o.erase (n:Int)):=λx e=>by
   obtain⟨f,a⟩:=(List.Nodup.mem_erase_iff c).1 e
   have:=h x a;omega
  have b:=P03 n _ (c.erase _) d
  by_cases a:(n:Int)∈o
  ·rw[List.length_erase_of_mem a]at b;omega
  ·rw[List.erase_of_not_mem a]at b;omega
def i8:Nat->Nat->List Int
 |0,_=>[]
 |d+1,i=>(i:Int) :: -(i:Int)::i8 d (i+1)
theorem e06:∀ d i,(i8 d i).length=2*d
 |0,i=>rfl
 |d+1,i=>by simp only[i8,List.length_cons,e06 d];omega
theorem e0k:∀(d i:Nat),i+d<=1000->∀ x∈i8 d i,Y4 x
 |0,i,h,x,a=>nomatch a
 |d+1,i,h,x,a=>by
  simp only[i8,List.mem_cons]at a
  rcases a with rfl|rfl|a
  ·exact⟨⟨by omega,by omega⟩,by omega⟩
  ·exact⟨⟨by omega,by omega⟩,by omega⟩
  ·exact e0k d (i+1) (by omega) x a
theorem C0r(R:Nat)(c:R<=900):∀(d i fuel:Nat) (acc:List Int),i+d=R+1->d<fuel->acc.length+2*d<=10000 ->
  d8 (R:Int) fuel (i:Int) acc=some (acc++i8 d i)
 |d,i,0,acc,b,hf,a=>by omega
 |0,i,fuel+1,acc,b,hf,a=>by
  rw[d8.eq_2,if_neg (by simp;omega)];simp[i8]
 |d+1,i,fuel+1,acc,b,hf,a=>by
  have e:=C0r R c d (i+1) fuel (acc ++ [(i:Int),-(i:Int)]) (by omega) (by omega) (by simp;omega)
  have f:IntKind.i64.wrap (0-(i:Int)) = -(i:Int):=by rw[w64 (by omega) (by omega)];omega
  rw[d8.eq_2,if_pos (by simp;omega),f,F0 (by simp;omega),oB,V2 (show i<1000 by omega) (by omega),e]
  simp[i8]
theorem D0r(R:Nat)(c:R<=900):∀(d i fuel:Nat) (acc:List Int),i+d=R+1->d<fuel->acc.length+2*d<=10000 ->
  I6 (R:Int) fuel (i:Int) acc=some (acc++i8 d i)
 |d,i,0,acc,b,hf,a=>by omega
 |0,i,fuel+1,acc,b,hf,a=>by
  rw[I6.eq_2,if_neg (by simp;omega)];simp[i8]
 |d+1,i,fuel+1,acc,b,hf,a=>by
  have e:=D0r R c d (i+1) fuel ((acc ++ [(i:Int)]) ++ [-(i:Int)]) (by omega) (by omega) (by simp;omega)
  have f:IntKind.i64.wrap (0-(i:Int)) = -(i:Int):=by rw[w64 (by omega) (by omega)];omega
  rw[I6.eq_2,if_pos (by simp;omega),f,F0 (by simp;omega),oB,F0 (by simp;omega),oB,V2 (show i<1000 by omega) (by omega),e]
  simp[i8]
theorem E0r(R:Nat)(a:R<=900):H00 (R:Int)=some (i8 R 1):=by
 unfold H00
 rw[show(1:Int)=((1:Nat):Int) from rfl,C0r R a R 1 V0 [] (by omega) (E1 (by omega)) (by simp;omega)];rfl
theorem F0r(R:Nat)(a:R<=900):p9 (R:Int)=some (i8 R 1):=by
 unfold p9
 rw[show(1:Int)=((1:Nat):Int) from rfl,D0r R a R 1 V0 [] (by omega) (E1 (by omega)) (by simp;omega)];rfl
def Q08(u:List Int)(x:Int):List Int:=if 0<=x/\x ∉ u then u ++ [x]else u
def b03(g:j0)(v:Int):List Int->List Int->List Int
 | [],u=>u
 |x::r,u=>b03 g v r (Q08 u (T0 g v x))
def Q9(g:j0)(a:List Int):Nat->Nat->List Int->List Int
 |0,i,u=>u
 |f+1,i,u=>match u[i]? with
  |some v=>Q9 g a f (i+1) (b03 g v a u)
  |none=>u
def gud(n:Nat)(u:List Int):Prop:=u.Nodup/\inV n u
theorem Y0o{n:Nat}{u:List Int}{x:Int}(h:gud n u)(i:x = -1∨(0<=x/\x<(n:Int))):gud n (Q08 u x):=by
 unfold Q08
 split
 ·rename_i g
  refine⟨List.nodup_append.2 ⟨h.1,by simp,λa f b d=>?_⟩,λy c=>?_⟩
  ·simp at d;subst d;exact λe=>g.2 (e▸f)
  ·rcases List.mem_append.1 c with c|c
   ·exact h.2 y c
   ·simp at c;subst c;omega
 ·exact h
theorem K0g(u:List Int)(x:Int):∃ t,Q08 u x=u++t:=by
 unfold Q08;split
 ·exact⟨_,rfl⟩
 ·exact⟨[],by simp⟩
theorem s04(g:j0)(v:Int):∀(c u:List Int),∃ t,b03 g v c u=u++t
 | [],u=>⟨[],by simp[b03]⟩
 |x::r,u=>by
  obtain⟨d,a⟩:=K0g u (T0 g v x)
  obtain⟨e,b⟩:=s04 g v r (Q08 u (T0 g v x))
  exact⟨d++e,by rw[b03,b,a,List.append_assoc]⟩
theorem C05{r:Int}{n:Nat}{es:List N0}(a:inG (r,(n:Int),es))(v:Int):∀(b u:List Int),gud n u->gud n (b03 (r,(n:Int),es) v b u)
 | [],u,h=>h
 |x::l,u,h=>C05 a v l _ (Y0o h (n08 a v x))
theorem L0g{r:Int}{n:Nat}{es:List N0}(a:inG (r,(n:Int),es))(b:List Int):∀(f i:Nat) (u:List Int),gud n u->gud n (Q9 (r,(n:Int),es) b f i u)
 |0,i,u,h=>h
 |f+1,i,u,h=>by
  unfold Q9
  split
  ·exact L0g a b f _ _ (C05 a _ _ _ h)
  ·exact h
theorem M0g(g:j0)(a:List Int):∀(f i:Nat) (u:List Int),u.length<=(Q9 g a f i u).length
 |0,i,u=>Nat.le_refl _
 |f+1,i,u=>by
  unfold Q9
  split
  ·rename_i v _
   obtain⟨t,e⟩:=s04 g v a u
   have:=M0g g a f (i+1) (b03 g v a u)
   rw[e]at this ⊢;simp only[List.length_append]at this;omega
  ·exact Nat.le_refl _
theorem Z0o(r:Int)(n:Nat)(es:List N0)(g:inG (r,(n:Int),es))(A:n<=40)(m:es.length<=1099511627776)(a:List Int)(p:∀ x∈a,Y4 x)(z:a.length<=1000000)(i:Nat)(v:Int):∀(d k fuel:Nat) (u:List Int),gud n u->u[i]?=some v->k+d=a.length->d<fuel ->
  f4 a (i:Int) r (n:Int) es fuel (k:Int) u=some (b03 (r,(n:Int),es) v (a.drop k) u)
 |d,k,0,u,c,b,j,hf=>by omega
 |0,k,fuel+1,u,c,b,j,hf=>by
  rw[f4.eq_2,if_neg (by simp;omega),P1 (by omega)];rfl
 |d+1,k,fuel+1,u,c,b,j,hf=>by
  have o:k<a.length:=by omega
  have f:=A5 o
  have q:=p _ (List.mem_of_getElem? f)
  have l:=V1 f
  generalize a[k]=x at f q l
  have E:=P03 n u c.1 c.2
  have C:T0 (r,(n:Int),es) v x = -1∨(0<=T0 (r,(n:Int),es) v x/\T0 (r,(n:Int),es) v x<(n:Int)):=n08 g v x
  have s:=Y0o c C
  have w:(Q08 u (T0 (r,(n:Int),es) v x))[i]?=some v:=by
   obtain⟨t,e⟩:=K0g u (T0 (r,(n:Int),es) v x)
   rw[e,List.getElem?_append_left (List.getElem?_eq_some_iff.1 b).1];exact b
  have D:=Z0o r n es g A m a p z i v d (k+1) fuel _ s w (by omega) (by omega)
  rw[f4.eq_2,if_pos (by simp;omega),l]
  simp only[Z2 b,Z2 f,oB,f0b (r,(n:Int),es) v x q m,F0 (o08 g (show(n:Int)<=40 by omega) v x),V2 o (show a.length<=9223372036854775807 by omega),b03]
  rw[←D]
  generalize T0 (r,(n:Int),es) v x=y at *
  unfold Q08
  by_cases c1:0<=y
  ·simp only[show decide (y ≥ 0)=true by simpa using c1,Y1,u0f u y (by omega),oB,cond_true]
   by_cases c2:y∈u
   ·rw[if_neg (by simp[c2]),if_neg (by simp[c2])]
   ·rw[if_pos (by simp[c2]),if_pos ⟨c1,c2⟩,F0 (by simp;omega),oB]
  ·simp only[show decide (y ≥ 0)=false by simpa using c1,P3,oB,cond_false]
   rw[if_neg (by simp),if_neg (λh=>c1 h.1)]
theorem a0p(r:Int)(n:Nat)(es:List N0)(d:inG (r,(n:Int),es))(m:n<=40)(h:es.length<=1099511627776)(a:List Int)(l:∀ x∈a,Y4 x)(k:a.length<=1000000):∀(f i fuel:Nat) (u:List Int),gud n u->i<=u.length->n+1<=i+f->f<fuel ->
  H5 a r (n:Int) es fuel (i:Int) u=some (Q9 (r,(n:Int),es) a f i u)
 |f,i,0,u,b,j,g,hf=>by omega
 |0,i,fuel+1,u,b,j,g,hf=>by have:=P03 n u b.1 b.2;omega
 |f+1,i,fuel+1,u,b,j,g,hf=>by
  have p:=P03 n u b.1 b.2
  rw[H5.eq_2,oB,F0 (by omega),oB]
  by_cases hk:i<u.length
  ·have c:=A5 hk
   generalize u[i]=v at c
   have h0:=Z0o r n es d m h a l k i v a.length 0 V0 u b c (by omega) (E1 (by omega))
   rw[show((0:Nat):Int)=0 from rfl,List.drop_zero]at h0
   obtain⟨t,e⟩:=s04 (r,(n:Int),es) v a u
   have o:=a0p r n es d m h a l k f (i+1) fuel _ (C05 d v a u b) (by rw[e,List.length_append];omega) (by omega) (by omega)
   rw[if_pos (by simpa using hk),h0,oB,V2 hk (by omega),o]
   simp only[Q9,c]
  ·have c:u[i]?=none:=List.getElem?_eq_none (by omega)
   rw[if_neg (by simpa using hk)]
   simp only[Q9,c]
def R4(g:j0):List Int:=Q9 g (i8 g.1.toNat 1) (g.2.1.toNat+1) 0 [0]
theorem t04{g:j0}(hf:I0 g=true):gud g.2.1.toNat (R4 g)/\1<=(R4 g).length:=by
 obtain⟨c,d,e,f⟩:=G1 hf
 obtain⟨r,n,es⟩:=g
 simp only at d e f
 obtain⟨a,rfl⟩:∃ a:Nat,n=(a:Int):=⟨n.toNat,by omega⟩
 refine⟨?_,?_⟩
 ·exact L0g c _ _ _ _ ⟨by simp,λx b=>by simp at b;subst b;show(0:Int)<=0/\(0:Int)<(((a:Int).toNat:Nat):Int);omega⟩
 ·exact M0g _ _ _ _ [0]
theorem M0l(g:j0)(hf:I0 g=true):b9 g=some (R4 g):=by
 obtain⟨c,d,e,f⟩:=G1 hf
 have h:=I00 g (by omega)
 obtain⟨r,n,es⟩:=g
 simp only at d e f
 obtain⟨a,rfl⟩:∃ a:Nat,n=(a:Int):=⟨n.toNat,by omega⟩
 obtain⟨R,rfl⟩:∃ R:Nat,r=(R:Int):=⟨r.toNat,by omega⟩
 unfold b9
 have h0:=a0p (R:Int) a es c (by omega) (by omega) (i8 R 1) (e0k R 1 (by omega)) (by rw[e06];omega) (a+1) 0 V0 [0] ⟨by simp,λx b=>by simp at b;subst b;omega⟩ (by simp) (by omega) (E1 (by omega))
 simp only[h,hf,oB,Bool.not_true,F0r R (by omega)]
 rw[show((0:Nat):Int)=0 from rfl]at h0
 rw[if_neg (by simp),h0]
 rfl
theorem k0t{a:List Int}(la:a.length<=1099511627776):a02 a=some a:=by
 unfold a02
 rw[F0 (by simp;omega)];rfl
def Y00(W:List (Option (List Int)))(x:Int):Option (List Int):=W.getD x.toNat none
theorem giO{a:List (Option (List Int))}{n:Nat}(f:a.length=n){x:Int}(h0:0<=x)(d:x<n):gi a x=some (Y00 a x):=by
 have c:x.toNat<a.length:=by omega
 have e:x=((x.toNat:Nat):Int):=by omega
 have b:gi a ((x.toNat:Nat):Int)=some (Y00 a x):=by
  rw[y0d,List.getElem?_eq_getElem c]
  unfold Y00
  rw[List.getD_eq_getElem?_getD,List.getElem?_eq_getElem c];rfl
 rw[←e]at b;exact b
theorem c02{A:List (Option (List Int))}{v x:Int}{y:Option (List Int)}(h0:0<=v)(a:v.toNat<A.length)(b:0<=x):Y00 (A.set v.toNat y) x=if x=v then y else Y00 A x:=by
 unfold Y00
 rw[List.getD_eq_getElem?_getD,List.getD_eq_getElem?_getD,List.getElem?_set]
 by_cases c:x=v
 ·rw[if_pos c,if_pos (by rw[c]),if_pos a];rfl
 ·rw[if_neg c,if_neg (by omega)]
structure WOk (n:Nat) (W:List (Option (List Int))) (u:List Int):Prop where
 len:W.length=n
 iff:∀ x,0<=x->x<(n:Int)->((Y00 W x).isNone=true↔x ∉ u)
 short:∀ x,((Y00 W x).getD []).length<=u.length
theorem b0p(r:Int)(n:Nat)(es:List N0)(m:inG (r,(n:Int),es))(H:n<=40)(t:es.length<=1099511627776)(f:List Int)(A:∀ x∈f,Y4 x)(G:f.length<=1000000)(v:Int)(o:0<=v/\v<(n:Int)):∀(d k fuel:Nat) (b:List (Option (List Int))) (u:List Int),gud n u->WOk n b u->k+d=f.length->d<fuel ->
  ∃ j,E5 f r (n:Int) es v fuel (k:Int) b u=some (j,b03 (r,(n:Int),es) v (f.drop k) u)/\WOk n j (b03 (r,(n:Int),es) v (f.drop k) u)
 |d,k,0,b,u,i,a,q,hf=>by omega
 |0,k,fuel+1,b,u,i,a,q,hf=>by
  rw[E5.eq_2,if_neg (by simp;omega),P1 (by omega)];exact⟨b,rfl,a⟩
 |d+1,k,fuel+1,b,u,i,a,q,hf=>by
  have w:k<f.length:=by omega
  have l:=A5 w
  have D:=A _ (List.mem_of_getElem? l)
  have s:=V1 l
  generalize f[k]=x at l D s
  have K:=P03 n u i.1 i.2
  have I:T0 (r,(n:Int),es) v x = -1∨(0<=T0 (r,(n:Int),es) v x/\T0 (r,(n:Int),es) v x<(n:Int)):=n08 m v x
  have F:=Y0o i I
  have g:=λj h=>b0p r n es m H t f A G v o d (k+1) fuel j _ F h (by omega) (by omega)
  rw[E5.eq_2,if_pos (by simp;omega),s]
  simp only[Z2 l,oB,g0b (r,(n:Int),es) v x D t,F0 (o08 m (show(n:Int)<=40 by omega) v x),V2 w (show f.length<=9223372036854775807 by omega),b03]
  generalize T0 (r,(n:Int),es) v x=y at *
  by_cases c1:0<=y
  ·have p:y<(n:Int):=by omega
   simp only[show decide (y ≥ 0)=true by simpa using c1,Y1,giO a.len c1 p,oB,cond_true]
   by_cases c2:y∈u
   ·have : ¬ ((Y00 b y).isNone=true):=λh=>(a.iff y c1 p).1 h c2
    have e:Q08 u y=u:=if_neg λh=>h.2 c2
    rw[if_neg this]
    rw[e]at g ⊢
    exact g b a
   ·have:(Y00 b y).isNone=true:=(a.iff y c1 p).2 c2
    have e:Q08 u y=u ++ [y]:=if_pos ⟨c1,c2⟩
    have C:=a.short v
    rw[if_pos this,giO a.len o.1 o.2,oB,k0t (by omega),oB,F0 (by simp;omega),oB,F0 (by simp;omega),oB]
    rw[e]at g ⊢
    refine g _ ⟨by simp[a.len],λz h0 E=>?_,λz=>?_⟩
    ·rw[c02 c1 (by have:=a.len;omega) h0]
     by_cases c:z=y
     ·rw[if_pos c];simp[c]
     ·rw[if_neg c,a.iff z h0 E];simp[c]
    ·by_cases hz:0<=z
     ·rw[c02 c1 (by have:=a.len;omega) hz]
      by_cases c:z=y
      ·rw[if_pos c];simp;exact C
      ·rw[if_neg c];have:=a.short z;simp only[List.length_append];omega
     ·have J:Y00 (b.set y.toNat (some ((Y00 b v).getD [] ++ [x]))) z=Y00 (b.set y.toNat (some ((Y00 b v).getD [] ++ [x]))) 0:=by
       unfold Y00;rw[show z.toNat=(0:Int).toNat by omega]
      rw[J,c02 c1 (by have:=a.len;omega) (iR 0)]
      by_cases c:(0:Int)=y
      ·rw[if_pos c];simp;exact C
      ·rw[if_neg c];have:=a.short 0;simp only[List.length_append];omega
  ·have e:Q08 u y=u:=if_neg λh=>c1 h.1
   simp only[show decide (y ≥ 0)=false by simpa using c1,P3,oB,cond_false]
   rw[if_neg (by simp)]
   rw[e]at g ⊢
   exact g b a
theorem c0p(R n:Nat)(h:R<=900)(es:List N0)(d:inG ((R:Int),(n:Int),es))(m:n<=40)(k:es.length<=1099511627776):∀(f i fuel:Nat) (b:List (Option (List Int))) (u:List Int),gud n u->WOk n b u->i<=u.length->n+1<=i+f->f<fuel ->
  ∃ q,n7 (R:Int) (n:Int) es fuel (i:Int) b u=some (q,Q9 ((R:Int),(n:Int),es) (i8 R 1) f i u)
 |f,i,0,b,u,a,g,l,j,hf=>by omega
 |0,i,fuel+1,b,u,a,g,l,j,hf=>by have:=P03 n u a.1 a.2;omega
 |f+1,i,fuel+1,b,u,a,g,l,j,hf=>by
  have y:=P03 n u a.1 a.2
  rw[n7.eq_2,oB,F0 (by omega),oB]
  by_cases hk:i<u.length
  ·have c:=A5 hk
   have o:=a.2 _ (List.mem_of_getElem? c)
   generalize u[i]=v at c o
   obtain⟨s,h0,p⟩:=b0p (R:Int) n es d m k (i8 R 1) (e0k R 1 (by omega)) (by rw[e06];omega) v o (i8 R 1).length 0 V0 b u a g (by omega) (E1 (by rw[e06];omega))
   rw[show((0:Nat):Int)=0 from rfl,List.drop_zero]at h0
   rw[List.drop_zero]at p
   obtain⟨t,e⟩:=s04 ((R:Int),(n:Int),es) v (i8 R 1) u
   obtain⟨x,w⟩:=c0p R n h es d m k f (i+1) fuel s _ (C05 d v _ u a) p (by rw[e,List.length_append];omega) (by omega) (by omega)
   rw[if_pos (by simpa using hk),Z2 c,oB,E0r R h,oB,h0,oB]
   simp only[V2 hk (show u.length<=9223372036854775807 by omega),w,Q9,c]
   exact⟨_,rfl⟩
  ·have c:u[i]?=none:=List.getElem?_eq_none (by omega)
   rw[if_neg (by simpa using hk)]
   simp only[Q9,c]
   exact⟨_,rfl⟩
theorem N0l(g:j0)(hf:I0 g=true):c9 g=some (R4 g):=by
 obtain⟨b,f,h,i⟩:=G1 hf
 have j:=z01 g (by omega)
 obtain⟨r,n,es⟩:=g
 simp only at f h i
 obtain⟨a,rfl⟩:∃ a:Nat,n=(a:Int):=⟨n.toNat,by omega⟩
 obtain⟨R,rfl⟩:∃ R:Nat,r=(R:Int):=⟨r.toNat,by omega⟩
 unfold c9
 have d:∀ x,Y00 (List.replicate a (none:Option (List Int))) x=none:=λx=>by
  unfold Y00
  rw[List.getD_eq_getElem?_getD,List.getElem?_replicate];split<;>rfl
 have k:WOk a ((List.replicate a (none:Option (List Int))).set (0:Int).toNat (some [])) [0]:=by
  refine⟨by simp,λx h0 b=>?_,λx=>?_⟩
  ·rw[c02 (iR 0) (by simp;omega) h0]
   by_cases c:x=0
   ·rw[if_pos c];simp[c]
   ·rw[if_neg c,d];simp[c]
  ·by_cases hz:0<=x
   ·rw[c02 (iR 0) (by simp;omega) hz]
    split
    ·simp
    ·rw[d];simp
   ·have:Y00 ((List.replicate a (none:Option (List Int))).set (0:Int).toNat (some [])) x=Y00 ((List.replicate a (none:Option (List Int))).set (0:Int).toNat (some [])) 0:=by
     unfold Y00;rw[show x.toNat=(0:Int).toNat by omega]
    rw[this,c02 (iR 0) (by simp;omega) (iR 0),if_pos rfl];simp
 obtain⟨m,h0⟩:=c0p R a (by omega) es b (by omega) (by omega) (a+1) 0 V0 _ [0] ⟨by simp,λx e=>by simp at e;subst e;omega⟩ k (by simp) (by omega) (E1 (by omega))
 have l:gi (List.replicate a (none:Option (List Int))) 0=some none:=by
  rw[Y06 (x:=none)];rw[List.getElem?_replicate,if_pos (by omega)]
 simp only[j,hf,oB,Bool.not_true,u02,Int.toNat_natCast]
 rw[if_neg (by simp),F0 (by omega),oB,l,oB]
 rw[show((0:Nat):Int)=0 from rfl]at h0
 rw[h0]
 rfl
def S3(g:j0):j0:=o7 g (R4 g)
theorem D0e(g:j0)(hf:I0 g=true):I7 g=some (S3 g):=by
 obtain⟨c,f,h,i⟩:=G1 hf
 have j:=z01 g (by omega)
 have k:=N0l g hf
 obtain⟨b,o⟩:=t04 hf
 have l:=P03 _ _ b.1 b.2
 obtain⟨r,n,es⟩:=g
 simp only at f h i
 obtain⟨a,rfl⟩:∃ a:Nat,n=(a:Int):=⟨n.toNat,by omega⟩
 simp only[Int.toNat_natCast]at b l
 have m:=C0n r a es (R4 (r,(a:Int),es)) (λe d=>⟨(c e d).1,(c e d).2.1⟩) b.2 (by omega) (by omega) (by omega)
 unfold I7
 simp only[j,hf,oB,Bool.not_true,k,m]
 rfl
theorem E0e(g:j0)(hf:I0 g=true):H7 g=some (S3 g):=by
 obtain⟨m,e,f,i⟩:=G1 hf
 have j:U0 g=true:=by
  unfold I0 at hf;exact(Bool.and_eq_true _ _▸hf).1
 have k:=M0l g hf
 obtain⟨a,c⟩:=t04 hf
 have d:=P03 _ _ a.1 a.2
 obtain⟨r,n,es⟩:=g
 simp only at e f i
 obtain⟨b,rfl⟩:∃ b:Nat,n=(b:Int):=⟨n.toNat,by omega⟩
 simp only[Int.toNat_natCast]at a d
 have l:=J0g r b es (R4 (r,(b:Int),es)) j a.2 a.1 c d
 unfold H7
 simp only[oB,k,l]
 rw[if_neg (by simp;intro h;rw[h]at c;simp at c)]
 rfl
def lf(a:Nat->Bool):Nat->Nat->Option Nat
 |0,v=>none
 |d+1,v=>bif a v then some v else lf a d (v+1)
theorem A09{a:Nat->Bool}:∀(d v k:Nat),lf a d v=some k->v<=k/\k<v+d
 |0,v,k,h=>by cases h
 |d+1,v,k,h=>by
  unfold lf at h
  cases hb:a v
  ·rw[hb]at h;have:=A09 d (v+1) k h;omega
  ·rw[hb]at h;cases h;omega
theorem N0g{a b:Nat->Bool}:∀(d v:Nat),(∀ k,v<=k->k<v+d->a k=b k)->lf a d v=lf b d v
 |0,v,h=>rfl
 |d+1,v,h=>by unfold lf;rw[h v (Nat.le_refl _) (by omega),N0g d (v+1) λk c e=>h k (by omega) (by omega)]
def D0n(es:List N0):List Int:=itS es (es.length+1) [0]
def R08(es:List N0)(v:Nat):Bool:=decide (b02 (v:Int) es<2) || !decide ((v:Int)∈D0n es)
def L8(g:j0):Option Nat:=lf (R08 g.2.2) (g.2.1.toNat-1) 1
theorem E0n(g:j0)(b:U0 g=true):F00 g 0=some (D0n g.2.2)/\(D0n g.2.2).length<=100000:=by
 obtain⟨i,d,e,a⟩:=J2 b
 have h:=L7 g (by omega)
 obtain⟨r,n,es⟩:=g
 simp only at d e a
 unfold F00 D0n
 have c:=F0g es a (es.length+1) 0 V0 [0] (by omega) (E1 (by omega)) (by simp)
 have f:=R0o es (es.length+1) [0]
 refine⟨?_,?_⟩
 ·rw[show((0:Nat):Int)=0 from rfl]at c
  simp only[h,b,oB,Bool.not_true,Bool.not_false,Y1,r04,inR,w64 (show -9223372036854775808<=n-1 by omega) (show n-1<=9223372036854775807 by omega)]
  rw[if_neg (by simp;omega),c];rfl
 ·have:(es.length+1)*(2*es.length)<=121*240:=Nat.mul_le_mul (by omega) (by omega)
  simp only[List.length_singleton]at f
  simp only
  omega
theorem G0r(r:Int)(n:Nat)(es:List N0)(e:es.length<=1000)(u:List Int)(g:u.length<=100000)(f:n<=40):∀(d v fuel:Nat),v+d=n∨(d=0/\n<=v)->v<=1000->d<fuel ->
  Y8 (n:Int) r es u fuel (v:Int)=some (match lf (λv=>decide (b02 (v:Int) es<2) || !decide ((v:Int)∈u)) d v with|some k => .inl (k:Int)|none => .inr ())
 |d,v,0,b,c,hf=>by omega
 |0,v,fuel+1,b,c,hf=>by
  rw[Y8.eq_2,if_neg (by simp;omega)];rfl
 |d+1,v,fuel+1,b,c,hf=>by
  have h:=G0r r n es e u g f d (v+1) fuel (by omega) (by omega) (by omega)
  have i:=b0k (v:Int) es
  rw[Y8.eq_2,if_pos (by simp;omega),v0i (r,(n:Int),es) _ (by simp only;omega),oB,F0 (c64 (by simp only;omega) (by simp only;omega)),oB,V2 (show v<10000 by omega) (by omega)]
  unfold lf
  by_cases c1:b02 (v:Int) es<2
  ·have a:decide (((b02 (v:Int) es:Nat):Int)<2)=true:=decide_eq_true (by omega)
   simp only[a,Bool.not_true,P3,oB,cond_true,if_true,decide_eq_true c1,Bool.true_or]
  ·have a:decide (((b02 (v:Int) es:Nat):Int)<2)=false:=decide_eq_false (by omega)
   simp only[a,Bool.not_false,Y1,u0f u _ (show u.length<=9223372036854775807 by omega),oB,cond_false,decide_eq_false c1,Bool.false_or]
   by_cases c2:(v:Int)∈u
   ·simp only[decide_eq_true c2,Bool.not_true,Bool.false_eq_true,if_false,cond_false];exact h
   ·simp only[decide_eq_false c2,Bool.not_false,if_true,cond_true]
theorem H0r(g:j0)(d:U0 g=true):p02 g=some (match L8 g with|some k=>(k:Int)|none => -1):=by
 obtain⟨b,c⟩:=E0n g d
 obtain⟨j,e,f,h⟩:=J2 d
 obtain⟨r,n,es⟩:=g
 simp only at e f h b c
 obtain⟨a,rfl⟩:∃ a:Nat,n=(a:Int):=⟨n.toNat,by omega⟩
 unfold p02 L8
 have i:=G0r r a es (by omega) (D0n es) c (by omega) (a-1) 1 V0 (by omega) (by omega) (E1 (by omega))
 simp only[b,oB,Int.toNat_natCast]
 rw[show(1:Int)=((1:Nat):Int) from rfl,i]
 rw[show(λv:Nat=>decide (b02 (v:Int) es<2) || !decide ((v:Int)∈D0n es))=R08 es from rfl]
 cases lf (R08 es) (a-1) 1<;>rfl
theorem f0k(r:Int)(n:Nat)(es:List N0)(o:es.length<=1000)(a:List Bool)(g:a.length=n)(p:n<=40):∀(d v fuel:Nat),1<=v->v+d=n∨(d=0/\n<=v)->v<=1000->d+1<fuel ->
  J4 (n:Int) r es a fuel 0 (v:Int)=some (match lf (λv=>decide (b02 (v:Int) es<2) || !s00 a (v:Int)) d v with|some k=>(k:Int)|none=>0)
 |d,v,0,f,h,j,hf=>by omega
 |0,v,fuel+1,f,h,j,hf=>by
  have e:decide ((v:Int)<(n:Int))=false:=decide_eq_false (by omega)
  rw[J4.eq_2,if_neg (by rw[e];simp)];rfl
 |d+1,v,fuel+1,f,h,j,hf=>by
  have q:=f0k r n es o a g p d (v+1) fuel (by omega) (by omega) (by omega) (by omega)
  have s:=b0k (v:Int) es
  have e:decide ((v:Int)<(n:Int))=true:=decide_eq_true (by omega)
  have i:∀ w:Int,J4 (n:Int) r es a fuel (v:Int) w=some (v:Int):=λw=>by
   obtain _|fuel:=fuel
   ·omega
   ·have l:decide ((v:Int)=0)=false:=decide_eq_false (by omega)
    have m:∀ b:Bool,(bif b then false else false)=false:=λb=>by cases b<;>rfl
    rw[J4.eq_2,if_neg (by rw[l,m];simp)]
  rw[J4.eq_2,if_pos (by rw[e];rfl),k0q (r,(n:Int),es) _ (by simp only;omega),oB,F0 (c64 (by simp only;omega) (by simp only;omega)),oB,V2 (show v<10000 by omega) (by omega)]
  unfold lf
  by_cases c1:b02 (v:Int) es<2
  ·have c:decide (((b02 (v:Int) es:Nat):Int)<2)=true:=decide_eq_true (by omega)
   simp only[c,Bool.not_true,P3,oB,cond_true,if_true,decide_eq_true c1,Bool.true_or,i]
  ·have c:decide (((b02 (v:Int) es:Nat):Int)<2)=false:=decide_eq_false (by omega)
   simp only[c,Bool.not_false,Y1,giB g (show(0:Int)<=(v:Int) by omega) (show(v:Int)<(n:Int) by omega),oB,cond_false,decide_eq_false c1,Bool.false_or]
   cases hb:s00 a (v:Int)
   ·simp only[Bool.not_false,if_true,cond_true,i]
   ·simp only[Bool.not_true,Bool.false_eq_true,if_false,cond_false];exact q
def wo(g:Nat):Nat->Nat->List Int
 |0,k=>[]
 |d+1,k=>if k=g then wo g d (k+1)else(k:Int)::wo g d (k+1)
theorem g0k(g:Nat):∀(d k:Nat),(wo g d k).length=d-(if k<=g/\g<k+d then 1 else 0)
 |0,k=>by simp[wo]
 |d+1,k=>by
  have a:=g0k g d (k+1)
  unfold wo
  by_cases c:k=g
  ·rw[if_pos c,a,if_neg (by omega),if_pos (by omega)];omega
  ·rw[if_neg c,List.length_cons,a]
   by_cases c2:k+1<=g/\g<k+1+d
   ·rw[if_pos c2,if_pos (by omega)];omega
   ·rw[if_neg c2,if_neg (by omega)];omega
theorem d0p(g n:Nat):∀(d k:Nat),k+d<=n->inV n (wo g d k)
 |0,k,h=>λx a=>nomatch a
 |d+1,k,h=>by
  have b:=d0p g n d (k+1) (by omega)
  unfold wo
  split
  ·exact b
  ·intro x a
   rcases List.mem_cons.1 a with rfl|a
   ·omega
   ·exact b x a
theorem h0k(n g:Nat)(j:n<=1000):∀(d k fuel:Nat) (acc:List Int),k+d=n->d<fuel->acc.length<=k ->
  Y5 (n:Int) (g:Int) fuel (k:Int) acc=some (acc++wo g d k)
 |d,k,0,acc,b,hf,a=>by omega
 |0,k,fuel+1,acc,b,hf,a=>by
  rw[Y5.eq_2,if_neg (by simp;omega)];simp[wo]
 |d+1,k,fuel+1,acc,b,hf,a=>by
  have f:=λi h=>h0k n g j d (k+1) fuel i (by omega) (by omega) h
  rw[Y5.eq_2,if_pos (by simp;omega),V2 (show k<10000 by omega) (by omega)]
  unfold wo
  by_cases c:k=g
  ·have e:decide ((k:Int)=(g:Int))=true:=decide_eq_true (by omega)
   rw[e,if_neg (by simp),if_pos c,f _ (by omega)]
  ·have e:decide ((k:Int)=(g:Int))=false:=decide_eq_false (by omega)
   rw[e,if_pos (show(!false)=true from rfl),if_neg c,F0 (by simp;omega),oB,f _ (by simp;omega)]
   simp
theorem i0k(n:Nat)(f:n<=1000):∀(d k fuel:Nat) (acc:List Int),k+d=n->d<fuel->acc.length=k ->
  ∃ u,J6 (n:Int) fuel (k:Int) acc=some u/\u.length=n
 |d,k,0,acc,b,hf,a=>by omega
 |0,k,fuel+1,acc,b,hf,a=>by
  rw[J6.eq_2,if_neg (by simp;omega)];exact⟨_,rfl,by omega⟩
 |d+1,k,fuel+1,acc,b,hf,a=>by
  obtain⟨u,c,e⟩:=i0k n f d (k+1) fuel (acc ++ [(k:Int)]) (by omega) (by omega) (by simp;omega)
  rw[J6.eq_2,if_pos (by simp;omega),V2 (show k<10000 by omega) (by omega),F0 (by simp;omega),oB,c]
  exact⟨u,rfl,e⟩
theorem O0l{a:Type}{xs:List a}{k:Nat}(h:k<=xs.length):X06 xs 0 (k:Int)=some (xs.take k):=by
 unfold X06
 rw[if_pos (by omega)];rfl
theorem e0p:∀(n fuel:Nat) (left:List Int) (r:Int) (es:List N0),1<=n->n<=40->inN n es->es.length<=120->left.length=n->n<fuel ->
  ∃(a:j0) (e:List Int),Z5 fuel left r (n:Int) es=some (.inl (a,e))/\a.2.1<=(n:Int)/\(a.2.1=(n:Int)↔lf (R08 es) (n-1) 1=none)
 |n,0,left,r,es,f,g,b,u,w,hf=>by omega
 |n,fuel+1,left,r,es,f,g,b,u,w,hf=>by
  obtain⟨c,q,A,s⟩:=J0l r n es b (by omega) f (by omega)
  have o:=f0k r n es (by omega) c A g (n-1) 1 V0 (Nat.le_refl _) (by omega) (by omega) (E1 (by omega))
  have t:lf (λv=>decide (b02 (v:Int) es<2) || !s00 c (v:Int)) (n-1) 1=lf (R08 es) (n-1) 1:=N0g _ _ λk E F=>by
   unfold R08
   have:=s (k:Int) (by omega) (by omega)
   have i:=B04 es 0 (k:Int)
   congr 2
   cases hb:s00 c (k:Int)
   ·symm;exact decide_eq_false λh=>by rw[this.2 (i.1 h)]at hb;cases hb
   ·symm;exact decide_eq_true (i.2 (this.1 hb))
  rw[t]at o
  rw[Z5.eq_2,q,oB,show(1:Int)=((1:Nat):Int) from rfl,o,oB]
  cases hlf:lf (R08 es) (n-1) 1 with
  |none =>
   exact⟨(r,(n:Int),es),left,by rw[if_pos (by rfl)],iR _,by simp⟩
  |some k =>
   have D:=A09 _ _ _ hlf
   have p:decide ((k:Int)=0)=false:=decide_eq_false (by omega)
   have j:=d0p k n n 0 (by omega)
   have d:=g0k k n 0
   rw[if_pos (by omega)]at d
   have m:=h0k n k (by omega) n 0 V0 [] (by omega) (E1 (by omega)) (Nat.le_refl _)
   rw[show((0:Nat):Int)=0 from rfl,List.nil_append]at m
   have x:=C0n r n es (wo k n 0) b j (by omega) (by omega) (by omega)
   have y:=h0b (r,(n:Int),es) (wo k n 0)
   have l:=B0i (r:=r) j b
   have z:IntKind.i64.wrap ((k:Int)+((1:Nat):Int))=((k+1:Nat):Int):=by rw[w64 (by omega) (by omega)];rfl
   obtain⟨a,e,C,G,H⟩:=e0p (n-1) fuel (left.take k++left.drop (k+1)) r (o7 (r,(n:Int),es) (wo k n 0)).2.2 (by omega) (by omega) (by rw[d]at l;exact l) (by simp only at y;omega) (by simp only[List.length_append,List.length_take,List.length_drop];omega) (by omega)
   refine⟨a,e,?_,by omega,?_⟩
   ·simp only[p,Bool.false_eq_true,if_false,m,oB,x]
    rw[show o7 (r,(n:Int),es) (wo k n 0)=(r,((n-1:Nat):Int),(o7 (r,(n:Int),es) (wo k n 0)).2.2) by rw[←d];rfl]
    simp only[z]
    rw[O0l (by omega),oB,p08 (by omega),oB,F0 (by simp only[List.length_take,List.length_drop];omega),oB,C]
   ·constructor
    ·intro h;omega
    ·intro h;cases h
theorem F0n(g:j0)(j:U0 g=true):∃(b:j0) (c:List Int),g8 g=some (b,c)/\(b.2.1=g.2.1↔L8 g=none):=by
 obtain⟨f,l,m,h⟩:=J2 j
 have q:=o00 g (by omega)
 have o:=Q01 g (by omega)
 obtain⟨r,n,es⟩:=g
 simp only at l m h
 obtain⟨a,rfl⟩:∃ a:Nat,n=(a:Int):=⟨n.toNat,by omega⟩
 have p:inN a es:=λe i=>⟨(f e i).1,(f e i).2.1⟩
 obtain⟨u,d,k⟩:=i0k a (by omega) a 0 V0 [] (by omega) (E1 (by omega)) rfl
 obtain⟨b,c,s,v,t⟩:=e0p a V0 u r es (by omega) (by omega) p h k (E1 (by omega))
 refine⟨b,c,?_,?_⟩
 ·unfold g8
  rw[show((0:Nat):Int)=0 from rfl]at d
  simp only[o,oB,q,j,Bool.not_true,Bool.false_eq_true,if_false,d,s,l7]
 ·simp only[L8,Int.toNat_natCast];exact t
def K4(g:j0):Bool:=I0 g&&((L8 g).isNone&&B0e (S3 g) g)
theorem Z4{g:j0}(h:I0 g=true):U0 g=true:=by
 unfold I0 at h;exact(Bool.and_eq_true _ _▸h).1
theorem I0d{g:j0}(hf:I0 g=true):(S3 g).2.2.length<=120:=by
 have:=h0b g (R4 g)
 have:=(G1 hf).2.2.2
 unfold S3;omega
theorem s08(g:j0)(j:g.2.2.length<=140737488355328):p00 g=some (K4 g):=by
 have b:=z01 g j
 unfold K4
 by_cases hf:I0 g=true
 ·obtain⟨e,t,d,a⟩:=F0n g (Z4 hf)
  have f:=D0e g hf
  have h:=l0q (S3 g) g (by have:=I0d hf;omega)
  obtain⟨r,n,es⟩:=g
  obtain⟨u,m,s⟩:=e
  unfold p00
  simp only at a
  generalize S3 (r,n,es)=C at *
  obtain⟨o,p,q⟩:=C
  simp only[b,hf,oB,Bool.not_true,Bool.false_eq_true,if_false,d,f]
  by_cases c:m=n
  ·have:=a.1 c
   simp only[decide_eq_true c,Y1,oB,h,cond_true,this,Option.isNone_none,Bool.true_and]
  ·have l:(L8 (r,n,es)).isNone=false:=by
    cases hq:L8 (r,n,es)with
    |none=>exact absurd (a.2 hq) c
    |some k=>rfl
   simp only[decide_eq_false c,P3,oB,cond_false,l,Bool.false_and,Bool.and_false]
 ·have i:I0 g=false:=Bool.eq_false_iff.2 hf
  obtain⟨r,n,es⟩:=g
  unfold p00
  simp only[b,i,oB,Bool.not_false,if_true,Bool.false_and]
theorem j0k(g:j0)(j:g.2.2.length<=140737488355328):q02 g=some (K4 g):=by
 have a:=I00 g j
 unfold K4
 by_cases hf:I0 g=true
 ·have f:=H0r g (Z4 hf)
  have d:=E0e g hf
  have e:=E0d (S3 g) g (by have:=I0d hf;omega)
  obtain⟨p,q,c,s⟩:=G1 hf
  obtain⟨r,n,es⟩:=g
  unfold q02
  generalize S3 (r,n,es)=C at *
  obtain⟨l,m,o⟩:=C
  simp only[a,hf,oB,Y1,f,cond_true]
  cases hq:L8 (r,n,es)with
  |none =>
   simp only[F0 (show H0 (-1) by decide),oB,show decide ((-1:Int)<0)=true from rfl,Y1,d,e,cond_true,Option.isNone_none,Bool.true_and]
  |some k =>
   have i:=A09 _ _ _ hq
   simp only at c
   simp only at i
   have b:decide ((k:Int)<0)=false:=decide_eq_false (by omega)
   simp only[F0 (show H0 (k:Int) from c64 (by omega) (by omega)),oB,b,P3,cond_false,Option.isNone_some,Bool.false_and,Bool.and_false]
 ·have h:I0 g=false:=Bool.eq_false_iff.2 hf
  obtain⟨r,n,es⟩:=g
  unfold q02
  simp only[a,h,oB,P3,F0 (show H0 0 by decide),cond_false,Bool.false_and]
def C0u(l:f0a):Prop:=l.length<=140737488355328/\∀ e∈l,e.1.size<=140737488355328/\e.2.2.2.length<=140737488355328
def G0n(l:f0a):Prop:=l.length<=1048576/\∀ e∈l,e.1.size<=1048576/\e.2.2.2.length<=1048576
theorem G0n.ok{l:f0a}(h:G0n l):C0u l:=⟨by have:=h.1;omega,λe a=>by have:=h.2 e a;omega⟩
theorem P0l{e:Type}{c:e->e->Int}(h:W00 c):∀ {l:List e},(∀ i x y,l[i]?=some x->l[i+1]?=some y->c x y<0)->Asc c l
 | [],_=>List.Pairwise.nil
 | [x],_=>List.pairwise_singleton _ _
 |x::y::l,f=>by
  have j:Asc c (y::l):=P0l h λi a b k m=>f (i+1) a b (by simpa using k) (by simpa using m)
  have g:=f 0 x y rfl rfl
  refine List.pairwise_cons.2 ⟨λz d=>?_,j⟩
  rcases List.mem_cons.1 d with rfl|d
  ·exact g
  ·exact h.trans _ _ _ g ((List.pairwise_cons.1 j).1 z d)
theorem I0r{d:Type}{e:d->d->Int}:∀ {l:List d},Asc e l->∀ {i:Nat} {x y:d},l[i]?=some x->l[i+1]?=some y->e x y<0
 | [],_,i,x,y,b,_=>by simp at b
 |a::l,h,0,x,y,b,c=>by
  simp at b c;subst b
  exact(List.pairwise_cons.1 h).1 y (List.mem_of_getElem? c)
 |a::l,h,i+1,x,y,b,c=>I0r (List.pairwise_cons.1 h).2 (i:=i) (by simpa using b) (by simpa using c)
theorem J0r{r a:Int}{es:List N0}:∀ {d k:Nat},(∀ i,k<=i->i<k+d->t0r r a es i=false)->okE r a es d k=true
 |0,k,h=>rfl
 |d+1,k,h=>by
  simp only[okE,Bool.and_eq_true,Bool.not_eq_true']
  exact⟨h k (Nat.le_refl _) (by omega),J0r λi b c=>h i (by omega) (by omega)⟩
theorem r9(g:j0):U0 g=true↔inG g/\(1<=g.1/\g.1<=3)/\(1<=g.2.1/\g.2.1<=40)/\g.2.2.length<=120/\Asc P0 g.2.2:=by
 constructor
 ·intro h
  obtain⟨m,c,d,k⟩:=J2 h
  refine⟨m,c,d,k,P0l R3 λi x y a b=>?_⟩
  simp only[U0,Bool.and_eq_true]at h
  have l:=w0n h.1.1.1 (i+1) (Nat.zero_le _) (by have:=(List.getElem?_eq_some_iff.1 b).1;omega)
  rw[q0c b]at l
  simp only[Nat.add_sub_cancel,a,Bool.or_eq_false_iff]at l
  have:=l.2
  simp only[show decide (0<i+1)=true by simp,Bool.true_and,decide_eq_false_iff_not]at this
  have e:t0g x y=P0 x y:=rfl
  omega
 ·rintro⟨m,c,d,k,o⟩
  obtain⟨r,n,es⟩:=g
  simp only at c d k o
  simp only[U0,inR,Bool.and_eq_true,decide_eq_true_eq]
  refine⟨⟨⟨J0r λi _ s=>?_,c⟩,d⟩,k⟩
  have a:=A5 (show i<es.length by omega)
  generalize es[i]=e at a
  rw[q0c a]
  have q:=m e (List.mem_of_getElem? a)
  simp only at q
  simp only[Bool.or_eq_false_iff,Bool.not_eq_false',e05,inR,Bool.and_eq_true,decide_eq_true_eq]
  rw[w64 (by omega) (by omega)]
  refine⟨⟨⟨⟨by omega,by omega⟩,by omega,by omega⟩,by omega,by omega⟩,?_⟩
  cases i with
  |zero=>rfl
  |succ j =>
   have b:=A5 (show j<es.length by omega)
   generalize es[j]=f at b
   have:=I0r o b a
   simp only[Nat.add_sub_cancel,b]
   have p:t0g f e=P0 f e:=rfl
   simp[p];omega
theorem C0c{r:Int}{n:Int}{es:List N0}(d:1<=r/\r<=3)(c:1<=n/\n<=40)(f:es.length<=120)(b:inG (r,n,es)):U0 (r,n,o6 P0 [] es)=true:=by
 refine(r9 _).2 ⟨λe a=>b e ?_,d,c,?_,l03 R3 _ _ List.Pairwise.nil⟩
 ·rcases(W5 R3 e es []).1 a with h|h
  ·simp at h
  ·exact h
 ·have:=B03 es []
  simp only[List.length_nil]at this
  simp only;omega
def L06(a b:N0):List (Int×Int) :=
 bif decide (a.2.1=b.2.1)then(bif decide (a.1=b.1)then [(if b.2.2<a.2.2 then b.2.2 else a.2.2,if b.2.2>a.2.2 then b.2.2 else a.2.2)]else [])++(bif decide (a.2.2=b.2.2)then [(if b.1<a.1 then b.1 else a.1,if b.1>a.1 then b.1 else a.1)]else [])else []
def v02(a:N0):List N0->List (Int×Int)
 | []=>[]
 |b::r=>L06 a b++v02 a r
def M7:List N0->List (Int×Int)
 | []=>[]
 |a::r=>v02 a r++M7 r
theorem m0q(a b:N0):(L06 a b).length<=2:=by
 unfold L06
 cases decide (a.2.1=b.2.1)<;>cases decide (a.1=b.1)<;>cases decide (a.2.2=b.2.2)<;>simp
theorem J0d(a:N0):∀ l,(v02 a l).length<=2*l.length
 | []=>by simp[v02]
 |b::r=>by have:=m0q a b;have:=J0d a r;simp only[v02,List.length_append,List.length_cons];omega
def mvV(f:Int×Int)(v:Int):Int:=if v=f.2 then f.1 else if v>f.2 then v-1 else v
def mvE(f:Int×Int)(e:N0):N0:=(mvV f e.1,e.2.1,mvV f e.2.2)
def S01(g:j0)(f:Int×Int):j0:=(g.1,g.2.1-1,o6 P0 [] (g.2.2.map (mvE f)))
def okF(g:j0)(f:Int×Int):Prop:=0<=f.1/\f.1<f.2/\f.2<g.2.1
theorem S04{g:j0}{f:Int×Int}(k:U0 g=true)(hf:okF g f):U0 (S01 g f)=true:=by
 obtain⟨l,m,q,n,_⟩:=(r9 g).1 k
 obtain⟨o,f2,f3⟩:=hf
 refine C0c m ⟨by omega,by omega⟩ (by simpa using n) λe i=>?_
 obtain⟨h,j,rfl⟩:=List.mem_map.1 i
 obtain⟨b,c,d⟩:=l h j
 have a:∀ v:Int,0<=v/\v<g.2.1->0<=mvV f v/\mvV f v<g.2.1-1:=λv p=>by
  unfold mvV;split
  ·omega
  ·split<;>omega
 exact⟨a _ b,a _ c,d⟩
theorem Q0l{g:j0}(j:inG g){a:N0}(m:a∈g.2.2):∀ {l:List N0},(∀ b∈l,b∈g.2.2/\a≠b)->∀ f∈v02 a l,okF g f
 | [],_,f,hf=>by simp[v02]at hf
 |b::r,h,f,hf=>by
  rcases List.mem_append.1 (show f∈L06 a b++v02 a r from hf)with hf|hf
  ·have s:=j b (h b mS).1
   have q:=j a m
   have u:=(h b mS).2
   obtain⟨c,n,d⟩:=a
   obtain⟨e,p,i⟩:=b
   simp only at q s
   unfold L06 at hf
   simp only at hf
   by_cases c1:n=p
   ·have k : ¬ (c=e/\d=i):=λ⟨x,y⟩=>u (by rw[x,c1,y])
    simp only[c1,decide_true,cond_true,List.mem_append]at hf
    rcases hf with hf|hf
    ·by_cases c2:c=e
     ·simp only[c2,decide_true,cond_true,List.mem_singleton]at hf
      subst hf
      have:d≠i:=λy=>k ⟨c2,y⟩
      unfold okF
      simp only
      split<;>split<;>omega
     ·simp[c2]at hf
    ·by_cases c2:d=i
     ·simp only[c2,decide_true,cond_true,List.mem_singleton]at hf
      subst hf
      have:c≠e:=λy=>k ⟨y,c2⟩
      unfold okF
      simp only
      split<;>split<;>omega
     ·simp[c2]at hf
   ·simp[c1]at hf
  ·exact Q0l j m (λo t=>h o (mC _ t)) f hf
theorem R0l{g:j0}(i:inG g):∀ {l:List N0},(∀ b∈l,b∈g.2.2)->Asc P0 l->∀ f∈M7 l,okF g f
 | [],_,_,f,hf=>by simp[M7]at hf
 |a::r,h,d,f,hf=>by
  rcases List.mem_append.1 (show f∈v02 a r++M7 r from hf)with hf|hf
  ·refine Q0l i (h a mS) (λb c=>⟨h b (mC _ c),λe=>?_⟩) f hf
   have:=(List.pairwise_cons.1 d).1 b c
   rw[e,R3.refl]at this;omega
  ·exact R0l i (λb c=>h b (mC _ c)) (List.pairwise_cons.1 d).2 f hf
theorem Q03{g:j0}(a:U0 g=true):∀ f∈M7 g.2.2,okF g f:=by
 obtain⟨b,_,_,_,c⟩:=(r9 g).1 a
 exact R0l b (λ_ h=>h) c
def L01:Nat->j0->j0×List (Int×Int)
 |0,g=>(g,[])
 |n+1,g=>match M7 g.2.2 with
  | []=>(g,[])
  |f::_=>((L01 n (S01 g f)).1,f::(L01 n (S01 g f)).2)
def i4(g:j0):j0×List (Int×Int):=bif U0 g then L01 40 g else(g,[])
theorem B09:∀(n:Nat) {g:j0},U0 g=true->U0 (L01 n g).1=true
 |0,g,h=>h
 |n+1,g,h=>by
  unfold L01
  cases e:M7 g.2.2 with
  |nil=>exact h
  |cons f l=>exact B09 n (S04 h (Q03 h f (by rw[e];exact mS)))
theorem i0b:∀(n:Nat) {g:j0},U0 g=true->g.2.1<=(n:Int)+1->M7 (L01 n g).1.2.2 = []
 |0,g,h,a=>by
  cases e:M7 g.2.2 with
  |nil=>exact e
  |cons f l =>
   have:=Q03 h f (by rw[e];exact mS)
   unfold okF at this
   omega
 |n+1,g,h,a=>by
  unfold L01
  cases e:M7 g.2.2 with
  |nil=>exact e
  |cons f l=>exact i0b n (S04 h (Q03 h f (by rw[e];exact mS))) (by show g.2.1-1<=_;omega)
theorem n0q(a b:N0):L06 a b = []↔c06 a b=false:=by
 unfold L06 c06
 cases decide (a.2.1=b.2.1)<;>cases decide (a.1=b.1)<;>cases decide (a.2.2=b.2.2)<;>simp
theorem C0i(a:N0):∀ l,v02 a l = []↔∀ b∈l,c06 a b=false
 | []=>by simp[v02]
 |b::r=>by
  rw[v02,List.append_eq_nil_iff,n0q,C0i a r]
  simp
theorem K0d:∀ l,M7 l = []↔l.Pairwise λa b=>c06 a b=false
 | []=>by simp[M7]
 |a::r=>by rw[M7,List.append_eq_nil_iff,C0i,K0d r,List.pairwise_cons]
theorem d00(g:j0):I0 g=true↔U0 g=true/\M7 g.2.2 = []:=by
 unfold I0
 rw[Bool.and_eq_true,D0d,K0d]
theorem C09{g:j0}(h:U0 g=true):I0 (i4 g).1=true:=by
 have a:=(J2 h).2.2.1
 unfold i4
 rw[h]
 exact(d00 _).2 ⟨B09 40 h,i0b 40 h (by omega)⟩
theorem D0i(l:List N0)(a c e:Int)(s:l.length<=1000):∀(d k fuel:Nat) (acc:List F5),k+d=l.length->d<fuel->acc.length+2*d<=4000000 ->
  J5 l c a e fuel (k:Int) acc=some (acc++v02 (a,c,e) (l.drop k))
 |d,k,0,acc,m,hf,j=>by omega
 |0,k,fuel+1,acc,m,hf,j=>by
  rw[J5.eq_2,if_neg (by simp;omega),P1 (by omega)]
  simp[v02]
 |d+1,k,fuel+1,acc,m,hf,j=>by
  have n:k<l.length:=by omega
  have i:=A5 n
  generalize l[k]=b at i
  obtain⟨o,p,q⟩:=b
  have g:∀ f:List F5,f.length+2*d<=4000000->J5 l c a e fuel ((k+1:Nat):Int) f=some (f++v02 (a,c,e) (l.drop (k+1))):=λf h=>D0i l a c e s d (k+1) fuel f (by omega) (by omega) h
  rw[J5.eq_2,if_pos (by simp;omega),Z2 i,oB,V2 n (by omega),V1 i]
  simp only[v02,L06]
  cases decide (c=p)
  ·simp only[Bool.not_false,if_true,cond_false,List.nil_append]
   exact g acc (by omega)
  ·cases decide (a=o)<;>cases decide (e=q)
   all_goals simp only[Bool.not_true,Bool.false_eq_true,if_false,if_true,cond_true,cond_false,List.nil_append,List.append_nil]
   ·exact g acc (by omega)
   ·rw[F0 (by simp;omega),oB,g _ (by simp;omega)];simp
   ·rw[F0 (by simp;omega),oB,g _ (by simp;omega)];simp
   ·rw[F0 (by simp;omega),oB,F0 (by simp;omega),oB,g _ (by simp;omega)];simp
theorem E0i(l:List N0)(m:l.length<=1000):∀(d k fuel:Nat) (acc:List F5),k+d=l.length->d<fuel->acc.length+2000*d<=3000000 ->
  S9 l fuel (k:Int) acc=some (acc++M7 (l.drop k))
 |d,k,0,acc,h,hf,g=>by omega
 |0,k,fuel+1,acc,h,hf,g=>by
  rw[S9.eq_2,if_neg (by simp;omega),P1 (by omega)]
  simp[M7]
 |d+1,k,fuel+1,acc,h,hf,g=>by
  have i:k<l.length:=by omega
  have a:=A5 i
  generalize l[k]=b at a
  obtain⟨c,e,f⟩:=b
  have h0:=D0i (l.drop (k+1)) c e f (by simp;omega) (l.length-(k+1)) 0 V0 acc (by simp) (E1 (by omega)) (by omega)
  have j:=J0d (c,e,f) (l.drop (k+1))
  simp only[List.length_drop]at j
  rw[S9.eq_2,if_pos (by simp;omega),Z2 a,oB]
  simp only[V2 i (show l.length<=9223372036854775807 by omega)]
  rw[p08 (by omega),oB,show(0:Int)=((0:Nat):Int) from rfl,h0,oB,E0i l m d (k+1) fuel _ (by omega) (by omega) (by simp only[List.length_append,List.drop_zero,List.length_drop]at j ⊢;omega),V1 a,M7]
  simp
theorem F0i(l:List N0)(u:l.length<=1000)(i:Nat)(a c e:Int)(o:l[i]?=some (a,c,e)):∀(d k fuel:Nat) (acc:List F5),k+d=l.length->d<fuel->acc.length+2*d<=4000000 ->
  S4 l (i:Int) fuel (k:Int) acc=some (acc++v02 (a,c,e) (l.drop k))
 |d,k,0,acc,n,hf,m=>by omega
 |0,k,fuel+1,acc,n,hf,m=>by
  rw[S4.eq_2,if_neg (by simp;omega),P1 (by omega)]
  simp[v02]
 |d+1,k,fuel+1,acc,n,hf,m=>by
  have p:k<l.length:=by omega
  have j:=A5 p
  generalize l[k]=b at j
  obtain⟨q,s,t⟩:=b
  have g:∀ f:List F5,f.length+2*d<=4000000->S4 l (i:Int) fuel ((k+1:Nat):Int) f=some (f++v02 (a,c,e) (l.drop (k+1))):=λf h=>F0i l u i a c e o d (k+1) fuel f (by omega) (by omega) h
  rw[S4.eq_2,if_pos (by simp;omega),Z2 o,oB]
  simp only[]
  rw[Z2 j,oB,V2 p (by omega),V1 j]
  simp only[v02,L06]
  cases decide (c=s)
  ·simp only[Bool.false_eq_true,if_false,cond_false,List.nil_append]
   exact g acc (by omega)
  ·cases decide (a=q)<;>cases decide (e=t)
   all_goals simp only[Bool.not_true,Bool.false_eq_true,if_false,if_true,cond_true,cond_false,List.nil_append,List.append_nil]
   ·exact g acc (by omega)
   ·rw[F0 (by simp;omega),oB,g _ (by simp;omega)];simp
   ·rw[F0 (by simp;omega),oB,g _ (by simp;omega)];simp
   ·rw[F0 (by simp;omega),oB,F0 (by simp;omega),oB,g _ (by simp;omega)];simp
theorem G0i(l:List N0)(j:l.length<=1000):∀(d k fuel:Nat) (acc:List F5),k+d=l.length->d<fuel->acc.length+2000*d<=3000000 ->
  j8 l fuel (k:Int) acc=some (acc++M7 (l.drop k))
 |d,k,0,acc,h,hf,g=>by omega
 |0,k,fuel+1,acc,h,hf,g=>by
  rw[j8.eq_2,if_neg (by simp;omega),P1 (by omega)]
  simp[M7]
 |d+1,k,fuel+1,acc,h,hf,g=>by
  have i:k<l.length:=by omega
  have a:=A5 i
  generalize l[k]=b at a
  obtain⟨c,e,f⟩:=b
  have h0:=F0i l j k c e f a (l.length-(k+1)) (k+1) V0 acc (by omega) (E1 (by omega)) (by omega)
  have m:=J0d (c,e,f) (l.drop (k+1))
  simp only[List.length_drop]at m
  rw[j8.eq_2,if_pos (by simp;omega),V2 i (by omega),h0,oB,G0i l j d (k+1) fuel _ (by omega) (by omega) (by simp only[List.length_append,List.length_drop]at m ⊢;omega),V1 a,M7]
  simp
theorem S0l(g:j0)(a:g.2.2.length<=1000):R03 g=some (M7 g.2.2):=by
 obtain⟨r,n,es⟩:=g
 unfold R03
 simp only
 rw[show(0:Int)=((0:Nat):Int) from rfl,E0i es a es.length 0 V0 [] (by omega) (E1 (by simp only at a;omega)) (by simp only at a;simp;omega)]
 rfl
theorem T0l(g:j0)(a:g.2.2.length<=1000):B02 g=some (M7 g.2.2):=by
 obtain⟨r,n,es⟩:=g
 unfold B02
 simp only
 rw[show(0:Int)=((0:Nat):Int) from rfl,G0i es a es.length 0 V0 [] (by omega) (E1 (by simp only at a;omega)) (by simp only at a;simp;omega)]
 rfl
def C03(g:j0):F5×Bool:=bif U0 g then(match M7 g.2.2 with
 | []=>((0,0),false)
 |f::_=>(f,true))else((0,0),false)
theorem S0e(g:j0)(c:g.2.2.length<=140737488355328):v00 g=some (C03 g):=by
 have b:=o00 g c
 have a:=S0l g
 unfold C03
 cases hg:U0 g with
 |false =>
  obtain⟨r,n,es⟩:=g
  unfold v00
  simp only[b,hg,oB];rfl
 |true =>
  have a:=a (by have:=(J2 hg).2.2.2;omega)
  obtain⟨r,n,es⟩:=g
  unfold v00
  simp only[b,hg,a,oB,cond_true]
  simp only at a
  cases M7 es with
  |nil=>rfl
  |cons f l =>
   rw[if_neg (by simp),if_neg (by simp;omega),Y06 rfl]
   rfl
theorem T0e(g:j0)(c:g.2.2.length<=140737488355328):t00 g=some (C03 g):=by
 have b:=L7 g c
 have a:=T0l g
 unfold C03
 cases hg:U0 g with
 |false =>
  obtain⟨r,n,es⟩:=g
  unfold t00
  simp only[b,hg,oB];rfl
 |true =>
  have a:=a (by have:=(J2 hg).2.2.2;omega)
  obtain⟨r,n,es⟩:=g
  unfold t00
  simp only[b,hg,a,oB,cond_true]
  simp only at a
  cases M7 es with
  |nil=>rfl
  |cons f l =>
   rw[if_neg (by simp),if_neg (by simp;omega),Y06 rfl]
   rfl
theorem f0p(v:Int)(f:F5)(d:0<=v/\v<1000)(hf:0<=f.1/\f.1<f.2):N02 v f=some (mvV f v):=by
 obtain⟨a,b⟩:=f
 simp only at hf
 unfold N02 mvV
 simp only
 by_cases c:v=b
 ·rw[if_pos (by simp[c]),if_neg (by simp;omega),if_pos c]
 ·rw[if_neg (by simp[c]),if_neg c]
  by_cases c2:v>b
  ·rw[if_pos (by simp[c2]),if_pos c2,w64 (by omega) (by omega)]
  ·rw[if_neg (by simp;omega),if_neg c2]
theorem U0l(v:Int)(f:F5)(d:0<=v/\v<1000):U6 v f=some (mvV f v):=by
 obtain⟨a,b⟩:=f
 unfold U6 mvV
 simp only
 by_cases c:v=b
 ·rw[if_pos (by simp[c]),if_pos c]
 ·rw[if_neg (by simp[c]),if_neg c]
  by_cases c2:v>b
  ·rw[if_pos (by simp[c2]),if_pos c2,w64 (by omega) (by omega)]
  ·rw[if_neg (by simp;omega),if_neg c2]
theorem k0k{f:F5}{v:Int}(a:0<=v/\v<1000)(hf:0<=f.1/\f.1<1000):H0 (mvV f v):=by
 unfold mvV
 split
 ·exact⟨by omega,by omega⟩
 ·split
  ·exact⟨by omega,by omega⟩
  ·exact⟨by omega,by omega⟩
theorem V0l(es:List N0)(f:F5)(r n:Int)(s:es.length<=1000)(o:∀ e∈es,(0<=e.1/\e.1<1000)/\(0<=e.2.2/\e.2.2<1000))(hf:0<=f.1/\f.1<f.2)(q:f.2<1000):∀(d k fuel:Nat) (acc:List N0),k+d=es.length->d<fuel->acc.length<=k ->
  c5 es f.1 f.2 fuel (k:Int) r n acc=some (r,n,o6 P0 acc ((es.drop k).map (mvE f)))
 |d,k,0,acc,l,m,j=>by omega
 |0,k,fuel+1,acc,l,m,j=>by
  rw[c5.eq_2,if_neg (by simp;omega),P1 (by omega)]
  rfl
 |d+1,k,fuel+1,acc,l,m,j=>by
  have c:k<es.length:=by omega
  have g:=A5 c
  have a:=o _ (List.getElem_mem c)
  generalize es[k]=b at g a
  obtain⟨h,p,i⟩:=b
  simp only at a
  have t:=A05 (mvE f (h,p,i)) acc
  rw[c5.eq_2,if_pos (by simp;omega),Z2 g,oB]
  simp only[]
  rw[f0p h (f.1,f.2) a.1 hf,oB,F0 (k0k a.1 ⟨hf.1,by show f.1<1000;omega⟩),oB,f0p i (f.1,f.2) a.2 hf,oB,F0 (k0k a.2 ⟨hf.1,by show f.1<1000;omega⟩),oB,
   q08 acc _ (by omega),oB,V2 c (by omega),V1 g,List.map_cons]
  exact V0l es f r n s o hf q d (k+1) fuel _ (by omega) (by omega) (Nat.le_trans t (by omega))
theorem W0l{g:j0}{f:F5}(d:U0 g=true)(hf:okF g f):l8 g f=some (S01 g f,true):=by
 obtain⟨k,o,l,m⟩:=J2 d
 have i:=L7 g (by omega)
 obtain⟨c,f2,f3⟩:=hf
 obtain⟨r,n,es⟩:=g
 obtain⟨a,b⟩:=f
 simp only at c f2 f3 l m
 have h:=V0l es (a,b) r (IntKind.i64.wrap (n-1)) (by omega) (λe j=>by
  have:=k e j
  simp only at this
  exact⟨⟨by omega,by omega⟩,by omega,by omega⟩) ⟨c,f2⟩ (by simp only;omega) es.length 0 V0 [] (by omega) (E1 (by omega)) (Nat.le_refl _)
 unfold l8
 simp only[i,d,oB]
 rw[if_neg (by simp;omega),show(0:Int)=((0:Nat):Int) from rfl,h,w64 (by omega) (by omega)]
 rfl
theorem X0l(es:List N0)(f:F5)(s:es.length<=1000)(n:∀ e∈es,(0<=e.1/\e.1<1000)/\(0<=e.2.2/\e.2.2<1000))(hf:0<=f.1/\f.1<1000):∀(d k fuel:Nat),k+d=es.length->d<fuel ->
  d5 es f.1 f.2 fuel (k:Int) ((es.take k).map (mvE f)++es.drop k)=some (es.map (mvE f))
 |d,k,0,j,l=>by omega
 |0,k,fuel+1,j,l=>by
  rw[d5.eq_2,if_neg (by simp;omega),P1 (by omega),List.append_nil,List.take_of_length_le (by omega)]
 |d+1,k,fuel+1,j,l=>by
  have g:k<es.length:=by omega
  have c:=A5 g
  have a:=n _ (List.getElem_mem g)
  generalize es[k]=b at c a
  have m:((es.take k).map (mvE f)).length=k:=by simp;omega
  have q:((es.take k).map (mvE f)++es.drop k)[k]?=some b:=by
   rw[List.getElem?_append_right (by omega),m,V1 c];simp
  have t:∀ y,((es.take k).map (mvE f)++es.drop k).set k y=(es.take k).map (mvE f)++y::es.drop (k+1):=λy=>by
   rw[List.set_append_right _ _ (by omega),m,V1 c];simp
  obtain⟨h,p,i⟩:=b
  simp only at a
  have e:(es.take (k+1)).map (mvE f)++es.drop (k+1)=(es.take k).map (mvE f)++mvE f (h,p,i)::es.drop (k+1):=by
   rw[P0o c];simp
  have o:=X0l es f s n hf d (k+1) fuel (by omega) (by omega)
  rw[e]at o
  rw[d5.eq_2,if_pos (by simp;omega),Z2 q,oB]
  simp only[]
  rw[U0l h (f.1,f.2) a.1,oB,F0 (k0k a.1 hf),oB,U0l i (f.1,f.2) a.2,oB,F0 (k0k a.2 hf),oB]
  simp only[oB]
  rw[show((k:Nat):Int).toNat=k from Int.toNat_natCast k,t,V2 g (by omega)]
  exact o
theorem Y0l{g:j0}{f:F5}(d:U0 g=true)(hf:okF g f):n8 g f=some (S01 g f,true):=by
 obtain⟨l,p,m,o⟩:=J2 d
 have i:=o00 g (by omega)
 have j:=Q01 g (by omega)
 obtain⟨c,f2,f3⟩:=hf
 obtain⟨r,n,es⟩:=g
 obtain⟨a,b⟩:=f
 simp only at c f2 f3 m o
 have h:=X0l es (a,b) (by omega) (λe k=>by
  have:=l e k
  simp only at this
  exact⟨⟨by omega,by omega⟩,by omega,by omega⟩) ⟨c,by simp only;omega⟩ es.length 0 V0 (by omega) (E1 (by omega))
 simp only[List.take_zero,List.map_nil,List.nil_append,List.drop_zero]at h
 unfold n8
 simp only[i,j,d,oB]
 rw[if_neg (by simp;omega),show(0:Int)=((0:Nat):Int) from rfl,h,oB,z0c _ (by simp;omega),oB,w64 (by omega) (by omega)]
 rfl
def D02(g:j0):j0×F5×Bool:=bif U0 g then(match M7 g.2.2 with
 | []=>(g,(0,0),false)
 |f::_=>(S01 g f,f,true))else(g,(0,0),false)
theorem D09(g:j0)(j:g.2.2.length<=1099511627776):g02 g=some (D02 g):=by
 have c:=T0e g (by omega)
 have d:=n03 g j
 have i:∀ f,U0 g=true->okF g f->l8 g f=some (S01 g f,true):=λf a b=>W0l a b
 have h:U0 g=true->∀ f∈M7 g.2.2,okF g f:=Q03
 unfold C03 at c
 unfold D02
 obtain⟨r,n,es⟩:=g
 unfold g02
 simp only[c,oB]
 cases hg:U0 (r,n,es)with
 |false=>simp only[cond_false,Bool.not_false,if_true,d,oB]
 |true =>
  simp only[cond_true]
  simp only at h
  cases e:M7 es with
  |nil=>simp only[Bool.not_false,if_true,d,oB]
  |cons f l =>
   simp only[Bool.not_true,Bool.false_eq_true,if_false,i f hg (h hg f (by rw[e];exact mS)),oB]
theorem E09(g:j0)(j:g.2.2.length<=1099511627776):k02 g=some (D02 g):=by
 have c:=S0e g (by omega)
 have d:=Q01 g j
 have i:∀ f,U0 g=true->okF g f->n8 g f=some (S01 g f,true):=λf a b=>Y0l a b
 have h:U0 g=true->∀ f∈M7 g.2.2,okF g f:=Q03
 unfold C03 at c
 unfold D02
 obtain⟨r,n,es⟩:=g
 unfold k02
 simp only[c,oB]
 cases hg:U0 (r,n,es)with
 |false=>simp only[cond_false,Bool.not_false,if_true,d,oB]
 |true =>
  simp only[cond_true]
  simp only at h
  cases e:M7 es with
  |nil=>simp only[Bool.not_false,if_true,d,oB]
  |cons f l =>
   simp only[Bool.not_true,Bool.false_eq_true,if_false,i f hg (h hg f (by rw[e];exact mS)),oB]
def D0u:(j0×M9) ⊕ (Int×Int×Z0×(List F5))->Option (j0×M9):=λX=>l7 X (λS=>match S with
 |(a,b,c,e)=>some ((a,b,c),e))
theorem O0g:∀(d k fuel:Nat) (g:j0) (acc:List F5),k+d=40->d<fuel->U0 g=true->acc.length=k ->
  (T6 fuel (k:Int) g.1 g.2.1 g.2.2 acc).bind D0u=some ((L01 d g).1,acc++(L01 d g).2)
 |d,k,0,g,acc,h,hf,a,c=>by omega
 |0,k,fuel+1,g,acc,h,hf,a,c=>by
  rw[T6.eq_2,if_neg (by simp;omega)]
  simp[D0u,l7,L01]
 |d+1,k,fuel+1,g,acc,h,hf,a,c=>by
  have b:=D09 g (by have:=(J2 a).2.2.2;omega)
  have i:=Q03 a
  unfold D02 at b
  rw[a]at b
  simp only[cond_true]at b
  rw[T6.eq_2,if_pos (by simp;omega),show(g.1,g.2.1,g.2.2)=g from rfl,b]
  unfold L01
  cases e:M7 g.2.2 with
  |nil=>simp[D0u,l7]
  |cons f l =>
   have j:=O0g d (k+1) fuel (S01 g f) (acc ++ [f]) (by omega) (by omega) (S04 a (i f (by rw[e];exact mS))) (by simp[c])
   simp only[oB,Bool.not_true,Bool.false_eq_true,if_false]
   rw[F0 (by simp;omega),oB,V2 (show k<1000 by omega) (by omega)]
   refine j.trans ?_
   simp
theorem C04(g:j0)(b:g.2.2.length<=1099511627776):N7 g=some (i4 g):=by
 have a:=D09 g b
 have c:=n03 g b
 have d:=O0g 40 0 V0 g [] rfl (E1 (by omega))
 unfold i4
 obtain⟨r,n,es⟩:=g
 unfold N7
 simp only[c,oB]
 cases hg:U0 (r,n,es)with
 |false =>
  unfold D02 at a
  rw[hg]at a
  simp only[cond_false]at a
  rw[show V0=(V0-1)+1 from rfl,T6.eq_2,if_pos (by simp),a]
  rfl
 |true=>exact d hg rfl
theorem P0g:∀(d fuel:Nat) (g:j0) (acc:List F5),d<fuel->U0 g=true->M7 (L01 d g).1.2.2 = []->acc.length+d<=1000 ->
  o8 fuel g.1 g.2.1 g.2.2 acc=some (.inl ((L01 d g).1,acc++(L01 d g).2))
 |d,0,g,acc,hf,a,c,j=>by omega
 |d,fuel+1,g,acc,hf,a,c,j=>by
  have b:=E09 g (by have:=(J2 a).2.2.2;omega)
  have i:=Q03 a
  unfold D02 at b
  rw[a]at b
  simp only[cond_true]at b
  rw[o8.eq_2,show(g.1,g.2.1,g.2.2)=g from rfl,b]
  cases e:M7 g.2.2 with
  |nil =>
   have h:L01 d g=(g,[]):=by
    cases d with
    |zero=>rfl
    |succ d=>unfold L01;rw[e]
   rw[h]
   simp
  |cons f l =>
   cases d with
   |zero=>exact absurd e (by rw[show M7 g.2.2 = [] from c];simp)
   |succ d =>
    have h:L01 (d+1) g=((L01 d (S01 g f)).1,f::(L01 d (S01 g f)).2):=by
     show(match M7 g.2.2 with | []=>(g,[])|f::_=>((L01 d (S01 g f)).1,f::(L01 d (S01 g f)).2))=_
     rw[e]
    rw[h]at c ⊢
    have k:=P0g d fuel (S01 g f) (acc ++ [f]) (by omega) (S04 a (i f (by rw[e];exact mS))) c (by simp;omega)
    simp only[oB,Bool.not_true,Bool.false_eq_true,if_false]
    rw[F0 (by simp;omega),oB]
    refine k.trans ?_
    simp
theorem Z06(g:j0)(c:g.2.2.length<=1099511627776):M8 g=some (i4 g):=by
 have b:=E09 g c
 have d:=Q01 g c
 have e:=P0g 40 V0 g [] (E1 (by omega))
 have f:U0 g=true->M7 (L01 40 g).1.2.2 = []:=λa=>i0b 40 a (by have:=(J2 a).2.2.1;omega)
 unfold i4
 obtain⟨r,n,es⟩:=g
 unfold M8
 simp only[d,oB]
 cases a:U0 (r,n,es)with
 |false =>
  unfold D02 at b
  rw[a]at b
  simp only[cond_false]at b
  rw[show V0=(V0-1)+1 from rfl,o8.eq_2,b]
  rfl
 |true =>
  have h:=e a (f a) (by simp)
  simp only at h
  rw[h]
  rfl
theorem u04{g:j0}(h:U0 g=true):Asc P0 g.2.2:=((r9 g).1 h).2.2.2.2
def stp(u x v:Int):N0:=if x<0 then(v,-x,u)else(u,x,v)
def B01(v:Int):List Int->Int->Int->List N0
 | [],_,_=>[]
 | [x],u,_=>[stp u x v]
 |x::y::r,u,n=>stp u x n::B01 v (y::r) n (n+1)
theorem F07(v:Int):∀(w:List Int) (u n:Int),(B01 v w u n).length=w.length
 | [],_,_=>rfl
 | [x],_,_=>rfl
 |x::y::r,u,n=>by simp only[B01,List.length_cons,F07 v (y::r)]
theorem H0n(u x v:Int)(a:Y4 x):C02 u x v=some (stp u x v):=by
 unfold C02 stp
 by_cases c:x<0
 ·rw[if_pos (by simp[c]),if_pos c,y0e a.1 a.2]
 ·rw[if_neg (by simp;omega),if_neg c]
theorem l0k(w:List Int)(v:Int)(r:Int)(e:∀ x∈w,Y4 x)(l:w.length<=1000):∀(d k fuel:Nat) (u n:Int) (es:List N0),k+d=w.length->d<fuel->0<=n->n<=1000+k->es.length<=1000+k ->
  V6 w v fuel u (k:Int) r n es=some (r,n+((d-1:Nat):Int),es++B01 v (w.drop k) u n)
 |d,k,0,u,n,es,j,hf,h0,h,i=>by omega
 |0,k,fuel+1,u,n,es,j,hf,h0,h,i=>by
  rw[V6.eq_2,if_neg (by simp;omega),P1 (by omega)]
  simp[B01]
 |d+1,k,fuel+1,u,n,es,j,hf,h0,h,i=>by
  have a:k<w.length:=by omega
  have f:=A5 a
  have b:=e _ (List.getElem_mem a)
  generalize w[k]=x at f b
  rw[V6.eq_2,if_pos (by simp;omega),Z2 f,oB,v09 (by omega) (by omega),V1 f]
  by_cases c:k+1<w.length
  ·rw[if_pos (by simp;omega),H0n u x n b,oB]
   have m:=A5 c
   generalize w[k+1]=y at m
   have g:=l0k w v r e l d (k+1) fuel n (n+1) (es ++ [stp u x n]) (by omega) (by omega) (by omega) (by omega) (by simp;omega)
   simp only[]
   rw[F0 (by simp;omega),oB,V2 a (by omega),w64 (show(-9223372036854775808:Int)<=n+1 by omega) (by omega)]
   refine g.trans ?_
   rw[V1 m]
   simp only[B01,List.append_assoc,List.singleton_append]
   congr 3
   omega
  ·have o:d=0:=by omega
   subst o
   rw[if_neg (by simp;omega),H0n u x v b,oB]
   have g:=l0k w v r e l 0 (k+1) fuel v n (es ++ [stp u x v]) (by omega) (by omega) h0 (by omega) (by simp;omega)
   simp only[]
   rw[F0 (by simp;omega),oB,V2 a (by omega)]
   refine g.trans ?_
   rw[P1 (show k+1=w.length by omega)]
   simp[B01]
theorem m0k(w:List Int)(v:Int)(r:Int)(h:∀ x∈w,Y4 x/\x≠0)(o:w.length<=1000):∀(d k fuel:Nat) (u n:Int) (es:List N0),k+d=w.length->d<fuel->0<=n->n<=1000+k->es.length<=1000+k ->
  I5 w v fuel u (k:Int) r n es=some (r,n+((d-1:Nat):Int),o6 P0 es (B01 v (w.drop k) u n))
 |d,k,0,u,n,es,m,hf,h0,j,l=>by omega
 |0,k,fuel+1,u,n,es,m,hf,h0,j,l=>by
  rw[I5.eq_2,if_neg (by simp;omega),P1 (by omega)]
  simp[B01,o6]
 |d+1,k,fuel+1,u,n,es,m,hf,h0,j,l=>by
  have f:k<w.length:=by omega
  have g:=A5 f
  have b:=h _ (List.getElem_mem f)
  generalize w[k]=x at g b
  have p:∀ e,(X00 P0 e es).length<=1000+(k+1):=λe=>by have:=A05 e es;omega
  rw[I5.eq_2,if_pos (by simp;omega),V1 g]
  by_cases c:k+1<w.length
  ·have i:=A5 c
   generalize w[k+1]=y at i
   have a:=m0k w v r h o d (k+1) fuel n (n+1) (X00 P0 (stp u x n) es) (by omega) (by omega) (by omega) (by omega) (p _)
   rw[V1 i]at a
   rw[V2 f (by omega),if_pos (by simp;omega),Z2 g,oB,w64 (show(-9223372036854775808:Int)<=n+1 by omega) (by omega),V1 i]
   have fin:some (r,n+1+((d-1:Nat):Int),o6 P0 (X00 P0 (stp u x n) es) (B01 v (y::w.drop (k+1+1)) n (n+1)))=some (r,n+((d+1-1:Nat):Int),o6 P0 es (B01 v (x::y::w.drop (k+1+1)) u n)):=by
    simp only[B01,o6]
    congr 3
    omega
   by_cases c2:x>0
   ·have e:stp u x n=(u,x,n):=by unfold stp;rw[if_neg (by omega)]
    rw[if_pos (by simp[c2])]
    simp only[oB]
    rw[q08 es _ (by omega),oB,←e]
    exact a.trans fin
   ·have e:stp u x n=(n,-x,u):=by unfold stp;rw[if_pos (by omega)]
    rw[if_neg (by simp;omega)]
    simp only[oB]
    rw[y0e b.1.1 b.1.2,q08 es _ (by omega),oB,←e]
    exact a.trans fin
  ·have q:d=0:=by omega
   subst q
   have a:=m0k w v r h o 0 (k+1) fuel v n (X00 P0 (stp u x v) es) (by omega) (by omega) h0 (by omega) (p _)
   rw[P1 (show k+1=w.length by omega)]at a ⊢
   rw[V2 f (by omega),if_neg (by simp;omega),Z2 g,oB]
   have fin:some (r,n+((0-1:Nat):Int),o6 P0 (X00 P0 (stp u x v) es) (B01 v [] v n))=some (r,n+((0+1-1:Nat):Int),o6 P0 es (B01 v [x] u n)):=by
    simp[B01,o6]
   by_cases c2:x>0
   ·have e:stp u x v=(u,x,v):=by unfold stp;rw[if_neg (by omega)]
    rw[if_pos (by simp[c2])]
    simp only[oB]
    rw[q08 es _ (by omega),oB,←e]
    exact a.trans fin
   ·have e:stp u x v=(v,-x,u):=by unfold stp;rw[if_pos (by omega)]
    rw[if_neg (by simp;omega)]
    simp only[oB]
    rw[y0e b.1.1 b.1.2,q08 es _ (by omega),oB,←e]
    exact a.trans fin
theorem Q0g{es p:List N0}(a:Asc P0 es):o6 P0 [] (es++p)=o6 P0 es p :=
 i08 R3 (l03 R3 _ _ .nil) (l03 R3 _ _ a) λx=>by
  rw[W5 R3,W5 R3];simp
def M1(g:j0)(u:Int)(w:List Int)(v:Int):j0×Bool :=
 bif !w.isEmpty&&decide (g.2.1+(w.length:Int)-1<=40)&&decide (g.2.2.length+w.length<=120)then((g.1,g.2.1+((w.length-1:Nat):Int),o6 P0 g.2.2 (B01 v w u g.2.1)),true)else(g,false)
theorem t08{r:Int}{w:List Int}(h:M3 r w=true):w.length<=24/\∀ x∈w,Y4 x/\x≠0 /\ -r<=x/\x<=r:=by
 have a:=h
 simp only[M3,Bool.and_eq_true,decide_eq_true_eq]at a
 refine⟨a.1.2,λx c=>?_⟩
 obtain⟨i,b⟩:=List.getElem?_of_mem c
 have:=I06 h b
 exact⟨⟨⟨by omega,by omega⟩,by omega⟩,this.2.2⟩
theorem K0a{g:j0}{u v:Int}{w:List Int}(d:U0 g=true)(f:0<=u/\u<g.2.1)(i:0<=v/\v<g.2.1)(j:M3 g.1 w=true):J00 g u w v=some (M1 g u w v):=by
 obtain⟨y,z,p,q⟩:=J2 d
 obtain⟨wl,k⟩:=t08 j
 have l:=L7 g (by omega)
 have m:=n03 g (by omega)
 have b:=j08 g.1 w (by omega)
 obtain⟨r,n,es⟩:=g
 simp only at p q f i b
 have o:IntKind.i64.wrap (n-1)=n-1:=w64 (by omega) (by omega)
 have e:∀ x:Int,0<=x/\x<n->inR 0 (n-1) x=true:=λx a=>by simp[inR];omega
 have h:=m0k w v r (λx a=>⟨(k x a).1,(k x a).2.1⟩) (by omega) w.length 0 V0 u n es (by omega) (E1 (by omega)) (by omega) (by omega) (by omega)
 unfold J00 M1
 simp only[l,m,d,oB,Bool.not_true,Bool.not_false,Y1,cond_false,o,r04,e u f,e v i,b,j]
 rw[w64 (show(-9223372036854775808:Int)<=n+((w.length:Nat):Int) by omega) (by omega),w64 (show(-9223372036854775808:Int)<=n+((w.length:Nat):Int)-1 by omega) (by omega),w64 (show(-9223372036854775808:Int)<=((es.length:Nat):Int)+((w.length:Nat):Int) by omega) (by omega)]
 by_cases c:(w≠[]/\n+(w.length:Int)-1<=40)/\es.length+w.length<=120
 ·have t:w.length≠0:=by simpa using c.1.1
  rw[if_neg (by simp only[Bool.not_eq_true];simp[c.1.1];omega),show(0:Int)=((0:Nat):Int) from rfl,h,oB]
  rw[show(!w.isEmpty&&decide (n+(w.length:Int)-1<=40)&&decide (es.length+w.length<=120))=true by simp[c.1.1,c.1.2,c.2]]
  rfl
 ·rw[show(!w.isEmpty&&decide (n+(w.length:Int)-1<=40)&&decide (es.length+w.length<=120))=false by
   rw[←Bool.not_eq_true];simpa using c]
  rw[if_pos ?_]
  ·rfl
  ·by_cases d1:w = []
   ·simp[d1]
   ·by_cases d2:n+(w.length:Int)-1<=40
    ·have s : ¬ es.length+w.length<=120:=λh=>c ⟨⟨d1,d2⟩,h⟩
     have:decide (((es.length:Nat):Int)+((w.length:Nat):Int)>120)=true:=by simp;omega
     rw[this];simp
    ·have:decide (n+((w.length:Nat):Int)-1>40)=true:=by simp;omega
     rw[this];simp
theorem U0t{g:j0}(a:U0 g=true){u:Int}(b:0<=u/\u<g.2.1):S6 g u=some true:=by
 obtain⟨d,e,c,f⟩:=J2 a
 obtain⟨r,n,es⟩:=g
 simp only at c b
 unfold S6
 simp only[Y02]
 rw[w64 (by omega) (by omega)]
 simp[inR];omega
theorem L0a{g:j0}{u v:Int}{w:List Int}(a:U0 g=true)(e:0<=u/\u<g.2.1)(f:0<=v/\v<g.2.1)(i:M3 g.1 w=true):K00 g u w v=some (M1 g u w v):=by
 obtain⟨z,A,p,q⟩:=J2 a
 obtain⟨wl,s⟩:=t08 i
 have j:=o00 g (by omega)
 have k:=Q01 g (by omega)
 have b:=l08 g.1 w (by omega)
 have l:=U0t a e
 have m:=U0t a f
 have d:=u04 a
 obtain⟨r,n,es⟩:=g
 simp only at p q e f b d
 have h:=l0k w v r (λx o=>(s x o).1) (by omega) w.length 0 V0 u n es (by omega) (E1 (by omega)) (by omega) (by omega) (by omega)
 have y:=F07 v w u n
 unfold K00 M1
 simp only[j,k,a,oB,Bool.not_true,Bool.not_false,Y1,cond_false,l,m]
 rw[w64 (show(-9223372036854775808:Int)<=n+((w.length:Nat):Int) by omega) (by omega),w64 (show(-9223372036854775808:Int)<=n+((w.length:Nat):Int)-1 by omega) (by omega),w64 (show(-9223372036854775808:Int)<=((es.length:Nat):Int)+((w.length:Nat):Int) by omega) (by omega)]
 by_cases d1:w = []
 ·subst d1
  simp[chk]
 rw[show decide (((w.length:Nat):Int)=0)=false by simp[d1],show(!false)=true from rfl,Y1,b,oB,i]
 by_cases c:n+(w.length:Int)-1<=40/\es.length+w.length<=120
 ·rw[if_neg (by simp only[Bool.not_eq_true];simp;omega),show(0:Int)=((0:Nat):Int) from rfl,h,oB]
  rw[show(!w.isEmpty&&decide (n+(w.length:Int)-1<=40)&&decide (es.length+w.length<=120))=true by simp[d1,c.1,c.2]]
  simp only[List.drop_zero,cond_true]
  rw[z0c _ (by simp;omega),Q0g d]
  rfl
 ·rw[show(!w.isEmpty&&decide (n+(w.length:Int)-1<=40)&&decide (es.length+w.length<=120))=false by
   rw[←Bool.not_eq_true];simp only[Bool.and_eq_true,decide_eq_true_eq,Bool.not_eq_true'];omega]
  rw[if_pos ?_]
  ·rfl
  ·by_cases d2:n+(w.length:Int)-1<=40
   ·have t : ¬ es.length+w.length<=120:=λh=>c ⟨d2,h⟩
    have:decide (((es.length:Nat):Int)+((w.length:Nat):Int)>120)=true:=by simp;omega
    rw[this];simp
   ·have:decide (n+((w.length:Nat):Int)-1>40)=true:=by simp;omega
    rw[this];simp
end Go.Proofs.YtmgikbbmpnbbjaaGreat
