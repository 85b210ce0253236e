/- Texts of the claim, joined: Plain laws: words and presentations, as the spec and the cod and others. -/
import Derived.Test.YtcpjomkcdlggaaaGreatPart21
import Derived.Test.YtcpjomkcdlggaaaGreatH33
import Derived.Test.YtcpjomkcdlggaaaGreatH36
import Derived.Test.YtcpjomkcdlggaaaGreatPart22
namespace Go.Proofs.YtcpjomkcdlggaaaGreat
set_option linter.all false
open Go.H
open IntKind (i64)
def X0{n:Nat}(h:n<=140737488355328):n<P0:=by unfold P0;omega
theorem D0{p:Prop}[Decidable p](h:p):grd p=some ():=by unfold grd;rw[if_pos h]
theorem E1{a:Type}(o:Option a)(d:a):chk true o d=o:=rfl
theorem K1{a:Type}(o:Option a)(d:a):chk false o d=some d:=rfl
theorem Z1{a:Type}{xs:List a}{k:Nat}{x:a}(h:xs[k]?=some x):gi xs (k:Int)=some x:=by rw[b0h];exact h
def F0e{a:Type}{xs:List a}{x:a}(h:xs[0]?=some x):gi xs 0=some x:=Z1 (k:=0) h
def p0c{x:Int}(h:F0 x)(a:x ≠ -9223372036854775808):i64.wrap (0-x) = -x:=by rw[w64 (by have:=h.1;have:=h.2;omega) (by have:=h.1;have:=h.2;omega)];omega
theorem K0f{n:Nat}(h:0<n)(a:n<=9223372036854775807):i64.wrap ((n:Int)-1)=((n-1:Nat):Int):=by grind[w64]
theorem U3{a:Type}{xs:List a}{k:Nat}(h:k<xs.length):xs[k]?=some xs[k]:=gG h
def inR(b a x:Int):Bool:=decide (b<=x)&&decide (x<=a)
def l09(b a:Int)(w:List Int)(i:Nat):Bool :=
 match w[i]? with
 |none=>true
 |some x=>x == 0 || !inR b a x || (decide (0<i)&&match w[i-1]? with
  |none=>true
  |some y=>x == i64.wrap (0-y))
def W05(b a:Int)(w:List Int):Nat->Nat->Bool
 |0,_=>true
 |d+1,k => !l09 b a w k&&W05 b a w d (k+1)
def G2(r:Int)(w:List Int):Bool:=inR 1 3 r&&decide (w.length<=24)&&W05 (-r) r w w.length 0
theorem J02(a b c:Int):O3 a b c=some (inR b c a):=by
 unfold O3 inR
 by_cases h:b<=a<;>simp[h]
theorem W02(a b c:Int):K4 a b c=some (inR b c a):=J02 a b c
def i0a(r:Int)(w:List Int)(l:w.length<=140737488355328):∀(d k fuel:Nat),k+d=w.length->d<fuel ->
  y00 w r fuel (k:Int)=some (bif W05 (i64.wrap (0-r)) r w d k then .inr ()else .inl false)
 |d,k,0,h,hf=>by omega
 |0,k,fuel+1,h,hf=>by
  simp_all[y00.eq_2,if_neg,W05]
 |d+1,k,fuel+1,h,hf=>by
  have i:k<w.length:=by omega
  have a:=U3 i
  generalize w[k]=x at a
  have next:=i0a r w l d (k+1) fuel (by omega) (by omega)
  rw[y00.eq_2,if_pos (by simp;omega)]
  generalize i64.wrap (0-r)=lo at next ⊢
  simp only[Z1 a,oB,J02,E2 i (by omega:w.length<=9223372036854775807),next]
  have j:l09 lo r w k=(x == 0 || !inR lo r x || (decide (0<k)&&match w[k-1]? with
   |none=>true
   |some y=>x == i64.wrap (0-y))):=by unfold l09;rw[a]
  simp only[W05,j]
  by_cases h0:x=0
  ·simp[h0,chk]
  have e:decide (x=0)=false:=by simpa using h0
  have b:(x == 0)=false:=by simpa using h0
  cases hin:inR lo r x with
  |false=>simp[e,b,hin,chk]
  |true =>
   by_cases hk0:k=0
   ·have f:decide ((k:Int)>0)=false:=by simp;omega
    have c:decide (0<k)=false:=by simp;omega
    simp only[e,b,hin,f,c,E1,K1,bT,bF,Bool.and_true,Bool.false_and,Bool.or_self,Bool.true_and,cT,cF,oB,Bool.or_false,Bool.and_false,fT,if_false,cT,cF]
   ·have g:=U3 (show k-1<w.length by omega)
    generalize w[k-1]=y at g
    have m:i64.wrap ((k:Int)-1)=((k-1:Nat):Int):=K0f (by omega) (by omega)
    have f:decide ((k:Int)>0)=true:=by simp;omega
    have c:decide (0<k)=true:=by simp;omega
    simp only[e,b,hin,f,c,m,g,Z1 a,Z1 g,E1,K1,bT,bF,Bool.and_true,Bool.false_and,Bool.or_self,Bool.true_and,cT,cF,oB,Bool.or_false,Bool.and_false,Bool.false_or]
    grind
def X02(r:Int)(w:List Int)(a:w.length<=140737488355328):w8 r w=some (G2 r w):=by
 unfold w8
 have h:=i0a r w a w.length 0 P0 (by omega) (X0 a)
 rw[show((0:Nat):Int)=0 from rfl]at h
 rw[h,J02]
 unfold G2
 by_cases hr:inR 1 3 r=true
 ·have:i64.wrap (0-r) = -r:=by
   simp only[inR,aE,dE]at hr
   grind[w64]
  rw[this,hr]
  cases W05 (-r) r w w.length 0<;>simp[z9]<;>omega
 ·simp only[Bool.not_eq_true]at hr
  rw[hr]
  cases W05 (i64.wrap (0-r)) r w w.length 0<;>simp[z9]
def Q0q(r x:Int)(b:inR 1 3 r=true):c04 r x=some (!(x == 0)&&inR (-r) r x):=by
 have a:i64.wrap (0-r) = -r:=by
  simp only[inR,aE,dE]at b
  grind[w64]
 unfold c04
 rw[a,W02]
 by_cases h0:x=0
 all_goals grind[chk]
def L0f(y x:Int):C01 y x=some (!(y == 0) && !(y == -9223372036854775808)&&(x == i64.wrap (0-y))):=by
 unfold C01
 grind
def j0a(r:Int)(w:List Int)(hr:inR 1 3 r=true)(hl:w.length<=140737488355328):∀(d k fuel:Nat),k+d=w.length->d<fuel ->
  (∀ i,i<k->l09 (-r) r w i=false) ->
  z00 w r fuel (k:Int)=some (bif W05 (-r) r w d k then .inr ()else .inl false)
 |d,k,0,hk,hf,hp=>by omega
 |0,k,fuel+1,hk,hf,hp=>by
  simp_all[z00.eq_2,if_neg,W05]
 |d+1,k,fuel+1,hk,hf,hp=>by
  have hkl:k<w.length:=by omega
  have hx:=U3 hkl
  generalize w[k]=x at hx
  have next:=λ(hb:l09 (-r) r w k=false)=>j0a r w hr hl d (k+1) fuel (by omega) (by omega) (λi hi=>by
   grind)
  rw[z00.eq_2,if_pos (by simp;omega)]
  rw[Z1 hx,oB,Q0q r x hr,E2 hkl (by omega:w.length<=9223372036854775807)]
  have hbad:l09 (-r) r w k=(x == 0 || !inR (-r) r x || (decide (0<k)&&match w[k-1]? with
   |none=>true
   |some y=>x == i64.wrap (0-y))):=by unfold l09;rw[hx]
  simp only[W05]
  by_cases h0:x=0
  ·simp[h0,chk,hbad]
  have b0:(x == 0)=false:=by simpa using h0
  cases hin:inR (-r) r x with
  |false=>simp[b0,hin,chk,hbad]
  |true =>
   by_cases hk0:k=0
   ·have hb:l09 (-r) r w k=false:=by grind
    rw[next hb,hb]
    have ek:decide ((k:Int)>0)=false:=by simp;omega
    simp only[b0,ek,E1,K1,bT,bF,Bool.and_true,Bool.false_and,Bool.or_self,Bool.true_and,cT,cF,oB,Bool.or_false,Bool.and_false,fT,if_false,cT,cF]
   ·have hy:=U3 (show k-1<w.length by omega)
    have hpy:=hp (k-1) (by omega)
    generalize w[k-1]=y at hy
    have hy0:y≠0/\y ≠ -9223372036854775808:=by
     unfold l09 at hpy
     rw[hy]at hpy
     simp only[Bool.or_eq_false_iff,Bool.not_eq_false']at hpy
     have h1:=hpy.1.2
     simp only[inR,aE,dE]at h1 hr
     grind
    have b2:(y == 0)=false:=by simpa using hy0.1
    have b3:(y == -9223372036854775808)=false:=by simpa using hy0.2
    have hpr:i64.wrap ((k:Int)-1)=((k-1:Nat):Int):=K0f (by omega) (by omega)
    have ek:decide ((k:Int)>0)=true:=by simp;omega
    have bk:decide (0<k)=true:=by simp;omega
    simp only[b0,ek,hpr,Z1 hy,L0f,b2,b3,E1,K1,bT,bF,Bool.and_true,Bool.false_and,Bool.or_self,Bool.true_and,cT,cF,oB,Bool.or_false,Bool.and_false,Bool.false_or]
    grind
def v06(r:Int)(w:List Int)(a:w.length<=140737488355328):a01 r w=some (G2 r w):=by
 unfold a01
 rw[W02]
 unfold G2
 cases hr:inR 1 3 r with
 |false=>simp
 |true =>
  by_cases h24:w.length<=24
  ·have h:=j0a r w hr a w.length 0 P0 (by omega) (X0 a) (λi c=>by omega)
   rw[show((0:Nat):Int)=0 from rfl]at h
   have b : ¬ (24:Int)<(w.length:Int):=by omega
   simp only[oB,h,b]
   cases W05 (-r) r w w.length 0<;>simp[z9,h24]
  grind
def tot:List (List Int)->Nat
 | []=>0
 |w::r=>w.length+tot r
theorem I1{a:Type}{xs:List a}{k:Nat}{x:a}(h:xs[k]?=some x):xs.drop k=x::xs.drop (k+1):=by
 grind[List.getElem?_eq_some_iff,List.drop_eq_getElem_cons]
theorem Z0{a:Type}{xs:List a}{k:Nat}(h:k=xs.length):xs.drop k = []:=by grind
def R06(b:List (List Int))(h:b.length<=140737488355328):∀(d k fuel a:Nat),k+d=b.length->d<fuel->a+tot (b.drop k)<=9223372036854775807 ->
  T4 b fuel (a:Int) (k:Int)=some ((a+tot (b.drop k):Nat):Int)
 |d,k,0,a,f,hf,c=>by omega
 |0,k,fuel+1,a,f,hf,c=>by
  rw[T4.eq_2,if_neg (by simp;omega),Z0 (by omega)]
  rfl
 |d+1,k,fuel+1,a,f,hf,c=>by
  have g:k<b.length:=by omega
  have e:=U3 g
  generalize b[k]=x at e
  rw[I1 e]at c ⊢
  simp only[tot]at c ⊢
  rw[T4.eq_2,if_pos (by simp;omega),Z1 e,oB,E2 g (by omega:b.length<=9223372036854775807),
   show i64.wrap ((a:Int)+((x.length:Nat):Int))=((a+x.length:Nat):Int) by grind[w64],
   R06 b h d (k+1) fuel (a+x.length) (by omega) (by omega) (by omega)]
  rw[Nat.add_assoc]
def m09(a:List (List Int))(b:a.length<=140737488355328)(c:tot a<=9223372036854775807):O00 a=some ((tot a:Nat):Int):=by
 unfold O00
 have h:=R06 a b a.length 0 P0 0 (by omega) (X0 b) (by simpa using c)
 grind
def g06(b:List (List Int)):∀(fuel:Nat) (a k:Int),Y7 b fuel a k=T4 b fuel a k
 |0,a,k=>rfl
 |fuel+1,a,k=>by
  rw[Y7.eq_2,T4.eq_2]
  simp only[g06 b fuel]
def M0f(a:List (List Int))(b:a.length<=140737488355328)(c:tot a<=9223372036854775807):q02 a=some ((tot a:Nat):Int):=by
 rw[←m09 a b c]
 unfold q02 O00
 rw[g06]
def N0f(r:Int):List (List Int)->Bool
 | []=>true
 |w::l=>G2 r w&&N0f r l
def Y4(r:Int)(a:List (List Int)):Bool:=inR 1 3 r&&decide (a.length<=6)&&N0f r a&&decide (tot a<40)
theorem L0j{r:Int}:∀ {a:List (List Int)},N0f r a=true->tot a<=24*a.length
 | [],_=>by simp[tot]
 |w::l,h=>by
  simp only[N0f,Bool.and_eq_true]at h
  have b:=h.1
  simp only[G2,Bool.and_eq_true,decide_eq_true_eq]at b
  have:=L0j h.2
  grind[tot,List.length_cons]
def F9(a:List (List Int)):Prop:=∀ w∈a,w.length<=140737488355328
def G08(r:Int)(a:List (List Int))(h:a.length<=140737488355328)(f:F9 a):∀(d k fuel:Nat),k+d=a.length->d<fuel ->
  U8 a r fuel (k:Int)=some (bif N0f r (a.drop k)then .inr ()else .inl false)
 |d,k,0,c,hf=>by omega
 |0,k,fuel+1,c,hf=>by
  rw[U8.eq_2,if_neg (by simp;omega),Z0 (by omega)]
  rfl
 |d+1,k,fuel+1,c,hf=>by
  have e:k<a.length:=by omega
  have b:=U3 e
  have g:=f _ (mG b)
  generalize a[k]=x at b g
  rw[I1 b,U8.eq_2,if_pos (by simp;omega),Z1 b,oB,X02 r x g,oB,E2 e (by omega:a.length<=9223372036854775807),
   G08 r a h f d (k+1) fuel (by omega) (by omega)]
  simp only[N0f]
  cases G2 r x<;>simp
def H08(r:Int)(a:List (List Int))(b:a.length<=140737488355328)(e:F9 a):K01 r a=some (Y4 r a):=by
 unfold K01
 have h:=G08 r a b e a.length 0 P0 (by omega) (X0 b)
 rw[show((0:Nat):Int)=0 from rfl,dZ]at h
 rw[h,oB]
 unfold Y4
 cases ha:N0f r a with
 |false=>simp[z9]
 |true =>
  rw[cT,Q0,J02,oB]
  have:=L0j ha
  cases hr:inR 1 3 r with
  |false=>simp[chk,grd,F0]
  |true =>
   by_cases h6:a.length<=6
   ·rw[m09 a b (by omega)]
    have c:decide (((a.length:Nat):Int)<=6)=true:=by simp;omega
    have d:decide (a.length<=6)=true:=by simpa using h6
    rw[c,d,cT,E1,oB,D0 (by constructor<;>omega)]
    simp
    omega
   grind[decide,chk,grd,F0]
def I08(r:Int)(a:List (List Int))(h:a.length<=140737488355328)(f:F9 a):∀(d k fuel:Nat),k+d=a.length->d<fuel ->
  V8 a r fuel (k:Int)=some (bif N0f r (a.drop k)then .inr ()else .inl false)
 |d,k,0,c,hf=>by omega
 |0,k,fuel+1,c,hf=>by
  rw[V8.eq_2,if_neg (by simp;omega),Z0 (by omega)]
  rfl
 |d+1,k,fuel+1,c,hf=>by
  have e:k<a.length:=by omega
  have b:=U3 e
  have g:=f _ (mG b)
  generalize a[k]=x at b g
  rw[I1 b,V8.eq_2,if_pos (by simp;omega),Z1 b,oB,v06 r x g,oB,E2 e (by omega:a.length<=9223372036854775807),
   I08 r a h f d (k+1) fuel (by omega) (by omega)]
  simp only[N0f]
  cases G2 r x<;>simp
def J08(r:Int)(a:List (List Int))(b:a.length<=140737488355328)(e:F9 a):L01 r a=some (Y4 r a):=by
 unfold L01
 rw[W02,oB]
 unfold Y4
 cases hr:inR 1 3 r with
 |false=>simp
 |true =>
  by_cases h6:a.length<=6
  ·have c:decide (((a.length:Nat):Int)>6)=false:=by simp;omega
   have d:decide (a.length<=6)=true:=by simpa using h6
   have h:=I08 r a b e a.length 0 P0 (by omega) (X0 b)
   rw[show((0:Nat):Int)=0 from rfl,dZ]at h
   rw[c,d,h,oB]
   cases ha:N0f r a with
   |false=>simp[z9]
   |true =>
    have:=L0j ha
    simp only[cT,Q0,M0f a b (by omega),oB,D0 (show F0 ((tot a:Nat):Int) by constructor<;>omega)]
    simp
    omega
  grind
def o0d{b a:Int}{w:List Int}:∀ {d k:Nat},W05 b a w d k=true->∀ i,k<=i->i<k+d->l09 b a w i=false
 |0,k,h,i,c,f=>by omega
 |d+1,k,h,i,c,f=>by
  simp only[W05,aE,Bool.not_eq_true']at h
  by_cases e:i=k
  ·subst e;exact h.1
  ·exact o0d h.2 i (by omega) (by omega)
def Z0h{r:Int}{w:List Int}(h:G2 r w=true){i:Nat}{x:Int}(c:w[i]?=some x):(1<=r/\r<=3)/\w.length<=24/\x≠0 /\ -r<=x/\x<=r:=by
 simp only[G2,aE,dE]at h
 have b:=h.1.1
 simp only[inR,aE,dE]at b
 have a:=o0d h.2 i (Nat.zero_le _) (by grind)
 unfold l09 at a
 simp_all[Bool.or_eq_false_iff,Bool.not_eq_false',inR,aE,dE]
def ng(x:Int):Int:=i64.wrap (0-x)
def inv(w:List Int):List Int:=(w.map ng).reverse
theorem a08(w:List Int):(inv w).length=w.length:=by simp[inv]
def k0a(w:List Int):Prop:=∀ x∈w,F0 x
def b0v{w:List Int}{k:Nat}{x:Int}(a:w[k]?=some x):inv (w.drop k)=inv (w.drop (k+1)) ++ [ng x]:=by
 simp_all[I1,inv]
def A07(w:List Int)(c:w.length<=17592186044416):∀(k fuel:Nat),k<=w.length->k<fuel ->
  D5 w fuel ((k:Int)-1) (inv (w.drop k))=some (inv w)
 |k,0,b,hf=>by omega
 |0,fuel+1,b,hf=>by
  simp_all[D5.eq_2,if_neg]
 |k+1,fuel+1,b,hf=>by
  have a:=U3 (show k<w.length by omega)
  have next:=A07 w c k fuel (by omega) (by omega)
  generalize w[k]=x at a
  rw[b0v a]at next
  have d:=a08 (w.drop (k+1))
  rw[List.length_drop]at d
  rw[show(((k+1:Nat):Int)-1)=(k:Int) by omega,D5.eq_2,if_pos (by simp),Z1 a,oB,D0 (by grind),oB,
   w64 (by omega) (by omega)]
  exact next
def e05(w:List Int)(a:w.length<=17592186044416):W8 w=some (inv w):=by
 unfold W8
 have h:=A07 w a w.length P0 (Nat.le_refl _) (X0 (by omega))
 rw[List.drop_length]at h
 rw[w64 (by omega) (by omega),show([]:H0)=inv [] from rfl,h]
 rfl
theorem w06(w:List Int):∀(fuel:Nat) (k:Int) (u:List Int),Q8 w fuel k u=D5 w fuel k u
 |0,k,u=>rfl
 |fuel+1,k,u=>by
  rw[Q8.eq_2,D5.eq_2]
  simp only[w06 w fuel]
def d07(w:List Int)(a:w.length<=17592186044416):g00 w=some (inv w):=by
 rw[←e05 w a]
 grind[g00,W8,D0,w06]
def O0f(l x:Int):Bool := !(l == 0) && !(l == -9223372036854775808)&&(x == ng l)
def b04(s:List Int)(x:Int):List Int:=match s with
 | []=>[x]
 |l::t=>bif O0f l x then t else x::l::t
def o05(s w:List Int):List Int:=w.foldl b04 s
def Red:List Int->Bool
 | []=>true
 | [_]=>true
 |x::l::t => !O0f l x&&Red (l::t)
theorem M0j(s a b:List Int):o05 s (a++b)=o05 (o05 s a) b:=List.foldl_append
theorem d0h(s:List Int)(x:Int):(b04 s x).length<=s.length+1:=by
 cases s with
 |nil=>simp[b04]
 |cons l t =>
  simp only[b04]
  cases O0f l x<;>simp<;>omega
theorem x06:∀(w s:List Int),(o05 s w).length<=s.length+w.length
 | [],s=>by simp[o05]
 |x::w,s=>by
  have:=x06 w (b04 s x)
  grind[d0h,o05,List.length_cons]
def c0v{b:List Int}{x:Int}(h:k0a b)(c:F0 x):k0a (b04 b x):=by
 cases b with
 |nil=>intro y a;grind[b04]
 |cons l t =>
  simp only[b04]
  cases O0f l x with
  |true=>exact λy a=>h y (mC _ a)
  |false =>
   intro y a
   rcases mE.1 a with rfl|a
   ·exact c
   ·exact h y a
def J0t{l x:Int}(b:F0 l)(c:F0 x):(!(x == 0)&&(l == ng x) && !(l == x))=O0f l x:=by
 unfold O0f ng
 have e:∀ {z:Int},F0 z->i64.wrap (0-z)=if z = -9223372036854775808 then -9223372036854775808 else -z:=λ{z} a=>by
  split
  ·rename_i h;subst h;decide
  ·rw[w64 (by have:=a.1;have:=a.2;omega) (by have:=a.1;have:=a.2;omega)];omega
 rw[e b,e c]
 have d:=b.1
 have f:=b.2
 have g:=c.1
 have i:=c.2
 rw[Bool.eq_iff_iff]
 simp only[aE,Bool.not_eq_true',beq_iff_eq,beq_eq_false_iff_ne,ne_eq]
 split<;>split<;>omega
def N0j{l:Int}{t:List Int}:(l::t).reverse[t.length]?=some l:=by
 grind
def W0l(l:Int)(t:List Int):(l::t).reverse.take t.length=t.reverse:=by
 rw[List.reverse_cons,List.take_append_of_le_length (by simp),List.take_of_length_le (by simp)]
theorem h06(w:List Int)(hw:k0a w)(hl:w.length<=17592186044416):∀(d k fuel:Nat) (s:List Int),k+d=w.length->d<fuel->k0a s->s.length<=k ->
  A3 w fuel (k:Int) s.reverse=some (o05 s (w.drop k)).reverse
 |d,k,0,s,hk,hf,hs,hsl=>by omega
 |0,k,fuel+1,s,hk,hf,hs,hsl=>by
  rw[A3.eq_2,if_neg (by simp;omega),Z0 (by omega)]
  rfl
 |d+1,k,fuel+1,s,hk,hf,hs,hsl=>by
  have hkl:k<w.length:=by omega
  have hx:=U3 hkl
  have hx64:=hw _ (List.mem_of_getElem? hx)
  generalize w[k]=x at hx hx64
  have next:=h06 w hw hl d (k+1) fuel (b04 s x) (by omega) (by omega) (c0v hs hx64) (by grind[d0h])
  rw[I1 hx]
  show _=some (o05 (b04 s x) (w.drop (k+1))).reverse
  rw[←next,A3.eq_2,if_pos (by simp;omega),oB,D0 (by grind),oB]
  rw[E2 hkl (by omega:w.length<=9223372036854775807)]
  have e0:decide (x=0)=(x == 0):=by grind
  cases s with
  |nil =>
   have hz:decide ((((([]:List Int).reverse).length:Nat):Int)>0)=false:=rfl
   simp only[hz,K1,oB,cond_false,Bool.false_eq_true,if_false,Z1 hx]
   rw[D0 (by simp)]
   rfl
  |cons l t =>
   have hl64:=hs l mS
   have hp:decide ((((l::t).reverse.length:Nat):Int)>0)=true:=by simp
   have hpr:IntKind.i64.wrap ((((l::t).reverse.length:Nat):Int)-1)=((t.length:Nat):Int):=by
    grind[K0f,List.length_reverse,List.length_cons]
   have hc:=J0t hl64 hx64
   have e1:decide (l=IntKind.i64.wrap (0-x))=(l == ng x):=by rw[Bool.eq_iff_iff];simp[ng]
   have e2:decide (l=x)=(l == x):=by grind
   have hpush:(grd (((l::t).reverse.length + [x].length)*8<=140737488355328))=some ():=D0 (by grind)
   simp only[hp,hpr,E1,oB,cond_true,Z1 hx,Z1 N0j,e0,b04]
   cases h0:(x == 0)with
   |true =>
    rw[h0]at hc
    simp only[Bool.not_true,Bool.false_and]at hc
    simp only[←hc,Bool.not_true,K1,cond_false,oB,Bool.false_eq_true,if_false,hpush]
    grind
   |false =>
    rw[h0]at hc
    simp only[Bool.not_false,Bool.true_and]at hc
    simp only[Bool.not_false,E1,cond_true,oB,e1]
    cases h1:(l == ng x)with
    |false =>
     rw[h1]at hc
     simp only[Bool.false_and]at hc
     simp only[←hc,K1,cond_false,oB,Bool.false_eq_true,if_false,hpush]
     grind
    |true =>
     rw[h1]at hc
     simp only[Bool.true_and]at hc
     simp only[E1,cond_true,oB,e2]
     cases h2:(l == x)with
     |true =>
      grind
     |false =>
      rw[h2]at hc
      simp only[Bool.not_false]at hc
      simp only[←hc,Bool.not_false,if_true,cond_true]
      rw[D0 (by grind),oB,Int.toNat_natCast,W0l]
theorem s00(w:List Int)(b:k0a w)(a:w.length<=17592186044416):I3 w=some (o05 [] w).reverse:=by
 unfold I3
 have h:=h06 w b a w.length 0 P0 [] (by omega) (X0 (by omega)) (λx c=>by cases c) (by simp)
 rw[show((0:Nat):Int)=0 from rfl,List.drop_zero,List.reverse_nil]at h
 rw[h,oB,D0 (by grind[x06,List.length_reverse,List.length_nil]),oB,List.nil_append]
def okQ(bs:List Int)(q:Int×Int):Prop:=0<=q.1/\q.1<=(bs.length:Int)/\bs.length<=1048576
def Drw{a:Type}(bs:List Int)(o:Option (a×(Int×Int)))(p:a->Prop):Prop:=∃ x q,o=some (x,q)/\p x/\okQ bs q
def Drw.bind{a b:Type}{bs:List Int}{m:Option (a×(Int×Int))}{p:a->Prop}{r:b->Prop}{k:a×(Int×Int)->Option (b×(Int×Int))}(h:Drw bs m p)(e:∀ x q,p x->okQ bs q->Drw bs (k (x,q)) r):Drw bs (m.bind k) r:=by
 obtain⟨x,q,rfl,c,d⟩:=h
 exact e x q c d
def Drw.grd{a:Type}{bs:List Int}{p:Prop}[Decidable p]{r:a->Prop}{k:Unit->Option (a×(Int×Int))}(h:p)(b:Drw bs (k ()) r):Drw bs ((grd p).bind k) r:=by
 grind[D0]
def Drw.mono{a:Type}{bs:List Int}{m:Option (a×(Int×Int))}{p r:a->Prop}(h:Drw bs m p)(d:∀ x,p x->r x):Drw bs m r:=by
 obtain⟨x,q,e,b,c⟩:=h
 exact⟨x,q,e,d x b,c⟩
def o0x(bs:List Int)(c:bs.length<=1048576):∀(d k fuel:Nat) (y:Int),k+d=bs.length->d<fuel->∃ z,j01 bs fuel y (k:Int)=some z
 |d,k,0,y,a,hf=>by omega
 |0,k,fuel+1,y,a,hf=>by
  simp_all[j01.eq_2,dF,cF,if_neg]
 |d+1,k,fuel+1,y,a,hf=>by
  have b:k<bs.length:=by omega
  rw[j01.eq_2,Z1 (U3 b),E2 b (by omega)]
  split
  ·exact o0x bs c d (k+1) fuel _ (by omega) (by omega)
  ·exact⟨_,rfl⟩
def k0s{bs:List Int}(a:bs.length<=1048576):∃ q,Y02 bs=some q/\okQ bs q:=by
 obtain⟨z,b⟩:=o0x bs a bs.length 0 P0 (i64.wrap (10101+((bs.length:Nat):Int))) (by omega) (by unfold P0;omega)
 refine⟨(0,z),?_,iR _,Int.natCast_nonneg _,a⟩
 grind[Y02]
def d0v(a:Int):0<=R0q a 255/\R0q a 255<=255:=by
 have h:(BitVec.ofInt 64 a &&& BitVec.ofInt 64 255).toNat<=255:=by
  grind[BitVec.toNat_and,Nat.le_trans,Nat.and_le_right]
 grind[R0q,w64]
def d0y{bs:List Int}{q:Int×Int}(g:okQ bs q):Drw bs (b01 bs q) λx=>0<=x/\x<=255:=by
 obtain⟨a,e,b⟩:=g
 unfold b01
 by_cases c:q.1<((bs.length:Nat):Int)
 ·rw[if_pos (dT c)]
  obtain⟨k,f⟩:=Int.eq_ofNat_of_zero_le a
  rw[f]at c ⊢
  have d:k<bs.length:=by omega
  rw[Z1 (U3 d),oB,E2 d (by omega)]
  exact⟨_,_,rfl,d0v _,by simp only;omega,by simp only;omega,b⟩
 ·rw[if_neg (by simpa using c)]
  exact⟨_,_,rfl,d0v _,a,e,b⟩
def y06{bs:List Int}{q:Int×Int}(a:okQ bs q){n:Int}(h0:0<n)(d:n<=256):Drw bs (Q3 bs q n) λx=>0<=x/\x<n:=by
 unfold Q3
 rw[if_neg (by simp;omega),if_pos (by simp;omega)]
 refine(d0y a).bind λx e c b => .grd ⟨by omega,by omega⟩ (.grd (by omega) ⟨_,_,rfl,?_,b⟩)
 rw[Int.tmod_eq_emod_of_nonneg c.1]
 exact⟨Int.emod_nonneg _ (by omega),Int.emod_lt_of_pos _ h0⟩
def O0j{bs:List Int}{q:Int×Int}(b:okQ bs q){n:Int}(h0:0<n)(a:n<=256):Drw bs (z8 bs q n) λ_=>True :=
 (y06 b h0 a).bind λx e d c => .grd ⟨by omega,by omega⟩ ⟨_,_,rfl,trivial,c⟩
def e0y{a:Type}{l:List a}{x:Int}(h0:0<=x)(b:x<((l.length:Nat):Int)):∃ y∈l,gi l x=some y:=by
 obtain⟨k,rfl⟩:=Int.eq_ofNat_of_zero_le h0
 simp_all[List.getElem_mem,Z1,U3]
def X0l{bs:List Int}{q:Int×Int}(b:okQ bs q){l:List Int}(h0:0<l.length)(f:l.length<=256):Drw bs (r03 bs q l) λx=>x∈l :=
 (y06 b (n:=((l.length:Nat):Int)) (by omega) (by omega)).bind λx g a c => .grd ⟨by omega,by omega⟩ (by
  obtain⟨y,d,e⟩:=e0y a.1 a.2
  rw[e];exact⟨_,_,rfl,d,c⟩)
def f0y(d:Nat)(h:d<=1048576):i64.wrap (((d+1:Nat):Int)-1)=(d:Int):=by grind[w64]
def K0t(r:Int)(w:List Int):Prop:=∀ x∈w,x≠0 /\ -r<=x/\x<=r
def K0t.all{r:Int}(b:r<=256){w:List Int}(h:K0t r w):k0a w:=λx a=>by
 have:=h x a
 exact⟨by omega,by omega⟩
def e0v{P:Int->Prop}{a:List Int}{x:Int}(c:∀ y∈a,P y)(d:P x):∀ y∈b04 a x,P y:=λy b=>by
 unfold b04 at b
 grind
def l0s{P:Int->Prop}:∀(w a:List Int),(∀ y∈a,P y)->(∀ y∈w,P y)->∀ y∈o05 a w,P y
 | [],a,b,_=>b
 |x::w,a,b,c=>l0s w (b04 a x) (e0v b (c x mS)) λy d=>c y (mC _ d)
def f0v{bs:List Int}{a:Int}(h0:0<a)(g:a<=256):∀(d fuel:Nat) (acc:List Int) (q:Int×Int),d<fuel->d+acc.length<=1000->K0t a acc->okQ bs q ->
  Drw bs (f00 bs a fuel (d:Int) acc q) λw=>K0t a w/\w.length<=d+acc.length
 |d,0,acc,q,hf,_,_,_=>by omega
 |0,fuel+1,acc,q,hf,i,e,f=>by
  rw[f00.eq_2,if_neg (by simp)]
  exact⟨_,_,rfl,⟨e,by omega⟩,f⟩
 |d+1,fuel+1,acc,q,hf,i,e,f=>by
  rw[f00.eq_2,if_pos (by grind)]
  refine(y06 f h0 g).bind λx u s j => .grd ⟨by omega,by omega⟩ ((O0j j (by decide) (by decide)).bind λb h _ k=>?_)
  have p:∀ y:Int,(y≠0 /\ -a<=y/\y<=a)->Drw bs ((grd ((acc.length + [y].length)*8<=140737488355328)).bind λ_=>f00 bs a fuel (i64.wrap (((d+1:Nat):Int)-1)) (acc ++ [y]) h) λw=>K0t a w/\w.length<=d+1+acc.length:=λy t =>
   .grd (by grind) (by
    rw[f0y d (by omega)]
    refine(f0v h0 g d fuel (acc ++ [y]) h (by omega) (by simp;omega) (λz c=>?_) k).mono λw l=>⟨l.1,by grind⟩
    rcases List.mem_append.1 c with c|c
    ·exact e z c
    grind)
  have m:i64.wrap (1+x)=1+x:=w64 (by omega) (by omega)
  have o:i64.wrap (0-i64.wrap (1+x)) = -(1+x):=by grind[w64]
  grind
def P0w{bs:List Int}{q:Int×Int}(g:okQ bs q){c b:Int}(h0:0<c)(e:c<=256)(l:0<=b)(m:b<=200):Drw bs (I04 bs q c b) λw=>K0t c w/\w.length<=200:=by
 unfold I04
 rw[w64 (x:=b+1) (by omega) (by omega)]
 refine(y06 g (by omega) (by omega)).bind λx k j h => .grd ⟨by omega,by omega⟩ ?_
 obtain⟨d,rfl⟩:=Int.eq_ofNat_of_zero_le j.1
 refine(f0v h0 e d P0 [] k (by unfold P0;omega) (by simp;omega) (λz a=>nomatch a) h).bind λw p f i=>?_
 have o:w.length<=200:=by grind
 show Drw bs ((I3 w).bind _) _
 rw[s00 w (f.1.all e) (by omega),oB]
 refine⟨_,_,rfl,⟨λz a=>l0s w [] (λz a=>nomatch a) f.1 z (by simpa using a),?_⟩,i⟩
 grind[x06]
def g0v{bs:List Int}{q:Int×Int}(g:okQ bs q){b a:Int}(h0:0<b)(c:b<=256)(e:0<=a)(f:a<=200):Drw bs (I04 bs q b a) λw=>k0a w/\w.length<=200 :=
 (P0w g h0 c e f).mono λw d=>⟨d.1.all c,d.2⟩
def e0h(a:List (List Int)):Prop:=∀ w∈a,k0a w/\w.length<=200
def K0y{bs:List Int}{e:Int}(h0:0<e)(f:e<=256):∀(d fuel:Nat) (acc:List (List Int)) (q:Int×Int),d<fuel->d+acc.length<=1000->e0h acc->okQ bs q ->
  Drw bs (L9 bs e fuel (d:Int) acc q) λw=>e0h w/\w.length<=d+acc.length
 |d,0,acc,q,hf,_,_,_=>by omega
 |0,fuel+1,acc,q,hf,g,b,c=>by
  rw[L9.eq_2,if_neg (by simp)]
  exact⟨_,_,rfl,⟨b,by omega⟩,c⟩
 |d+1,fuel+1,acc,q,hf,g,b,c=>by
  rw[L9.eq_2,if_pos (by grind)]
  refine(g0v c h0 f (by decide) (by decide)).bind λx j k h => .grd (by grind) ?_
  rw[f0y d (by omega)]
  refine(K0y h0 f d fuel (acc ++ [x]) j (by omega) (by simp;omega) (λz a=>?_) h).mono λw i=>⟨i.1,by grind⟩
  rcases List.mem_append.1 a with a|a
  ·exact b z a
  grind
def m0s{bs:List Int}{q:Int×Int}(e:okQ bs q){a:Int}(h0:0<a)(c:a<=256):Drw bs (s03 bs q a) λb=>e0h b/\b.length<=3:=by
 unfold s03
 refine(y06 e (by decide) (by decide)).bind λx k i f => .grd ⟨by omega,by omega⟩ ?_
 obtain⟨d,rfl⟩:=Int.eq_ofNat_of_zero_le i.1
 refine(K0y h0 c d P0 [] k (by unfold P0;omega) (by simp;omega) (λz j=>nomatch j) f).bind λw l h g=>⟨_,_,rfl,⟨h.1,?_⟩,g⟩
 grind
def K08(r a:Int)(e:O0):Bool:=inR 0 a e.1&&inR 0 a e.2.2&&inR 1 r e.2.1
def P0j(e f:O0):Int:=V0 e f
theorem Q0j(e f:O0):P0j e f=if W01 e.1 f.1≠0 then W01 e.1 f.1 else if W01 e.2.1 f.2.1≠0 then W01 e.2.1 f.2.1 else W01 e.2.2 f.2.2:=rfl
theorem R0j(a b:Int):(a<b/\W01 a b = -1)∨(a>b/\W01 a b=1)∨(a=b/\W01 a b=0):=by
 grind[W01]
def a0j(e f:O0):F0 (P0j e f):=by
 grind[Q0j,j0s]
def h0v(g:z0)(e:O0):u05 g e=some (K08 g.1 (i64.wrap (g.2.1-1)) e):=by
 obtain⟨r,n,es⟩:=g
 obtain⟨a,l,b⟩:=e
 unfold u05 K08
 grind[J02,inR,chk]
def v0i(g:z0)(e:O0):k01 g e=some (K08 g.1 (i64.wrap (g.2.1-1)) e):=by
 obtain⟨r,n,es⟩:=g
 obtain⟨a,l,b⟩:=e
 unfold k01 H5 K08
 simp only[W02,oB]
 grind[inR,chk]
def X05(e f:O0):t00 e f=some (P0j e f):=by
 obtain⟨a,l,b⟩:=e
 obtain⟨m,p,o⟩:=f
 unfold t00
 rw[show P0=(P0-4)+1+1+1+1 from rfl]
 have w1:i64.wrap (0+1)=1:=by decide
 have k:i64.wrap (1+1)=2:=by decide
 have w3:i64.wrap (2+1)=3:=by decide
 have h:∀ x y z:Int,gi [x,y,z] 0=some x:=λ_ _ _=>rfl
 have i:∀ x y z:Int,gi [x,y,z] 1=some y:=λ_ _ _=>rfl
 have j:∀ x y z:Int,gi [x,y,z] 2=some z:=λ_ _ _=>rfl
 have d0:decide ((0:Int)<3)=true:=rfl
 have c:decide ((1:Int)<3)=true:=rfl
 have d:decide ((2:Int)<3)=true:=rfl
 have g:decide ((3:Int)<3)=false:=rfl
 simp only[n9.eq_2,w1,k,w3,h,i,j,d0,c,d,g,if_true,oB,fT,if_false]
 grind[Q0j,R0j,z9]
def L0t(a b:Int):E9 a b=some (W01 a b):=by
 grind[E9,W01]
def L08(e f:O0):Q01 e f=some (P0j e f):=by
 obtain⟨a,l,b⟩:=e
 obtain⟨c,g,d⟩:=f
 rw[Q0j]
 unfold Q01
 simp only[L0t,oB,D0 (j0s _ _)]
 grind
def i0v(r a:Int)(es:List O0)(k:Nat):Bool:=match es[k]? with
 |none=>true
 |some e => !K08 r a e || (decide (0<k)&&match es[k-1]? with
  |none=>true
  |some f=>decide (P0j f e ≥ 0))
def okE(r a:Int)(es:List O0):Nat->Nat->Bool
 |0,_=>true
 |d+1,k => !i0v r a es k&&okE r a es d (k+1)
def U0(g:z0):Bool:=okE g.1 (i64.wrap (g.2.1-1)) g.2.2 g.2.2.length 0&&inR 1 3 g.1&&inR 1 40 g.2.1&&decide (g.2.2.length<=120)
def p0d{r a:Int}{es:List O0}{k:Nat}{e:O0}(b:es[k]?=some e):i0v r a es k=(!K08 r a e || (decide (0<k)&&match es[k-1]? with
  |none=>true
  |some f=>decide (P0j f e ≥ 0))):=by unfold i0v;rw[b]
def n09(r n:Int)(es:List O0)(q:es.length<=140737488355328):∀(d k fuel:Nat),k+d=es.length->d<fuel ->
  M9 es r n fuel (k:Int)=some (bif okE r (i64.wrap (n-1)) es d k then .inr ()else .inl false)
 |d,k,0,l,hf=>by omega
 |0,k,fuel+1,l,hf=>by
  simp_all[M9.eq_2,if_neg,okE]
 |d+1,k,fuel+1,l,hf=>by
  have m:k<es.length:=by omega
  have a:=U3 m
  generalize es[k]=e at a
  obtain⟨h,i,j⟩:=e
  have next:=n09 r n es q d (k+1) fuel (by omega) (by omega)
  rw[M9.eq_2,if_pos (by simp;omega),Z1 a,oB]
  simp only[h0v,oB,E2 m (by omega:es.length<=9223372036854775807),next,okE,p0d a]
  generalize i64.wrap (n-1)=hi
  cases hin:K08 r hi (h,i,j)with
  |false=>simp[chk,grd,F0]
  |true =>
   by_cases hk0:k=0
   ·have c:decide ((k:Int)>0)=false:=by simp;omega
    have b:decide (0<k)=false:=by simp;omega
    simp only[c,b,K1,bT,bF,Bool.and_true,Bool.false_and,Bool.or_self,Bool.true_and,cT,cF,oB,Bool.or_false,fT,if_false,D0 (show F0 0 by decide)]
   ·have g:=U3 (show k-1<es.length by omega)
    generalize es[k-1]=f at g
    obtain⟨o,p,f2⟩:=f
    have s:i64.wrap ((k:Int)-1)=((k-1:Nat):Int):=K0f (by omega) (by omega)
    have c:decide ((k:Int)>0)=true:=by simp;omega
    have b:decide (0<k)=true:=by simp;omega
    simp only[c,b,s,g,Z1 a,Z1 g,E1,bT,bF,Bool.and_true,Bool.false_and,Bool.or_self,Bool.true_and,cT,cF,oB,Bool.or_false,Bool.false_or,X05,D0 (a0j _ _)]
    cases decide (P0j (o,p,f2) (h,i,j) ≥ 0)<;>rfl
def t9(g:z0)(a:g.2.2.length<=140737488355328):Z4 g=some (U0 g):=by
 obtain⟨r,n,es⟩:=g
 unfold Z4 U0
 simp only at a ⊢
 have h:=n09 r n es a es.length 0 P0 (by omega) (X0 a)
 rw[show((0:Nat):Int)=0 from rfl]at h
 rw[h,oB]
 cases okE r (i64.wrap (n-1)) es es.length 0 with
 |false=>simp[z9]
 |true =>
  rw[cT,Q0,J02,J02,oB]
  cases inR 1 3 r with
  |false=>simp[chk]
  |true =>
   simp only[E1,oB,cT,Bool.true_and]
   cases inR 1 40 n with
   |false=>simp
   |true=>simp;omega
def o09(r n:Int)(es:List O0)(q:es.length<=140737488355328):∀(d k fuel:Nat),k+d=es.length->d<fuel ->
  N9 es r n fuel (k:Int)=some (bif okE r (i64.wrap (n-1)) es d k then .inr ()else .inl false)
 |d,k,0,l,hf=>by omega
 |0,k,fuel+1,l,hf=>by
  simp_all[N9.eq_2,if_neg,okE]
 |d+1,k,fuel+1,l,hf=>by
  have m:k<es.length:=by omega
  have a:=U3 m
  generalize es[k]=e at a
  obtain⟨h,i,j⟩:=e
  have next:=o09 r n es q d (k+1) fuel (by omega) (by omega)
  rw[N9.eq_2,if_pos (by simp;omega),Z1 a,oB]
  simp only[v0i,oB,E2 m (by omega:es.length<=9223372036854775807),next,okE,p0d a]
  generalize i64.wrap (n-1)=hi
  cases hin:K08 r hi (h,i,j)with
  |false=>simp[chk,grd,F0]
  |true =>
   by_cases hk0:k=0
   ·have c:decide ((k:Int)>0)=false:=by simp;omega
    have b:decide (0<k)=false:=by simp;omega
    simp only[c,b,K1,bT,bF,Bool.and_true,Bool.false_and,Bool.or_self,Bool.true_and,cT,cF,oB,Bool.or_false,fT,if_false,D0 (show F0 0 by decide)]
   ·have g:=U3 (show k-1<es.length by omega)
    generalize es[k-1]=f at g
    obtain⟨o,p,f2⟩:=f
    have s:i64.wrap ((k:Int)-1)=((k-1:Nat):Int):=K0f (by omega) (by omega)
    have c:decide ((k:Int)>0)=true:=by simp;omega
    have b:decide (0<k)=true:=by simp;omega
    simp only[c,b,s,g,Z1 a,Z1 g,E1,bT,bF,Bool.and_true,Bool.false_and,Bool.or_self,Bool.true_and,cT,cF,oB,Bool.or_false,Bool.false_or,L08,D0 (a0j _ _)]
    cases decide (P0j (o,p,f2) (h,i,j) ≥ 0)<;>rfl
def f01(g:z0)(a:g.2.2.length<=140737488355328):E7 g=some (U0 g):=by
 obtain⟨r,n,es⟩:=g
 unfold E7 U0
 simp only at a ⊢
 rw[W02,W02,oB]
 cases hr:inR 1 3 r with
 |false=>simp[chk]
 |true =>
  simp only[bT,bF,E1,oB,cF]
  cases hn:inR 1 40 n with
  |false=>simp
  |true =>
   by_cases h120:es.length<=120
   ·have h:=o09 r n es a es.length 0 P0 (by omega) (X0 a)
    rw[show((0:Nat):Int)=0 from rfl]at h
    have b:decide (((es.length:Nat):Int)>120)=false:=by simp;omega
    have c:decide (es.length<=120)=true:=by simpa using h120
    simp only[b,c,bT,cF,fT,if_false,h,oB]
    cases okE r (i64.wrap (n-1)) es es.length 0<;>rfl
   grind
def v0n{r a:Int}{es:List O0}:∀ {d k:Nat},okE r a es d k=true->∀ i,k<=i->i<k+d->i0v r a es i=false
 |0,k,h,i,b,c=>by omega
 |d+1,k,h,i,b,c=>by
  simp only[okE,aE,Bool.not_eq_true']at h
  by_cases e:i=k
  ·subst e;exact h.1
  ·exact v0n h.2 i (by omega) (by omega)
def P0f{n:Nat}(h:n<=9223372036854775807):n<P0:=by unfold P0;omega
def goI(x:Int):List Int->Bool×List Int
 | []=>(false,[])
 |y::l=>if x<y then(true,x::y::l)else if y=x then(true,y::l)else((goI x l).1,y::(goI x l).2)
def n0s(x:Int):∀ l,p02 W01 x l=bif(goI x l).1 then(goI x l).2 else(goI x l).2 ++ [x]
 | []=>rfl
 |y::l=>by
  have a:=n0s x l
  unfold p02 goI
  rcases R0j x y with⟨h,e⟩|⟨h,e⟩|⟨h,e⟩
  all_goals grind
def S0j(l:List Int)(w:Int)(h:l.length<=1099511627776):∀(d k fuel:Nat) (acc:List Int),k+d=l.length->d<fuel->acc.length<=k+1 ->
  K5 l w fuel true (k:Int) acc=some (true,acc++l.drop k)
 |d,k,0,acc,e,hf,b=>by omega
 |0,k,fuel+1,acc,e,hf,b=>by
  rw[K5.eq_2,if_neg (by simp;omega),Z0 (by omega),List.append_nil]
 |d+1,k,fuel+1,acc,e,hf,b=>by
  have f:k<l.length:=by omega
  have a:=U3 f
  generalize l[k]=x at a
  have i:=S0j l w h d (k+1) fuel (acc ++ [x]) (by omega) (by omega) (by simp;omega)
  rw[K5.eq_2,if_pos (by simp;omega),Z1 a,oB]
  have g:∀ c:Bool,(bif c then(!true)else false)=false:=λc=>by cases c<;>rfl
  simp only[g,fT,if_false,oB,E2 f (show l.length<=9223372036854775807 by omega),i,D0 (show(acc.length + [x].length)*8<=140737488355328 by simp;omega)]
  rw[I1 a]
  split<;>simp
def Y0l(l:List Int)(w:Int)(b:l.length<=1099511627776):∀(d k fuel:Nat) (acc:List Int),k+d=l.length->d<fuel->acc.length=k ->
  K5 l w fuel false (k:Int) acc=some ((goI w (l.drop k)).1,acc++(goI w (l.drop k)).2)
 |d,k,0,acc,g,hf,f=>by omega
 |0,k,fuel+1,acc,g,hf,f=>by
  simp_all[K5.eq_2,if_neg,Z0,goI]
 |d+1,k,fuel+1,acc,g,hf,f=>by
  have a:k<l.length:=by omega
  have e:=U3 a
  generalize l[k]=x at e
  have j:=Y0l l w b d (k+1) fuel (acc ++ [x]) (by omega) (by omega) (by simp;omega)
  have m:=S0j l w b d (k+1) fuel (acc ++ [x]) (by omega) (by omega) (by simp;omega)
  have o:=S0j l w b d (k+1) fuel (acc ++ [w] ++ [x]) (by omega) (by omega) (by simp;omega)
  rw[K5.eq_2,if_pos (by simp;omega),Z1 e,oB,I1 e]
  unfold goI
  have h:∀ c:Bool,(bif c then(!true)else false)=false:=λc=>by cases c<;>rfl
  have i:∀ c:Bool,(bif c then(!false)else false)=c:=λc=>by cases c<;>rfl
  by_cases h0:x=w
  ·rw[if_pos (by simpa using h0),oB,h,if_neg (by simp),oB,D0 (by simp;omega),oB,E2 a (by omega),m,if_neg (by omega),if_pos h0]
   simp
  ·rw[if_neg (by simpa using h0),oB,i]
   by_cases h1:w<x
   ·rw[if_pos (by simpa using h1),D0 (by simp;omega),oB,oB,D0 (by simp;omega),oB,E2 a (by omega),o,if_pos h1]
    simp
   ·rw[if_neg (by simpa using h1),oB,D0 (by simp;omega),oB,E2 a (by omega),j,if_neg h1,if_neg h0]
    simp
theorem Q0f(l:List Int)(w:Int)(a:l.length<=1099511627776):c01 l w=some (p02 W01 w l):=by
 unfold c01
 have h:=Y0l l w a l.length 0 P0 [] (by omega) (X0 (by omega)) rfl
 rw[show((0:Nat):Int)=0 from rfl,List.drop_zero,List.nil_append]at h
 rw[h,oB,n0s]
 have b:∀ l:List Int,(goI w l).2.length<=l.length+1:=λl=>by
  induction l with
  |nil=>simp[goI]
  |cons y l c =>
   grind[goI,List.length_cons]
 have:=b l
 cases (goI w l).1 with
 |true=>rfl
 |false =>
  simp only[Bool.not_false,if_true,cond_false]
  rw[D0 (by simp;omega),oB]
def Z0l(v x:Int)(e:O0):List Int :=
 if 0<x/\e.2.1=x/\e.1=v then [e.2.2]else if x<0/\e.2.1 = -x/\e.2.2=v then [e.1]else []
def s02(v x:Int):List O0->List Int
 | []=>[]
 |e::es=>Z0l v x e++s02 v x es
def M0t(v x:Int)(e:O0):(Z0l v x e).length<=1:=by unfold Z0l;split<;>(try split)<;>simp
theorem T0j(v x:Int):∀ es,(s02 v x es).length<=es.length
 | []=>by simp[s02]
 |e::es=>by
  have a:=M0t v x e
  have b:=T0j v x es
  grind[s02,List.length_append,List.length_cons]
def j5(x:Int):Prop:=F0 x/\x ≠ -9223372036854775808
def R0f(es:List O0)(v x:Int)(f:j5 x)(q:es.length<=1099511627776):∀(d k fuel:Nat) (acc:List Int),k+d=es.length->d<fuel->acc.length<=k ->
  g6 es x v fuel (k:Int) acc=some (acc++s02 v x (es.drop k))
 |d,k,0,acc,j,hf,i=>by omega
 |0,k,fuel+1,acc,j,hf,i=>by
  simp_all[g6.eq_2,if_neg,Z0,s02]
 |d+1,k,fuel+1,acc,j,hf,i=>by
  have m:k<es.length:=by omega
  have g:=U3 m
  generalize es[k]=e at g
  obtain⟨a,l,b⟩:=e
  have o:=λp h=>R0f es v x f q d (k+1) fuel p (by omega) (by omega) h
  have s:decide (x = -9223372036854775808)=false:=by simp;exact f.2
  rw[g6.eq_2,if_pos (by simp;omega),Z1 g,oB,I1 g]
  simp only[s02,Z0l,p0c f.1 f.2,s,bF,E2 m (show es.length<=9223372036854775807 by omega)]
  by_cases c:0<x/\l=x/\a=v
  ·obtain⟨c,rfl,rfl⟩:=c
   rw[if_pos (by simp[c]),if_pos ⟨c,rfl,rfl⟩,D0 (by simp;omega),oB,o _ (by simp;omega)]
   simp
  ·rw[if_neg c,if_neg (by grind)]
   by_cases c2:x<0/\l = -x/\b=v
   ·rw[if_pos c2,if_pos (by grind),D0 (by simp;omega),oB,o _ (by simp;omega)]
    simp
   grind
theorem l0a(w:Int):∀ l:List Int,(p02 W01 w l).length<=l.length+1
 | []=>by simp[p02]
 |y::l=>by
  have:=l0a w l
  grind[p02,List.length_cons]
def S0f(es:List O0)(v x:Int)(g:j5 x)(p:es.length<=1099511627776):∀(d k fuel:Nat) (u:List Int),k+d=es.length->d<fuel->u.length<=k ->
  d5 es x v fuel u (k:Int)=some (V4 W01 u (s02 v x (es.drop k)))
 |d,k,0,u,j,hf,i=>by omega
 |0,k,fuel+1,u,j,hf,i=>by
  rw[d5.eq_2,if_neg (by simp;omega),Z0 (by omega)]
  rfl
 |d+1,k,fuel+1,u,j,hf,i=>by
  have m:k<es.length:=by omega
  have f:=U3 m
  generalize es[k]=e at f
  obtain⟨a,l,b⟩:=e
  have o:=λs h=>S0f es v x g p d (k+1) fuel s (by omega) (by omega) h
  rw[d5.eq_2,if_pos (by simp;omega),Z1 f,oB,I1 f]
  simp only[s02,Z0l,p0c g.1 g.2,E2 m (show es.length<=9223372036854775807 by omega)]
  by_cases c:0<x/\l=x/\a=v
  ·obtain⟨c,rfl,rfl⟩:=c
   have q:decide (l<0)=false:=by simp;omega
   have:=l0a b u
   rw[if_pos (by simp[c]),if_pos ⟨c,rfl,rfl⟩,Q0f u b (by omega),oB,q,if_neg (by simp),o _ (by omega)]
   rfl
  ·rw[if_neg c,if_neg (by grind)]
   by_cases c2:x<0/\l = -x/\b=v
   ·have:=l0a a u
    rw[if_pos c2,if_pos (by grind),Q0f u a (by omega),oB,o _ (by omega)]
    rfl
   grind
def I05(g:z0)(v x:Int):List Int:=V4 W01 [] (s02 v x g.2.2)
def Q0w(x y:Int):eqI x y=true↔x=y:=by simp[eqI]
def e0p(g:z0)(v x:Int)(b:j5 x)(a:g.2.2.length<=1099511627776):t03 g v x=some (I05 g v x):=by
 obtain⟨r,n,es⟩:=g
 unfold t03 I05
 have h:=S0f es v x b a es.length 0 P0 [] (by omega) (P0f (by simp only at a;omega)) (by simp)
 grind
def f0p(g:z0)(v x:Int)(b:j5 x)(a:g.2.2.length<=1099511627776):u03 g v x=some (I05 g v x):=by
 obtain⟨r,n,es⟩:=g
 unfold u03 I05
 have h:=R0f es v x b a es.length 0 P0 [] (by omega) (P0f (by simp only at a;omega)) (by simp)
 rw[show((0:Nat):Int)=0 from rfl,dZ,nA]at h
 have c:=T0j v x es
 simp only at a
 simp only[h,oB,D0 (show(s02 v x es).length<4611686018427387904 by omega)]
 rw[←d0p t05 Q0w (s02 v x es) (s02 v x es) λ_=>Iff.rfl]
 rfl
def D1(g:z0)(v x:Int):Int:=match I05 g v x with
 | [] => -1
 |a::_=>a
def U03(g:z0)(v x:Int)(c:j5 x)(b:g.2.2.length<=1099511627776):j4 g v x=some (D1 g v x):=by
 have h:=e0p g v x c b
 obtain⟨r,n,es⟩:=g
 unfold j4 D1
 simp only[h,oB]
 cases I05 (r,n,es) v x with
 |nil=>rfl
 |cons a l=>rfl
def M08(g:z0)(v x:Int)(c:j5 x)(b:g.2.2.length<=1099511627776):a9 g v x=some (D1 g v x):=by
 have h:=f0p g v x c b
 obtain⟨r,n,es⟩:=g
 unfold a9 D1
 simp only[h,oB]
 cases I05 (r,n,es) v x with
 |nil=>rfl
 |cons a l=>rfl
theorem a0m{g:z0}{v x y:Int}(h:y∈I05 g v x):y∈s02 v x g.2.2:=by
 rcases(J01 t05 y _ []).1 h with h|h
 ·cases h
 ·exact h
def R8{v x y:Int}:∀ {es:List O0},y∈s02 v x es↔∃ e∈es,(0<x/\e.2.1=x/\e.1=v/\y=e.2.2)∨(x<0/\e.2.1 = -x/\e.2.2=v/\y=e.1)
 | []=>by simp[s02]
 |e::es=>by
  simp only[s02,List.mem_append,R8 (es:=es),mE,exists_eq_or_imp]
  refine or_congr ?_ Iff.rfl
  grind[Z0l,List.mem_singleton,absurd]
def inG(g:z0):Prop:=∀ e∈g.2.2,(0<=e.1/\e.1<g.2.1)/\(0<=e.2.2/\e.2.2<g.2.1)/\1<=e.2.1/\e.2.1<=g.1
theorem V2{g:z0}(h:U0 g=true):inG g/\(1<=g.1/\g.1<=3)/\(1<=g.2.1/\g.2.1<=40)/\g.2.2.length<=120:=by
 obtain⟨r,n,es⟩:=g
 simp only[U0,inR,aE,dE]at h
 obtain⟨⟨⟨b,c⟩,d⟩,f⟩:=h
 refine⟨λe j=>?_,c,d,f⟩
 obtain⟨i,k⟩:=List.getElem?_of_mem j
 have a:=v0n b i (Nat.zero_le _) (by grind)
 rw[p0d k]at a
 simp only[Bool.or_eq_false_iff,Bool.not_eq_false',K08,inR,aE,dE]at a
 grind[w64]
def J05{g:z0}(d:inG g)(v x:Int):D1 g v x = -1∨(0<=D1 g v x/\D1 g v x<g.2.1):=by
 unfold D1
 cases hs:I05 g v x with
 |nil=>exact .inl rfl
 |cons a l =>
  right
  have b:a∈I05 g v x:=by grind
  obtain⟨e,c,h⟩:=R8.1 (a0m b)
  have:=d e c
  grind
def V03{g:z0}(a:inG g)(b:g.2.1<=40)(v x:Int):F0 (D1 g v x):=by
 rcases J05 a v x with h|h
 ·rw[h];decide
 ·constructor<;>omega
def b08(a b:O0):Bool:=decide (a.2.1=b.2.1)&&(decide (a.1=b.1) || decide (a.2.2=b.2.2))
theorem f0h(a b:O0):b08 a b=b08 b a:=by
 unfold b08
 have h:∀ x y:Int,decide (x=y)=decide (y=x):=λx y=>decide_eq_decide.2 ⟨Eq.symm,Eq.symm⟩
 rw[h a.2.1,h a.1,h a.2.2]
def noC(a:O0):List O0->Bool
 | []=>true
 |b::l => !b08 a b&&noC a l
def e0e:List O0->Bool
 | []=>true
 |a::l=>noC a l&&e0e l
def w0n(a:O0):∀ l,noC a l=true↔∀ b∈l,b08 a b=false
 | []=>by simp[noC]
 |b::l=>by simp[noC,w0n a l]
def g0h:∀ l,e0e l=true↔l.Pairwise λa b=>b08 a b=false
 | []=>by simp[e0e]
 |a::l=>by simp[e0e,g0h l,w0n,List.pairwise_cons]
def U0j:List O0->List O0->Bool
 |_,[]=>true
 |b,a::l=>noC a b&&U0j (b ++ [a]) l
def b0m:∀(l c:List O0),U0j c l=true↔l.Pairwise (λa b=>b08 a b=false)/\∀ a∈l,∀ b∈c,b08 a b=false
 | [],c=>by simp[U0j]
 |a::l,c=>by
  simp only[U0j,aE,w0n,b0m l,List.pairwise_cons]
  constructor
  ·grind[f0h]
  grind[List.mem_cons_self,mC,List.mem_singleton,f0h]
def N0t(l:List O0):U0j [] l=e0e l:=by
 rw[Bool.eq_iff_iff,b0m,g0h]
 simp
def N0(g:z0):Bool:=U0 g&&e0e g.2.2
def p0x(a b e c d f:Int):(bif decide (b=d)then(bif decide (a=c)then true else decide (e=f))else false)=b08 (a,b,e) (c,d,f):=by
 unfold b08
 cases decide (b=d)<;>cases decide (a=c)<;>rfl
def T0f(l:List O0)(a:O0)(o:l.length<=140737488355328):∀(d k fuel:Nat),k+d=l.length->d<fuel ->
  b9 l a.2.1 a.1 a.2.2 fuel (k:Int)=some (bif noC a (l.drop k)then .inr ()else .inl false)
 |d,k,0,g,hf=>by omega
 |0,k,fuel+1,g,hf=>by
  rw[b9.eq_2,if_neg (by simp;omega),Z0 (by omega)]
  rfl
 |d+1,k,fuel+1,g,hf=>by
  have h:k<l.length:=by omega
  have b:=U3 h
  generalize l[k]=x at b
  obtain⟨c,e,f⟩:=a
  obtain⟨i,j,m⟩:=x
  rw[b9.eq_2,if_pos (by simp;omega),Z1 b,oB,I1 b]
  simp only[p0x,noC]
  cases hc:b08 (c,e,f) (i,j,m)with
  |true=>rfl
  |false =>
   rw[if_neg (by simp),E2 h (by omega),T0f l (c,e,f) o d (k+1) fuel (by omega) (by omega)]
   simp
def K04{a:Type}{xs:List a}{k:Nat}(h:k<=xs.length):y07 xs (k:Int) (xs.length:Int)=some (xs.drop k):=by
 simp_all[y07,if_pos]
def U0f(l:List O0)(h:l.length<=140737488355328):∀(d k fuel:Nat),k+d=l.length->d<fuel ->
  c9 l fuel (k:Int)=some (bif e0e (l.drop k)then .inr ()else .inl false)
 |d,k,0,b,hf=>by omega
 |0,k,fuel+1,b,hf=>by
  rw[c9.eq_2,if_neg (by simp;omega),Z0 (by omega)]
  rfl
 |d+1,k,fuel+1,b,hf=>by
  have c:k<l.length:=by omega
  have a:=U3 c
  generalize l[k]=x at a
  have h0:=T0f (l.drop (k+1)) x (by simp;omega) (l.drop (k+1)).length 0 P0 (by omega) (X0 (by simp;omega))
  rw[show((0:Nat):Int)=0 from rfl,dZ]at h0
  obtain⟨e,f,g⟩:=x
  rw[c9.eq_2,if_pos (by simp;omega),Z1 a,oB,I1 a]
  simp only[E2 c (show l.length<=9223372036854775807 by omega),K04 (show k+1<=l.length by omega),oB]
  simp only at h0
  rw[h0,oB]
  simp only[e0e]
  cases noC (e,f,g) (l.drop (k+1))with
  |false=>rfl
  |true =>
   simp only[cT,F0t,Bool.true_and]
   exact U0f l h d (k+1) fuel (by omega) (by omega)
def n01(g:z0)(a:g.2.2.length<=140737488355328):A8 g=some (N0 g):=by
 have b:=f01 g a
 obtain⟨r,n,es⟩:=g
 unfold A8 N0
 simp only[b,oB]
 cases U0 (r,n,es)with
 |false=>rfl
 |true =>
  have h:=U0f es a es.length 0 P0 (by omega) (X0 a)
  rw[show((0:Nat):Int)=0 from rfl,dZ]at h
  rw[if_neg (by simp),h,oB]
  cases e0e es<;>rfl
def V0f(l:List O0)(s:l.length<=140737488355328){i:Nat}{a:O0}(b:l[i]?=some a):∀(d k fuel:Nat),k+d=i->d<fuel ->
  Y8 (i:Int) l fuel (k:Int)=some (bif noC a ((l.take i).drop k)then .inr ()else .inl false)
 |d,k,0,e,hf=>by omega
 |0,k,fuel+1,e,hf=>by
  have:=(gI.1 b).1
  rw[Y8.eq_2,if_neg (by simp;omega),Z0 (by simp;omega)]
  rfl
 |d+1,k,fuel+1,e,hf=>by
  have u:=(gI.1 b).1
  have f:k<l.length:=by omega
  have c:=U3 f
  have g:(l.take i)[k]?=some l[k]:=by rw[List.getElem?_take,if_pos (by omega)];exact c
  have t:=V0f l s b d (k+1) fuel (by omega) (by omega)
  generalize l[k]=x at c g
  obtain⟨h,j,m⟩:=a
  obtain⟨o,p,q⟩:=x
  rw[Y8.eq_2,if_pos (by simp;omega),Z1 b,oB,I1 g]
  simp only[Z1 c,oB,p0x,noC]
  cases hc:b08 (h,j,m) (o,p,q)with
  |true=>rfl
  |false =>
   rw[if_neg (by simp),E2 f (by omega),t]
   simp
theorem o0s{a:Type}{xs:List a}{k:Nat}{x:a}(h:xs[k]?=some x):xs.take (k+1)=xs.take k ++ [x]:=by
 grind[List.getElem?_eq_some_iff,List.take_succ_eq_append_getElem]
def W0f(r n:Int)(l:List O0)(f:U0 (r,n,l)=true)(b:l.length<=140737488355328):∀(d k fuel:Nat),k+d=l.length->d<fuel ->
  Q6 l r n fuel (k:Int)=some (bif U0j (l.take k) (l.drop k)then .inr ()else .inl false)
 |d,k,0,c,hf=>by omega
 |0,k,fuel+1,c,hf=>by
  have e:decide ((k:Int)<(l.length:Int))=false:=by simp;omega
  rw[Q6.eq_2,e,K1,oB,if_neg (by simp),Z0 (by omega)]
  rfl
 |d+1,k,fuel+1,c,hf=>by
  have g:k<l.length:=by omega
  have a:=U3 g
  generalize l[k]=x at a
  have h0:=V0f l b a k 0 P0 (by omega) (X0 (by omega))
  rw[show((0:Nat):Int)=0 from rfl,dZ]at h0
  have e:decide ((k:Int)<(l.length:Int))=true:=by simp;omega
  rw[Q6.eq_2,e,E1,t9 (r,n,l) b,oB,f,if_pos (show(bif true then true else false)=true from rfl),h0,oB,I1 a]
  simp only[U0j]
  cases noC x (l.take k)with
  |false=>rfl
  |true =>
   simp only[cT,F0t,Bool.true_and]
   rw[E2 g (by omega),←o0s a]
   exact W0f r n l f b d (k+1) fuel (by omega) (by omega)
def K6(g:z0)(a:g.2.2.length<=140737488355328):N4 g=some (N0 g):=by
 have c:=t9 g a
 obtain⟨r,n,es⟩:=g
 unfold N4 N0
 simp only[c,oB]
 cases hg:U0 (r,n,es)with
 |false =>
  have b:Q6 es r n P0 0=some (.inr ()):=by
   rw[show P0=(P0-1)+1 from rfl,Q6.eq_2]
   by_cases e:decide ((0:Int)<(es.length:Int))=true
   all_goals simp_all[E1,oB,if_neg,Bool.not_eq_true,K1]
  rw[b]
  rfl
 |true =>
  have h:=W0f r n es hg a es.length 0 P0 (by omega) (X0 a)
  rw[show((0:Nat):Int)=0 from rfl,dZ,List.take_zero,N0t]at h
  rw[h,oB]
  cases e0e es<;>rfl
def O2(g:z0):Int->List Int->Int×Nat
 |v,[]=>(v,0)
 |v,x::w=>if D1 g v x<0 then(v,0)else((O2 g (D1 g v x) w).1,(O2 g (D1 g v x) w).2+1)
theorem B07(g:z0):∀(w:List Int) (v:Int),(O2 g v w).2<=w.length
 | [],v=>by simp[O2]
 |x::w,v=>by
  have:=B07 g w (D1 g v x)
  grind[O2,List.length_cons]
def m0a{g:z0}(a:inG g)(b:g.2.1<=40):∀(w:List Int) (v:Int),F0 v->F0 (O2 g v w).1
 | [],v,h=>h
 |x::w,v,h=>by
  unfold O2
  split
  ·exact h
  ·exact m0a a b w _ (V03 a b v x)
def R0w(q:Int×Nat)(n:Nat)(k:Nat):(Int×Int) ⊕ Int:=bif decide (q.2<n)then .inl (q.1,((k+q.2:Nat):Int))else .inr q.1
def a0i(r n:Int)(es:List O0)(f:inG (r,n,es))(g:n<=40)(e:es.length<=1099511627776)(w:List Int)(i:∀ x∈w,j5 x)(l:w.length<=140737488355328):∀(d k fuel:Nat) (v:Int),k+d=w.length->d<fuel ->
  L7 w r n es fuel v (k:Int)=some (R0w (O2 (r,n,es) v (w.drop k)) d k)
 |d,k,0,v,c,hf=>by omega
 |0,k,fuel+1,v,c,hf=>by
  rw[L7.eq_2,if_neg (by simp;omega),Z0 (by omega)]
  rfl
 |d+1,k,fuel+1,v,c,hf=>by
  have a:k<w.length:=by omega
  have b:=U3 a
  have j:=i _ (List.getElem_mem a)
  generalize w[k]=x at b j
  rw[L7.eq_2,if_pos (by simp;omega),Z1 b,oB,M08 (r,n,es) v x j e,oB,D0 (V03 f g v x),oB,I1 b]
  unfold O2
  by_cases h:D1 (r,n,es) v x<0
  ·simp_all[if_pos,R0w]
  ·rw[if_neg (by simpa using h),if_neg h,E2 a (by omega),a0i r n es f g e w i l d (k+1) fuel _ (by omega) (by omega)]
   unfold R0w
   grind
def j0v(g:z0)(c:inG g)(d:g.2.1<=40)(b:g.2.2.length<=1099511627776)(v:Int)(w:List Int)(e:∀ x∈w,j5 x)(a:w.length<=140737488355328):D01 g v w=some ((O2 g v w).1,(((O2 g v w).2:Nat):Int)):=by
 obtain⟨r,n,es⟩:=g
 unfold D01
 have h:=a0i r n es c d b w e a w.length 0 P0 v (by omega) (X0 a)
 rw[show((0:Nat):Int)=0 from rfl,dZ]at h
 grind[B07,R0w,O2,z9]
def b0i(r n:Int)(es:List O0)(f:inG (r,n,es))(g:n<=40)(e:es.length<=1099511627776)(w:List Int)(i:∀ x∈w,j5 x)(l:w.length<=140737488355328):∀(d k fuel:Nat) (v:Int),k+d=w.length->d<fuel ->
  Z8 w r n es fuel v (k:Int)=some (bif decide ((O2 (r,n,es) v (w.drop k)).2<d)then .inl (-1,false)else .inr (O2 (r,n,es) v (w.drop k)).1)
 |d,k,0,v,c,hf=>by omega
 |0,k,fuel+1,v,c,hf=>by
  rw[Z8.eq_2,if_neg (by simp;omega),Z0 (by omega)]
  rfl
 |d+1,k,fuel+1,v,c,hf=>by
  have a:k<w.length:=by omega
  have b:=U3 a
  have j:=i _ (List.getElem_mem a)
  generalize w[k]=x at b j
  rw[Z8.eq_2,if_pos (by simp;omega),Z1 b,oB,U03 (r,n,es) v x j e,oB,D0 (V03 f g v x),oB,I1 b]
  unfold O2
  by_cases h:D1 (r,n,es) v x<0
  ·grind
  ·rw[if_neg (by simpa using h),if_neg h,E2 a (by omega),b0i r n es f g e w i l d (k+1) fuel _ (by omega) (by omega)]
   grind
def S0q(g:z0)(hf:N0 g=true)(v:Int)(j:0<=v/\v<g.2.1)(w:List Int)(k:∀ x∈w,j5 x)(a:w.length<=140737488355328):
  M01 g v w=some (bif decide ((O2 g v w).2<w.length)then(-1,false)else((O2 g v w).1,true)):=by
 have f:U0 g=true:=by simp_all[N0,aE]
 obtain⟨e,_,b,d⟩:=V2 f
 have c:=K6 g (by omega)
 obtain⟨r,n,es⟩:=g
 simp only at j b d
 unfold M01
 have h:=b0i r n es e b.2 (by omega) w k a w.length 0 P0 v (by omega) (X0 a)
 rw[show((0:Nat):Int)=0 from rfl,dZ]at h
 have i:inR 0 (n-1) v=true:=by simp only[inR,aE,dE];omega
 simp only[c,hf,oB,bT,bF,E1,J02,w64 (show -9223372036854775808<=n-1 by omega) (show n-1<=9223372036854775807 by omega),i,cF,fT,if_false,h]
 cases decide ((O2 (r,n,es) v w).2<w.length)<;>rfl
theorem F1{g:z0}(h:N0 g=true):inG g/\(1<=g.1/\g.1<=3)/\(1<=g.2.1/\g.2.1<=40)/\g.2.2.length<=120:=by
 simp_all[N0,aE,V2]
def W0t{a b:List Int}(c:k0a a)(d:k0a b):k0a (a++b):=λx e=>by
 rcases List.mem_append.1 e with h|h
 ·exact c x h
 ·exact d x h
def Q07(w:List Int)(hl:w.length<=17592186044416)(n0:Nat)(hn:n0+w.length<=17592186044416):∀(d k fuel:Nat) (s:List Int),k+d=w.length->d<fuel->s.length<=n0+k ->
  D8 w fuel (k:Int) s.reverse=some (o05 s (w.drop k)).reverse
 |d,k,0,s,hk,hf,hsl=>by omega
 |0,k,fuel+1,s,hk,hf,hsl=>by
  rw[D8.eq_2,if_neg (by simp;omega),Z0 (by omega)]
  rfl
 |d+1,k,fuel+1,s,hk,hf,hsl=>by
  have hkl:k<w.length:=by omega
  have hx:=U3 hkl
  generalize w[k]=x at hx
  have next:=Q07 w hl n0 hn d (k+1) fuel (b04 s x) (by omega) (by omega) (by have:=d0h s x;omega)
  rw[I1 hx]
  show _=some (o05 (b04 s x) (w.drop (k+1))).reverse
  rw[←next,D8.eq_2,if_pos (by simp;omega),Z1 hx,oB,oB,D0 (by rw[List.length_reverse];omega),oB,oB,oB]
  rw[E2 hkl (by omega:w.length<=9223372036854775807)]
  cases s with
  |nil =>
   have hz:decide ((((([]:List Int).reverse).length:Nat):Int)>0)=false:=rfl
   simp only[hz,K1,oB,cF,fT,if_false]
   rw[D0 (by simp)]
   rfl
  |cons l t =>
   have hp:decide ((((l::t).reverse.length:Nat):Int)>0)=true:=by simp
   have hpr:i64.wrap ((((l::t).reverse.length:Nat):Int)-1)=((t.length:Nat):Int):=by
    rw[K0f (by simp) (by simp only[lC]at hsl;simp only[List.length_reverse,lC];omega)];simp
   have hpush:(grd (((l::t).reverse.length + [x].length)*8<=140737488355328))=some ():=D0 (by simp only[lC]at hsl;simp only[List.length_reverse,lC,lN];omega)
   have hlen:(grd ((l::t).reverse.length<=9223372036854775807))=some ():=D0 (by rw[List.length_reverse];omega)
   simp only[hp,hpr,E1,oB,cT,Z1 N0j,L0f,b04]
   have hcc:(!(l == 0) && !(l == -9223372036854775808)&&(x == i64.wrap (0-l)))=O0f l x:=rfl
   rw[hcc]
   cases hc:O0f l x with
   |true =>
    simp only[if_true,cT,hlen,oB]
    rw[D0 (by simp only[List.length_reverse,lC];omega),oB,iN,W0l]
   |false =>
    simp only[fT,if_false,cF,hpush,hlen,oB]
    exact congrArg _ (List.reverse_cons ..).symm
def K0p:List (List Int)->Nat
 | []=>0
 |w::r=>w.length+K0p r
def X0t(s:List Int):List (List Int)->List Int
 | []=>s
 |w::r=>X0t (o05 s w) r
def R07(b:List (List Int))(h:b.length<=17592186044416):∀(d k fuel:Nat) (a:List Int),k+d=b.length->d<fuel->a.length+K0p (b.drop k)<=17592186044416 ->
  K9 b fuel (k:Int) a.reverse=some (X0t a (b.drop k)).reverse
 |d,k,0,a,f,hf,c=>by omega
 |0,k,fuel+1,a,f,hf,c=>by
  rw[K9.eq_2,if_neg (by simp;omega),Z0 (by omega)]
  rfl
 |d+1,k,fuel+1,a,f,hf,c=>by
  have g:k<b.length:=by omega
  have e:=U3 g
  generalize b[k]=w at e
  rw[I1 e]at c ⊢
  simp only[K0p]at c
  have i:=x06 w a
  have h0:=Q07 w (by omega) a.length (by omega) w.length 0 P0 a (by omega) (X0 (by omega)) (by omega)
  rw[show((0:Nat):Int)=0 from rfl,dZ]at h0
  rw[K9.eq_2,if_pos (by simp;omega),Z1 e,oB,h0,oB,E2 g (by omega:b.length<=9223372036854775807)]
  exact R07 b h d (k+1) fuel (o05 a w) (by omega) (by omega) (by omega)
theorem H09(a:List (List Int))(c:a.length<=17592186044416)(b:K0p a<=17592186044416):i01 a=some (X0t [] a).reverse:=by
 unfold i01
 have h:=R07 a c a.length 0 P0 [] (by omega) (X0 (by omega)) (by simpa using b)
 rw[show((0:Nat):Int)=0 from rfl,dZ,List.reverse_nil]at h
 rw[h]
 rfl
def S07(a b:List Int)(c:k0a a)(d:k0a b)(e:a.length+b.length<=17592186044416):Z7 a b=some (o05 [] (a++b)).reverse:=by
 unfold Z7
 rw[D0 (by simp only[lN];omega),oB,D0 (by simp only[lA,lN];omega),oB,nA,
  s00 _ (W0t c d) (by simp only[lA];omega)]
 rfl
def V0v(a b:List Int)(i:a.length=b.length)(g:a.length<=9223372036854775807):∀(d k fuel:Nat),k+d=a.length->d<fuel ->
  E5 a b fuel (k:Int)=some (bif eqW (a.drop k) (b.drop k)then .inr ()else .inl false)
 |d,k,0,f,hf=>by omega
 |0,k,fuel+1,f,hf=>by
  rw[E5.eq_2,if_neg (by simp;omega),Z0 (by omega),Z0 (by omega)]
  rfl
 |d+1,k,fuel+1,f,hf=>by
  have c:=U3 (show k<a.length by omega)
  have e:=U3 (show k<b.length by omega)
  have next:=V0v a b i g d (k+1) fuel (by omega) (by omega)
  generalize a[k]=x at c
  generalize b[k]=y at e
  rw[E5.eq_2,if_pos (by simp;omega),Z1 c,oB,Z1 e,oB,I1 c,I1 e]
  unfold eqW at next ⊢
  by_cases h:x=y
  ·rw[if_neg (by simpa using h),E2 (show k<a.length by omega) g,next]
   simp[h]
  ·rw[if_pos (by simpa using h)]
   simp[h]
def g05{a b:List Int}(c:a.length<=9223372036854775807):S6 a b=some (eqW a b):=by
 unfold S6
 by_cases h:a.length=b.length
 ·rw[if_neg (by simp[h])]
  have:=V0v a b h (by omega) a.length 0 P0 (by omega) (P0f c)
  rw[show((0:Nat):Int)=0 from rfl]at this
  rw[this]
  simp only[dZ,oB]
  unfold eqW
  by_cases h2:a=b
  ·simp[h2,z9]
  ·simp[h2,z9]
 ·rw[if_pos (by simp;omega)]
  unfold eqW
  have : ¬ a=b:=λe=>h (by rw[e])
  simp[this]
def S0s(a b:List Int)(i:a.length=b.length)(g:a.length<=9223372036854775807):∀(d k fuel:Nat),k+d=a.length->d<fuel ->
  F5 a b fuel (k:Int)=some (bif eqW (a.drop k) (b.drop k)then .inr ()else .inl false)
 |d,k,0,f,hf=>by omega
 |0,k,fuel+1,f,hf=>by
  rw[F5.eq_2,if_neg (by simp;omega),Z0 (by omega),Z0 (by omega)]
  rfl
 |d+1,k,fuel+1,f,hf=>by
  have c:=U3 (show k<a.length by omega)
  have e:=U3 (show k<b.length by omega)
  have next:=S0s a b i g d (k+1) fuel (by omega) (by omega)
  generalize a[k]=x at c
  generalize b[k]=y at e
  rw[F5.eq_2,if_pos (by simp;omega),Z1 c,oB,Z1 e,oB,I1 c,I1 e]
  unfold eqW at next ⊢
  by_cases h:x=y
  ·rw[if_neg (by simpa using h),E2 (show k<a.length by omega) g,next]
   simp[h]
  ·rw[if_pos (by simpa using h)]
   simp[h]
def y0h{a b:List Int}(c:a.length<=9223372036854775807):T6 a b=some (eqW a b):=by
 unfold T6
 by_cases h:a.length=b.length
 ·rw[if_neg (by simp[h])]
  have:=S0s a b h (by omega) a.length 0 P0 (by omega) (P0f c)
  rw[show((0:Nat):Int)=0 from rfl]at this
  rw[this]
  simp only[dZ,oB]
  unfold eqW
  by_cases h2:a=b
  ·simp[h2,z9]
  ·simp[h2,z9]
 ·rw[if_pos (by simp;omega)]
  unfold eqW
  have : ¬ a=b:=λe=>h (by rw[e])
  simp[this]
end Go.Proofs.YtcpjomkcdlggaaaGreat
