/- Texts of the claim, joined: Plain laws: words and presentations, as the spec and the cod and others. -/
import Derived.Test.YtmgikbbmpnbbjaaGreatPart23
import Derived.Test.YtmgikbbmpnbbjaaGreatH33
import Derived.Test.YtmgikbbmpnbbjaaGreatH36
namespace Go.Proofs.YtmgikbbmpnbbjaaGreat
open Go.H
set_option linter.unusedVariables false
set_option linter.unusedSimpArgs false
theorem M1{n:Nat}(h:n<=140737488355328):n<Y0:=by unfold Y0;omega
theorem H0{p:Prop}[Decidable p](h:p):grd p=some ():=by unfold grd;rw[if_pos h]
theorem Y1{a:Type}(o:Option a)(d:a):chk true o d=o:=rfl
theorem T2{a:Type}(o:Option a)(d:a):chk false o d=some d:=rfl
theorem B3{a:Type}{xs:List a}{k:Nat}{x:a}(h:xs[k]?=some x):gi xs (k:Int)=some x:=by rw[d0d];exact h
theorem F0f{a:Type}{xs:List a}{x:a}(h:xs[0]?=some x):gi xs 0=some x:=B3 (k:=0) h
theorem V0d{x:Int}(h:J0 x)(a:x ≠ -9223372036854775808):IntKind.i64.wrap (0-x) = -x:=by rw[w64 (by have:=h.1;have:=h.2;omega) (by have:=h.1;have:=h.2;omega)];omega
theorem G0f{n:Nat}(h:0<n)(a:n<=9223372036854775807):IntKind.i64.wrap ((n:Int)-1)=((n-1:Nat):Int):=by rw[w64 (by omega) (by omega)];omega
theorem P4{a:Type}{xs:List a}{k:Nat}(h:k<xs.length):xs[k]?=some xs[k]:=List.getElem?_eq_getElem h
def inR(b a x:Int):Bool:=decide (b<=x)&&decide (x<=a)
def a0l(b a:Int)(w:List Int)(i:Nat):Bool :=
 match w[i]? with
 |none=>true
 |some x=>x == 0 || !inR b a x || (decide (0<i)&&match w[i-1]? with
  |none=>true
  |some y=>x == IntKind.i64.wrap (0-y))
def e08(b a:Int)(w:List Int):Nat->Nat->Bool
 |0,_=>true
 |d+1,k => !a0l b a w k&&e08 b a w d (k+1)
def x00(r:Int)(w:List Int):Bool:=inR 1 3 r&&decide (w.length<=24)&&e08 (-r) r w w.length 0
theorem A03(a b c:Int):E4 a b c=some (inR b c a):=by
 unfold E4 inR
 by_cases h:b<=a<;>simp[h]
theorem j06(a b c:Int):R8 a b c=some (inR b c a):=A03 a b c
theorem t07(r:Int)(w:List Int)(n:w.length<=140737488355328):∀(d k fuel:Nat),k+d=w.length->d<fuel ->
  p9 w r fuel (k:Int)=some (bif e08 (IntKind.i64.wrap (0-r)) r w d k then .inr ()else .inl false)
 |d,k,0,j,hf=>by omega
 |0,k,fuel+1,j,hf=>by
  rw[p9.eq_2,if_neg (by simp;omega)]
  simp[e08]
 |d+1,k,fuel+1,j,hf=>by
  have l:k<w.length:=by omega
  have a:=P4 l
  generalize w[k]=x at a
  have next:=t07 r w n d (k+1) fuel (by omega) (by omega)
  rw[p9.eq_2,if_pos (by simp;omega)]
  generalize IntKind.i64.wrap (0-r)=lo at next ⊢
  simp only[B3 a,oB,A03,A3 l (by omega:w.length<=9223372036854775807),next]
  have m:a0l lo r w k=(x == 0 || !inR lo r x || (decide (0<k)&&match w[k-1]? with
   |none=>true
   |some y=>x == IntKind.i64.wrap (0-y))):=by unfold a0l;rw[a]
  simp only[e08,m]
  by_cases h0:x=0
  ·simp[h0,chk]
  have f:decide (x=0)=false:=by simpa using h0
  have b:(x == 0)=false:=by simpa using h0
  cases hin:inR lo r x with
  |false=>simp[f,b,hin,chk]
  |true =>
   by_cases hk0:k=0
   ·have h:decide ((k:Int)>0)=false:=by simp;omega
    have e:decide (0<k)=false:=by simp;omega
    simp only[f,b,hin,h,e,Y1,T2,Bool.not_true,Bool.not_false,Bool.and_true,Bool.false_and,Bool.or_self,Bool.true_and,cond_true,cond_false,oB,Bool.or_false,Bool.and_false,Bool.false_eq_true,if_false,cond_true,cond_false]
   ·have i:=P4 (show k-1<w.length by omega)
    generalize w[k-1]=y at i
    have o:IntKind.i64.wrap ((k:Int)-1)=((k-1:Nat):Int):=G0f (by omega) (by omega)
    have h:decide ((k:Int)>0)=true:=by simp;omega
    have e:decide (0<k)=true:=by simp;omega
    simp only[f,b,hin,h,e,o,i,B3 a,B3 i,Y1,T2,Bool.not_true,Bool.not_false,Bool.and_true,Bool.false_and,Bool.or_self,Bool.true_and,cond_true,cond_false,oB,Bool.or_false,Bool.and_false,Bool.false_or]
    by_cases hxy:x=IntKind.i64.wrap (0-y)
    ·have g:decide (x=IntKind.i64.wrap (0-y))=true:=by simpa using hxy
     have c:(x == IntKind.i64.wrap (0-y))=true:=by simpa using hxy
     simp only[g,c,if_true,Bool.not_true,Bool.false_and,Bool.false_eq_true,if_false,cond_true,cond_false]
    ·have g:decide (x=IntKind.i64.wrap (0-y))=false:=by simpa using hxy
     have c:(x == IntKind.i64.wrap (0-y))=false:=by simpa using hxy
     simp only[g,c,Bool.false_eq_true,if_false,Bool.not_false,Bool.true_and]
theorem J0b(r:Int)(w:List Int)(a:w.length<=140737488355328):F02 r w=some (x00 r w):=by
 unfold F02
 have h:=t07 r w a w.length 0 Y0 (by omega) (M1 a)
 rw[show((0:Nat):Int)=0 from rfl]at h
 rw[h,A03]
 unfold x00
 by_cases hr:inR 1 3 r=true
 ·have:IntKind.i64.wrap (0-r) = -r:=by
   simp only[inR,Bool.and_eq_true,decide_eq_true_eq]at hr
   rw[w64 (by omega) (by omega)];omega
  rw[this,hr]
  cases e08 (-r) r w w.length 0<;>simp[h8]<;>omega
 ·simp only[Bool.not_eq_true]at hr
  rw[hr]
  cases e08 (IntKind.i64.wrap (0-r)) r w w.length 0<;>simp[h8]
theorem q0j(y x:Int):m01 y x=some (!(y == 0) && !(y == -9223372036854775808)&&(x == IntKind.i64.wrap (0-y))):=by
 unfold m01
 by_cases h0:y=0
 ·simp[h0]
 ·by_cases h1:y = -9223372036854775808
  ·simp[h1]
  ·simp only[h0,h1,decide_false,Bool.not_false,cond_true,Option.some.injEq]
   have a:(y == 0)=false:=by simpa using h0
   have b:(y == -9223372036854775808)=false:=by simpa using h1
   rw[a,b]
   rfl
def tot:List (List Int)->Nat
 | []=>0
 |w::r=>w.length+tot r
theorem C2{a:Type}{xs:List a}{k:Nat}{x:a}(h:xs[k]?=some x):xs.drop k=x::xs.drop (k+1):=by
 obtain⟨b,rfl⟩:=List.getElem?_eq_some_iff.1 h
 exact List.drop_eq_getElem_cons b
theorem V1{a:Type}{xs:List a}{k:Nat}(h:k=xs.length):xs.drop k = []:=by rw[h];exact List.drop_length
theorem C04(b:List (List Int))(h:b.length<=140737488355328):∀(d k fuel a:Nat),k+d=b.length->d<fuel->a+tot (b.drop k)<=9223372036854775807 ->
  i6 b fuel (a:Int) (k:Int)=some ((a+tot (b.drop k):Nat):Int)
 |d,k,0,a,f,hf,c=>by omega
 |0,k,fuel+1,a,f,hf,c=>by
  rw[i6.eq_2,if_neg (by simp;omega),V1 (by omega)]
  rfl
 |d+1,k,fuel+1,a,f,hf,c=>by
  have g:k<b.length:=by omega
  have e:=P4 g
  generalize b[k]=x at e
  rw[C2 e]at c ⊢
  simp only[tot]at c ⊢
  rw[i6.eq_2,if_pos (by simp;omega),B3 e,oB,A3 g (by omega:b.length<=9223372036854775807),
   show IntKind.i64.wrap ((a:Int)+((x.length:Nat):Int))=((a+x.length:Nat):Int) by rw[w64 (by omega) (by omega)];omega,
   C04 b h d (k+1) fuel (a+x.length) (by omega) (by omega) (by omega)]
  rw[Nat.add_assoc]
theorem K0b(a:List (List Int))(b:a.length<=140737488355328)(c:tot a<=9223372036854775807):S00 a=some ((tot a:Nat):Int):=by
 unfold S00
 have h:=C04 a b a.length 0 Y0 0 (by omega) (M1 b) (by simpa using c)
 rw[show((0:Nat):Int)=0 from rfl]at h
 rw[h]
 simp
def r0j(r:Int):List (List Int)->Bool
 | []=>true
 |w::l=>x00 r w&&r0j r l
def U00(r:Int)(a:List (List Int)):Bool:=inR 1 3 r&&decide (a.length<=6)&&r0j r a&&decide (tot a<40)
theorem b0l{r:Int}:∀ {a:List (List Int)},r0j r a=true->tot a<=24*a.length
 | [],_=>by simp[tot]
 |w::l,h=>by
  simp only[r0j,Bool.and_eq_true]at h
  have b:=h.1
  simp only[x00,Bool.and_eq_true,decide_eq_true_eq]at b
  have:=b0l h.2
  simp only[tot,List.length_cons]
  omega
def k06(a:List (List Int)):Prop:=∀ w∈a,w.length<=140737488355328
theorem l06(r:Int)(a:List (List Int))(h:a.length<=140737488355328)(f:k06 a):∀(d k fuel:Nat),k+d=a.length->d<fuel ->
  L7 a r fuel (k:Int)=some (bif r0j r (a.drop k)then .inr ()else .inl false)
 |d,k,0,c,hf=>by omega
 |0,k,fuel+1,c,hf=>by
  rw[L7.eq_2,if_neg (by simp;omega),V1 (by omega)]
  rfl
 |d+1,k,fuel+1,c,hf=>by
  have e:k<a.length:=by omega
  have b:=P4 e
  have g:=f _ (List.mem_of_getElem? b)
  generalize a[k]=x at b g
  rw[C2 b,L7.eq_2,if_pos (by simp;omega),B3 b,oB,J0b r x g,oB,A3 e (by omega:a.length<=9223372036854775807),
   l06 r a h f d (k+1) fuel (by omega) (by omega)]
  simp only[r0j]
  cases x00 r x<;>simp
theorem H0f(r:Int)(a:List (List Int))(d:a.length<=140737488355328)(e:k06 a):s02 r a=some (U00 r a):=by
 unfold s02
 have h:=l06 r a d e a.length 0 Y0 (by omega) (M1 d)
 rw[show((0:Nat):Int)=0 from rfl,List.drop_zero]at h
 rw[h,oB]
 unfold U00
 cases ha:r0j r a with
 |false=>simp[h8]
 |true =>
  rw[cond_true,Z0,A03,oB]
  have:=b0l ha
  cases hr:inR 1 3 r with
  |false=>simp[chk,grd,J0]
  |true =>
   by_cases h6:a.length<=6
   ·rw[K0b a d (by omega)]
    have b:decide (((a.length:Nat):Int)<=6)=true:=by simp;omega
    have c:decide (a.length<=6)=true:=by simpa using h6
    rw[b,c,cond_true,Y1,oB,H0 (by constructor<;>omega)]
    simp
    omega
   ·have b:decide (((a.length:Nat):Int)<=6)=false:=by simp;omega
    have c:decide (a.length<=6)=false:=by simpa using h6
    rw[b,c]
    simp[chk,grd,J0]
theorem R0h{b a:Int}{w:List Int}:∀ {d k:Nat},e08 b a w d k=true->∀ i,k<=i->i<k+d->a0l b a w i=false
 |0,k,h,i,c,f=>by omega
 |d+1,k,h,i,c,f=>by
  simp only[e08,Bool.and_eq_true,Bool.not_eq_true']at h
  by_cases e:i=k
  ·subst e;exact h.1
  ·exact R0h h.2 i (by omega) (by omega)
theorem c0l{r:Int}{w:List Int}(h:x00 r w=true){i:Nat}{x:Int}(d:w[i]?=some x):(1<=r/\r<=3)/\w.length<=24/\x≠0 /\ -r<=x/\x<=r:=by
 simp only[x00,Bool.and_eq_true,decide_eq_true_eq]at h
 have c:=h.1.1
 simp only[inR,Bool.and_eq_true,decide_eq_true_eq]at c
 have a:=R0h h.2 i (Nat.zero_le _) (by have:=(List.getElem?_eq_some_iff.1 d).1;omega)
 unfold a0l at a
 rw[d]at a
 simp only[Bool.or_eq_false_iff,Bool.not_eq_false']at a
 have b:=a.1.2
 simp only[inR,Bool.and_eq_true,decide_eq_true_eq]at b
 exact⟨c,h.1.2,by simpa using a.1.1,b⟩
def ng(x:Int):Int:=IntKind.i64.wrap (0-x)
def inv(w:List Int):List Int:=(w.map ng).reverse
theorem s0j(w:List Int):(inv w).length=w.length:=by simp[inv]
def u07(w:List Int):Prop:=∀ x∈w,J0 x
theorem o0r{w:List Int}{k:Nat}{x:Int}(a:w[k]?=some x):inv (w.drop k)=inv (w.drop (k+1)) ++ [ng x]:=by
 rw[C2 a]
 simp[inv]
theorem m05(w:List Int)(c:w.length<=1099511627776):∀(k fuel:Nat),k<=w.length->k<fuel ->
  G7 w fuel ((k:Int)-1) (inv (w.drop k))=some (inv w)
 |k,0,b,hf=>by omega
 |0,fuel+1,b,hf=>by
  rw[G7.eq_2,if_neg (by simp)]
  rfl
 |k+1,fuel+1,b,hf=>by
  have a:=P4 (show k<w.length by omega)
  have next:=m05 w c k fuel (by omega) (by omega)
  generalize w[k]=x at a
  rw[o0r a]at next
  have d:=s0j (w.drop (k+1))
  rw[List.length_drop]at d
  rw[show(((k+1:Nat):Int)-1)=(k:Int) by omega,G7.eq_2,if_pos (by simp),B3 a,oB,H0 (by simp only[List.length_singleton];omega),oB,
   w64 (by omega) (by omega)]
  exact next
theorem f0d(w:List Int)(a:w.length<=1099511627776):o04 w=some (inv w):=by
 unfold o04
 have h:=m05 w a w.length Y0 (Nat.le_refl _) (M1 (by omega))
 rw[List.drop_length]at h
 rw[w64 (by omega) (by omega),show([]:D1)=inv [] from rfl,h]
 rfl
theorem p04(w:List Int):∀(fuel:Nat) (k:Int) (u:List Int),H7 w fuel k u=G7 w fuel k u
 |0,k,u=>rfl
 |fuel+1,k,u=>by
  rw[H7.eq_2,G7.eq_2]
  simp only[p04 w fuel]
theorem g0d(w:List Int)(a:w.length<=1099511627776):n01 w=some (inv w):=by
 rw[←f0d w a]
 unfold n01 o04
 rw[H0 (by omega),oB,p04]
 rfl
def m06(l x:Int):Bool := !(l == 0) && !(l == -9223372036854775808)&&(x == ng l)
def y03(s:List Int)(x:Int):List Int:=match s with
 | []=>[x]
 |l::t=>bif m06 l x then t else x::l::t
def Y02(s w:List Int):List Int:=w.foldl y03 s
def Red:List Int->Bool
 | []=>true
 | [_]=>true
 |x::l::t => !m06 l x&&Red (l::t)
theorem p0r{x:Int}{t:List Int}(h:Red (x::t)=true):Red t=true:=by
 cases t with
 |nil=>rfl
 |cons l t=>simp only[Red,Bool.and_eq_true]at h;exact h.2
theorem d0l(s a b:List Int):Y02 s (a++b)=Y02 (Y02 s a) b:=List.foldl_append
theorem S0h:∀(s:List Int),Red s=true->Y02 [] s.reverse=s
 | [],h=>rfl
 |x::t,h=>by
  rw[List.reverse_cons,d0l,S0h t (p0r h)]
  show y03 t x=_
  cases t with
  |nil=>rfl
  |cons l t =>
   simp only[Red,Bool.and_eq_true,Bool.not_eq_true']at h
   simp only[y03,h.1,cond_false]
theorem h0d(s:List Int)(x:Int):(y03 s x).length<=s.length+1:=by
 cases s with
 |nil=>simp[y03]
 |cons l t =>
  simp only[y03]
  cases m06 l x<;>simp<;>omega
theorem v07:∀(w s:List Int),(Y02 s w).length<=s.length+w.length
 | [],s=>by simp[Y02]
 |x::w,s=>by
  have:=v07 w (y03 s x)
  have:=h0d s x
  simp only[Y02,List.foldl_cons,List.length_cons]at *
  omega
theorem e0l{s:List Int}{x:Int}(h:u07 s)(b:J0 x):u07 (y03 s x):=by
 cases s with
 |nil=>intro y a;simp[y03]at a;subst a;exact b
 |cons l t =>
  simp only[y03]
  cases m06 l x with
  |true=>exact λy a=>h y (mC _ a)
  |false =>
   intro y a
   rcases List.mem_cons.1 a with rfl|a
   ·exact b
   ·exact h y a
theorem p0o:∀(w s:List Int),u07 s->u07 w->u07 (Y02 s w)
 | [],s,a,b=>a
 |x::w,s,a,b=>p0o w (y03 s x) (e0l a (b x mS)) λy c=>b y (mC _ c)
theorem b0q{l x:Int}(b:J0 l)(c:J0 x):(!(x == 0)&&(l == ng x) && !(l == x))=m06 l x:=by
 unfold m06 ng
 have e:∀ {z:Int},J0 z->IntKind.i64.wrap (0-z)=if z = -9223372036854775808 then -9223372036854775808 else -z:=λ{z} a=>by
  split
  ·rename_i h;subst h;decide
  ·rw[w64 (by have:=a.1;have:=a.2;omega) (by have:=a.1;have:=a.2;omega)];omega
 rw[e b,e c]
 have d:=b.1
 have f:=b.2
 have g:=c.1
 have i:=c.2
 rw[Bool.eq_iff_iff]
 simp only[Bool.and_eq_true,Bool.not_eq_true',beq_iff_eq,beq_eq_false_iff_ne,ne_eq]
 split<;>split<;>omega
theorem I0f{l:Int}{t:List Int}:(l::t).reverse[t.length]?=some l:=by
 rw[List.reverse_cons,List.getElem?_append_right (by simp)]
 simp
theorem T0h(l:Int)(t:List Int):(l::t).reverse.take t.length=t.reverse:=by
 rw[List.reverse_cons,List.take_append_of_le_length (by simp),List.take_of_length_le (by simp)]
theorem a04(w:List Int)(hw:u07 w)(hl:w.length<=1099511627776):∀(d k fuel:Nat) (s:List Int),k+d=w.length->d<fuel->u07 s->s.length<=k ->
  H4 w fuel (k:Int) s.reverse=some (Y02 s (w.drop k)).reverse
 |d,k,0,s,hk,hf,hs,hsl=>by omega
 |0,k,fuel+1,s,hk,hf,hs,hsl=>by
  rw[H4.eq_2,if_neg (by simp;omega),V1 (by omega)]
  rfl
 |d+1,k,fuel+1,s,hk,hf,hs,hsl=>by
  have hkl:k<w.length:=by omega
  have hx:=P4 hkl
  have hx64:=hw _ (List.mem_of_getElem? hx)
  generalize w[k]=x at hx hx64
  have next:=a04 w hw hl d (k+1) fuel (y03 s x) (by omega) (by omega) (e0l hs hx64) (by have:=h0d s x;omega)
  rw[C2 hx]
  show _=some (Y02 (y03 s x) (w.drop (k+1))).reverse
  rw[←next,H4.eq_2,if_pos (by simp;omega),oB,H0 (by rw[List.length_reverse];omega),oB]
  rw[A3 hkl (by omega:w.length<=9223372036854775807)]
  have e0:decide (x=0)=(x == 0):=by rw[Bool.eq_iff_iff];simp
  cases s with
  |nil =>
   have hz:decide ((((([]:List Int).reverse).length:Nat):Int)>0)=false:=rfl
   simp only[hz,T2,oB,cond_false,Bool.false_eq_true,if_false,B3 hx]
   rw[H0 (by simp)]
   rfl
  |cons l t =>
   have hl64:=hs l mS
   have hp:decide ((((l::t).reverse.length:Nat):Int)>0)=true:=by simp
   have hpr:IntKind.i64.wrap ((((l::t).reverse.length:Nat):Int)-1)=((t.length:Nat):Int):=by
    rw[G0f (by simp) (by simp only[List.length_reverse,List.length_cons]at *;omega)];simp
   have hc:=b0q hl64 hx64
   have e1:decide (l=IntKind.i64.wrap (0-x))=(l == ng x):=by rw[Bool.eq_iff_iff];simp[ng]
   have e2:decide (l=x)=(l == x):=by rw[Bool.eq_iff_iff];simp
   have hpush:(grd (((l::t).reverse.length + [x].length)*8<=140737488355328))=some ():=H0 (by simp only[List.length_cons]at hsl;simp only[List.length_reverse,List.length_cons,List.length_nil];omega)
   simp only[hp,hpr,Y1,oB,cond_true,B3 hx,B3 I0f,e0,y03]
   cases h0:(x == 0)with
   |true =>
    rw[h0]at hc
    simp only[Bool.not_true,Bool.false_and]at hc
    simp only[←hc,Bool.not_true,T2,cond_false,oB,Bool.false_eq_true,if_false,hpush]
    exact congrArg _ (List.reverse_cons ..).symm
   |false =>
    rw[h0]at hc
    simp only[Bool.not_false,Bool.true_and]at hc
    simp only[Bool.not_false,Y1,cond_true,oB,e1]
    cases h1:(l == ng x)with
    |false =>
     rw[h1]at hc
     simp only[Bool.false_and]at hc
     simp only[←hc,T2,cond_false,oB,Bool.false_eq_true,if_false,hpush]
     exact congrArg _ (List.reverse_cons ..).symm
    |true =>
     rw[h1]at hc
     simp only[Bool.true_and]at hc
     simp only[Y1,cond_true,oB,e2]
     cases h2:(l == x)with
     |true =>
      rw[h2]at hc
      simp only[Bool.not_true]at hc
      simp only[←hc,Bool.not_true,Bool.false_eq_true,if_false,cond_false,oB,hpush]
      exact congrArg _ (List.reverse_cons ..).symm
     |false =>
      rw[h2]at hc
      simp only[Bool.not_false]at hc
      simp only[←hc,Bool.not_false,if_true,cond_true]
      rw[H0 (by simp only[List.length_reverse,List.length_cons]at *;omega),oB,Int.toNat_natCast,T0h]
theorem Y09(w:List Int)(b:u07 w)(a:w.length<=1099511627776):B8 w=some (Y02 [] w).reverse:=by
 unfold B8
 have h:=a04 w b a w.length 0 Y0 [] (by omega) (M1 (by omega)) (λx c=>by cases c) (by simp)
 rw[show((0:Nat):Int)=0 from rfl,List.drop_zero,List.reverse_nil]at h
 rw[h,oB,H0 (by have:=v07 w [];simp only[List.length_reverse,List.length_nil]at *;omega),oB,List.nil_append]
def okQ(bs:List Int)(q:Int×Int):Prop:=0<=q.1/\q.1<=(bs.length:Int)/\bs.length<=1048576
def Drw{a:Type}(bs:List Int)(o:Option (a×(Int×Int)))(p:a->Prop):Prop:=∃ x q,o=some (x,q)/\p x/\okQ bs q
theorem Drw.bind{a b:Type}{bs:List Int}{m:Option (a×(Int×Int))}{p:a->Prop}{r:b->Prop}{k:a×(Int×Int)->Option (b×(Int×Int))}(h:Drw bs m p)(e:∀ x q,p x->okQ bs q->Drw bs (k (x,q)) r):Drw bs (m.bind k) r:=by
 obtain⟨x,q,rfl,c,d⟩:=h
 exact e x q c d
theorem Drw.grd{a:Type}{bs:List Int}{p:Prop}[Decidable p]{r:a->Prop}{k:Unit->Option (a×(Int×Int))}(h:p)(b:Drw bs (k ()) r):Drw bs ((grd p).bind k) r:=by
 rw[H0 h];exact b
theorem Drw.mono{a:Type}{bs:List Int}{m:Option (a×(Int×Int))}{p r:a->Prop}(h:Drw bs m p)(d:∀ x,p x->r x):Drw bs m r:=by
 obtain⟨x,q,e,b,c⟩:=h
 exact⟨x,q,e,d x b,c⟩
theorem U0t(bs:List Int)(c:bs.length<=1048576):∀(d k fuel:Nat) (y:Int),k+d=bs.length->d<fuel->∃ z,i00 bs fuel y (k:Int)=some z
 |d,k,0,y,a,hf=>by omega
 |0,k,fuel+1,y,a,hf=>by
  rw[i00.eq_2,decide_eq_false (show ¬ (k:Int)<((bs.length:Nat):Int) by omega),cond_false,if_neg (by simp)]
  exact⟨_,rfl⟩
 |d+1,k,fuel+1,y,a,hf=>by
  have b:k<bs.length:=by omega
  rw[i00.eq_2,B3 (P4 b),A3 b (by omega)]
  split
  ·exact U0t bs c d (k+1) fuel _ (by omega) (by omega)
  ·exact⟨_,rfl⟩
theorem f0l{bs:List Int}(a:bs.length<=1048576):∃ q,D00 bs=some q/\okQ bs q:=by
 obtain⟨z,b⟩:=U0t bs a bs.length 0 Y0 (IntKind.i64.wrap (10101+((bs.length:Nat):Int))) (by omega) (by unfold Y0;omega)
 refine⟨(0,z),?_,iR _,Int.natCast_nonneg _,a⟩
 unfold D00
 rw[show(0:Int)=((0:Nat):Int) from rfl,b];rfl
theorem q0r(a:Int):0<=T0m a 255/\T0m a 255<=255:=by
 have h:(BitVec.ofInt 64 a &&& BitVec.ofInt 64 255).toNat<=255:=by
  rw[BitVec.toNat_and];exact Nat.le_trans Nat.and_le_right (by decide)
 unfold T0m
 rw[w64 (by omega) (by omega)];omega
theorem z0u{bs:List Int}{q:Int×Int}(g:okQ bs q):Drw bs (Z9 bs q) λx=>0<=x/\x<=255:=by
 obtain⟨a,e,b⟩:=g
 unfold Z9
 by_cases c:q.1<((bs.length:Nat):Int)
 ·rw[if_pos (decide_eq_true c)]
  obtain⟨k,f⟩:=Int.eq_ofNat_of_zero_le a
  rw[f]at c ⊢
  have d:k<bs.length:=by omega
  rw[B3 (P4 d),oB,A3 d (by omega)]
  exact⟨_,_,rfl,q0r _,by simp only;omega,by simp only;omega,b⟩
 ·rw[if_neg (by simpa using c)]
  exact⟨_,_,rfl,q0r _,a,e,b⟩
theorem o01{bs:List Int}{q:Int×Int}(a:okQ bs q){n:Int}(h0:0<n)(d:n<=256):Drw bs (K3 bs q n) λx=>0<=x/\x<n:=by
 unfold K3
 rw[if_neg (by simp;omega),if_pos (by simp;omega)]
 refine(z0u a).bind λx e c b => .grd ⟨by omega,by omega⟩ (.grd (by omega) ⟨_,_,rfl,?_,b⟩)
 rw[Int.tmod_eq_emod_of_nonneg c.1]
 exact⟨Int.emod_nonneg _ (by omega),Int.emod_lt_of_pos _ h0⟩
theorem U0m{bs:List Int}{q:Int×Int}(b:okQ bs q){n:Int}(h0:0<n)(a:n<=256):Drw bs (G02 bs q n) λ_=>True :=
 (o01 b h0 a).bind λx e d c => .grd ⟨by omega,by omega⟩ ⟨_,_,rfl,trivial,c⟩
theorem k0v{b:Type}{l:List b}{x:Int}(h0:0<=x)(c:x<((l.length:Nat):Int)):∃ y∈l,gi l x=some y:=by
 obtain⟨k,rfl⟩:=Int.eq_ofNat_of_zero_le h0
 have a:k<l.length:=by omega
 exact⟨l[k],List.getElem_mem a,B3 (P4 a)⟩
theorem t0j{bs:List Int}{q:Int×Int}(b:okQ bs q){l:List ByteArray}(h0:0<l.length)(f:l.length<=256):Drw bs (I01 bs q l) λx=>x∈l :=
 (o01 b (n:=((l.length:Nat):Int)) (by omega) (by omega)).bind λx g a c => .grd ⟨by omega,by omega⟩ (by
  obtain⟨y,d,e⟩:=k0v a.1 a.2
  rw[e];exact⟨_,_,rfl,d,c⟩)
theorem w07{bs:List Int}{q:Int×Int}(b:okQ bs q){l:List Int}(h0:0<l.length)(f:l.length<=256):Drw bs (D8 bs q l) λx=>x∈l :=
 (o01 b (n:=((l.length:Nat):Int)) (by omega) (by omega)).bind λx g a c => .grd ⟨by omega,by omega⟩ (by
  obtain⟨y,d,e⟩:=k0v a.1 a.2
  rw[e];exact⟨_,_,rfl,d,c⟩)
theorem n0t(d:Nat)(h:d<=1048576):IntKind.i64.wrap (((d+1:Nat):Int)-1)=(d:Int):=by rw[w64 (by omega) (by omega)];omega
theorem r0r{bs:List Int}{rank:Int}(h0:0<rank)(g:rank<=256):∀(d fuel:Nat) (acc:List Int) (q:Int×Int),d<fuel->d+acc.length<=1000->u07 acc->okQ bs q ->
  Drw bs (T8 bs rank fuel (d:Int) acc q) λw=>u07 w/\w.length<=d+acc.length
 |d,0,acc,q,hf,_,_,_=>by omega
 |0,fuel+1,acc,q,hf,j,c,e=>by
  rw[T8.eq_2,if_neg (by simp)]
  exact⟨_,_,rfl,⟨c,by omega⟩,e⟩
 |d+1,fuel+1,acc,q,hf,j,c,e=>by
  rw[T8.eq_2,if_pos (by simp only[decide_eq_true_eq];omega)]
  refine(o01 e h0 g).bind λx o n k => .grd ⟨by omega,by omega⟩ ((U0m k (by decide) (by decide)).bind λb i _ l=>?_)
  have f:∀ y:Int,J0 y->Drw bs ((grd ((acc.length + [y].length)*8<=140737488355328)).bind λ_=>T8 bs rank fuel (IntKind.i64.wrap (((d+1:Nat):Int)-1)) (acc ++ [y]) i) λw=>u07 w/\w.length<=d+1+acc.length:=λy m =>
   .grd (by simp only[List.length_singleton];omega) (by
    rw[n0t d (by omega)]
    refine(r0r h0 g d fuel (acc ++ [y]) i (by omega) (by simp;omega) (λz a=>?_) l).mono λw h=>⟨h.1,by have:=h.2;simp at this;omega⟩
    rcases List.mem_append.1 a with a|a
    ·exact c z a
    ·rw[List.mem_singleton.1 a];exact m)
  show Drw bs (if b=true then _ else _) _
  cases b
  ·rw[if_neg (by simp)];exact f _ (I0 _)
  ·rw[if_pos rfl];exact f _ (I0 _)
theorem A0u{bs:List Int}{q:Int×Int}(f:okQ bs q){rank b:Int}(h0:0<rank)(e:rank<=256)(k:0<=b)(l:b<=200):Drw bs (n05 bs q rank b) λw=>u07 w/\w.length<=200:=by
 unfold n05
 rw[w64 (x:=b+1) (by omega) (by omega)]
 refine(o01 f (by omega) (by omega)).bind λx j i g => .grd ⟨by omega,by omega⟩ ?_
 obtain⟨d,rfl⟩:=Int.eq_ofNat_of_zero_le i.1
 refine(r0r h0 e d Y0 [] j (by unfold Y0;omega) (by simp;omega) (λz a=>nomatch a) g).bind λw n c h=>?_
 have m:w.length<=200:=by have:=c.2;simp at this;omega
 show Drw bs ((B8 w).bind _) _
 rw[Y09 w c.1 (by omega),oB]
 refine⟨_,_,rfl,⟨λz a=>?_,?_⟩,h⟩
 ·exact p0o w [] (λz a=>nomatch a) c.1 z (by simpa using a)
 ·have:=v07 w []
  simp at this ⊢;omega
def J0f(a:List (List Int)):Prop:=∀ w∈a,u07 w/\w.length<=200
theorem l0v{bs:List Int}{rank:Int}(h0:0<rank)(e:rank<=256):∀(d fuel:Nat) (acc:List (List Int)) (q:Int×Int),d<fuel->d+acc.length<=1000->J0f acc->okQ bs q ->
  Drw bs (E8 bs rank fuel (d:Int) acc q) λw=>J0f w/\w.length<=d+acc.length
 |d,0,acc,q,hf,_,_,_=>by omega
 |0,fuel+1,acc,q,hf,g,b,c=>by
  rw[E8.eq_2,if_neg (by simp)]
  exact⟨_,_,rfl,⟨b,by omega⟩,c⟩
 |d+1,fuel+1,acc,q,hf,g,b,c=>by
  rw[E8.eq_2,if_pos (by simp only[decide_eq_true_eq];omega)]
  refine(A0u c h0 e (by decide) (by decide)).bind λx j i h => .grd (by simp only[List.length_singleton];omega) ?_
  rw[n0t d (by omega)]
  refine(l0v h0 e d fuel (acc ++ [x]) j (by omega) (by simp;omega) (λz a=>?_) h).mono λw f=>⟨f.1,by have:=f.2;simp at this;omega⟩
  rcases List.mem_append.1 a with a|a
  ·exact b z a
  ·rw[List.mem_singleton.1 a];exact i
theorem q0o{bs:List Int}{q:Int×Int}(e:okQ bs q){rank:Int}(h0:0<rank)(c:rank<=256):Drw bs (U01 bs q rank) λb=>J0f b/\b.length<=3:=by
 unfold U01
 refine(o01 e (by decide) (by decide)).bind λx j h f => .grd ⟨by omega,by omega⟩ ?_
 obtain⟨d,rfl⟩:=Int.eq_ofNat_of_zero_le h.1
 refine(l0v h0 c d Y0 [] j (by unfold Y0;omega) (by simp;omega) (λz i=>nomatch i) f).bind λw k a g=>⟨_,_,rfl,⟨a.1,?_⟩,g⟩
 have:=a.2
 simp at this;omega
def r05(r a:Int)(e:Q0):Bool:=inR 0 a e.1&&inR 0 a e.2.2&&inR 1 r e.2.1
def K0f(e f:Q0):Int:=S0 e f
theorem L0f(e f:Q0):K0f e f=if q00 e.1 f.1≠0 then q00 e.1 f.1 else if q00 e.2.1 f.2.1≠0 then q00 e.2.1 f.2.1 else q00 e.2.2 f.2.2:=rfl
theorem f08(a b:Int):(a<b/\q00 a b = -1)∨(a>b/\q00 a b=1)∨(a=b/\q00 a b=0):=by
 unfold q00
 split
 ·omega
 ·split<;>omega
theorem E0e(e f:Q0):J0 (K0f e f):=by
 rw[L0f]
 split
 ·exact p0j _ _
 ·split<;>exact p0j _ _
theorem g0l(g:j0)(e:Q0):H02 g e=some (r05 g.1 (IntKind.i64.wrap (g.2.1-1)) e):=by
 obtain⟨r,n,es⟩:=g
 obtain⟨a,l,b⟩:=e
 unfold H02 r05
 simp only[A03,oB]
 cases inR 0 (IntKind.i64.wrap (n-1)) a with
 |false=>rfl
 |true =>
  cases inR 0 (IntKind.i64.wrap (n-1)) b with
  |false=>rfl
  |true=>simp[chk]
theorem i0e(g:j0)(e:Q0):j00 g e=some (r05 g.1 (IntKind.i64.wrap (g.2.1-1)) e):=by
 obtain⟨r,n,es⟩:=g
 obtain⟨a,l,b⟩:=e
 unfold j00 Q5 r05
 simp only[j06,oB]
 cases inR 0 (IntKind.i64.wrap (n-1)) a with
 |false=>rfl
 |true =>
  cases inR 0 (IntKind.i64.wrap (n-1)) b with
  |false=>rfl
  |true=>simp[chk]
theorem T03(e f:Q0):n9 e f=some (K0f e f):=by
 obtain⟨a,l,b⟩:=e
 obtain⟨g,j,i⟩:=f
 unfold n9
 rw[show Y0=(Y0-4)+1+1+1+1 from rfl]
 have s:IntKind.i64.wrap (0+1)=1:=by decide
 have t:IntKind.i64.wrap (1+1)=2:=by decide
 have u:IntKind.i64.wrap (2+1)=3:=by decide
 have o:∀ x y z:Int,gi [x,y,z] 0=some x:=λ_ _ _=>rfl
 have p:∀ x y z:Int,gi [x,y,z] 1=some y:=λ_ _ _=>rfl
 have q:∀ x y z:Int,gi [x,y,z] 2=some z:=λ_ _ _=>rfl
 have d0:decide ((0:Int)<3)=true:=rfl
 have k:decide ((1:Int)<3)=true:=rfl
 have m:decide ((2:Int)<3)=true:=rfl
 have n:decide ((3:Int)<3)=false:=rfl
 simp only[W7.eq_2,s,t,u,o,p,q,d0,k,m,n,if_true,oB,Bool.false_eq_true,if_false]
 rw[L0f]
 simp only
 rcases f08 a g with⟨h,e⟩|⟨h,e⟩|⟨h,e⟩
 ·simp[e,h,h8]
 ·have : ¬ a<g:=by omega
  simp[e,h,this,h8]
 ·subst h
  rcases f08 l j with⟨h,c⟩|⟨h,c⟩|⟨h,c⟩
  ·simp[e,c,h,h8]
  ·have : ¬ l<j:=by omega
   simp[e,c,h,this,h8]
  ·subst h
   rcases f08 b i with⟨h,d⟩|⟨h,d⟩|⟨h,d⟩
   ·simp[e,c,d,h,h8]
   ·have : ¬ b<i:=by omega
    simp[e,c,d,h,this,h8]
   ·subst h
    simp[e,c,d,h8]
theorem c0q(a b:Int):p8 a b=some (q00 a b):=by
 unfold p8 q00
 by_cases h:a<b
 ·simp[h]
 ·by_cases h2:a>b<;>simp[h,h2]
theorem n06(e f:Q0):y00 e f=some (K0f e f):=by
 obtain⟨a,l,b⟩:=e
 obtain⟨c,d,g⟩:=f
 rw[L0f]
 unfold y00
 simp only[c0q,oB,H0 (p0j _ _)]
 by_cases h1:q00 a c=0
 ·by_cases h2:q00 l d=0
  ·simp[h1,h2]
  ·simp[h1,h2]
 ·simp[h1]
def s0r(r a:Int)(es:List Q0)(k:Nat):Bool:=match es[k]? with
 |none=>true
 |some e => !r05 r a e || (decide (0<k)&&match es[k-1]? with
  |none=>true
  |some f=>decide (K0f f e ≥ 0))
def okE(r a:Int)(es:List Q0):Nat->Nat->Bool
 |0,_=>true
 |d+1,k => !s0r r a es k&&okE r a es d (k+1)
def T0(g:j0):Bool:=okE g.1 (IntKind.i64.wrap (g.2.1-1)) g.2.2 g.2.2.length 0&&inR 1 3 g.1&&inR 1 40 g.2.1&&decide (g.2.2.length<=120)
theorem L0b{r a:Int}{es:List Q0}{k:Nat}{e:Q0}(b:es[k]?=some e):s0r r a es k=(!r05 r a e || (decide (0<k)&&match es[k-1]? with
  |none=>true
  |some f=>decide (K0f f e ≥ 0))):=by unfold s0r;rw[b]
theorem L06(r n:Int)(es:List Q0)(q:es.length<=140737488355328):∀(d k fuel:Nat),k+d=es.length->d<fuel ->
  F8 es r n fuel (k:Int)=some (bif okE r (IntKind.i64.wrap (n-1)) es d k then .inr ()else .inl false)
 |d,k,0,l,hf=>by omega
 |0,k,fuel+1,l,hf=>by
  rw[F8.eq_2,if_neg (by simp;omega)]
  simp[okE]
 |d+1,k,fuel+1,l,hf=>by
  have m:k<es.length:=by omega
  have a:=P4 m
  generalize es[k]=e at a
  obtain⟨h,i,j⟩:=e
  have next:=L06 r n es q d (k+1) fuel (by omega) (by omega)
  rw[F8.eq_2,if_pos (by simp;omega),B3 a,oB]
  simp only[g0l,oB,A3 m (by omega:es.length<=9223372036854775807),next,okE,L0b a]
  generalize IntKind.i64.wrap (n-1)=hi
  cases hin:r05 r hi (h,i,j)with
  |false=>simp[chk,grd,J0]
  |true =>
   by_cases hk0:k=0
   ·have c:decide ((k:Int)>0)=false:=by simp;omega
    have b:decide (0<k)=false:=by simp;omega
    simp only[c,b,T2,Bool.not_true,Bool.not_false,Bool.and_true,Bool.false_and,Bool.or_self,Bool.true_and,cond_true,cond_false,oB,Bool.or_false,Bool.false_eq_true,if_false,H0 (show J0 0 by decide)]
   ·have g:=P4 (show k-1<es.length by omega)
    generalize es[k-1]=f at g
    obtain⟨o,p,f2⟩:=f
    have s:IntKind.i64.wrap ((k:Int)-1)=((k-1:Nat):Int):=G0f (by omega) (by omega)
    have c:decide ((k:Int)>0)=true:=by simp;omega
    have b:decide (0<k)=true:=by simp;omega
    simp only[c,b,s,g,B3 a,B3 g,Y1,Bool.not_true,Bool.not_false,Bool.and_true,Bool.false_and,Bool.or_self,Bool.true_and,cond_true,cond_false,oB,Bool.or_false,Bool.false_or,T03,H0 (E0e _ _)]
    cases decide (K0f (o,p,f2) (h,i,j) ≥ 0)<;>rfl
theorem j7(g:j0)(a:g.2.2.length<=140737488355328):G4 g=some (T0 g):=by
 obtain⟨r,n,es⟩:=g
 unfold G4 T0
 simp only at a ⊢
 have h:=L06 r n es a es.length 0 Y0 (by omega) (M1 a)
 rw[show((0:Nat):Int)=0 from rfl]at h
 rw[h,oB]
 cases okE r (IntKind.i64.wrap (n-1)) es es.length 0 with
 |false=>simp[h8]
 |true =>
  rw[cond_true,Z0,A03,A03,oB]
  cases inR 1 3 r with
  |false=>simp[chk]
  |true =>
   simp only[Y1,oB,cond_true,Bool.true_and]
   cases inR 1 40 n with
   |false=>simp
   |true=>simp;omega
theorem M06(r n:Int)(es:List Q0)(q:es.length<=140737488355328):∀(d k fuel:Nat),k+d=es.length->d<fuel ->
  G8 es r n fuel (k:Int)=some (bif okE r (IntKind.i64.wrap (n-1)) es d k then .inr ()else .inl false)
 |d,k,0,l,hf=>by omega
 |0,k,fuel+1,l,hf=>by
  rw[G8.eq_2,if_neg (by simp;omega)]
  simp[okE]
 |d+1,k,fuel+1,l,hf=>by
  have m:k<es.length:=by omega
  have a:=P4 m
  generalize es[k]=e at a
  obtain⟨h,i,j⟩:=e
  have next:=M06 r n es q d (k+1) fuel (by omega) (by omega)
  rw[G8.eq_2,if_pos (by simp;omega),B3 a,oB]
  simp only[i0e,oB,A3 m (by omega:es.length<=9223372036854775807),next,okE,L0b a]
  generalize IntKind.i64.wrap (n-1)=hi
  cases hin:r05 r hi (h,i,j)with
  |false=>simp[chk,grd,J0]
  |true =>
   by_cases hk0:k=0
   ·have c:decide ((k:Int)>0)=false:=by simp;omega
    have b:decide (0<k)=false:=by simp;omega
    simp only[c,b,T2,Bool.not_true,Bool.not_false,Bool.and_true,Bool.false_and,Bool.or_self,Bool.true_and,cond_true,cond_false,oB,Bool.or_false,Bool.false_eq_true,if_false,H0 (show J0 0 by decide)]
   ·have g:=P4 (show k-1<es.length by omega)
    generalize es[k-1]=f at g
    obtain⟨o,p,f2⟩:=f
    have s:IntKind.i64.wrap ((k:Int)-1)=((k-1:Nat):Int):=G0f (by omega) (by omega)
    have c:decide ((k:Int)>0)=true:=by simp;omega
    have b:decide (0<k)=true:=by simp;omega
    simp only[c,b,s,g,B3 a,B3 g,Y1,Bool.not_true,Bool.not_false,Bool.and_true,Bool.false_and,Bool.or_self,Bool.true_and,cond_true,cond_false,oB,Bool.or_false,Bool.false_or,n06,H0 (E0e _ _)]
    cases decide (K0f (o,p,f2) (h,i,j) ≥ 0)<;>rfl
theorem M01(g:j0)(c:g.2.2.length<=140737488355328):j8 g=some (T0 g):=by
 obtain⟨r,n,es⟩:=g
 unfold j8 T0
 simp only at c ⊢
 rw[j06,j06,oB]
 cases hr:inR 1 3 r with
 |false=>simp[chk]
 |true =>
  simp only[Bool.not_true,Bool.not_false,Y1,oB,cond_false]
  cases hn:inR 1 40 n with
  |false=>simp
  |true =>
   by_cases h120:es.length<=120
   ·have h:=M06 r n es c es.length 0 Y0 (by omega) (M1 c)
    rw[show((0:Nat):Int)=0 from rfl]at h
    have a:decide (((es.length:Nat):Int)>120)=false:=by simp;omega
    have b:decide (es.length<=120)=true:=by simpa using h120
    simp only[a,b,Bool.not_true,cond_false,Bool.false_eq_true,if_false,h,oB]
    cases okE r (IntKind.i64.wrap (n-1)) es es.length 0<;>rfl
   ·have a:decide (((es.length:Nat):Int)>120)=true:=by simp;omega
    have b:decide (es.length<=120)=false:=by simpa using h120
    simp only[a,b,Bool.not_true,cond_false,if_true,Bool.and_false]
theorem V0m{r a:Int}{es:List Q0}:∀ {d k:Nat},okE r a es d k=true->∀ i,k<=i->i<k+d->s0r r a es i=false
 |0,k,h,i,b,c=>by omega
 |d+1,k,h,i,b,c=>by
  simp only[okE,Bool.and_eq_true,Bool.not_eq_true']at h
  by_cases e:i=k
  ·subst e;exact h.1
  ·exact V0m h.2 i (by omega) (by omega)
theorem h0l{n:Nat}(h:n<=9223372036854775807):n<Y0:=by unfold Y0;omega
def goI(x:Int):List Int->Bool×List Int
 | []=>(false,[])
 |y::l=>if x<y then(true,x::y::l)else if y=x then(true,y::l)else((goI x l).1,y::(goI x l).2)
theorem r0o(x:Int):∀ l,H01 q00 x l=bif(goI x l).1 then(goI x l).2 else(goI x l).2 ++ [x]
 | []=>rfl
 |y::l=>by
  have a:=r0o x l
  unfold H01 goI
  rcases f08 x y with⟨h,e⟩|⟨h,e⟩|⟨h,e⟩
  ·rw[e,if_pos (by omega),if_pos h];rfl
  ·rw[e,if_neg (by omega),if_neg (by omega),if_neg (by omega),if_neg (by omega),a]
   cases (goI x l).1<;>rfl
  ·rw[e,if_neg (by omega),if_pos rfl,if_neg (by omega),if_pos h.symm];rfl
theorem M0f(l:List Int)(w:Int)(h:l.length<=1099511627776):∀(d k fuel:Nat) (acc:List Int),k+d=l.length->d<fuel->acc.length<=k+1 ->
  d5 l w fuel true (k:Int) acc=some (true,acc++l.drop k)
 |d,k,0,acc,e,hf,b=>by omega
 |0,k,fuel+1,acc,e,hf,b=>by
  rw[d5.eq_2,if_neg (by simp;omega),V1 (by omega),List.append_nil]
 |d+1,k,fuel+1,acc,e,hf,b=>by
  have f:k<l.length:=by omega
  have a:=P4 f
  generalize l[k]=x at a
  have i:=M0f l w h d (k+1) fuel (acc ++ [x]) (by omega) (by omega) (by simp;omega)
  rw[d5.eq_2,if_pos (by simp;omega),B3 a,oB]
  have g:∀ c:Bool,(bif c then(!true)else false)=false:=λc=>by cases c<;>rfl
  simp only[g,Bool.false_eq_true,if_false,oB,A3 f (show l.length<=9223372036854775807 by omega),i,H0 (show(acc.length + [x].length)*8<=140737488355328 by simp;omega)]
  rw[C2 a]
  split<;>simp
theorem U0h(l:List Int)(w:Int)(b:l.length<=1099511627776):∀(d k fuel:Nat) (acc:List Int),k+d=l.length->d<fuel->acc.length=k ->
  d5 l w fuel false (k:Int) acc=some ((goI w (l.drop k)).1,acc++(goI w (l.drop k)).2)
 |d,k,0,acc,g,hf,f=>by omega
 |0,k,fuel+1,acc,g,hf,f=>by
  rw[d5.eq_2,if_neg (by simp;omega),V1 (by omega)]
  simp[goI]
 |d+1,k,fuel+1,acc,g,hf,f=>by
  have a:k<l.length:=by omega
  have e:=P4 a
  generalize l[k]=x at e
  have j:=U0h l w b d (k+1) fuel (acc ++ [x]) (by omega) (by omega) (by simp;omega)
  have m:=M0f l w b d (k+1) fuel (acc ++ [x]) (by omega) (by omega) (by simp;omega)
  have n:=M0f l w b d (k+1) fuel (acc ++ [w] ++ [x]) (by omega) (by omega) (by simp;omega)
  rw[d5.eq_2,if_pos (by simp;omega),B3 e,oB,C2 e]
  unfold goI
  have h:∀ c:Bool,(bif c then(!true)else false)=false:=λc=>by cases c<;>rfl
  have i:∀ c:Bool,(bif c then(!false)else false)=c:=λc=>by cases c<;>rfl
  by_cases h0:x=w
  ·rw[if_pos (by simpa using h0),oB,h,if_neg (by simp),oB,H0 (by simp;omega),oB,A3 a (by omega),m,if_neg (by omega),if_pos h0]
   simp
  ·rw[if_neg (by simpa using h0),oB,i]
   by_cases h1:w<x
   ·rw[if_pos (by simpa using h1),H0 (by simp;omega),oB,oB,H0 (by simp;omega),oB,A3 a (by omega),n,if_pos h1]
    simp
   ·rw[if_neg (by simpa using h1),oB,H0 (by simp;omega),oB,A3 a (by omega),j,if_neg h1,if_neg h0]
    simp
theorem M0b(l:List Int)(w:Int)(a:l.length<=1099511627776):a00 l w=some (H01 q00 w l):=by
 unfold a00
 have h:=U0h l w a l.length 0 Y0 [] (by omega) (M1 (by omega)) rfl
 rw[show((0:Nat):Int)=0 from rfl,List.drop_zero,List.nil_append]at h
 rw[h,oB,r0o]
 have b:∀ l:List Int,(goI w l).2.length<=l.length+1:=λl=>by
  induction l with
  |nil=>simp[goI]
  |cons y l c =>
   unfold goI
   split
   ·simp
   ·split
    ·simp
    ·simp only[List.length_cons];omega
 have:=b l
 cases (goI w l).1 with
 |true=>rfl
 |false =>
  simp only[Bool.not_false,if_true,cond_false]
  rw[H0 (by simp;omega),oB]
def V0h(v x:Int)(e:Q0):List Int :=
 if 0<x/\e.2.1=x/\e.1=v then [e.2.2]else if x<0/\e.2.1 = -x/\e.2.2=v then [e.1]else []
def e01(v x:Int):List Q0->List Int
 | []=>[]
 |e::es=>V0h v x e++e01 v x es
theorem d0q(v x:Int)(e:Q0):(V0h v x e).length<=1:=by unfold V0h;split<;>(try split)<;>simp
theorem N0f(v x:Int):∀ es,(e01 v x es).length<=es.length
 | []=>by simp[e01]
 |e::es=>by
  have a:=d0q v x e
  have b:=N0f v x es
  simp only[e01,List.length_append,List.length_cons]
  omega
def N4(x:Int):Prop:=J0 x/\x ≠ -9223372036854775808
theorem N0b(es:List Q0)(v x:Int)(f:N4 x)(t:es.length<=1099511627776):∀(d k fuel:Nat) (acc:List Int),k+d=es.length->d<fuel->acc.length<=k ->
  C5 es x v fuel (k:Int) acc=some (acc++e01 v x (es.drop k))
 |d,k,0,acc,p,hf,o=>by omega
 |0,k,fuel+1,acc,p,hf,o=>by
  rw[C5.eq_2,if_neg (by simp;omega),V1 (by omega)]
  simp[e01]
 |d+1,k,fuel+1,acc,p,hf,o=>by
  have q:k<es.length:=by omega
  have m:=P4 q
  generalize es[k]=e at m
  obtain⟨a,l,b⟩:=e
  have n:=λs h=>N0b es v x f t d (k+1) fuel s (by omega) (by omega) h
  have u:decide (x = -9223372036854775808)=false:=by simp;exact f.2
  rw[C5.eq_2,if_pos (by simp;omega),B3 m,oB,C2 m]
  simp only[e01,V0h,V0d f.1 f.2,u,Bool.not_false,A3 q (show es.length<=9223372036854775807 by omega)]
  by_cases c:0<x/\l=x/\a=v
  ·obtain⟨c,rfl,rfl⟩:=c
   rw[if_pos (by simp[c]),if_pos ⟨c,rfl,rfl⟩,H0 (by simp;omega),oB,n _ (by simp;omega)]
   simp
  ·rw[if_neg c,if_neg (by simp only[Bool.cond_eq_ite];simp;intro g i j;exact c ⟨g,i,j⟩)]
   by_cases c2:x<0/\l = -x/\b=v
   ·rw[if_pos c2,if_pos (by simp[c2.1,c2.2.1,c2.2.2]),H0 (by simp;omega),oB,n _ (by simp;omega)]
    simp
   ·rw[if_neg c2,if_neg (by simp only[Bool.cond_eq_ite];simp;intro g i j;exact c2 ⟨g,i,j⟩),n _ (by omega)]
    simp
theorem x07(w:Int):∀ l:List Int,(H01 q00 w l).length<=l.length+1
 | []=>by simp[H01]
 |y::l=>by
  have:=x07 w l
  unfold H01
  split
  ·simp
  ·split
   ·simp
   ·simp only[List.length_cons];omega
theorem O0b(es:List Q0)(v x:Int)(m:N4 x)(s:es.length<=1099511627776):∀(d k fuel:Nat) (u:List Int),k+d=es.length->d<fuel->u.length<=k ->
  M4 es x v fuel u (k:Int)=some (B5 q00 u (e01 v x (es.drop k)))
 |d,k,0,u,p,hf,o=>by omega
 |0,k,fuel+1,u,p,hf,o=>by
  rw[M4.eq_2,if_neg (by simp;omega),V1 (by omega)]
  rfl
 |d+1,k,fuel+1,u,p,hf,o=>by
  have q:k<es.length:=by omega
  have j:=P4 q
  generalize es[k]=e at j
  obtain⟨a,l,b⟩:=e
  have n:=λw h=>O0b es v x m s d (k+1) fuel w (by omega) (by omega) h
  rw[M4.eq_2,if_pos (by simp;omega),B3 j,oB,C2 j]
  simp only[e01,V0h,V0d m.1 m.2,A3 q (show es.length<=9223372036854775807 by omega)]
  by_cases c:0<x/\l=x/\a=v
  ·obtain⟨c,rfl,rfl⟩:=c
   have t:decide (l<0)=false:=by simp;omega
   have:=x07 b u
   rw[if_pos (by simp[c]),if_pos ⟨c,rfl,rfl⟩,M0b u b (by omega),oB,t,if_neg (by simp),n _ (by omega)]
   rfl
  ·rw[if_neg c,if_neg (by simp only[Bool.cond_eq_ite];simp;intro f g i;exact c ⟨f,g,i⟩)]
   by_cases c2:x<0/\l = -x/\b=v
   ·have:=x07 a u
    rw[if_pos c2,if_pos (by simp[c2.1,c2.2.1,c2.2.2]),M0b u a (by omega),oB,n _ (by omega)]
    rfl
   ·rw[if_neg c2,if_neg (by simp only[Bool.cond_eq_ite];simp;intro f g i;exact c2 ⟨f,g,i⟩),n _ (by omega)]
    rfl
def O03(g:j0)(v x:Int):List Int:=B5 q00 [] (e01 v x g.2.2)
theorem o0t(x y:Int):eqI x y=true↔x=y:=by simp[eqI]
theorem i0l(g:j0)(v x:Int)(b:N4 x)(a:g.2.2.length<=1099511627776):V01 g v x=some (O03 g v x):=by
 obtain⟨r,n,es⟩:=g
 unfold V01 O03
 have h:=O0b es v x b a es.length 0 Y0 [] (by omega) (h0l (by simp only at a;omega)) (by simp)
 rw[show((0:Nat):Int)=0 from rfl,List.drop_zero]at h
 simp only[h,oB]
theorem j0l(g:j0)(v x:Int)(b:N4 x)(a:g.2.2.length<=1099511627776):W01 g v x=some (O03 g v x):=by
 obtain⟨r,n,es⟩:=g
 unfold W01 O03
 have h:=N0b es v x b a es.length 0 Y0 [] (by omega) (h0l (by simp only at a;omega)) (by simp)
 rw[show((0:Nat):Int)=0 from rfl,List.drop_zero,List.nil_append]at h
 have c:=N0f v x es
 simp only at a
 simp only[h,oB,H0 (show(e01 v x es).length<4611686018427387904 by omega)]
 rw[←Z0k E03 o0t (e01 v x es) (e01 v x es) λ_=>Iff.rfl]
 rfl
def P0(g:j0)(v x:Int):Int:=match O03 g v x with
 | [] => -1
 |a::_=>a
theorem n02(g:j0)(v x:Int)(c:N4 x)(b:g.2.2.length<=1099511627776):A4 g v x=some (P0 g v x):=by
 have h:=i0l g v x c b
 obtain⟨r,n,es⟩:=g
 unfold A4 P0
 simp only[h,oB]
 cases O03 (r,n,es) v x with
 |nil=>rfl
 |cons a l=>rfl
theorem N04(g:j0)(v x:Int)(c:N4 x)(b:g.2.2.length<=1099511627776):I6 g v x=some (P0 g v x):=by
 have h:=j0l g v x c b
 obtain⟨r,n,es⟩:=g
 unfold I6 P0
 simp only[h,oB]
 cases O03 (r,n,es) v x with
 |nil=>rfl
 |cons a l=>rfl
theorem W0h{g:j0}{v x y:Int}(h:y∈O03 g v x):y∈e01 v x g.2.2:=by
 rcases(R00 E03 y _ []).1 h with h|h
 ·cases h
 ·exact h
theorem c9{v x y:Int}:∀ {es:List Q0},y∈e01 v x es↔∃ e∈es,(0<x/\e.2.1=x/\e.1=v/\y=e.2.2)∨(x<0/\e.2.1 = -x/\e.2.2=v/\y=e.1)
 | []=>by simp[e01]
 |e::es=>by
  simp only[e01,List.mem_append,c9 (es:=es),List.mem_cons,exists_eq_or_imp]
  refine or_congr ?_ Iff.rfl
  unfold V0h
  split
  ·rename_i h
   simp only[List.mem_singleton]
   constructor
   ·rintro rfl;exact .inl ⟨h.1,h.2.1,h.2.2,rfl⟩
   ·rintro(⟨_,_,_,a⟩|⟨f,_⟩)
    ·exact a
    ·omega
  ·rename_i h
   split
   ·rename_i b
    simp only[List.mem_singleton]
    constructor
    ·rintro rfl;exact .inr ⟨b.1,b.2.1,b.2.2,rfl⟩
    ·rintro(⟨f,_⟩|⟨_,_,_,a⟩)
     ·omega
     ·exact a
   ·rename_i b
    constructor
    ·intro h;cases h
    ·rintro(⟨c,a,d,_⟩|⟨c,a,d,_⟩)
     ·exact absurd ⟨c,a,d⟩ h
     ·exact absurd ⟨c,a,d⟩ b
def inG(g:j0):Prop:=∀ e∈g.2.2,(0<=e.1/\e.1<g.2.1)/\(0<=e.2.2/\e.2.2<g.2.1)/\1<=e.2.1/\e.2.1<=g.1
theorem Q1{g:j0}(h:T0 g=true):inG g/\(1<=g.1/\g.1<=3)/\(1<=g.2.1/\g.2.1<=40)/\g.2.2.length<=120:=by
 obtain⟨r,n,es⟩:=g
 simp only[T0,inR,Bool.and_eq_true,decide_eq_true_eq]at h
 obtain⟨⟨⟨m,o⟩,p⟩,q⟩:=h
 refine⟨λe s=>?_,o,p,q⟩
 obtain⟨i,b⟩:=List.getElem?_of_mem s
 have a:=V0m m i (Nat.zero_le _) (by have:=(List.getElem?_eq_some_iff.1 b).1;simp only at this;omega)
 rw[L0b b]at a
 simp only[Bool.or_eq_false_iff,Bool.not_eq_false',r05,inR,Bool.and_eq_true,decide_eq_true_eq]at a
 obtain⟨⟨⟨⟨c,d⟩,f,j⟩,k,l⟩,_⟩:=a
 rw[w64 (by omega) (by omega)]at d j
 simp only
 exact⟨⟨c,by omega⟩,⟨f,by omega⟩,k,l⟩
theorem E00{g:j0}(d:inG g)(v x:Int):P0 g v x = -1∨(0<=P0 g v x/\P0 g v x<g.2.1):=by
 unfold P0
 cases hs:O03 g v x with
 |nil=>exact .inl rfl
 |cons a l =>
  right
  have b:a∈O03 g v x:=by rw[hs];exact mS
  obtain⟨e,c,h⟩:=c9.1 (W0h b)
  have:=d e c
  rcases h with⟨_,_,_,rfl⟩|⟨_,_,_,rfl⟩
  ·exact this.2.1
  ·exact this.1
theorem q01{g:j0}(a:inG g)(b:g.2.1<=40)(v x:Int):J0 (P0 g v x):=by
 rcases E00 a v x with h|h
 ·rw[h];decide
 ·constructor<;>omega
def s05(a b:Q0):Bool:=decide (a.2.1=b.2.1)&&(decide (a.1=b.1) || decide (a.2.2=b.2.2))
theorem i0d(a b:Q0):s05 a b=s05 b a:=by
 unfold s05
 have h:∀ x y:Int,decide (x=y)=decide (y=x):=λx y=>decide_eq_decide.2 ⟨Eq.symm,Eq.symm⟩
 rw[h a.2.1,h a.1,h a.2.2]
def noC(a:Q0):List Q0->Bool
 | []=>true
 |b::l => !s05 a b&&noC a l
def t0a:List Q0->Bool
 | []=>true
 |a::l=>noC a l&&t0a l
theorem u0j(a:Q0):∀ l,noC a l=true↔∀ b∈l,s05 a b=false
 | []=>by simp[noC]
 |b::l=>by simp[noC,u0j a l]
theorem J09:∀ l,t0a l=true↔l.Pairwise λa b=>s05 a b=false
 | []=>by simp[t0a]
 |a::l=>by simp[t0a,J09 l,u0j,List.pairwise_cons]
def O0f:List Q0->List Q0->Bool
 |_,[]=>true
 |b,a::l=>noC a b&&O0f (b ++ [a]) l
theorem X0h:∀(l f:List Q0),O0f f l=true↔l.Pairwise (λa b=>s05 a b=false)/\∀ a∈l,∀ b∈f,s05 a b=false
 | [],f=>by simp[O0f]
 |a::l,f=>by
  simp only[O0f,Bool.and_eq_true,u0j,X0h l,List.pairwise_cons]
  constructor
  ·rintro⟨g,h,e⟩
   refine⟨⟨λb c=>by rw[i0d];exact e b c a (by simp),h⟩,λx d b c=>?_⟩
   rcases List.mem_cons.1 d with rfl|d
   ·exact g b c
   ·exact e x d b (by simp[c])
  ·rintro⟨⟨g,h⟩,e⟩
   refine⟨λb c=>e a mS b c,h,λx d b c=>?_⟩
   rcases List.mem_append.1 c with c|c
   ·exact e x (mC _ d) b c
   ·rw[List.mem_singleton.1 c,i0d];exact g x d
theorem e0q(l:List Q0):O0f [] l=t0a l:=by
 rw[Bool.eq_iff_iff,X0h,J09]
 simp
def M0(g:j0):Bool:=T0 g&&t0a g.2.2
theorem V0t(a b e c d f:Int):(bif decide (b=d)then(bif decide (a=c)then true else decide (e=f))else false)=s05 (a,b,e) (c,d,f):=by
 unfold s05
 cases decide (b=d)<;>cases decide (a=c)<;>rfl
theorem P0b(l:List Q0)(a:Q0)(n:l.length<=140737488355328):∀(d k fuel:Nat),k+d=l.length->d<fuel ->
  N7 l a.2.1 a.1 a.2.2 fuel (k:Int)=some (bif noC a (l.drop k)then .inr ()else .inl false)
 |d,k,0,g,hf=>by omega
 |0,k,fuel+1,g,hf=>by
  rw[N7.eq_2,if_neg (by simp;omega),V1 (by omega)]
  rfl
 |d+1,k,fuel+1,g,hf=>by
  have h:k<l.length:=by omega
  have b:=P4 h
  generalize l[k]=x at b
  obtain⟨c,e,f⟩:=a
  obtain⟨i,j,m⟩:=x
  rw[N7.eq_2,if_pos (by simp;omega),B3 b,oB,C2 b]
  simp only[V0t,noC]
  cases hc:s05 (c,e,f) (i,j,m)with
  |true=>rfl
  |false =>
   rw[if_neg (by simp),A3 h (by omega),P0b l (c,e,f) n d (k+1) fuel (by omega) (by omega)]
   simp
theorem O04{a:Type}{xs:List a}{k:Nat}(h:k<=xs.length):b08 xs (k:Int) (xs.length:Int)=some (xs.drop k):=by
 unfold b08
 rw[if_pos ⟨by omega,by omega,by omega⟩]
 simp
theorem Q0b(l:List Q0)(h:l.length<=140737488355328):∀(d k fuel:Nat),k+d=l.length->d<fuel ->
  O7 l fuel (k:Int)=some (bif t0a (l.drop k)then .inr ()else .inl false)
 |d,k,0,b,hf=>by omega
 |0,k,fuel+1,b,hf=>by
  rw[O7.eq_2,if_neg (by simp;omega),V1 (by omega)]
  rfl
 |d+1,k,fuel+1,b,hf=>by
  have c:k<l.length:=by omega
  have a:=P4 c
  generalize l[k]=x at a
  have h0:=P0b (l.drop (k+1)) x (by simp;omega) (l.drop (k+1)).length 0 Y0 (by omega) (M1 (by simp;omega))
  rw[show((0:Nat):Int)=0 from rfl,List.drop_zero]at h0
  obtain⟨e,f,g⟩:=x
  rw[O7.eq_2,if_pos (by simp;omega),B3 a,oB,C2 a]
  simp only[A3 c (show l.length<=9223372036854775807 by omega),O04 (show k+1<=l.length by omega),oB]
  simp only at h0
  rw[h0,oB]
  simp only[t0a]
  cases noC (e,f,g) (l.drop (k+1))with
  |false=>rfl
  |true =>
   simp only[cond_true,U0k,Bool.true_and]
   exact Q0b l h d (k+1) fuel (by omega) (by omega)
theorem X01(g:j0)(a:g.2.2.length<=140737488355328):i7 g=some (M0 g):=by
 have b:=M01 g a
 obtain⟨r,n,es⟩:=g
 unfold i7 M0
 simp only[b,oB]
 cases T0 (r,n,es)with
 |false=>rfl
 |true =>
  have h:=Q0b es a es.length 0 Y0 (by omega) (M1 a)
  rw[show((0:Nat):Int)=0 from rfl,List.drop_zero]at h
  rw[if_neg (by simp),h,oB]
  cases t0a es<;>rfl
theorem R0b(l:List Q0)(q:l.length<=140737488355328){i:Nat}{a:Q0}(b:l[i]?=some a):∀(d k fuel:Nat),k+d=i->d<fuel ->
  M7 (i:Int) l fuel (k:Int)=some (bif noC a ((l.take i).drop k)then .inr ()else .inl false)
 |d,k,0,e,hf=>by omega
 |0,k,fuel+1,e,hf=>by
  have:=(List.getElem?_eq_some_iff.1 b).1
  rw[M7.eq_2,if_neg (by simp;omega),V1 (by simp;omega)]
  rfl
 |d+1,k,fuel+1,e,hf=>by
  have t:=(List.getElem?_eq_some_iff.1 b).1
  have f:k<l.length:=by omega
  have c:=P4 f
  have g:(l.take i)[k]?=some l[k]:=by rw[List.getElem?_take,if_pos (by omega)];exact c
  have s:=R0b l q b d (k+1) fuel (by omega) (by omega)
  generalize l[k]=x at c g
  obtain⟨h,j,m⟩:=a
  obtain⟨n,o,p⟩:=x
  rw[M7.eq_2,if_pos (by simp;omega),B3 b,oB,C2 g]
  simp only[B3 c,oB,V0t,noC]
  cases hc:s05 (h,j,m) (n,o,p)with
  |true=>rfl
  |false =>
   rw[if_neg (by simp),A3 f (by omega),s]
   simp
theorem k0l{a:Type}{xs:List a}{k:Nat}{x:a}(h:xs[k]?=some x):xs.take (k+1)=xs.take k ++ [x]:=by
 obtain⟨b,rfl⟩:=List.getElem?_eq_some_iff.1 h
 exact List.take_succ_eq_append_getElem b
theorem S0b(r n:Int)(l:List Q0)(f:T0 (r,n,l)=true)(b:l.length<=140737488355328):∀(d k fuel:Nat),k+d=l.length->d<fuel ->
  Y5 l r n fuel (k:Int)=some (bif O0f (l.take k) (l.drop k)then .inr ()else .inl false)
 |d,k,0,c,hf=>by omega
 |0,k,fuel+1,c,hf=>by
  have e:decide ((k:Int)<(l.length:Int))=false:=by simp;omega
  rw[Y5.eq_2,e,T2,oB,if_neg (by simp),V1 (by omega)]
  rfl
 |d+1,k,fuel+1,c,hf=>by
  have g:k<l.length:=by omega
  have a:=P4 g
  generalize l[k]=x at a
  have h0:=R0b l b a k 0 Y0 (by omega) (M1 (by omega))
  rw[show((0:Nat):Int)=0 from rfl,List.drop_zero]at h0
  have e:decide ((k:Int)<(l.length:Int))=true:=by simp;omega
  rw[Y5.eq_2,e,Y1,j7 (r,n,l) b,oB,f,if_pos (show(bif true then true else false)=true from rfl),h0,oB,C2 a]
  simp only[O0f]
  cases noC x (l.take k)with
  |false=>rfl
  |true =>
   simp only[cond_true,U0k,Bool.true_and]
   rw[A3 g (by omega),←k0l a]
   exact S0b r n l f b d (k+1) fuel (by omega) (by omega)
theorem q04(g:j0)(a:g.2.2.length<=140737488355328):t9 g=some (M0 g):=by
 have b:=j7 g a
 obtain⟨r,n,es⟩:=g
 unfold t9 M0
 simp only[b,oB]
 cases hg:T0 (r,n,es)with
 |false =>
  have c:Y5 es r n Y0 0=some (.inr ()):=by
   rw[show Y0=(Y0-1)+1 from rfl,Y5.eq_2]
   by_cases e:decide ((0:Int)<(es.length:Int))=true
   ·rw[e,Y1,b,oB,hg,if_neg (by simp)]
   ·rw[Bool.not_eq_true]at e
    rw[e,T2,oB,if_neg (by simp)]
  rw[c]
  rfl
 |true =>
  have h:=S0b r n es hg a es.length 0 Y0 (by omega) (M1 a)
  rw[show((0:Nat):Int)=0 from rfl,List.drop_zero,List.take_zero,e0q]at h
  rw[h,oB]
  cases t0a es<;>rfl
def Z02(g:j0):Int->List Int->Int×Nat
 |v,[]=>(v,0)
 |v,x::w=>if P0 g v x<0 then(v,0)else((Z02 g (P0 g v x) w).1,(Z02 g (P0 g v x) w).2+1)
theorem P0f(g:j0):∀(w:List Int) (v:Int),(Z02 g v w).2<=w.length
 | [],v=>by simp[Z02]
 |x::w,v=>by
  have:=P0f g w (P0 g v x)
  unfold Z02
  split
  ·simp
  ·simp only[List.length_cons];omega
theorem l0l{g:j0}(a:inG g)(b:g.2.1<=40):∀(w:List Int) (v:Int),J0 v->J0 (Z02 g v w).1
 | [],v,h=>h
 |x::w,v,h=>by
  unfold Z02
  split
  ·exact h
  ·exact l0l a b w _ (q01 a b v x)
def p0t(q:Int×Nat)(n:Nat)(k:Nat):(Int×Int) ⊕ Int:=bif decide (q.2<n)then .inl (q.1,((k+q.2:Nat):Int))else .inr q.1
theorem W0d(r n:Int)(es:List Q0)(f:inG (r,n,es))(g:n<=40)(e:es.length<=1099511627776)(w:List Int)(i:∀ x∈w,N4 x)(l:w.length<=140737488355328):∀(d k fuel:Nat) (v:Int),k+d=w.length->d<fuel ->
  E6 w r n es fuel v (k:Int)=some (p0t (Z02 (r,n,es) v (w.drop k)) d k)
 |d,k,0,v,c,hf=>by omega
 |0,k,fuel+1,v,c,hf=>by
  rw[E6.eq_2,if_neg (by simp;omega),V1 (by omega)]
  rfl
 |d+1,k,fuel+1,v,c,hf=>by
  have a:k<w.length:=by omega
  have b:=P4 a
  have j:=i _ (List.getElem_mem a)
  generalize w[k]=x at b j
  rw[E6.eq_2,if_pos (by simp;omega),B3 b,oB,N04 (r,n,es) v x j e,oB,H0 (q01 f g v x),oB,C2 b]
  unfold Z02
  by_cases h:P0 (r,n,es) v x<0
  ·rw[if_pos (by simpa using h),if_pos h]
   simp[p0t]
  ·rw[if_neg (by simpa using h),if_neg h,A3 a (by omega),W0d r n es f g e w i l d (k+1) fuel _ (by omega) (by omega)]
   unfold p0t
   simp only[Nat.add_lt_add_iff_right]
   congr 2
   simp only[Nat.add_assoc,Nat.add_comm 1]
theorem B0u(g:j0)(c:inG g)(d:g.2.1<=40)(b:g.2.2.length<=1099511627776)(v:Int)(w:List Int)(e:∀ x∈w,N4 x)(a:w.length<=140737488355328):p01 g v w=some ((Z02 g v w).1,(((Z02 g v w).2:Nat):Int)):=by
 obtain⟨r,n,es⟩:=g
 unfold p01
 have h:=W0d r n es c d b w e a w.length 0 Y0 v (by omega) (M1 a)
 rw[show((0:Nat):Int)=0 from rfl,List.drop_zero]at h
 have f:=P0f (r,n,es) w v
 simp only[h,oB,p0t]
 by_cases hc:(Z02 (r,n,es) v w).2<w.length
 ·simp[hc,h8]
 ·have:(Z02 (r,n,es) v w).2=w.length:=by omega
  simp[this,h8]
theorem P2{g:j0}(h:M0 g=true):inG g/\(1<=g.1/\g.1<=3)/\(1<=g.2.1/\g.2.1<=40)/\g.2.2.length<=120:=by
 unfold M0 at h
 simp only[Bool.and_eq_true]at h
 exact Q1 h.1
def Z09(v:Int)(e:Q0):Nat:=(if e.1=v then 1 else 0)+(if e.2.2=v then 1 else 0)
def o05(v:Int):List Q0->Nat
 | []=>0
 |e::r=>Z09 v e+o05 v r
theorem q0t(v:Int)(e:Q0):Z09 v e<=2:=by unfold Z09;split<;>split<;>omega
theorem v0j(v:Int):∀ l,o05 v l<=2*l.length
 | []=>by simp[o05]
 |e::r=>by have:=q0t v e;have:=v0j v r;simp only[o05,List.length_cons];omega
theorem Q0f(es:List Q0)(v:Int)(o:es.length<=1099511627776):∀(d k fuel acc:Nat),k+d=es.length->d<fuel->acc<=2*k ->
  B4 es v fuel (acc:Int) (k:Int)=some ((acc+o05 v (es.drop k):Nat):Int)
 |d,k,0,acc,j,hf,i=>by omega
 |0,k,fuel+1,acc,j,hf,i=>by
  rw[B4.eq_2,if_neg (by simp;omega),V1 (by omega)];rfl
 |d+1,k,fuel+1,acc,j,hf,i=>by
  have m:k<es.length:=by omega
  have f:=P4 m
  generalize es[k]=e at f
  obtain⟨a,l,b⟩:=e
  have c:=λn h=>Q0f es v o d (k+1) fuel n (by omega) (by omega) h
  have g:IntKind.i64.wrap ((acc:Int)+1)=((acc+1:Nat):Int):=by rw[w64 (by omega) (by omega)];rfl
  have p:IntKind.i64.wrap (((acc+1:Nat):Int)+1)=((acc+2:Nat):Int):=by rw[w64 (by omega) (by omega)];rfl
  rw[B4.eq_2,if_pos (by simp;omega),B3 f,C2 f]
  simp only[oB,o05,Z09,A3 m (show es.length<=9223372036854775807 by omega)]
  by_cases c1:a=v
  ·rw[if_pos (by simpa using c1),if_pos c1]
   by_cases c2:b=v
   ·rw[if_pos (by simpa using c2),if_pos c2,g,p,c _ (by omega)];congr 2;omega
   ·rw[if_neg (by simpa using c2),if_neg c2,g,c _ (by omega)];congr 2;omega
  ·rw[if_neg (by simpa using c1),if_neg c1]
   by_cases c2:b=v
   ·rw[if_pos (by simpa using c2),if_pos c2,g,c _ (by omega)];congr 2;omega
   ·rw[if_neg (by simpa using c2),if_neg c2,c _ (by omega)];congr 2;omega
theorem R0f(es:List Q0)(v:Int):∀(fuel:Nat) (x y:Int),Z5 es v fuel x y=B4 es v fuel x y
 |0,x,y=>rfl
 |fuel+1,x,y=>by
  rw[Z5.eq_2,B4.eq_2]
  simp only[R0f es v fuel]
  by_cases c:(decide (y<((es.length:Nat):Int)))=true
  ·rw[if_pos c,if_pos c]
   cases hg:gi es y with
   |none=>rfl
   |some e=>simp only[oB]
  ·rw[if_neg c,if_neg c]
theorem Y0h(g:j0)(v:Int)(a:g.2.2.length<=1099511627776):g01 g v=some ((o05 v g.2.2:Nat):Int):=by
 obtain⟨r,n,es⟩:=g
 unfold g01
 have h:=Q0f es v a es.length 0 Y0 0 (by omega) (M1 (by simp only at a;omega)) (Nat.zero_le _)
 rw[show((0:Nat):Int)=0 from rfl,List.drop_zero,Nat.zero_add]at h
 simp only[h,oB]
theorem f0q(g:j0)(v:Int)(a:g.2.2.length<=1099511627776):t02 g v=some ((o05 v g.2.2:Nat):Int):=by
 have h:=Y0h g v a
 obtain⟨r,n,es⟩:=g
 unfold t02
 unfold g01 at h
 simp only[R0f]at h ⊢
 exact h
def T0b(g h:j0):Bool:=decide (g=h)
theorem F0e(x y:Q0):eqE x y=true↔x=y:=by simp[eqE]
theorem X0d(a b:List Q0)(l:a.length=b.length)(j:a.length<=9223372036854775807):∀(d k fuel:Nat),k+d=a.length->d<fuel ->
  A2 a b fuel (k:Int)=some (if a.drop k=b.drop k then .inr ()else .inl false)
 |d,k,0,g,hf=>by omega
 |0,k,fuel+1,g,hf=>by
  rw[A2.eq_2,if_neg (by simp;omega),V1 (by omega),V1 (by omega)];rfl
 |d+1,k,fuel+1,g,hf=>by
  have i:k<a.length:=by omega
  have m:k<b.length:=by omega
  have e:=P4 i
  have f:=P4 m
  generalize a[k]=x at e
  generalize b[k]=y at f
  have o:=X0d a b l j d (k+1) fuel (by omega) (by omega)
  rw[A2.eq_2,if_pos (by simp;omega),B3 e,B3 f,C2 e,C2 f]
  simp only[oB,A3 i j,o]
  by_cases c:x=y
  ·subst c
   rw[if_neg (by simp[eqE])]
   simp
  ·have n:eqE x y=false:=Bool.eq_false_iff.2 λh=>c ((F0e x y).1 h)
   rw[if_pos (show(!eqE x y)=true by rw[n];rfl),if_neg (by simp[c])]
theorem S0f(a b:List Q0)(d:a.length<=9223372036854775807):P3 a b=some (decide (a=b)):=by
 unfold P3
 by_cases hab:a.length=b.length
 ·have h:=X0d a b hab d a.length 0 Y0 (by omega) (by unfold Y0;omega)
  rw[if_neg (by simp;omega),show(0:Int)=((0:Nat):Int) from rfl,h,List.drop_zero,List.drop_zero]
  by_cases c:a=b
  ·rw[if_pos c];simp[h8,c]
  ·rw[if_neg c];simp[h8,c]
 ·rw[if_pos (by simp;omega)]
  congr 1
  symm
  simp
  intro h;exact hab (by rw[h])
theorem Z0h(g h:j0)(b:g.2.2.length<=9223372036854775807):P9 g h=some (T0b g h):=by
 obtain⟨r,n,es⟩:=g
 obtain⟨d,c,a⟩:=h
 unfold P9 T0b
 simp only[Prod.mk.injEq]
 by_cases c1:r=d<;>by_cases c2:n=c<;>simp[c1,c2,Y1,T2,S0f es a b]
theorem a0i(a b:List Q0):∀(fuel:Nat) (k:Int),Q6 a b fuel k=A2 a b fuel k
 |0,k=>rfl
 |fuel+1,k=>by
  rw[Q6.eq_2,A2.eq_2]
  simp only[a0i a b fuel]
theorem K09(g h:j0)(b:g.2.2.length<=9223372036854775807):D5 g h=some (T0b g h):=by
 have a:=S0f g.2.2 h.2.2 b
 obtain⟨r,n,es⟩:=g
 obtain⟨d,c,e⟩:=h
 unfold D5 T0b
 unfold P3 at a
 simp only[a0i,Prod.mk.injEq]at a ⊢
 by_cases c1:r=d
 ·by_cases c2:n=c
  ·simp only[c1,c2,decide_true,Bool.not_true,cond_false,true_and]
   rw[←a]
  ·simp[c1,c2]
 ·simp[c1]
def goE(x:Q0):List Q0->Bool×List Q0
 | []=>(false,[])
 |y::l=>if S0 x y<0 then(true,x::y::l)else if S0 x y=0 then(true,y::l)else((goE x l).1,y::(goE x l).2)
theorem s0o(x:Q0):∀ l,H01 S0 x l=bif(goE x l).1 then(goE x l).2 else(goE x l).2 ++ [x]
 | []=>rfl
 |y::l=>by
  have a:=s0o x l
  unfold H01 goE
  by_cases c1:S0 x y<0
  ·rw[if_pos c1,if_pos c1];rfl
  ·rw[if_neg c1,if_neg c1]
   by_cases c2:S0 x y=0
   ·rw[if_pos c2,if_pos c2];rfl
   ·rw[if_neg c2,if_neg c2,a];cases (goE x l).1<;>rfl
theorem j0d(l:List Q0)(w0 i j:Int)(n:l.length<=1099511627776):∀(d k fuel:Nat) (acc:List Q0),k+d=l.length->d<fuel->acc.length<=k+1 ->
  i5 l w0 i j fuel true (k:Int) acc=some (true,acc++l.drop k)
 |d,k,0,acc,g,hf,f=>by omega
 |0,k,fuel+1,acc,g,hf,f=>by
  rw[i5.eq_2,if_neg (by simp;omega),V1 (by omega),List.append_nil]
 |d+1,k,fuel+1,acc,g,hf,f=>by
  have h:k<l.length:=by omega
  have c:=P4 h
  generalize l[k]=e at c
  obtain⟨a,x,b⟩:=e
  have o:=j0d l w0 i j n d (k+1) fuel (acc ++ [(a,x,b)]) (by omega) (by omega) (by simp;omega)
  rw[i5.eq_2,if_pos (by simp;omega),C2 c]
  simp only[B3 c,oB,T03,H0 (E0e _ _),A3 h (show l.length<=9223372036854775807 by omega),Bool.not_true]
  have m:∀ b:Bool,(bif b then false else false)=false:=λb=>by cases b<;>rfl
  simp only[m,Bool.false_eq_true,if_false]
  rw[H0 (by simp;omega),oB,o]
  simp
theorem T0f(l:List Q0)(w0 c f:Int)(h:l.length<=1099511627776):∀(d k fuel:Nat) (acc:List Q0),k+d=l.length->d<fuel->acc.length=k ->
  i5 l w0 c f fuel false (k:Int) acc=some ((goE (w0,c,f) (l.drop k)).1,acc++(goE (w0,c,f) (l.drop k)).2)
 |d,k,0,acc,j,hf,i=>by omega
 |0,k,fuel+1,acc,j,hf,i=>by
  rw[i5.eq_2,if_neg (by simp;omega),V1 (by omega)];simp[goE]
 |d+1,k,fuel+1,acc,j,hf,i=>by
  have m:k<l.length:=by omega
  have g:=P4 m
  generalize l[k]=e at g
  obtain⟨a,x,b⟩:=e
  have n:=T0f l w0 c f h d (k+1) fuel (acc ++ [(a,x,b)]) (by omega) (by omega) (by simp;omega)
  have o:=j0d l w0 c f h d (k+1) fuel (acc ++ [(a,x,b)]) (by omega) (by omega) (by simp;omega)
  have p:=j0d l w0 c f h d (k+1) fuel ((acc ++ [(w0,c,f)]) ++ [(a,x,b)]) (by omega) (by omega) (by simp;omega)
  rw[i5.eq_2,if_pos (by simp;omega),C2 g]
  simp only[B3 g,oB,T03,H0 (E0e _ _),A3 m (show l.length<=9223372036854775807 by omega),Bool.not_true,Bool.not_false,goE]
  show _=_
  unfold K0f
  by_cases c1:S0 (w0,c,f) (a,x,b)=0
  ·rw[if_pos (by simpa using c1),if_neg (by simp[c1]),if_neg (by omega),if_pos c1]
   rw[H0 (by simp;omega),oB,o];simp
  ·rw[if_neg (by simpa using c1)]
   by_cases c2:S0 (w0,c,f) (a,x,b)<0
   ·rw[if_pos (by simp[c2]),if_pos c2,H0 (by simp;omega),oB,H0 (by simp;omega),oB,p];simp
   ·rw[if_neg (by simp[c2]),if_neg c2,if_neg c1,H0 (by simp;omega),oB,n];simp
theorem G05(l:List Q0)(e:Q0)(c:l.length<=1099511627776):L5 l e=some (H01 S0 e l):=by
 obtain⟨w0,a,b⟩:=e
 unfold L5
 have h:=T0f l w0 a b c l.length 0 Y0 [] (by omega) (M1 (by omega)) rfl
 rw[show((0:Nat):Int)=0 from rfl,List.drop_zero,List.nil_append]at h
 simp only[h,oB,s0o]
 have d:∀ l:List Q0,(goE (w0,a,b) l).2.length<=l.length+1:=λl=>by
  induction l with
  |nil=>simp[goE]
  |cons y l f =>
   unfold goE
   split
   ·simp
   ·split
    ·simp
    ·simp only[List.length_cons];omega
 have:=d l
 cases (goE (w0,a,b) l).1 with
 |true=>rfl
 |false =>
  simp only[Bool.not_false,if_true,cond_false]
  rw[H0 (by simp;omega),oB]
theorem c04(e:Q0):∀ l:List Q0,(H01 S0 e l).length<=l.length+1
 | []=>by simp[H01]
 |y::l=>by
  have:=c04 e l
  unfold H01
  split
  ·simp
  ·split
   ·simp
   ·simp only[List.length_cons];omega
theorem e09(es:List Q0)(a:es.length<=1099511627776):U8 es=some (B5 S0 [] es):=by
 unfold U8
 rw[H0 (by simp;omega),oB,H0 (by simp;omega),oB,List.nil_append]
 exact congrArg some (Z0k P6 F0e es es λ_=>Iff.rfl)
theorem v00(g:j0)(a:g.2.2.length<=1099511627776):T3 g=some g:=by
 obtain⟨r,n,es⟩:=g
 unfold T3
 simp only
 rw[H0 (by simp only[List.length_nil,Nat.zero_add];simp only at a;omega)];rfl
theorem o02(g:j0)(a:g.2.2.length<=1099511627776):J4 g=some g:=by
 obtain⟨r,n,es⟩:=g
 unfold J4
 simp only
 rw[H0 (by simp only[List.length_nil,Nat.zero_add];simp only at a;omega)];rfl
inductive Rch (es:List Q0) (v:Int):Int->Prop
 |base:Rch es v v
 |fwd {e:Q0}:e∈es->Rch es v e.1->Rch es v e.2.2
 |bwd {e:Q0}:e∈es->Rch es v e.2.2->Rch es v e.1
theorem Rch.closed{es:List Q0}{v:Int}:∀ e∈es,Rch es v e.1↔Rch es v e.2.2:=λe a=>⟨.fwd a,.bwd a⟩
theorem Rch.sub{es:List Q0}{v:Int}{P:Int->Prop}(c:P v)(a:∀ e∈es,P e.1↔P e.2.2):∀ {x},Rch es v x->P x
 |_,.base=>c
 |_,.fwd b h=>(a _ b).1 (Rch.sub c a h)
 |_,.bwd b h=>(a _ b).2 (Rch.sub c a h)
def K00(S:List Bool)(i:Int):Bool:=S.getD i.toNat false
def stJ(S:List Bool)(e:Q0):List Bool:=(S.set e.1.toNat true).set e.2.2.toNat true
def pJ:List Q0->Bool->List Bool->Bool×List Bool
 | [],c,S=>(c,S)
 |e::r,c,S=>bif K00 S e.1 == K00 S e.2.2 then pJ r c S else pJ r true (stJ S e)
def cF:List Bool->Nat
 | []=>0
 |b::r=>(bif b then 0 else 1)+cF r
theorem W0m:∀(S:List Bool) (i:Nat),cF (S.set i true)<=cF S
 | [],i=>by simp[cF]
 |b::r,0=>by simp[cF]
 |b::r,i+1=>by have:=W0m r i;simp only[List.set_cons_succ,cF];omega
theorem t0r:∀(S:List Bool) (i:Nat),S[i]?=some false->cF (S.set i true)<cF S
 | [],i,h=>by simp at h
 |b::r,0,h=>by simp at h;subst h;simp[cF]
 |b::r,i+1,h=>by have:=t0r r i (by simpa using h);simp only[List.set_cons_succ,cF];omega
theorem W0t:∀ S:List Bool,cF S<=S.length
 | []=>by simp[cF]
 |b::r=>by have:=W0t r;cases b<;>simp only[cF,List.length_cons,cond_true,cond_false]<;>omega
def inN(n:Nat)(es:List Q0):Prop:=∀ e∈es,(0<=e.1/\e.1<(n:Int))/\(0<=e.2.2/\e.2.2<(n:Int))
theorem f09{S:List Bool}{i:Nat}(h:i<S.length)(x:Int):K00 (S.set i true) x=(decide (x.toNat=i) || K00 S x):=by
 unfold K00
 rw[List.getD_eq_getElem?_getD,List.getD_eq_getElem?_getD,List.getElem?_set]
 by_cases c:i=x.toNat
 ·rw[if_pos c,if_pos (by omega)];simp[c]
 ·rw[if_neg c]
  have:decide (x.toNat=i)=false:=by simp;exact λe=>c e.symm
  rw[this];rfl
theorem X0m:∀(es:List Q0) (c:Bool) (S:List Bool),(pJ es c S).2.length=S.length
 | [],c,S=>rfl
 |e::r,c,S=>by
  unfold pJ
  cases K00 S e.1 == K00 S e.2.2
  ·simp only[cond_false];rw[X0m r];simp[stJ]
  ·simp only[cond_true];exact X0m r c S
theorem w0j{n:Nat}:∀(es:List Q0) (c:Bool) (a:List Bool),a.length=n->inN n es->∀ x,K00 a x=true->K00 (pJ es c a).2 x=true
 | [],c,a,b,d,x,h=>h
 |e::r,c,a,b,d,x,h=>by
  have f:=d e mS
  have g:inN n r:=λe f=>d e (mC _ f)
  unfold pJ
  cases K00 a e.1 == K00 a e.2.2
  ·simp only[cond_false]
   refine w0j r _ _ (by simp[stJ,b]) g x ?_
   rw[stJ,f09 (by rw[List.length_set];omega),f09 (by omega),h];simp
  ·simp only[cond_true];exact w0j r c a b g x h
theorem U0f{n:Nat}{P:Int->Prop}:∀(es:List Q0) (c:Bool) (a:List Bool),a.length=n->inN n es->(∀ e∈es,P e.1↔P e.2.2)->(∀ x,0<=x->K00 a x=true->P x)->∀ x,0<=x->K00 (pJ es c a).2 x=true->P x
 | [],c,a,g,i,f,d,x,h0,h=>d x h0 h
 |e::r,c,a,g,i,f,d,x,h0,h=>by
  have b:=i e mS
  have m:inN n r:=λe b=>i e (mC _ b)
  have j:=λe b=>f e (mC _ b)
  have k:=f e mS
  unfold pJ at h
  cases hb:K00 a e.1 == K00 a e.2.2
  ·rw[hb]at h
   refine U0f r true (stJ a e) (by simp[stJ,g]) m j (λy o h=>?_) x h0 h
   rw[stJ,f09 (by rw[List.length_set];omega),f09 (by omega)]at h
   simp only[Bool.or_eq_true,decide_eq_true_eq]at h
   have l:P e.1∨P e.2.2:=by
    cases h1:K00 a e.1
    ·cases h2:K00 a e.2.2
     ·rw[h1,h2]at hb;cases hb
     ·exact .inr (d _ b.2.1 h2)
    ·exact .inl (d _ b.1.1 h1)
   rcases h with h|h|h
   ·have:y=e.2.2:=by omega
    subst this;exact l.elim k.1 id
   ·have:y=e.1:=by omega
    subst this;exact l.elim id k.2
   ·exact d y o h
  ·rw[hb]at h
   exact U0f r c a g m j d x h0 h
theorem Y0m{n:Nat}:∀(es:List Q0) (c:Bool) (a:List Bool),a.length=n->inN n es->cF (pJ es c a).2<=cF a/\((pJ es c a).1=true->c=true∨cF (pJ es c a).2<cF a)/\((pJ es c a).1=false->c=false/\(pJ es c a).2=a/\∀ e∈es,K00 a e.1=K00 a e.2.2)
 | [],c,a,k,l=>⟨Nat.le_refl _,λh => .inl h,λh=>⟨h,rfl,λe b=>nomatch b⟩⟩
 |e::r,c,a,k,l=>by
  have b:=l e mS
  have s:inN n r:=λe b=>l e (mC _ b)
  unfold pJ
  cases hb:K00 a e.1 == K00 a e.2.2
  ·simp only[cond_false]
   obtain⟨m,o,d⟩:=Y0m r true (stJ a e) (by simp[stJ,k]) s
   have v:cF (stJ a e)<cF a:=by
    have g:∀(x:Int),0<=x->x<n->K00 a x=false->a[x.toNat]?=some false:=λx w y j=>by
     have p:x.toNat<a.length:=by omega
     unfold K00 at j
     rw[List.getD_eq_getElem?_getD,List.getElem?_eq_getElem p]at j
     rw[List.getElem?_eq_getElem p];simpa using j
    cases g1:K00 a e.1
    ·have:=t0r a _ (g _ b.1.1 b.1.2 g1)
     have:=W0m (a.set e.1.toNat true) e.2.2.toNat
     unfold stJ;omega
    ·have f:K00 a e.2.2=false:=by
      cases f:K00 a e.2.2
      ·rfl
      ·rw[g1,f]at hb;cases hb
     have u:(a.set e.1.toNat true)[e.2.2.toNat]?=some false:=by
      rw[List.getElem?_set]
      by_cases q:e.1.toNat=e.2.2.toNat
      ·exfalso
       have:e.1=e.2.2:=by omega
       rw[this,f]at g1;cases g1
      ·rw[if_neg q];exact g _ b.2.1 b.2.2 f
     have:=t0r _ _ u
     have:=W0m a e.1.toNat
     unfold stJ;omega
   refine⟨by omega,λ_ => .inr (by omega),λh=>?_⟩
   have:=(d h).1;cases this
  ·simp only[cond_true]
   obtain⟨m,o,d⟩:=Y0m r c a k s
   refine⟨m,o,λh=>⟨(d h).1,(d h).2.1,λt i=>?_⟩⟩
   rcases List.mem_cons.1 i with rfl|i
   ·simpa using hb
   ·exact(d h).2.2 t i
theorem giB{a:List Bool}{n:Nat}(f:a.length=n){x:Int}(h0:0<=x)(d:x<n):gi a x=some (K00 a x):=by
 have c:x.toNat<a.length:=by omega
 have e:x=((x.toNat:Nat):Int):=by omega
 have b:gi a ((x.toNat:Nat):Int)=some (K00 a x):=by
  rw[d0d,List.getElem?_eq_getElem c]
  unfold K00
  rw[List.getD_eq_getElem?_getD,List.getElem?_eq_getElem c];rfl
 rw[←e]at b;exact b
theorem b0i(es:List Q0){n:Nat}(q:inN n es)(p:es.length<=9223372036854775807):∀(d k fuel:Nat) (c:Bool) (f:List Bool),f.length=n->k+d=es.length->d<fuel ->
  Q4 es fuel c (k:Int) f=some (pJ (es.drop k) c f)
 |d,k,0,c,f,g,m,hf=>by omega
 |0,k,fuel+1,c,f,g,m,hf=>by
  rw[Q4.eq_2,if_neg (by simp;omega),V1 (by omega)];rfl
 |d+1,k,fuel+1,c,f,g,m,hf=>by
  have o:k<es.length:=by omega
  have j:=P4 o
  have i:=q _ (List.mem_of_getElem? j)
  generalize es[k]=e at j i
  obtain⟨a,l,b⟩:=e
  have s:=λu t h=>b0i es q p d (k+1) fuel u t h (by omega) (by omega)
  rw[Q4.eq_2,if_pos (by simp;omega),C2 j]
  simp only[B3 j,oB,giB g i.1.1 i.1.2,giB g i.2.1 i.2.2,A3 o p,giB (show(f.set a.toNat true).length=n by simp[g]) i.2.1 i.2.2,pJ]
  cases hb:K00 f a == K00 f b
  ·simp only[Bool.not_false,if_true,cond_false]
   exact s _ _ (by simp[g])
  ·simp only[Bool.not_true,Bool.false_eq_true,if_false,cond_true]
   exact s _ _ g
theorem c0i(es:List Q0){n:Nat}(f:inN n es)(z:es.length<=9223372036854775806):∀(m fuel:Nat) (a:List Bool),a.length=n->cF a<=m->m+1<fuel ->
  ∃ b,I5 es fuel true a=some b/\b.length=n/\(∀ x,K00 a x=true->K00 b x=true)/\(∀ e∈es,K00 b e.1=K00 b e.2.2) /\
   ∀ P:Int->Prop,(∀ e∈es,P e.1↔P e.2.2)->(∀ x,0<=x->K00 a x=true->P x)->∀ x,0<=x->K00 b x=true->P x
 |m,0,a,d,B,hf=>by omega
 |m,fuel+1,a,d,B,hf=>by
  have h0:=b0i es f (by omega) es.length 0 Y0 false a d (by omega) (by unfold Y0;omega)
  rw[show((0:Nat):Int)=0 from rfl,List.drop_zero]at h0
  obtain⟨p,i,j⟩:=Y0m es false a d f
  have A:=X0m es false a
  rw[I5.eq_2,if_pos rfl,h0,oB]
  have l:=w0j es false a d f
  have o:=λP=>U0f (P:=P) es false a d f
  generalize pJ es false a=q at *
  obtain⟨c,b⟩:=q
  simp only at p i j A l o ⊢
  cases c with
  |true =>
   rcases i rfl with h|h
   ·cases h
   ·obtain⟨S2,s,t,u,v,w⟩:=c0i es f z (m-1) fuel b (by omega) (by omega) (by omega)
    exact⟨S2,s,t,λx C=>u x (l x C),v,λP k g=>w P k (o P k g)⟩
  |false =>
   obtain⟨_,e,y⟩:=j rfl
   subst e
   obtain _|fuel:=fuel
   ·omega
   ·rw[I5.eq_2,if_neg (by simp)]
    exact⟨_,rfl,d,λx h=>h,y,λP _ g=>g⟩
theorem m0l(r:Int)(n:Nat)(es:List Q0)(p:inN n es)(o:es.length<=9223372036854775806)(s:1<=n)(t:n<=140737488355328):
  ∃ a,z00 (r,(n:Int),es) 0=some a/\a.length=n/\∀ x,0<=x->x<(n:Int)->(K00 a x=true↔Rch es 0 x):=by
 unfold z00
 simp only[Int.toNat_natCast]
 have m:gi (List.replicate n (false:Bool)) 0=some false:=by
  rw[F0f (x:=false)];rw[List.getElem?_replicate,if_pos (by omega)]
 rw[H0 (by omega),oB,m,oB]
 have k:((List.replicate n (false:Bool)).set (0:Int).toNat true).length=n:=by simp
 obtain⟨b,d,f,g,i,j⟩:=c0i es p o n Y0 _ k (by have:=W0t ((List.replicate n (false:Bool)).set (0:Int).toNat true);omega) (by unfold Y0;omega)
 rw[d]
 have c:∀ x,K00 ((List.replicate n (false:Bool)).set (0:Int).toNat true) x=decide (x.toNat=0):=λx=>by
  rw[f09 (by simp;omega)]
  have:K00 (List.replicate n false) x=false:=by
   unfold K00
   rw[List.getD_eq_getElem?_getD,List.getElem?_replicate]
   split<;>rfl
  rw[this];simp
 refine⟨b,rfl,f,λx h0 q=>⟨λh=>?_,λh=>?_⟩⟩
 ·refine j (Rch es 0) Rch.closed (λy u h=>?_) x h0 h
  rw[c]at h
  have:y=0:=by simp at h;omega
  subst this;exact .base
 ·exact Rch.sub (P:=λx=>K00 b x=true) (g 0 (by rw[c];rfl)) (λe l=>by rw[i e l]) h
theorem X0t(l:List Int)(w:Int)(g:l.length<=9223372036854775807):∀(d k fuel:Nat),k+d=l.length->d<fuel ->
  k00 l w fuel (k:Int)=some (if w∈l.drop k then .inl true else .inr ())
 |d,k,0,b,hf=>by omega
 |0,k,fuel+1,b,hf=>by
  rw[k00.eq_2,if_neg (by simp;omega),V1 (by omega)];simp
 |d+1,k,fuel+1,b,hf=>by
  have f:k<l.length:=by omega
  have a:=P4 f
  generalize l[k]=x at a
  have i:=X0t l w g d (k+1) fuel (by omega) (by omega)
  rw[k00.eq_2,if_pos (by simp;omega),C2 a]
  simp only[B3 a,oB,A3 f g,i,List.mem_cons]
  by_cases c:x=w
  ·rw[if_pos (by simpa using c),if_pos (.inl c.symm)]
  ·rw[if_neg (by simpa using c)]
   by_cases c2:w∈l.drop (k+1)
   ·rw[if_pos c2,if_pos (.inr c2)]
   ·rw[if_neg c2,if_neg (λh=>h.elim (λe=>c e.symm) c2)]
theorem U0b(l:List Int)(w:Int)(a:l.length<=9223372036854775807):b00 l w=some (decide (w∈l)):=by
 unfold b00
 have h:=X0t l w a l.length 0 Y0 (by omega) (by unfold Y0;omega)
 rw[show((0:Nat):Int)=0 from rfl,List.drop_zero]at h
 rw[h,oB]
 by_cases c:w∈l
 ·rw[if_pos c];simp[h8,c]
 ·rw[if_neg c];simp[h8,c]
def s1(u:List Int)(e:Q0):List Int:=if e.1∈u then H01 q00 e.2.2 u else u
def s2(u:List Int)(e:Q0):List Int:=if e.2.2∈u then H01 q00 e.1 u else u
def pS:List Q0->List Int->List Int
 | [],u=>u
 |e::r,u=>pS r (s2 (s1 u e) e)
theorem k0d{u:List Int}{e:Q0}{x:Int}:x∈s1 u e↔x∈u∨(e.1∈u/\x=e.2.2):=by
 unfold s1
 split
 ·rename_i h;rw[i06 E03];constructor
  ·rintro(a|a)
   ·exact .inr ⟨h,a⟩
   ·exact .inl a
  ·rintro(a|⟨_,a⟩)
   ·exact .inr a
   ·exact .inl a
 ·rename_i h;constructor
  ·exact .inl
  ·rintro(a|⟨a,_⟩)
   ·exact a
   ·exact absurd a h
theorem l0d{u:List Int}{e:Q0}{x:Int}:x∈s2 u e↔x∈u∨(e.2.2∈u/\x=e.1):=by
 unfold s2
 split
 ·rename_i h;rw[i06 E03];constructor
  ·rintro(a|a)
   ·exact .inr ⟨h,a⟩
   ·exact .inl a
  ·rintro(a|⟨_,a⟩)
   ·exact .inr a
   ·exact .inl a
 ·rename_i h;constructor
  ·exact .inl
  ·rintro(a|⟨a,_⟩)
   ·exact a
   ·exact absurd a h
theorem u0r(u:List Int)(e:Q0):(s1 u e).length<=u.length+1:=by
 unfold s1;split
 ·exact x07 _ _
 ·omega
theorem v0r(u:List Int)(e:Q0):(s2 u e).length<=u.length+1:=by
 unfold s2;split
 ·exact x07 _ _
 ·omega
theorem Z0m:∀(es:List Q0) (u:List Int),(pS es u).length<=u.length+2*es.length
 | [],u=>by simp[pS]
 |e::r,u=>by
  have:=Z0m r (s2 (s1 u e) e)
  have:=v0r (s1 u e) e
  have:=u0r u e
  simp only[pS,List.length_cons];omega
theorem g08:∀(es:List Q0) (u:List Int) (x:Int),x∈u->x∈pS es u
 | [],u,x,h=>h
 |e::r,u,x,h=>g08 r _ x (l0d.2 (.inl (k0d.2 (.inl h))))
theorem V0f{P:Int->Prop}:∀(es:List Q0) (u:List Int),(∀ e∈es,P e.1↔P e.2.2)->(∀ x∈u,P x)->∀ x∈pS es u,P x
 | [],u,b,a=>a
 |e::r,u,b,a=>V0f r _ (λe f=>b e (mC _ f)) λx g=>by
  have d:=b e mS
  have c:∀ y∈s1 u e,P y:=λy i=>by
   rcases k0d.1 i with h|⟨h,rfl⟩
   ·exact a y h
   ·exact d.1 (a _ h)
  rcases l0d.1 g with h|⟨h,rfl⟩
  ·exact c x h
  ·exact d.2 (c _ h)
theorem n0l:∀(es:List Q0) (u:List Int) (e:Q0),e∈es->e.1∈u∨e.2.2∈u->e.1∈pS es u/\e.2.2∈pS es u
 |c::r,u,e,a,h=>by
  simp only[pS]
  rcases List.mem_cons.1 a with rfl|a
  ·have b:e.2.2∈s1 u e:=by
    rcases h with h|h
    ·exact k0d.2 (.inr ⟨h,rfl⟩)
    ·exact k0d.2 (.inl h)
   exact⟨g08 r _ _ (l0d.2 (.inr ⟨b,rfl⟩)),g08 r _ _ (l0d.2 (.inl b))⟩
  ·exact n0l r _ e a (h.imp (λh=>l0d.2 (.inl (k0d.2 (.inl h)))) λh=>l0d.2 (.inl (k0d.2 (.inl h))))
def act(es:List Q0)(u:List Int):Nat:=es.countP λe=>decide (e.1∈u)&&decide (e.2.2∈u)
def clo(es:List Q0)(u:List Int):Prop:=∀ e∈es,e.1∈u↔e.2.2∈u
theorem C0u(es:List Q0)(u:List Int):act es u<=es.length:=List.countP_le_length
theorem d0i{e:Type}{p q:e->Bool}:∀ {l:List e},(∀ x∈l,p x=true->q x=true)->(∃ x∈l,p x=false/\q x=true)->l.countP p<l.countP q
 | [],_,⟨x,a,_⟩=>nomatch a
 |y::l,h,⟨x,a,c,d⟩=>by
  have f:l.countP p<=l.countP q:=List.countP_mono_left λz b=>h z (mC _ b)
  rcases List.mem_cons.1 a with rfl|a
  ·rw[List.countP_cons_of_neg (by simp[c]),List.countP_cons_of_pos d];omega
  ·have g:=d0i (l:=l) (λz b=>h z (mC _ b)) ⟨x,a,c,d⟩
   cases hp:p y
   ·rw[List.countP_cons_of_neg (by simp[hp])]
    have:l.countP q<=(y::l).countP q:=by rw[List.countP_cons];omega
    omega
   ·rw[List.countP_cons_of_pos hp,List.countP_cons_of_pos (h y mS hp)];omega
theorem V0b{es:List Q0}{u:List Int}(h:clo es u)(x:Int):x∈pS es u↔x∈u :=
 ⟨V0f (P:=λx=>x∈u) es u h (λ_ h=>h) x,g08 es u x⟩
theorem w0r{es:List Q0}{u:List Int}:clo es (pS es u)∨act es u<act es (pS es u):=by
 by_cases h:clo es u
 ·left
  intro e a
  rw[V0b h,V0b h];exact h e a
 ·right
  have:∃ e∈es,¬ (e.1∈u↔e.2.2∈u):=by
   refine Classical.byContradiction λb=>h λe a=>?_
   exact Classical.byContradiction λd=>b ⟨e,a,d⟩
  obtain⟨e,a,c⟩:=this
  refine d0i (λx g h=>?_) ⟨e,a,?_,?_⟩
  ·simp only[Bool.and_eq_true,decide_eq_true_eq]at h ⊢
   exact⟨g08 _ _ _ h.1,g08 _ _ _ h.2⟩
  ·rw[Bool.eq_false_iff]
   intro h
   simp only[Bool.and_eq_true,decide_eq_true_eq]at h
   exact c ⟨λ_=>h.2,λ_=>h.1⟩
  ·have f:e.1∈u∨e.2.2∈u:=by
    refine Classical.byContradiction λb=>c ⟨λh=>absurd (.inl h) b,λh=>absurd (.inr h) b⟩
   have:=n0l es u e a f
   simp only[Bool.and_eq_true,decide_eq_true_eq];exact this
def itS(es:List Q0):Nat->List Int->List Int
 |0,u=>u
 |j+1,u=>itS es j (pS es u)
theorem t0o(es:List Q0):∀(j:Nat) (u:List Int),(itS es j u).length<=u.length+j*(2*es.length)
 |0,u=>by simp[itS]
 |j+1,u=>by have:=t0o es j (pS es u);have:=Z0m es u;simp only[itS,Nat.add_mul,Nat.one_mul];omega
theorem u0o(es:List Q0):∀(j:Nat) (u:List Int),clo es u->clo es (itS es j u)
 |0,u,h=>h
 |j+1,u,h=>u0o es j _ λe a=>by rw[V0b h,V0b h];exact h e a
theorem v0o(es:List Q0):∀(j:Nat) (u:List Int),clo es (itS es j u)∨act es u+j<=act es (itS es j u)
 |0,u => .inr (Nat.le_refl _)
 |j+1,u=>by
  rcases w0r (es:=es) (u:=u)with h|h
  ·exact .inl (u0o es j _ h)
  ·rcases v0o es j (pS es u)with a|a
   ·exact .inl a
   ·right;simp only[itS];omega
theorem o0l(es:List Q0):∀(j:Nat) (u:List Int) (x:Int),x∈u->x∈itS es j u
 |0,u,x,h=>h
 |j+1,u,x,h=>o0l es j _ x (g08 es u x h)
theorem e0i{P:Int->Prop}(es:List Q0)(b:∀ e∈es,P e.1↔P e.2.2):∀(j:Nat) (u:List Int),(∀ x∈u,P x)->∀ x∈itS es j u,P x
 |0,u,a=>a
 |j+1,u,a=>e0i es b j _ (V0f es u b a)
theorem G0e(es:List Q0)(v x:Int):x∈itS es (es.length+1) [v]↔Rch es v x:=by
 constructor
 ·exact e0i (P:=Rch es v) es Rch.closed _ _ (λy a=>by simp at a;subst a;exact .base) x
 ·have b:clo es (itS es (es.length+1) [v]):=by
   rcases v0o es (es.length+1) [v]with h|h
   ·exact h
   ·have:=C0u es (itS es (es.length+1) [v]);omega
  exact Rch.sub (P:=λx=>x∈itS es (es.length+1) [v]) (o0l _ _ _ _ (by simp)) b
theorem W0f(es:List Q0)(p:es.length<=9223372036854775807):∀(d k fuel:Nat) (u:List Int),k+d=es.length->d<fuel->u.length+2*d<=1099511627776 ->
  j4 es fuel u (k:Int)=some (pS (es.drop k) u)
 |d,k,0,u,n,hf,q=>by omega
 |0,k,fuel+1,u,n,hf,q=>by
  rw[j4.eq_2,if_neg (by simp;omega),V1 (by omega)];rfl
 |d+1,k,fuel+1,u,n,hf,q=>by
  have o:k<es.length:=by omega
  have m:=P4 o
  generalize es[k]=e at m
  obtain⟨a,l,b⟩:=e
  have i:=λt h=>W0f es p d (k+1) fuel t (by omega) (by omega) h
  have s:=u0r u (a,l,b)
  have g:=v0r (s1 u (a,l,b)) (a,l,b)
  rw[j4.eq_2,if_pos (by simp;omega),C2 m]
  simp only[B3 m,oB,U0b u _ (by omega),A3 o p,pS]
  by_cases c:a∈u
  ·rw[if_pos (by simpa using c),M0b _ _ (by omega),oB]
   have j:s1 u (a,l,b)=H01 q00 b u:=if_pos c
   rw[j]at s g ⊢
   rw[U0b _ _ (by omega),oB]
   by_cases c2:b∈H01 q00 b u
   ·rw[if_pos (by simpa using c2),M0b _ _ (by omega),oB]
    have f:s2 (H01 q00 b u) (a,l,b)=H01 q00 a (H01 q00 b u):=if_pos c2
    rw[f]at g ⊢
    exact i _ (by omega)
   ·rw[if_neg (by simpa using c2)]
    have f:s2 (H01 q00 b u) (a,l,b)=H01 q00 b u:=if_neg c2
    rw[f]
    exact i _ (by omega)
  ·rw[if_neg (by simpa using c)]
   have j:s1 u (a,l,b)=u:=if_neg c
   rw[j]at g ⊢
   by_cases c2:b∈u
   ·rw[if_pos (by simpa using c2),M0b _ _ (by omega),oB]
    have f:s2 u (a,l,b)=H01 q00 a u:=if_pos c2
    rw[f]at g ⊢
    exact i _ (by omega)
   ·rw[if_neg (by simpa using c2)]
    have f:s2 u (a,l,b)=u:=if_neg c2
    rw[f]
    exact i _ (by omega)
theorem X0f(es:List Q0)(c:es.length<=120):∀(d k fuel:Nat) (u:List Int),k+d=es.length+1->d<fuel->u.length<=1+k*240 ->
  j6 es fuel u (k:Int)=some (itS es d u)
 |d,k,0,u,a,hf,b=>by omega
 |0,k,fuel+1,u,a,hf,b=>by
  rw[j6.eq_2,if_neg (by rw[w64 (by omega) (by omega)];simp;omega)];rfl
 |d+1,k,fuel+1,u,a,hf,b=>by
  have h0:=W0f es (by omega) es.length 0 Y0 u (by omega) (M1 (by omega)) (by omega)
  rw[show((0:Nat):Int)=0 from rfl,List.drop_zero]at h0
  have e:=X0f es c d (k+1) fuel (pS es u) (by omega) (by omega) (by have:=Z0m es u;omega)
  rw[j6.eq_2,if_pos (by rw[w64 (by omega) (by omega)];simp;omega),h0,oB,A3 (show k<1000 by omega) (by omega),e]
  rfl
def getI(P:List Int)(v:Int):Int:=P.getD v.toNat (-1)
def r04:List Int->Nat->List Int->List Int
 |A,k,[]=>A
 |A,k,v::r=>r04 (A.set v.toNat (k:Int)) (k+1) r
def plc(n:Nat)(o:List Int):List Int:=r04 (List.replicate n (-1)) 0 o
theorem Y0f:∀(o:List Int) (k:Nat) (A:List Int),(r04 A k o).length=A.length
 | [],k,A=>rfl
 |v::r,k,A=>by rw[r04,Y0f r];simp
def inV(n:Nat)(o:List Int):Prop:=∀ v∈o,0<=v/\v<(n:Int)
theorem giI{P:List Int}{n:Nat}(d:P.length=n){x:Int}(h0:0<=x)(c:x<n):gi P x=some (getI P x):=by
 have b:x.toNat<P.length:=by omega
 have e:x=((x.toNat:Nat):Int):=by omega
 have a:gi P ((x.toNat:Nat):Int)=some (getI P x):=by
  rw[d0d,List.getElem?_eq_getElem b]
  unfold getI
  rw[List.getD_eq_getElem?_getD,List.getElem?_eq_getElem b];rfl
 rw[←e]at a;exact a
theorem F03{A:List Int}{v x:Int}{y:Int}(h0:0<=v)(a:v.toNat<A.length)(b:0<=x):getI (A.set v.toNat y) x=if x=v then y else getI A x:=by
 unfold getI
 rw[List.getD_eq_getElem?_getD,List.getD_eq_getElem?_getD,List.getElem?_set]
 by_cases c:x=v
 ·rw[if_pos c,if_pos (by rw[c]),if_pos a];rfl
 ·rw[if_neg c,if_neg (by omega)]
theorem W0b{n:Nat}:∀(o:List Int) (k:Nat) (A:List Int),A.length=n->inV n o->(∀ x,0<=x -> -1<=getI A x/\getI A x<(k:Int))->∀ x,0<=x -> -1<=getI (r04 A k o) x/\getI (r04 A k o) x<((k+o.length:Nat):Int)
 | [],k,A,c,a,h,x,b=>h x b
 |v::r,k,A,c,a,h,x,b=>by
  have e:=a v mS
  have:=W0b r (k+1) (A.set v.toNat (k:Int)) (by simp[c]) (λw f=>a w (mC _ f)) (λy d=>by
   rw[F03 e.1 (by omega) d]
   have:=h y d
   split<;>omega) x b
  rw[r04,List.length_cons,show k+(r.length+1)=k+1+r.length by omega];exact this
theorem g09(n:Nat)(x:Int):getI (List.replicate n (-1)) x = -1:=by
 unfold getI
 rw[List.getD_eq_getElem?_getD,List.getElem?_replicate]
 split<;>rfl
theorem y07{n:Nat}{o:List Int}(b:inV n o){x:Int}(a:0<=x): -1<=getI (plc n o) x/\getI (plc n o) x<(o.length:Int):=by
 have:=W0b o 0 (List.replicate n (-1)) (by simp) b (λx a=>by rw[g09];omega) x a
 rw[Nat.zero_add]at this;exact this
theorem w0o(n:Nat)(o:List Int):(plc n o).length=n:=by unfold plc;rw[Y0f];simp
def pE(P:List Int):List Q0->List Q0
 | []=>[]
 |e::r=>bif decide (0<=getI P e.1)&&decide (0<=getI P e.2.2)then(getI P e.1,e.2.1,getI P e.2.2)::pE P r else pE P r
theorem x0j(P:List Int):∀ es,(pE P es).length<=es.length
 | []=>by simp[pE]
 |e::r=>by
  have:=x0j P r
  unfold pE
  cases decide (0<=getI P e.1)&&decide (0<=getI P e.2.2)<;>simp only[cond_true,cond_false,List.length_cons]<;>omega
theorem Y0t{n:Nat}{o:List Int}(d:inV n o):∀(es:List Q0),inN n es->inN o.length (pE (plc n o) es)
 | [],c=>λe a=>nomatch a
 |e::r,c=>by
  have f:=Y0t d r λe a=>c e (mC _ a)
  have a:=c e mS
  unfold pE
  cases hb:decide (0<=getI (plc n o) e.1)&&decide (0<=getI (plc n o) e.2.2)
  ·simpa only[cond_false] using f
  ·simp only[cond_true]
   simp only[Bool.and_eq_true,decide_eq_true_eq]at hb
   intro g b
   rcases List.mem_cons.1 b with rfl|b
   ·exact⟨⟨hb.1,(y07 d a.1.1).2⟩,hb.2,(y07 d a.2.1).2⟩
   ·exact f g b
def N01(g:j0)(o:List Int):j0:=(g.1,(o.length:Int),B5 S0 [] (pE (plc g.2.1.toNat o) g.2.2))
theorem d04:∀(r l:List Q0),(B5 S0 l r).length<=l.length+r.length
 | [],l=>by simp[B5]
 |e::r,l=>by have:=d04 r (H01 S0 e l);have:=c04 e l;simp only[B5,List.length_cons];omega
theorem O0a(g:j0)(o:List Int):(N01 g o).2.2.length<=g.2.2.length:=by
 have:=d04 (pE (plc g.2.1.toNat o) g.2.2) []
 have:=x0j (plc g.2.1.toNat o) g.2.2
 simp only[N01,List.length_nil]at *;omega
theorem f0i{n:Nat}{r:Int}{es:List Q0}{o:List Int}(c:inV n o)(b:inN n es):inN o.length (N01 (r,(n:Int),es) o).2.2:=by
 intro e a
 simp only[N01,Int.toNat_natCast]at a
 rcases(R00 P6 e _ _).1 a with h|h
 ·cases h
 ·exact Y0t c es b e h
theorem x0o(n:Nat)(c:n<=140737488355328):∀(d k fuel:Nat),k+d=n->d<fuel ->
  H00 n fuel (k:Int) (List.replicate k (-1)++List.replicate d 0)=some (List.replicate n (-1))
 |d,k,0,a,hf=>by omega
 |0,k,fuel+1,a,hf=>by
  rw[H00.eq_2,if_neg (by simp;omega),show k=n by omega];simp
 |d+1,k,fuel+1,a,hf=>by
  have b:gi (List.replicate k (-1)++List.replicate (d+1) (0:Int)) (k:Int)=some 0:=by
   rw[d0d,List.getElem?_append_right (by simp)];simp
  have f:=x0o n c d (k+1) fuel (by omega) (by omega)
  rw[H00.eq_2,if_pos (by simp;omega),b,oB,A3 (show k<n by omega) (by omega),Int.toNat_natCast]
  have e:(List.replicate k (-1)++List.replicate (d+1) (0:Int)).set k (-1)=List.replicate (k+1) (-1)++List.replicate d 0:=by
   rw[List.set_append_right _ _ (by simp),List.length_replicate,Nat.sub_self,List.replicate_succ,List.set_cons_zero,List.replicate_succ']
   simp
  rw[e,f]
theorem y0o(o:List Int){n:Nat}(h:inV n o)(g:o.length<=9223372036854775807):∀(d k fuel:Nat) (A:List Int),A.length=n->k+d=o.length->d<fuel ->
  G00 o fuel (k:Int) A=some (r04 A k (o.drop k))
 |d,k,0,A,a,e,hf=>by omega
 |0,k,fuel+1,A,a,e,hf=>by
  rw[G00.eq_2,if_neg (by simp;omega),V1 (by omega)];rfl
 |d+1,k,fuel+1,A,a,e,hf=>by
  have f:k<o.length:=by omega
  have b:=P4 f
  have c:=h _ (List.mem_of_getElem? b)
  generalize o[k]=v at b c
  have i:=y0o o h g d (k+1) fuel (A.set v.toNat (k:Int)) (by simp[a]) (by omega) (by omega)
  rw[G00.eq_2,if_pos (by simp;omega),C2 b,B3 b,oB,giI a c.1 c.2,oB,A3 f g,i]
  rfl
theorem z0o(es:List Q0){n:Nat}(q:inN n es)(t:es.length<=1099511627776)(P:List Int)(g:P.length=n)(r m:Int):∀(d k fuel:Nat) (acc:List Q0),k+d=es.length->d<fuel->acc.length<=k ->
  c00 es P fuel (k:Int) r m acc=some (r,m,acc++pE P (es.drop k))
 |d,k,0,acc,o,hf,j=>by omega
 |0,k,fuel+1,acc,o,hf,j=>by
  rw[c00.eq_2,if_neg (by simp;omega),V1 (by omega)];simp[pE]
 |d+1,k,fuel+1,acc,o,hf,j=>by
  have p:k<es.length:=by omega
  have f:=P4 p
  have c:=q _ (List.mem_of_getElem? f)
  generalize es[k]=e at f c
  obtain⟨a,l,b⟩:=e
  have i:=λs h=>z0o es q t P g r m d (k+1) fuel s (by omega) (by omega) h
  rw[c00.eq_2,if_pos (by simp;omega),C2 f]
  simp only[B3 f,oB,giI g c.1.1 c.1.2,giI g c.2.1 c.2.2,A3 p (show es.length<=9223372036854775807 by omega),pE]
  by_cases c1:0<=getI P a
  ·simp only[show decide (getI P a ≥ 0)=true by simpa using c1,Y1,oB,cond_true,show decide (0<=getI P a)=true by simpa using c1,Bool.true_and]
   by_cases c2:0<=getI P b
   ·rw[if_pos (by simpa using c2),H0 (by simp;omega),oB,i _ (by simp;omega)]
    simp[c2]
   ·rw[if_neg (by simpa using c2),i _ (by omega)]
    simp[c2]
  ·simp only[show decide (getI P a ≥ 0)=false by simpa using c1,T2,oB,cond_false,show decide (0<=getI P a)=false by simpa using c1,Bool.false_and]
   rw[if_neg (by simp),i _ (by omega)]
theorem a0n(r:Int)(n:Nat)(es:List Q0)(o:List Int)(d:inN n es)(e:inV n o)(g:n<=1000000)(c:es.length<=1099511627776)(f:o.length<=1099511627776):
  b04 (r,(n:Int),es) o=some (N01 (r,(n:Int),es) o):=by
 unfold b04
 have b:=x0o n (by omega) n 0 Y0 (by omega) (M1 (by omega))
 have a:=y0o o e (by omega) o.length 0 Y0 (List.replicate n (-1)) (by simp) (by omega) (M1 (by omega))
 have h0:=z0o es d c (plc n o) (w0o n o) r ((o.length:Nat):Int) es.length 0 Y0 [] (by omega) (M1 (by omega)) (Nat.le_refl _)
 rw[show((0:Nat):Int)=0 from rfl]at h0 a b
 rw[List.replicate_zero,List.nil_append]at b
 rw[List.drop_zero]at a
 rw[List.drop_zero,List.nil_append]at h0
 simp only[Int.toNat_natCast]
 rw[H0 (by omega),oB,oB,List.length_replicate,H0 (by omega),oB,b,oB,a,oB]
 rw[show r04 (List.replicate n (-1)) 0 o=plc n o from rfl,h0]
 simp only[oB]
 rw[e09 _ (by have:=x0j (plc n o) es;omega),oB]
 rfl
theorem x0r(A:List Int)(i k:Nat):(A.map (·+1)).set i (((k+1:Nat):Int))=(A.set i (k:Int)).map (·+1):=by
 rw[List.map_set];rfl
theorem Z0f{A:List Int}{n:Nat}(d:A.length=n){x:Int}(h0:0<=x)(c:x<n):gi (A.map (·+1)) x=some (getI A x+1):=by
 have b:x.toNat<A.length:=by omega
 have e:x=((x.toNat:Nat):Int):=by omega
 have a:gi (A.map (·+1)) ((x.toNat:Nat):Int)=some (getI A x+1):=by
  rw[d0d,List.getElem?_map,List.getElem?_eq_getElem b]
  unfold getI
  rw[List.getD_eq_getElem?_getD,List.getElem?_eq_getElem b];rfl
 rw[←e]at a;exact a
theorem y0r(r:Int)(n:Nat)(es:List Q0)(o:List Int)(h:inV n o)(l:o.Nodup)(t:1<=n/\n<=1000000)(s:o.length<=1099511627776):∀(d k fuel:Nat) (A:List Int),A.length=n->(∀ x,0<=x -> -1<=getI A x/\getI A x<=1099511627776)->(∀ x∈o.drop k,getI A x = -1)->k+d=o.length->d<fuel ->
  j5 o (n:Int) r es fuel (k:Int) (A.map (·+1))=some (.inr ((r04 A k (o.drop k)).map (·+1)))
 |d,k,0,A,f,i,c,j,hf=>by omega
 |0,k,fuel+1,A,f,i,c,j,hf=>by
  rw[j5.eq_2,if_neg (by simp;omega),V1 (by omega)];rfl
 |d+1,k,fuel+1,A,f,i,c,j,hf=>by
  have m:k<o.length:=by omega
  have a:=P4 m
  have b:=h _ (List.mem_of_getElem? a)
  have g:=C2 a
  generalize o[k]=v at a b g
  have p:(o.drop k).Nodup:=l.sublist (List.drop_sublist _ _)
  rw[g]at p c
  have q:=c v mS
  have w:=y0r r n es o h l t s d (k+1) fuel (A.set v.toNat (k:Int)) (by simp[f]) (λx a=>by
   rw[F03 b.1 (by omega) a];have:=i x a;split<;>omega) (λx a=>by
   have u:=h x (List.mem_of_mem_drop a)
   rw[F03 b.1 (by omega) u.1,if_neg (λe=>(List.nodup_cons.1 p).1 (by rw[←e];exact a))]
   exact c x (mC _ a)) (by omega) (by omega)
  rw[j5.eq_2,if_pos (by simp;omega),g,B3 a]
  simp only[oB,A03,w64 (show -9223372036854775808<=(n:Int)-1 by omega) (show(n:Int)-1<=9223372036854775807 by omega),inR,show decide (0<=v)=true by simpa using b.1,show decide (v<=(n:Int)-1)=true by simp;omega,Bool.and_self,Bool.not_true,Bool.not_false,Y1,Z0f f b.1 b.2,q,cond_false]
  rw[if_neg (by decide),A3 m (by omega),x0r,w]
  rfl
theorem z0r(es:List Q0){n:Nat}(s:inN n es)(u:es.length<=1099511627776)(P:List Int)(g:P.length=n)(i:∀ x,0<=x -> -1<=getI P x/\getI P x<=1099511627776)(r m:Int):∀(d k fuel:Nat) (acc:List Q0),k+d=es.length->d<fuel->acc.length<=k ->
  I4 es (P.map (·+1)) fuel (k:Int) r m acc=some (r,m,B5 S0 acc (pE P (es.drop k)))
 |d,k,0,acc,p,hf,o=>by omega
 |0,k,fuel+1,acc,p,hf,o=>by
  rw[I4.eq_2,if_neg (by simp;omega),V1 (by omega)];rfl
 |d+1,k,fuel+1,acc,p,hf,o=>by
  have q:k<es.length:=by omega
  have f:=P4 q
  have c:=s _ (List.mem_of_getElem? f)
  generalize es[k]=e at f c
  obtain⟨a,l,b⟩:=e
  have j:=λt h=>z0r es s u P g i r m d (k+1) fuel t (by omega) (by omega) h
  have v:=i a c.1.1
  have w:=i b c.2.1
  rw[I4.eq_2,if_pos (by simp;omega),C2 f]
  simp only[B3 f,oB,Z0f g c.1.1 c.1.2,Z0f g c.2.1 c.2.2,A3 q (show es.length<=9223372036854775807 by omega),pE]
  by_cases c1:0<=getI P a
  ·simp only[show decide (getI P a+1>0)=true by simp;omega,Y1,oB,cond_true,show decide (0<=getI P a)=true by simpa using c1,Bool.true_and]
   by_cases c2:0<=getI P b
   ·rw[if_pos (by simp;omega),w64 (by omega) (by omega),w64 (by omega) (by omega),show getI P a+1-1=getI P a by omega,show getI P b+1-1=getI P b by omega]
    rw[G05 _ _ (by omega),oB,j _ (by have:=c04 (getI P a,l,getI P b) acc;omega)]
    simp[c2,B5]
   ·rw[if_neg (by simp;omega),j _ (by omega)]
    simp[c2]
  ·simp only[show decide (getI P a+1>0)=false by simp;omega,T2,oB,cond_false,show decide (0<=getI P a)=false by simpa using c1,Bool.false_and]
   rw[if_neg (by simp),j _ (by omega)]
theorem a0g(r:Int)(n:Nat)(es:List Q0)(o:List Int)(f:T0 (r,(n:Int),es)=true)(g:inV n o)(l:o.Nodup)(t:1<=o.length)(u:o.length<=n):
  H8 (r,(n:Int),es) o=some (N01 (r,(n:Int),es) o,true):=by
 obtain⟨h,p,q,s⟩:=Q1 f
 simp only at p q s
 have m:inN n es:=λe d=>⟨(h e d).1,(h e d).2.1⟩
 have k:=j7 (r,(n:Int),es) (by simp only;omega)
 unfold H8
 have a:=y0r r n es o g l (by omega) (by omega) o.length 0 Y0 (List.replicate n (-1)) (by simp) (λx b=>by rw[g09];omega) (λx b=>g09 n x) (by omega) (M1 (by omega))
 have c:=z0r es m (by omega) (plc n o) (w0o n o) (λx b=>by have:=y07 g b;omega) r ((o.length:Nat):Int) es.length 0 Y0 [] (by omega) (M1 (by omega)) (Nat.le_refl _)
 rw[show((0:Nat):Int)=0 from rfl,List.drop_zero]at c a
 rw[show(List.replicate n (-1:Int)).map (·+1)=List.replicate n 0 by simp]at a
 rw[show r04 (List.replicate n (-1)) 0 o=plc n o from rfl]at a
 have i:decide (((o.length:Nat):Int)=0)=false:=decide_eq_false (by omega)
 have j:decide (((o.length:Nat):Int)>(n:Int))=false:=decide_eq_false (by omega)
 simp only[k,f,oB,Bool.not_true,cond_false,Int.toNat_natCast,i,j]
 rw[if_neg (by simp),H0 (by omega),oB,a]
 simp only[oB,h8,c]
 rfl
theorem f01:∀(n:Nat) (o:List Int),o.Nodup->inV n o->o.length<=n
 |0,[],_,_=>Nat.le_refl _
 |0,x::r,_,h=>by have:=h x mS;omega
 |n+1,o,c,h=>by
  have d:inV n (o.erase (n:Int)):=λx e=>by
   obtain⟨f,a⟩:=(List.Nodup.mem_erase_iff c).1 e
   have:=h x a;omega
  have b:=f01 n _ (c.erase _) d
  by_cases a:(n:Int)∈o
  ·rw[List.length_erase_of_mem a]at b;omega
  ·rw[List.erase_of_not_mem a]at b;omega
def w4:Nat->Nat->List Int
 |0,_=>[]
 |d+1,i=>(i:Int) :: -(i:Int)::w4 d (i+1)
theorem Z01:∀ d i,(w4 d i).length=2*d
 |0,i=>rfl
 |d+1,i=>by simp only[w4,List.length_cons,Z01 d];omega
theorem H0e:∀(d i:Nat),i+d<=1000->∀ x∈w4 d i,N4 x
 |0,i,h,x,a=>nomatch a
 |d+1,i,h,x,a=>by
  simp only[w4,List.mem_cons]at a
  rcases a with rfl|rfl|a
  ·exact⟨⟨by omega,by omega⟩,by omega⟩
  ·exact⟨⟨by omega,by omega⟩,by omega⟩
  ·exact H0e d (i+1) (by omega) x a
theorem A0r(R:Nat)(c:R<=900):∀(d i fuel:Nat) (acc:List Int),i+d=R+1->d<fuel->acc.length+2*d<=10000 ->
  I8 (R:Int) fuel (i:Int) acc=some (acc++w4 d i)
 |d,i,0,acc,b,hf,a=>by omega
 |0,i,fuel+1,acc,b,hf,a=>by
  rw[I8.eq_2,if_neg (by simp;omega)];simp[w4]
 |d+1,i,fuel+1,acc,b,hf,a=>by
  have e:=A0r R c d (i+1) fuel (acc ++ [(i:Int),-(i:Int)]) (by omega) (by omega) (by simp;omega)
  have f:IntKind.i64.wrap (0-(i:Int)) = -(i:Int):=by rw[w64 (by omega) (by omega)];omega
  rw[I8.eq_2,if_pos (by simp;omega),f,H0 (by simp;omega),oB,A3 (show i<1000 by omega) (by omega),e]
  simp[w4]
theorem B0r(R:Nat)(c:R<=900):∀(d i fuel:Nat) (acc:List Int),i+d=R+1->d<fuel->acc.length+2*d<=10000 ->
  R6 (R:Int) fuel (i:Int) acc=some (acc++w4 d i)
 |d,i,0,acc,b,hf,a=>by omega
 |0,i,fuel+1,acc,b,hf,a=>by
  rw[R6.eq_2,if_neg (by simp;omega)];simp[w4]
 |d+1,i,fuel+1,acc,b,hf,a=>by
  have e:=B0r R c d (i+1) fuel ((acc ++ [(i:Int)]) ++ [-(i:Int)]) (by omega) (by omega) (by simp;omega)
  have f:IntKind.i64.wrap (0-(i:Int)) = -(i:Int):=by rw[w64 (by omega) (by omega)];omega
  rw[R6.eq_2,if_pos (by simp;omega),f,H0 (by simp;omega),oB,H0 (by simp;omega),oB,A3 (show i<1000 by omega) (by omega),e]
  simp[w4]
theorem b0n(R:Nat)(a:R<=900):l00 (R:Int)=some (w4 R 1):=by
 unfold l00
 rw[show(1:Int)=((1:Nat):Int) from rfl,A0r R a R 1 Y0 [] (by omega) (M1 (by omega)) (by simp;omega)];rfl
theorem c0n(R:Nat)(a:R<=900):o7 (R:Int)=some (w4 R 1):=by
 unfold o7
 rw[show(1:Int)=((1:Nat):Int) from rfl,B0r R a R 1 Y0 [] (by omega) (M1 (by omega)) (by simp;omega)];rfl
def P0a(u:List Int)(x:Int):List Int:=if 0<=x/\x ∉ u then u ++ [x]else u
def v05(g:j0)(v:Int):List Int->List Int->List Int
 | [],u=>u
 |x::r,u=>v05 g v r (P0a u (P0 g v x))
def O01(g:j0)(ls:List Int):Nat->Nat->List Int->List Int
 |0,i,u=>u
 |f+1,i,u=>match u[i]? with
  |some v=>O01 g ls f (i+1) (v05 g v ls u)
  |none=>u
def gud(n:Nat)(u:List Int):Prop:=u.Nodup/\inV n u
theorem C0r{n:Nat}{u:List Int}{x:Int}(h:gud n u)(i:x = -1∨(0<=x/\x<(n:Int))):gud n (P0a u x):=by
 unfold P0a
 split
 ·rename_i g
  refine⟨List.nodup_append.2 ⟨h.1,by simp,λa f b d=>?_⟩,λy c=>?_⟩
  ·simp at d;subst d;exact λe=>g.2 (e▸f)
  ·rcases List.mem_append.1 c with c|c
   ·exact h.2 y c
   ·simp at c;subst c;omega
 ·exact h
theorem b0g(u:List Int)(x:Int):∃ t,P0a u x=u++t:=by
 unfold P0a;split
 ·exact⟨_,rfl⟩
 ·exact⟨[],by simp⟩
theorem e04(g:j0)(v:Int):∀(ls u:List Int),∃ t,v05 g v ls u=u++t
 | [],u=>⟨[],by simp[v05]⟩
 |x::r,u=>by
  obtain⟨c,a⟩:=b0g u (P0 g v x)
  obtain⟨d,b⟩:=e04 g v r (P0a u (P0 g v x))
  exact⟨c++d,by rw[v05,b,a,List.append_assoc]⟩
theorem z07{r:Int}{n:Nat}{es:List Q0}(a:inG (r,(n:Int),es))(v:Int):∀(ls u:List Int),gud n u->gud n (v05 (r,(n:Int),es) v ls u)
 | [],u,h=>h
 |x::l,u,h=>z07 a v l _ (C0r h (E00 a v x))
theorem c0g{r:Int}{n:Nat}{es:List Q0}(a:inG (r,(n:Int),es))(ls:List Int):∀(f i:Nat) (u:List Int),gud n u->gud n (O01 (r,(n:Int),es) ls f i u)
 |0,i,u,h=>h
 |f+1,i,u,h=>by
  unfold O01
  split
  ·exact c0g a ls f _ _ (z07 a _ _ _ h)
  ·exact h
theorem d0g(g:j0)(ls:List Int):∀(f i:Nat) (u:List Int),u.length<=(O01 g ls f i u).length
 |0,i,u=>Nat.le_refl _
 |f+1,i,u=>by
  unfold O01
  split
  ·rename_i v _
   obtain⟨t,e⟩:=e04 g v ls u
   have:=d0g g ls f (i+1) (v05 g v ls u)
   rw[e]at this ⊢;simp only[List.length_append]at this;omega
  ·exact Nat.le_refl _
theorem A0o(r:Int)(n:Nat)(es:List Q0)(f:inG (r,(n:Int),es))(z:n<=40)(l:es.length<=1099511627776)(ls:List Int)(o:∀ x∈ls,N4 x)(w:ls.length<=1000000)(i:Nat)(v:Int):∀(d k fuel:Nat) (u:List Int),gud n u->u[i]?=some v->k+d=ls.length->d<fuel ->
  C4 ls (i:Int) r (n:Int) es fuel (k:Int) u=some (v05 (r,(n:Int),es) v (ls.drop k) u)
 |d,k,0,u,b,a,g,hf=>by omega
 |0,k,fuel+1,u,b,a,g,hf=>by
  rw[C4.eq_2,if_neg (by simp;omega),V1 (by omega)];rfl
 |d+1,k,fuel+1,u,b,a,g,hf=>by
  have m:k<ls.length:=by omega
  have c:=P4 m
  have p:=o _ (List.mem_of_getElem? c)
  have j:=C2 c
  generalize ls[k]=x at c p j
  have C:=f01 n u b.1 b.2
  have A:P0 (r,(n:Int),es) v x = -1∨(0<=P0 (r,(n:Int),es) v x/\P0 (r,(n:Int),es) v x<(n:Int)):=E00 f v x
  have q:=C0r b A
  have s:(P0a u (P0 (r,(n:Int),es) v x))[i]?=some v:=by
   obtain⟨t,e⟩:=b0g u (P0 (r,(n:Int),es) v x)
   rw[e,List.getElem?_append_left (List.getElem?_eq_some_iff.1 a).1];exact a
  have B:=A0o r n es f z l ls o w i v d (k+1) fuel _ q s (by omega) (by omega)
  rw[C4.eq_2,if_pos (by simp;omega),j]
  simp only[B3 a,B3 c,oB,n02 (r,(n:Int),es) v x p l,H0 (q01 f (show(n:Int)<=40 by omega) v x),A3 m (show ls.length<=9223372036854775807 by omega),v05]
  rw[←B]
  generalize P0 (r,(n:Int),es) v x=y at *
  unfold P0a
  by_cases c1:0<=y
  ·simp only[show decide (y ≥ 0)=true by simpa using c1,Y1,U0b u y (by omega),oB,cond_true]
   by_cases c2:y∈u
   ·rw[if_neg (by simp[c2]),if_neg (by simp[c2])]
   ·rw[if_pos (by simp[c2]),if_pos ⟨c1,c2⟩,H0 (by simp;omega),oB]
  ·simp only[show decide (y ≥ 0)=false by simpa using c1,T2,oB,cond_false]
   rw[if_neg (by simp),if_neg (λh=>c1 h.1)]
theorem B0o(r:Int)(n:Nat)(es:List Q0)(c:inG (r,(n:Int),es))(l:n<=40)(g:es.length<=1099511627776)(ls:List Int)(k:∀ x∈ls,N4 x)(j:ls.length<=1000000):∀(f i fuel:Nat) (u:List Int),gud n u->i<=u.length->n+1<=i+f->f<fuel ->
  R5 ls r (n:Int) es fuel (i:Int) u=some (O01 (r,(n:Int),es) ls f i u)
 |f,i,0,u,a,h,d,hf=>by omega
 |0,i,fuel+1,u,a,h,d,hf=>by have:=f01 n u a.1 a.2;omega
 |f+1,i,fuel+1,u,a,h,d,hf=>by
  have o:=f01 n u a.1 a.2
  rw[R5.eq_2,oB,H0 (by omega),oB]
  by_cases hk:i<u.length
  ·have b:=P4 hk
   generalize u[i]=v at b
   have h0:=A0o r n es c l g ls k j i v ls.length 0 Y0 u a b (by omega) (M1 (by omega))
   rw[show((0:Nat):Int)=0 from rfl,List.drop_zero]at h0
   obtain⟨t,e⟩:=e04 (r,(n:Int),es) v ls u
   have m:=B0o r n es c l g ls k j f (i+1) fuel _ (z07 c v ls u a) (by rw[e,List.length_append];omega) (by omega) (by omega)
   rw[if_pos (by simpa using hk),h0,oB,A3 hk (by omega),m]
   simp only[O01,b]
  ·have b:u[i]?=none:=List.getElem?_eq_none (by omega)
   rw[if_neg (by simpa using hk)]
   simp only[O01,b]
def R02(g:j0):List Int:=O01 g (w4 g.1.toNat 1) (g.2.1.toNat+1) 0 [0]
theorem g0i{g:j0}(hf:M0 g=true):gud g.2.1.toNat (R02 g)/\1<=(R02 g).length:=by
 obtain⟨b,c,d,e⟩:=P2 hf
 obtain⟨r,n,es⟩:=g
 simp only at c d e
 obtain⟨N,rfl⟩:∃ N:Nat,n=(N:Int):=⟨n.toNat,by omega⟩
 refine⟨?_,?_⟩
 ·exact c0g b _ _ _ _ ⟨by simp,λx a=>by simp at a;subst a;show(0:Int)<=0/\(0:Int)<(((N:Int).toNat:Nat):Int);omega⟩
 ·exact d0g _ _ _ _ [0]
theorem p0l(g:j0)(hf:M0 g=true):F9 g=some (R02 g):=by
 obtain⟨b,c,d,e⟩:=P2 hf
 have f:=q04 g (by omega)
 obtain⟨r,n,es⟩:=g
 simp only at c d e
 obtain⟨N,rfl⟩:∃ N:Nat,n=(N:Int):=⟨n.toNat,by omega⟩
 obtain⟨R,rfl⟩:∃ R:Nat,r=(R:Int):=⟨r.toNat,by omega⟩
 unfold F9
 have h0:=B0o (R:Int) N es b (by omega) (by omega) (w4 R 1) (H0e R 1 (by omega)) (by rw[Z01];omega) (N+1) 0 Y0 [0] ⟨by simp,λx a=>by simp at a;subst a;omega⟩ (by simp) (by omega) (M1 (by omega))
 simp only[f,hf,oB,Bool.not_true,c0n R (by omega)]
 rw[show((0:Nat):Int)=0 from rfl]at h0
 rw[if_neg (by simp),h0]
 rfl
theorem C0o{a:List Int}(la:a.length<=1099511627776):u02 a=some a:=by
 unfold u02
 rw[H0 (by simp;omega)];rfl
def F00(W:List (Option (List Int)))(x:Int):Option (List Int):=W.getD x.toNat none
theorem giO{a:List (Option (List Int))}{n:Nat}(f:a.length=n){x:Int}(h0:0<=x)(d:x<n):gi a x=some (F00 a x):=by
 have c:x.toNat<a.length:=by omega
 have e:x=((x.toNat:Nat):Int):=by omega
 have b:gi a ((x.toNat:Nat):Int)=some (F00 a x):=by
  rw[d0d,List.getElem?_eq_getElem c]
  unfold F00
  rw[List.getD_eq_getElem?_getD,List.getElem?_eq_getElem c];rfl
 rw[←e]at b;exact b
theorem v02{A:List (Option (List Int))}{v x:Int}{y:Option (List Int)}(h0:0<=v)(a:v.toNat<A.length)(b:0<=x):F00 (A.set v.toNat y) x=if x=v then y else F00 A x:=by
 unfold F00
 rw[List.getD_eq_getElem?_getD,List.getD_eq_getElem?_getD,List.getElem?_set]
 by_cases c:x=v
 ·rw[if_pos c,if_pos (by rw[c]),if_pos a];rfl
 ·rw[if_neg c,if_neg (by omega)]
structure WOk (n:Nat) (W:List (Option (List Int))) (u:List Int):Prop where
 len:W.length=n
 iff:∀ x,0<=x->x<(n:Int)->((F00 W x).isNone=true↔x ∉ u)
 short:∀ x,((F00 W x).getD []).length<=u.length
theorem D0o(r:Int)(n:Nat)(es:List Q0)(l:inG (r,(n:Int),es))(F:n<=40)(s:es.length<=1099511627776)(ls:List Int)(w:∀ x∈ls,N4 x)(E:ls.length<=1000000)(v:Int)(m:0<=v/\v<(n:Int)):∀(d k fuel:Nat) (b:List (Option (List Int))) (u:List Int),gud n u->WOk n b u->k+d=ls.length->d<fuel ->
  ∃ i,Y3 ls r (n:Int) es v fuel (k:Int) b u=some (i,v05 (r,(n:Int),es) v (ls.drop k) u)/\WOk n i (v05 (r,(n:Int),es) v (ls.drop k) u)
 |d,k,0,b,u,g,a,p,hf=>by omega
 |0,k,fuel+1,b,u,g,a,p,hf=>by
  rw[Y3.eq_2,if_neg (by simp;omega),V1 (by omega)];exact⟨b,rfl,a⟩
 |d+1,k,fuel+1,b,u,g,a,p,hf=>by
  have t:k<ls.length:=by omega
  have j:=P4 t
  have B:=w _ (List.mem_of_getElem? j)
  have q:=C2 j
  generalize ls[k]=x at j B q
  have I:=f01 n u g.1 g.2
  have G:P0 (r,(n:Int),es) v x = -1∨(0<=P0 (r,(n:Int),es) v x/\P0 (r,(n:Int),es) v x<(n:Int)):=E00 l v x
  have D:=C0r g G
  have f:=λi h=>D0o r n es l F s ls w E v m d (k+1) fuel i _ D h (by omega) (by omega)
  rw[Y3.eq_2,if_pos (by simp;omega),q]
  simp only[B3 j,oB,N04 (r,(n:Int),es) v x B s,H0 (q01 l (show(n:Int)<=40 by omega) v x),A3 t (show ls.length<=9223372036854775807 by omega),v05]
  generalize P0 (r,(n:Int),es) v x=y at *
  by_cases c1:0<=y
  ·have o:y<(n:Int):=by omega
   simp only[show decide (y ≥ 0)=true by simpa using c1,Y1,giO a.len c1 o,oB,cond_true]
   by_cases c2:y∈u
   ·have : ¬ ((F00 b y).isNone=true):=λh=>(a.iff y c1 o).1 h c2
    have e:P0a u y=u:=if_neg λh=>h.2 c2
    rw[if_neg this]
    rw[e]at f ⊢
    exact f b a
   ·have:(F00 b y).isNone=true:=(a.iff y c1 o).2 c2
    have e:P0a u y=u ++ [y]:=if_pos ⟨c1,c2⟩
    have A:=a.short v
    rw[if_pos this,giO a.len m.1 m.2,oB,C0o (by omega),oB,H0 (by simp;omega),oB,H0 (by simp;omega),oB]
    rw[e]at f ⊢
    refine f _ ⟨by simp[a.len],λz h0 C=>?_,λz=>?_⟩
    ·rw[v02 c1 (by have:=a.len;omega) h0]
     by_cases c:z=y
     ·rw[if_pos c];simp[c]
     ·rw[if_neg c,a.iff z h0 C];simp[c]
    ·by_cases hz:0<=z
     ·rw[v02 c1 (by have:=a.len;omega) hz]
      by_cases c:z=y
      ·rw[if_pos c];simp;exact A
      ·rw[if_neg c];have:=a.short z;simp only[List.length_append];omega
     ·have H:F00 (b.set y.toNat (some ((F00 b v).getD [] ++ [x]))) z=F00 (b.set y.toNat (some ((F00 b v).getD [] ++ [x]))) 0:=by
       unfold F00;rw[show z.toNat=(0:Int).toNat by omega]
      rw[H,v02 c1 (by have:=a.len;omega) (iR 0)]
      by_cases c:(0:Int)=y
      ·rw[if_pos c];simp;exact A
      ·rw[if_neg c];have:=a.short 0;simp only[List.length_append];omega
  ·have e:P0a u y=u:=if_neg λh=>c1 h.1
   simp only[show decide (y ≥ 0)=false by simpa using c1,T2,oB,cond_false]
   rw[if_neg (by simp)]
   rw[e]at f ⊢
   exact f b a
theorem E0o(R n:Nat)(h:R<=900)(es:List Q0)(d:inG ((R:Int),(n:Int),es))(m:n<=40)(k:es.length<=1099511627776):∀(f i fuel:Nat) (b:List (Option (List Int))) (u:List Int),gud n u->WOk n b u->i<=u.length->n+1<=i+f->f<fuel ->
  ∃ q,M5 (R:Int) (n:Int) es fuel (i:Int) b u=some (q,O01 ((R:Int),(n:Int),es) (w4 R 1) f i u)
 |f,i,0,b,u,a,g,l,j,hf=>by omega
 |0,i,fuel+1,b,u,a,g,l,j,hf=>by have:=f01 n u a.1 a.2;omega
 |f+1,i,fuel+1,b,u,a,g,l,j,hf=>by
  have y:=f01 n u a.1 a.2
  rw[M5.eq_2,oB,H0 (by omega),oB]
  by_cases hk:i<u.length
  ·have c:=P4 hk
   have o:=a.2 _ (List.mem_of_getElem? c)
   generalize u[i]=v at c o
   obtain⟨s,h0,p⟩:=D0o (R:Int) n es d m k (w4 R 1) (H0e R 1 (by omega)) (by rw[Z01];omega) v o (w4 R 1).length 0 Y0 b u a g (by omega) (M1 (by rw[Z01];omega))
   rw[show((0:Nat):Int)=0 from rfl,List.drop_zero]at h0
   rw[List.drop_zero]at p
   obtain⟨t,e⟩:=e04 ((R:Int),(n:Int),es) v (w4 R 1) u
   obtain⟨x,w⟩:=E0o R n h es d m k f (i+1) fuel s _ (z07 d v _ u a) p (by rw[e,List.length_append];omega) (by omega) (by omega)
   rw[if_pos (by simpa using hk),B3 c,oB,b0n R h,oB,h0,oB]
   simp only[A3 hk (show u.length<=9223372036854775807 by omega),w,O01,c]
   exact⟨_,rfl⟩
  ·have c:u[i]?=none:=List.getElem?_eq_none (by omega)
   rw[if_neg (by simpa using hk)]
   simp only[O01,c]
   exact⟨_,rfl⟩
theorem q0l(g:j0)(hf:M0 g=true):G9 g=some (R02 g):=by
 obtain⟨a,e,f,h⟩:=P2 hf
 have i:=X01 g (by omega)
 obtain⟨r,n,es⟩:=g
 simp only at e f h
 obtain⟨N,rfl⟩:∃ N:Nat,n=(N:Int):=⟨n.toNat,by omega⟩
 obtain⟨R,rfl⟩:∃ R:Nat,r=(R:Int):=⟨r.toNat,by omega⟩
 unfold G9
 have b:∀ x,F00 (List.replicate N (none:Option (List Int))) x=none:=λx=>by
  unfold F00
  rw[List.getD_eq_getElem?_getD,List.getElem?_replicate];split<;>rfl
 have j:WOk N ((List.replicate N (none:Option (List Int))).set (0:Int).toNat (some [])) [0]:=by
  refine⟨by simp,λx h0 a=>?_,λx=>?_⟩
  ·rw[v02 (iR 0) (by simp;omega) h0]
   by_cases c:x=0
   ·rw[if_pos c];simp[c]
   ·rw[if_neg c,b];simp[c]
  ·by_cases hz:0<=x
   ·rw[v02 (iR 0) (by simp;omega) hz]
    split
    ·simp
    ·rw[b];simp
   ·have:F00 ((List.replicate N (none:Option (List Int))).set (0:Int).toNat (some [])) x=F00 ((List.replicate N (none:Option (List Int))).set (0:Int).toNat (some [])) 0:=by
     unfold F00;rw[show x.toNat=(0:Int).toNat by omega]
    rw[this,v02 (iR 0) (by simp;omega) (iR 0),if_pos rfl];simp
 obtain⟨l,h0⟩:=E0o R N (by omega) es a (by omega) (by omega) (N+1) 0 Y0 _ [0] ⟨by simp,λx d=>by simp at d;subst d;omega⟩ j (by simp) (by omega) (M1 (by omega))
 have k:gi (List.replicate N (none:Option (List Int))) 0=some none:=by
  rw[F0f (x:=none)];rw[List.getElem?_replicate,if_pos (by omega)]
 simp only[i,hf,oB,Bool.not_true,P7,Int.toNat_natCast]
 rw[if_neg (by simp),H0 (by omega),oB,k,oB]
 rw[show((0:Nat):Int)=0 from rfl]at h0
 rw[h0]
 rfl
def Z04(g:j0):j0:=N01 g (R02 g)
theorem Y0d(g:j0)(hf:M0 g=true):Z7 g=some (Z04 g):=by
 obtain⟨b,d,f,h⟩:=P2 hf
 have i:=X01 g (by omega)
 have j:=q0l g hf
 obtain⟨a,m⟩:=g0i hf
 have k:=f01 _ _ a.1 a.2
 obtain⟨r,n,es⟩:=g
 simp only at d f h
 obtain⟨N,rfl⟩:∃ N:Nat,n=(N:Int):=⟨n.toNat,by omega⟩
 simp only[Int.toNat_natCast]at a k
 have l:=a0n r N es (R02 (r,(N:Int),es)) (λe c=>⟨(b e c).1,(b e c).2.1⟩) a.2 (by omega) (by omega) (by omega)
 unfold Z7
 simp only[i,hf,oB,Bool.not_true,j,l]
 rfl
theorem Z0d(g:j0)(hf:M0 g=true):Y7 g=some (Z04 g):=by
 obtain⟨l,d,e,f⟩:=P2 hf
 have i:T0 g=true:=by
  unfold M0 at hf;exact(Bool.and_eq_true _ _▸hf).1
 have j:=p0l g hf
 obtain⟨a,b⟩:=g0i hf
 have c:=f01 _ _ a.1 a.2
 obtain⟨r,n,es⟩:=g
 simp only at d e f
 obtain⟨N,rfl⟩:∃ N:Nat,n=(N:Int):=⟨n.toNat,by omega⟩
 simp only[Int.toNat_natCast]at a c
 have k:=a0g r N es (R02 (r,(N:Int),es)) i a.2 a.1 b c
 unfold Y7
 simp only[oB,j,k]
 rw[if_neg (by simp;intro h;rw[h]at b;simp at b)]
 rfl
def lf(a:Nat->Bool):Nat->Nat->Option Nat
 |0,v=>none
 |d+1,v=>bif a v then some v else lf a d (v+1)
theorem h09{a:Nat->Bool}:∀(d v k:Nat),lf a d v=some k->v<=k/\k<v+d
 |0,v,k,h=>by cases h
 |d+1,v,k,h=>by
  unfold lf at h
  cases hb:a v
  ·rw[hb]at h;have:=h09 d (v+1) k h;omega
  ·rw[hb]at h;cases h;omega
theorem e0g{a b:Nat->Bool}:∀(d v:Nat),(∀ k,v<=k->k<v+d->a k=b k)->lf a d v=lf b d v
 |0,v,h=>rfl
 |d+1,v,h=>by unfold lf;rw[h v (Nat.le_refl _) (by omega),e0g d (v+1) λk c e=>h k (by omega) (by omega)]
def g0q(es:List Q0):List Int:=itS es (es.length+1) [0]
def X0b(es:List Q0)(v:Nat):Bool:=decide (o05 (v:Int) es<2) || !decide ((v:Int)∈g0q es)
def P02(g:j0):Option Nat:=lf (X0b g.2.2) (g.2.1.toNat-1) 1
theorem d0n(g:j0)(b:T0 g=true):V00 g 0=some (g0q g.2.2)/\(g0q g.2.2).length<=100000:=by
 obtain⟨i,d,e,a⟩:=Q1 b
 have h:=j7 g (by omega)
 obtain⟨r,n,es⟩:=g
 simp only at d e a
 unfold V00 g0q
 have c:=X0f es a (es.length+1) 0 Y0 [0] (by omega) (M1 (by omega)) (by simp)
 have f:=t0o es (es.length+1) [0]
 refine⟨?_,?_⟩
 ·rw[show((0:Nat):Int)=0 from rfl]at c
  simp only[h,b,oB,Bool.not_true,Bool.not_false,Y1,A03,inR,w64 (show -9223372036854775808<=n-1 by omega) (show n-1<=9223372036854775807 by omega)]
  rw[if_neg (by simp;omega),c];rfl
 ·have:(es.length+1)*(2*es.length)<=121*240:=Nat.mul_le_mul (by omega) (by omega)
  simp only[List.length_singleton]at f
  simp only
  omega
theorem D0r(r:Int)(n:Nat)(es:List Q0)(e:es.length<=1000)(u:List Int)(g:u.length<=100000)(f:n<=40):∀(d v fuel:Nat),v+d=n∨(d=0/\n<=v)->v<=1000->d<fuel ->
  w9 (n:Int) r es u fuel (v:Int)=some (match lf (λv=>decide (o05 (v:Int) es<2) || !decide ((v:Int)∈u)) d v with|some k => .inl (k:Int)|none => .inr ())
 |d,v,0,b,c,hf=>by omega
 |0,v,fuel+1,b,c,hf=>by
  rw[w9.eq_2,if_neg (by simp;omega)];rfl
 |d+1,v,fuel+1,b,c,hf=>by
  have h:=D0r r n es e u g f d (v+1) fuel (by omega) (by omega) (by omega)
  have i:=v0j (v:Int) es
  rw[w9.eq_2,if_pos (by simp;omega),Y0h (r,(n:Int),es) _ (by simp only;omega),oB,H0 (c64 (by simp only;omega) (by simp only;omega)),oB,A3 (show v<10000 by omega) (by omega)]
  unfold lf
  by_cases c1:o05 (v:Int) es<2
  ·have a:decide (((o05 (v:Int) es:Nat):Int)<2)=true:=decide_eq_true (by omega)
   simp only[a,Bool.not_true,T2,oB,cond_true,if_true,decide_eq_true c1,Bool.true_or]
  ·have a:decide (((o05 (v:Int) es:Nat):Int)<2)=false:=decide_eq_false (by omega)
   simp only[a,Bool.not_false,Y1,U0b u _ (show u.length<=9223372036854775807 by omega),oB,cond_false,decide_eq_false c1,Bool.false_or]
   by_cases c2:(v:Int)∈u
   ·simp only[decide_eq_true c2,Bool.not_true,Bool.false_eq_true,if_false,cond_false];exact h
   ·simp only[decide_eq_false c2,Bool.not_false,if_true,cond_true]
theorem E0r(g:j0)(c:T0 g=true):I02 g=some (match P02 g with|some k=>(k:Int)|none => -1):=by
 obtain⟨a,b⟩:=d0n g c
 obtain⟨i,d,e,f⟩:=Q1 c
 obtain⟨r,n,es⟩:=g
 simp only at d e f a b
 obtain⟨N,rfl⟩:∃ N:Nat,n=(N:Int):=⟨n.toNat,by omega⟩
 unfold I02 P02
 have h:=D0r r N es (by omega) (g0q es) b (by omega) (N-1) 1 Y0 (by omega) (by omega) (M1 (by omega))
 simp only[a,oB,Int.toNat_natCast]
 rw[show(1:Int)=((1:Nat):Int) from rfl,h]
 rw[show(λv:Nat=>decide (o05 (v:Int) es<2) || !decide ((v:Int)∈g0q es))=X0b es from rfl]
 cases lf (X0b es) (N-1) 1<;>rfl
theorem y0j(r:Int)(n:Nat)(es:List Q0)(o:es.length<=1000)(a:List Bool)(g:a.length=n)(p:n<=40):∀(d v fuel:Nat),1<=v->v+d=n∨(d=0/\n<=v)->v<=1000->d+1<fuel ->
  O4 (n:Int) r es a fuel 0 (v:Int)=some (match lf (λv=>decide (o05 (v:Int) es<2) || !K00 a (v:Int)) d v with|some k=>(k:Int)|none=>0)
 |d,v,0,f,h,j,hf=>by omega
 |0,v,fuel+1,f,h,j,hf=>by
  have e:decide ((v:Int)<(n:Int))=false:=decide_eq_false (by omega)
  rw[O4.eq_2,if_neg (by rw[e];simp)];rfl
 |d+1,v,fuel+1,f,h,j,hf=>by
  have q:=y0j r n es o a g p d (v+1) fuel (by omega) (by omega) (by omega) (by omega)
  have s:=v0j (v:Int) es
  have e:decide ((v:Int)<(n:Int))=true:=decide_eq_true (by omega)
  have i:∀ w:Int,O4 (n:Int) r es a fuel (v:Int) w=some (v:Int):=λw=>by
   obtain _|fuel:=fuel
   ·omega
   ·have l:decide ((v:Int)=0)=false:=decide_eq_false (by omega)
    have m:∀ b:Bool,(bif b then false else false)=false:=λb=>by cases b<;>rfl
    rw[O4.eq_2,if_neg (by rw[l,m];simp)]
  rw[O4.eq_2,if_pos (by rw[e];rfl),f0q (r,(n:Int),es) _ (by simp only;omega),oB,H0 (c64 (by simp only;omega) (by simp only;omega)),oB,A3 (show v<10000 by omega) (by omega)]
  unfold lf
  by_cases c1:o05 (v:Int) es<2
  ·have c:decide (((o05 (v:Int) es:Nat):Int)<2)=true:=decide_eq_true (by omega)
   simp only[c,Bool.not_true,T2,oB,cond_true,if_true,decide_eq_true c1,Bool.true_or,i]
  ·have c:decide (((o05 (v:Int) es:Nat):Int)<2)=false:=decide_eq_false (by omega)
   simp only[c,Bool.not_false,Y1,giB g (show(0:Int)<=(v:Int) by omega) (show(v:Int)<(n:Int) by omega),oB,cond_false,decide_eq_false c1,Bool.false_or]
   cases hb:K00 a (v:Int)
   ·simp only[Bool.not_false,if_true,cond_true,i]
   ·simp only[Bool.not_true,Bool.false_eq_true,if_false,cond_false];exact q
def wo(g:Nat):Nat->Nat->List Int
 |0,k=>[]
 |d+1,k=>if k=g then wo g d (k+1)else(k:Int)::wo g d (k+1)
theorem z0j(g:Nat):∀(d k:Nat),(wo g d k).length=d-(if k<=g/\g<k+d then 1 else 0)
 |0,k=>by simp[wo]
 |d+1,k=>by
  have a:=z0j g d (k+1)
  unfold wo
  by_cases c:k=g
  ·rw[if_pos c,a,if_neg (by omega),if_pos (by omega)];omega
  ·rw[if_neg c,List.length_cons,a]
   by_cases c2:k+1<=g/\g<k+1+d
   ·rw[if_pos c2,if_pos (by omega)];omega
   ·rw[if_neg c2,if_neg (by omega)];omega
theorem F0o(g n:Nat):∀(d k:Nat),k+d<=n->inV n (wo g d k)
 |0,k,h=>λx a=>nomatch a
 |d+1,k,h=>by
  have b:=F0o g n d (k+1) (by omega)
  unfold wo
  split
  ·exact b
  ·intro x a
   rcases List.mem_cons.1 a with rfl|a
   ·omega
   ·exact b x a
theorem A0j(n g:Nat)(j:n<=1000):∀(d k fuel:Nat) (acc:List Int),k+d=n->d<fuel->acc.length<=k ->
  p6 (n:Int) (g:Int) fuel (k:Int) acc=some (acc++wo g d k)
 |d,k,0,acc,b,hf,a=>by omega
 |0,k,fuel+1,acc,b,hf,a=>by
  rw[p6.eq_2,if_neg (by simp;omega)];simp[wo]
 |d+1,k,fuel+1,acc,b,hf,a=>by
  have f:=λi h=>A0j n g j d (k+1) fuel i (by omega) (by omega) h
  rw[p6.eq_2,if_pos (by simp;omega),A3 (show k<10000 by omega) (by omega)]
  unfold wo
  by_cases c:k=g
  ·have e:decide ((k:Int)=(g:Int))=true:=decide_eq_true (by omega)
   rw[e,if_neg (by simp),if_pos c,f _ (by omega)]
  ·have e:decide ((k:Int)=(g:Int))=false:=decide_eq_false (by omega)
   rw[e,if_pos (show(!false)=true from rfl),if_neg c,H0 (by simp;omega),oB,f _ (by simp;omega)]
   simp
theorem B0j(n:Nat)(f:n<=1000):∀(d k fuel:Nat) (acc:List Int),k+d=n->d<fuel->acc.length=k ->
  ∃ u,U6 (n:Int) fuel (k:Int) acc=some u/\u.length=n
 |d,k,0,acc,b,hf,a=>by omega
 |0,k,fuel+1,acc,b,hf,a=>by
  rw[U6.eq_2,if_neg (by simp;omega)];exact⟨_,rfl,by omega⟩
 |d+1,k,fuel+1,acc,b,hf,a=>by
  obtain⟨u,c,e⟩:=B0j n f d (k+1) fuel (acc ++ [(k:Int)]) (by omega) (by omega) (by simp;omega)
  rw[U6.eq_2,if_pos (by simp;omega),A3 (show k<10000 by omega) (by omega),H0 (by simp;omega),oB,c]
  exact⟨u,rfl,e⟩
theorem f0g{a:Type}{xs:List a}{k:Nat}(h:k<=xs.length):b08 xs 0 (k:Int)=some (xs.take k):=by
 unfold b08
 rw[if_pos (by omega)];rfl
theorem G0o:∀(n fuel:Nat) (left:List Int) (r:Int) (es:List Q0),1<=n->n<=40->inN n es->es.length<=120->left.length=n->n<fuel ->
  ∃(a:j0) (e:List Int),r6 fuel left r (n:Int) es=some (.inl (a,e))/\a.2.1<=(n:Int)/\(a.2.1=(n:Int)↔lf (X0b es) (n-1) 1=none)
 |n,0,left,r,es,f,g,b,u,w,hf=>by omega
 |n,fuel+1,left,r,es,f,g,b,u,w,hf=>by
  obtain⟨c,q,A,s⟩:=m0l r n es b (by omega) f (by omega)
  have o:=y0j r n es (by omega) c A g (n-1) 1 Y0 (Nat.le_refl _) (by omega) (by omega) (M1 (by omega))
  have t:lf (λv=>decide (o05 (v:Int) es<2) || !K00 c (v:Int)) (n-1) 1=lf (X0b es) (n-1) 1:=e0g _ _ λk D E=>by
   unfold X0b
   have:=s (k:Int) (by omega) (by omega)
   have i:=G0e es 0 (k:Int)
   congr 2
   cases hb:K00 c (k:Int)
   ·symm;exact decide_eq_false λh=>by rw[this.2 (i.1 h)]at hb;cases hb
   ·symm;exact decide_eq_true (i.2 (this.1 hb))
  rw[t]at o
  rw[r6.eq_2,q,oB,show(1:Int)=((1:Nat):Int) from rfl,o,oB]
  cases hlf:lf (X0b es) (n-1) 1 with
  |none =>
   exact⟨(r,(n:Int),es),left,by rw[if_pos (by rfl)],iR _,by simp⟩
  |some k =>
   have C:=h09 _ _ _ hlf
   have p:decide ((k:Int)=0)=false:=decide_eq_false (by omega)
   have j:=F0o k n n 0 (by omega)
   have d:=z0j k n 0
   rw[if_pos (by omega)]at d
   have m:=A0j n k (by omega) n 0 Y0 [] (by omega) (M1 (by omega)) (Nat.le_refl _)
   rw[show((0:Nat):Int)=0 from rfl,List.nil_append]at m
   have x:=a0n r n es (wo k n 0) b j (by omega) (by omega) (by omega)
   have y:=O0a (r,(n:Int),es) (wo k n 0)
   have l:=f0i (r:=r) j b
   have z:IntKind.i64.wrap ((k:Int)+((1:Nat):Int))=((k+1:Nat):Int):=by rw[w64 (by omega) (by omega)];rfl
   obtain⟨a,e,B,F,G⟩:=G0o (n-1) fuel (left.take k++left.drop (k+1)) r (N01 (r,(n:Int),es) (wo k n 0)).2.2 (by omega) (by omega) (by rw[d]at l;exact l) (by simp only at y;omega) (by simp only[List.length_append,List.length_take,List.length_drop];omega) (by omega)
   refine⟨a,e,?_,by omega,?_⟩
   ·simp only[p,Bool.false_eq_true,if_false,m,oB,x]
    rw[show N01 (r,(n:Int),es) (wo k n 0)=(r,((n-1:Nat):Int),(N01 (r,(n:Int),es) (wo k n 0)).2.2) by rw[←d];rfl]
    simp only[z]
    rw[f0g (by omega),oB,O04 (by omega),oB,H0 (by simp only[List.length_take,List.length_drop];omega),oB,B]
   ·constructor
    ·intro h;omega
    ·intro h;cases h
theorem e0n(g:j0)(i:T0 g=true):∃(a:j0) (b:List Int),J8 g=some (a,b)/\(a.2.1=g.2.1↔P02 g=none):=by
 obtain⟨d,k,l,f⟩:=Q1 i
 have p:=M01 g (by omega)
 have m:=o02 g (by omega)
 obtain⟨r,n,es⟩:=g
 simp only at k l f
 obtain⟨N,rfl⟩:∃ N:Nat,n=(N:Int):=⟨n.toNat,by omega⟩
 have o:inN N es:=λe h=>⟨(d e h).1,(d e h).2.1⟩
 obtain⟨u,c,j⟩:=B0j N (by omega) N 0 Y0 [] (by omega) (M1 (by omega)) rfl
 obtain⟨a,b,q,t,s⟩:=G0o N Y0 u r es (by omega) (by omega) o f j (M1 (by omega))
 refine⟨a,b,?_,?_⟩
 ·unfold J8
  rw[show((0:Nat):Int)=0 from rfl]at c
  simp only[m,oB,p,i,Bool.not_true,Bool.false_eq_true,if_false,c,q,h8]
 ·simp only[P02,Int.toNat_natCast];exact s
def T1(g:j0):Bool:=M0 g&&((P02 g).isNone&&T0b (Z04 g) g)
theorem Z1{g:j0}(h:M0 g=true):T0 g=true:=by
 unfold M0 at h;exact(Bool.and_eq_true _ _▸h).1
theorem m0d{g:j0}(hf:M0 g=true):(Z04 g).2.2.length<=120:=by
 have:=O0a g (R02 g)
 have:=(P2 hf).2.2.2
 unfold Z04;omega
theorem d00(g:j0)(j:g.2.2.length<=140737488355328):E5 g=some (T1 g):=by
 have b:=X01 g j
 unfold T1
 by_cases hf:M0 g=true
 ·obtain⟨e,t,d,a⟩:=e0n g (Z1 hf)
  have f:=Y0d g hf
  have h:=Z0h (Z04 g) g (by have:=m0d hf;omega)
  obtain⟨r,n,es⟩:=g
  obtain⟨u,m,s⟩:=e
  unfold E5
  simp only at a
  generalize Z04 (r,n,es)=C at *
  obtain⟨o,p,q⟩:=C
  simp only[b,hf,oB,Bool.not_true,Bool.false_eq_true,if_false,d,f]
  by_cases c:m=n
  ·have:=a.1 c
   simp only[decide_eq_true c,Y1,oB,h,cond_true,this,Option.isNone_none,Bool.true_and]
  ·have l:(P02 (r,n,es)).isNone=false:=by
    cases hq:P02 (r,n,es)with
    |none=>exact absurd (a.2 hq) c
    |some k=>rfl
   simp only[decide_eq_false c,T2,oB,cond_false,l,Bool.false_and,Bool.and_false]
 ·have i:M0 g=false:=Bool.eq_false_iff.2 hf
  obtain⟨r,n,es⟩:=g
  unfold E5
  simp only[b,i,oB,Bool.not_false,if_true,Bool.false_and]
theorem s04(g:j0)(j:g.2.2.length<=140737488355328):J01 g=some (T1 g):=by
 have a:=q04 g j
 unfold T1
 by_cases hf:M0 g=true
 ·have f:=E0r g (Z1 hf)
  have d:=Z0d g hf
  have e:=K09 (Z04 g) g (by have:=m0d hf;omega)
  obtain⟨p,q,c,s⟩:=P2 hf
  obtain⟨r,n,es⟩:=g
  unfold J01
  generalize Z04 (r,n,es)=C at *
  obtain⟨l,m,o⟩:=C
  simp only[a,hf,oB,Y1,f,cond_true]
  cases hq:P02 (r,n,es)with
  |none =>
   simp only[H0 (show J0 (-1) by decide),oB,show decide ((-1:Int)<0)=true from rfl,Y1,d,e,cond_true,Option.isNone_none,Bool.true_and]
  |some k =>
   have i:=h09 _ _ _ hq
   simp only at c
   simp only at i
   have b:decide ((k:Int)<0)=false:=decide_eq_false (by omega)
   simp only[H0 (show J0 (k:Int) from c64 (by omega) (by omega)),oB,b,T2,cond_false,Option.isNone_some,Bool.false_and,Bool.and_false]
 ·have h:M0 g=false:=Bool.eq_false_iff.2 hf
  obtain⟨r,n,es⟩:=g
  unfold J01
  simp only[a,h,oB,T2,H0 (show J0 0 by decide),cond_false,Bool.false_and]
theorem H0o{s:ByteArray}{k:Nat}(h:k<s.size):∃ c,sgi s (k:Int)=some c:=by
 unfold sgi
 rw[if_pos (by omega),Int.toNat_natCast]
 exact⟨_,getElem?_pos s k h⟩
def chB(s:ByteArray)(k:Nat):Nat:=match sgi s (k:Int)with
 |some c=>c.toNat
 |none=>0
def D0u(c k:Nat):Bool := !(decide (97<=c)&&decide (c<=122))&&(decide (k=0) || !(decide (48<=c)&&decide (c<=57)))
def okN(s:ByteArray):Nat->Nat->Bool
 |0,k=>true
 |d+1,k=>bif D0u (chB s k) k then false else okN s d (k+1)
def m00(s:ByteArray):Bool:=inR 1 8 ((s.size:Nat):Int)&&okN s s.size 0
theorem I0o(s:ByteArray)(hl:s.size<=9223372036854775807):∀(d k fuel:Nat),k+d=s.size->d<fuel ->
  A9 s fuel (k:Int)=some (bif okN s d k then .inr ()else .inl false)
 |d,k,0,hd,hf=>by omega
 |0,k,fuel+1,hd,hf=>by
  rw[A9.eq_2,if_neg (by simp;omega)];rfl
 |d+1,k,fuel+1,hd,hf=>by
  have hk:k<s.size:=by omega
  obtain⟨c,hc⟩:=H0o hk
  have ih:=I0o s hl d (k+1) fuel (by omega) (by omega)
  have hb:chB s k=c.toNat:=by unfold chB;rw[hc]
  rw[A9.eq_2,if_pos (by simp;omega),hc]
  simp only[oB,okN,hb,D0u,A3 hk hl,ih]
  have nd:∀(p q:Prop) [Decidable p] [Decidable q],(p ↔ ¬ q)->decide p = !decide q:=λp q _ _ h=>by
   by_cases c:q
   ·rw[decide_eq_true c,decide_eq_false (λhp=>h.1 hp c)];rfl
   ·rw[decide_eq_false c,decide_eq_true (h.2 c)];rfl
  have t1:decide (((c.toNat:Nat):Int)<97) = !decide (97<=c.toNat):=nd _ _ (by omega)
  have t2:decide (((c.toNat:Nat):Int)>122) = !decide (c.toNat<=122):=nd _ _ (by omega)
  have t3:decide (((c.toNat:Nat):Int)<48) = !decide (48<=c.toNat):=nd _ _ (by omega)
  have t4:decide (((c.toNat:Nat):Int)>57) = !decide (c.toNat<=57):=nd _ _ (by omega)
  have t5:decide ((k:Int)=0)=decide (k=0):=by congr 1;simp
  have fin:∀(b:Bool) (x y:Option (Bool ⊕ Unit)),(if b=true then x else y)=bif b then x else y:=λb x y=>by cases b<;>rfl
  have hz:decide (((0:UInt8).toNat:Int)>122)=false:=rfl
  rw[t1,t5]
  cases h1:decide (97<=c.toNat)<;>cases h2:decide (c.toNat<=122)<;>cases h3:decide (48<=c.toNat)<;>cases h4:decide (c.toNat<=57) <;>
   simp only[Y1,T2,oB,t2,t3,t4,h2,h3,h4,cond_true,cond_false,Bool.not_true,Bool.not_false,Bool.false_and,Bool.true_and,Bool.and_true,Bool.and_false,Bool.and_self,Bool.true_or,Bool.false_or,Bool.or_true,Bool.or_false,fin] <;>
   cases decide (k=0)<;>cases okN s d (k+1)<;>rfl
theorem J0o(s:ByteArray)(g:s.size<=9223372036854775807):∀(d k fuel:Nat),k+d=s.size->d<fuel ->
  B9 s fuel (k:Int)=some (bif okN s d k then .inr ()else .inl false)
 |d,k,0,e,hf=>by omega
 |0,k,fuel+1,e,hf=>by
  rw[B9.eq_2,if_neg (by simp;omega)];rfl
 |d+1,k,fuel+1,e,hf=>by
  have f:k<s.size:=by omega
  obtain⟨c,a⟩:=H0o f
  have i:=J0o s g d (k+1) fuel (by omega) (by omega)
  have h:chB s k=c.toNat:=by unfold chB;rw[a]
  rw[B9.eq_2,if_pos (by simp;omega),a]
  simp only[oB,okN,h,D0u,A3 f g,i]
  have j:decide (((c.toNat:Nat):Int) ≥ 97)=decide (97<=c.toNat):=by congr 1;simp;omega
  have l:decide (((c.toNat:Nat):Int)<=122)=decide (c.toNat<=122):=by congr 1;simp;omega
  have m:decide (((c.toNat:Nat):Int) ≥ 48)=decide (48<=c.toNat):=by congr 1;simp;omega
  have n:decide (((c.toNat:Nat):Int)<=57)=decide (c.toNat<=57):=by congr 1;simp;omega
  have o:decide ((k:Int)=0)=decide (k=0):=by congr 1;simp
  rw[j,m,o]
  have fin:∀(b:Bool) (x y:Option (Bool ⊕ Unit)),(if b=true then x else y)=bif b then x else y:=λb x y=>by cases b<;>rfl
  cases h1:decide (97<=c.toNat)<;>cases h3:decide (48<=c.toNat)<;>cases h5:decide (k=0) <;>
   simp only[Y1,T2,oB,l,n,cond_true,cond_false,Bool.not_true,Bool.not_false,Bool.false_and,Bool.true_and,Bool.true_or,Bool.false_or,Bool.and_true,fin] <;>
   cases decide (c.toNat<=122)<;>cases decide (c.toNat<=57)<;>cases okN s d (k+1)<;>rfl
theorem h08(s:ByteArray)(a:s.size<=9223372036854775807):K01 s=some (m00 s):=by
 unfold K01 m00
 have h:=I0o s a s.size 0 Y0 (by omega) (by unfold Y0;omega)
 rw[show((0:Nat):Int)=0 from rfl]at h
 rw[h,oB]
 cases okN s s.size 0
 ·simp[h8]
 ·simp[h8,A03]
theorem i08(s:ByteArray)(a:s.size<=9223372036854775807):L01 s=some (m00 s):=by
 unfold L01 m00
 have h:=J0o s a s.size 0 Y0 (by omega) (by unfold Y0;omega)
 rw[show((0:Nat):Int)=0 from rfl]at h
 rw[j06,oB]
 cases inR 1 8 ((s.size:Nat):Int)
 ·rfl
 ·rw[if_neg (by simp),h,oB]
  cases okN s s.size 0<;>simp[h8]
def h0q(r:Int)(l:N1)(k:Nat):Bool:=match l[k]? with
 |some e=>bif m00 e.1 then(bif T1 e.2 then(bif decide (e.2.1=r)then(bif decide (0<k)then(match l[k-1]? with
  |some a => !r02 a.1 e.1
  |none=>false)else false)else true)else true)else true
 |none=>false
def okL(r:Int)(l:N1):Nat->Nat->Bool
 |0,k=>true
 |d+1,k=>bif h0q r l k then false else okL r l d (k+1)
def G2(x:N0):Bool:=inR 1 3 x.1&&(decide (x.2.length<=16)&&okL x.1 x.2 x.2.length 0)
def g0g(l:N1):Prop:=l.length<=140737488355328/\∀ e∈l,e.1.size<=140737488355328/\e.2.2.2.length<=140737488355328
theorem Y0b{r:Int}{l:N1}{k:Nat}{e:O6}(b:l[k]?=some e):h0q r l k=bif m00 e.1 then(bif T1 e.2 then(bif decide (e.2.1=r)then(bif decide (0<k)then(match l[k-1]? with
  |some a => !r02 a.1 e.1
  |none=>false)else false)else true)else true)else true:=by unfold h0q;rw[b]
theorem F0r(r:Int)(l:N1)(j:g0g l):∀(d k fuel:Nat),k+d=l.length->d<fuel ->
  V6 l r fuel (k:Int)=some (bif okL r l d k then .inr ()else .inl false)
 |d,k,0,p,hf=>by omega
 |0,k,fuel+1,p,hf=>by
  rw[V6.eq_2,if_neg (by simp;omega)];rfl
 |d+1,k,fuel+1,p,hf=>by
  have q:k<l.length:=by omega
  have c:=P4 q
  have i:=j.2 _ (List.mem_of_getElem? c)
  have z:=j.1
  generalize l[k]=e at c i
  obtain⟨m,a,n,es⟩:=e
  simp only at i
  have t:=F0r r l j d (k+1) fuel (by omega) (by omega)
  rw[V6.eq_2,if_pos (by simp;omega)]
  simp only[B3 c,oB,i08 m (by omega),A3 q (show l.length<=9223372036854775807 by omega),t,okL,Y0b c]
  have o:=d00 (a,n,es) i.2
  have fin:∀(b:Bool) (x y:Option (Bool ⊕ Unit)),(if b=true then x else y)=bif b then x else y:=λb x y=>by cases b<;>rfl
  have w:∀ b:Bool,(b || true)=true:=λb=>by cases b<;>rfl
  cases hN:m00 m
  ·simp only[Bool.not_false,Bool.not_true,Bool.and_false,T2,oB,cond_true,cond_false,if_true]
  ·by_cases hk0:k=0
   ·subst hk0
    have f:decide (((0:Nat):Int)>0)=false:=rfl
    have g:decide (0<0)=false:=rfl
    simp only[f,g,Bool.not_true,Bool.not_false,Bool.false_and,T2,oB,cond_true,cond_false,fin]
    cases hR:decide (a=r)
    ·simp only[Bool.not_false,T2,Bool.not_true,oB,cond_true,cond_false]
     cases T1 (a,n,es)<;>rfl
    ·simp only[Bool.not_true,Bool.not_false,Y1,o,oB,cond_true,cond_false]
     cases T1 (a,n,es)<;>cases okL r l d (0+1)<;>rfl
   ·have s:k-1<l.length:=by omega
    have h:=P4 s
    generalize l[k-1]=e' at h
    obtain⟨u,B,A,v⟩:=e'
    have f:decide ((k:Int)>0)=true:=decide_eq_true (by omega)
    have g:decide (0<k)=true:=decide_eq_true (by omega)
    simp only[f,g,Bool.not_true,Bool.not_false,Bool.true_and,Y1,G0f (show 0<k by omega) (show k<=9223372036854775807 by omega),B3 h,h,oB,cond_true,cond_false,fin]
    cases hS:r02 u m
    ·simp only[Bool.not_false,T2,Bool.not_true,oB,cond_true,cond_false]
     cases T1 (a,n,es)<;>cases decide (a=r)<;>rfl
    ·cases hR:decide (a=r)
     ·simp only[Bool.not_false,T2,Bool.not_true,oB,cond_true,cond_false]
      cases T1 (a,n,es)<;>rfl
     ·simp only[Bool.not_true,Bool.not_false,Y1,o,oB,cond_true,cond_false]
      cases T1 (a,n,es)<;>cases okL r l d (k+1)<;>rfl
theorem G0r(r:Int)(l:N1)(j:g0g l):∀(d k fuel:Nat),k+d=l.length->d<fuel ->
  T6 l r fuel (k:Int)=some (bif okL r l d k then .inr ()else .inl false)
 |d,k,0,o,hf=>by omega
 |0,k,fuel+1,o,hf=>by
  rw[T6.eq_2,if_neg (by simp;omega)];rfl
 |d+1,k,fuel+1,o,hf=>by
  have p:k<l.length:=by omega
  have c:=P4 p
  have i:=j.2 _ (List.mem_of_getElem? c)
  have w:=j.1
  generalize l[k]=e at c i
  obtain⟨m,a,n,es⟩:=e
  simp only at i
  have t:=G0r r l j d (k+1) fuel (by omega) (by omega)
  have q:Z2 (a,n,es)=some (T1 (a,n,es)):=by
   unfold Z2
   simp only[s04 (a,n,es) i.2,oB]
  rw[T6.eq_2,if_pos (by simp;omega)]
  simp only[B3 c,oB,h08 m (by omega),A3 p (show l.length<=9223372036854775807 by omega),t,okL,Y0b c]
  have fin:∀(b:Bool) (x y:Option (Bool ⊕ Unit)),(if b=true then x else y)=bif b then x else y:=λb x y=>by cases b<;>rfl
  cases hN:m00 m
  ·simp only[Bool.not_false,Bool.not_true,Bool.and_false,T2,oB,cond_true,cond_false,if_true]
  ·simp only[Bool.not_true,Bool.not_false,Y1,q,oB,cond_false,cond_true]
   cases hQ:T1 (a,n,es)
   ·simp only[Bool.not_false,Bool.not_true,Bool.and_false,T2,oB,cond_true,cond_false,if_true]
   ·cases hR:decide (a=r)
    ·simp only[Bool.not_false,Bool.not_true,Bool.and_false,T2,oB,cond_true,cond_false,if_true]
    ·by_cases hk0:k=0
     ·subst hk0
      have f:decide (((0:Nat):Int)>0)=false:=rfl
      have g:decide (0<0)=false:=rfl
      simp only[f,g,Bool.not_true,Bool.not_false,Bool.false_and,T2,oB,cond_true,cond_false,fin]
      try (cases okL r l d (0+1)<;>rfl)
     ·have s:k-1<l.length:=by omega
      have h:=P4 s
      generalize l[k-1]=e' at h
      obtain⟨u,A,z,v⟩:=e'
      have f:decide ((k:Int)>0)=true:=decide_eq_true (by omega)
      have g:decide (0<k)=true:=decide_eq_true (by omega)
      simp only[f,g,Bool.not_true,Bool.not_false,Bool.and_true,Bool.true_and,Y1,G0f (show 0<k by omega) (show k<=9223372036854775807 by omega),B3 h,h,oB,cond_true,cond_false,fin]
      cases r02 u m<;>cases okL r l d (k+1)<;>rfl
theorem w00(x:N0)(a:g0g x.2):T5 x=some (G2 x):=by
 obtain⟨r,l⟩:=x
 have h:=F0r r l a l.length 0 Y0 (by omega) (M1 a.1)
 rw[show((0:Nat):Int)=0 from rfl]at h
 unfold T5 G2
 simp only[j06,oB]
 have b:decide (((l.length:Nat):Int)>16) = !decide (l.length<=16):=by
  by_cases c:l.length<=16
  ·rw[decide_eq_true c,decide_eq_false (by omega)];rfl
  ·rw[decide_eq_false c,decide_eq_true (by omega)];rfl
 rw[b]
 cases inR 1 3 r
 ·rfl
 ·cases decide (l.length<=16)
  ·rfl
  ·simp only[Bool.not_true,cond_false,Bool.false_eq_true,if_false,h,oB,Bool.true_and]
   cases okL r l l.length 0<;>rfl
theorem h01(x:N0)(a:g0g x.2):p7 x=some (G2 x):=by
 obtain⟨r,l⟩:=x
 have h:=G0r r l a l.length 0 Y0 (by omega) (M1 a.1)
 rw[show((0:Nat):Int)=0 from rfl]at h
 unfold p7 G2
 simp only[A03,h,oB]
 have b:decide (((l.length:Nat):Int)<=16)=decide (l.length<=16):=by
  by_cases c:l.length<=16
  ·rw[decide_eq_true c,decide_eq_true (by omega)]
  ·rw[decide_eq_false c,decide_eq_false (by omega)]
 rw[b]
 cases okL r l l.length 0
 ·cases inR 1 3 r<;>cases decide (l.length<=16)<;>rfl
 ·cases inR 1 3 r<;>cases decide (l.length<=16)<;>rfl
theorem H0r:∀ x:List UInt8,Go.Op.bytesLess x x=false
 | []=>rfl
 |a::x=>by simp[Go.Op.bytesLess,H0r x]
theorem r0l:∀(x y z:List UInt8),Go.Op.bytesLess x y=true->Go.Op.bytesLess y z=true->Go.Op.bytesLess x z=true
 |_,[],_,h,_=>by simp[Go.Op.bytesLess]at h
 |_,_::_,[],_,h=>by simp[Go.Op.bytesLess]at h
 | [],_::_,_::_,_,_=>rfl
 |a::x,b::y,c::z,e,d=>by
  have f:=r0l x y z
  simp only[Go.Op.bytesLess,Bool.or_eq_true,Bool.and_eq_true,decide_eq_true_eq,beq_iff_eq]at e d ⊢
  rcases e with e|⟨rfl,e⟩
  ·rcases d with d|⟨rfl,d⟩
   ·exact .inl (UInt8.lt_trans e d)
   ·exact .inl e
  ·rcases d with d|⟨rfl,d⟩
   ·exact .inl d
   ·exact .inr ⟨rfl,f e d⟩
theorem Z0b(x:ByteArray):r02 x x=false:=H0r _
theorem n0d{x y z:ByteArray}(a:r02 x y=true)(b:r02 y z=true):r02 x z=true:=r0l _ _ _ a b
theorem K0o{r:Int}{l:N1}:∀(d k:Nat),k+d=l.length->okL r l d k=true->∀ i,k<=i->0<i->∀ e a,l[i-1]?=some e->l[i]?=some a->r02 e.1 a.1=true
 |0,k,m,h,i,n,h0,e,a,f,b=>by have:=(List.getElem?_eq_some_iff.1 b).1;omega
 |d+1,k,m,h,i,n,h0,e,a,f,b=>by
  unfold okL at h
  cases hb:h0q r l k
  ·rw[hb]at h
   by_cases c:i=k
   ·subst c
    rw[Y0b b]at hb
    have g:decide (0<i)=true:=decide_eq_true h0
    rw[g,f]at hb
    have j:m00 a.1=true/\T1 a.2=true/\a.2.1=r/\r02 e.1 a.1=true:=by simpa [Bool.cond_eq_ite] using hb
    exact j.2.2.2
   ·exact K0o d (k+1) (by omega) h i (by omega) h0 e a f b
  ·rw[hb]at h;cases h
theorem a0c{x:N0}(h:G2 x=true):∀(j i:Nat) (e a:O6),i<j->x.2[i]?=some e->x.2[j]?=some a->r02 e.1 a.1=true
 |0,i,e,a,k,b,d=>by omega
 |j+1,i,e,a,k,b,d=>by
  have m:okL x.1 x.2 x.2.length 0=true:=by
   unfold G2 at h
   simp only[Bool.and_eq_true]at h;exact h.2.2
  have l:j<x.2.length:=by have:=(List.getElem?_eq_some_iff.1 d).1;omega
  have f:=P4 l
  have g:=K0o x.2.length 0 (by omega) m (j+1) (Nat.zero_le _) (by omega) _ _ f d
  by_cases c:i=j
  ·subst c;rw[f]at b;cases b;exact g
  ·exact n0d (a0c h j i _ _ (by omega) b f) g
def r8(l:N1):Prop:=l.length<=1048576/\∀ e∈l,e.1.size<=1048576/\e.2.2.2.length<=1048576
theorem r8.ok{l:N1}(h:r8 l):g0g l:=⟨by have:=h.1;omega,λe a=>by have:=h.2 e a;omega⟩
theorem L0o(l:N1)(b:r8 l)(r:Int):∀(d k fuel:Nat),k+d=l.length->d<fuel ->
  l6 l fuel (k:Int) r (l.take k)=some (r,l)
 |d,k,0,c,hf=>by omega
 |0,k,fuel+1,c,hf=>by
  rw[l6.eq_2,if_neg (by simp;omega),List.take_of_length_le (by omega)]
 |d+1,k,fuel+1,c,hf=>by
  have g:k<l.length:=by omega
  have a:=P4 g
  have f:=b.2 _ (List.mem_of_getElem? a)
  have h:=k0l a
  generalize l[k]=e at a f h
  obtain⟨o,j,n,es⟩:=e
  simp only at f
  have m:=b.1
  have i:=L0o l b r d (k+1) fuel (by omega) (by omega)
  rw[l6.eq_2,if_pos (by simp;omega)]
  simp only[B3 a,oB,o02 (j,n,es) (by simp only;omega)]
  rw[H0 (by simp only[List.length_take,List.length_singleton];omega),oB,A3 g (by omega),←h,i]
theorem C0j(x:N0)(a:r8 x.2):F5 x=some x:=by
 obtain⟨r,l⟩:=x
 have h:=L0o l a r l.length 0 Y0 (by omega) (M1 (by have:=a.1;simp only at this;omega))
 rw[show((0:Nat):Int)=0 from rfl,List.take_zero]at h
 unfold F5
 simp only[h,oB]
theorem M0o(l:N1)(b:r8 l)(r:Int):∀(d k fuel:Nat),k+d=l.length->d<fuel ->
  K8 l fuel (k:Int) r (l.take k)=some (r,l)
 |d,k,0,c,hf=>by omega
 |0,k,fuel+1,c,hf=>by
  rw[K8.eq_2,if_neg (by simp;omega),List.take_of_length_le (by omega)]
 |d+1,k,fuel+1,c,hf=>by
  have g:k<l.length:=by omega
  have a:=P4 g
  have f:=b.2 _ (List.mem_of_getElem? a)
  have h:=k0l a
  generalize l[k]=e at a f h
  obtain⟨o,j,n,es⟩:=e
  simp only at f
  have m:=b.1
  have i:=M0o l b r d (k+1) fuel (by omega) (by omega)
  rw[K8.eq_2,if_pos (by simp;omega)]
  simp only[B3 a,oB,v00 (j,n,es) (by simp only;omega)]
  rw[H0 (by simp only[List.length_take,List.length_singleton];omega),oB,A3 g (by omega),←h,i]
theorem I0e(x:N0)(a:r8 x.2):U5 x=some x:=by
 obtain⟨r,l⟩:=x
 have h:=M0o l a r l.length 0 Y0 (by omega) (M1 (by have:=a.1;simp only at this;omega))
 rw[show((0:Nat):Int)=0 from rfl,List.take_zero]at h
 unfold U5
 simp only[h,oB]
def fnd(s:ByteArray)(l:N1):Nat->Nat->Option Nat
 |0,k=>none
 |d+1,k=>match l[k]? with
  |some e=>bif b9 e.1 s then some k else fnd s l d (k+1)
  |none=>none
def a02(x:N0)(s:ByteArray):Option Nat:=fnd s x.2 x.2.length 0
theorem A07{s:ByteArray}{l:N1}:∀(d k i:Nat),fnd s l d k=some i->k<=i/\(∃ e,l[i]?=some e/\e.1=s)/\∀ j,k<=j->j<i->∀ e,l[j]?=some e->e.1≠s
 |0,k,i,h=>by cases h
 |d+1,k,i,h=>by
  unfold fnd at h
  cases he:l[k]? with
  |none=>rw[he]at h;cases h
  |some e =>
   rw[he]at h
   simp only at h
   cases hb:b9 e.1 s
   ·rw[hb]at h
    obtain⟨g,b,m⟩:=A07 d (k+1) i h
    refine⟨by omega,b,λj o n f a=>?_⟩
    by_cases c:j=k
    ·subst c;rw[he]at a;cases a
     intro h;rw[N6.2 h]at hb;cases hb
    ·exact m j (by omega) n f a
   ·rw[hb]at h;cases h
    exact⟨Nat.le_refl _,⟨e,he,N6.1 hb⟩,λj g b=>by omega⟩
theorem b0c{s:ByteArray}{l:N1}:∀(d k:Nat),k+d=l.length->fnd s l d k=none->∀ j,k<=j->∀ e,l[j]?=some e->e.1≠s
 |0,k,f,h,j,g,e,a=>by have:=(List.getElem?_eq_some_iff.1 a).1;omega
 |d+1,k,f,h,j,g,e,a=>by
  unfold fnd at h
  have b:=P4 (show k<l.length by omega)
  generalize l[k]=x at b
  rw[b]at h
  simp only at h
  cases hb:b9 x.1 s
  ·rw[hb]at h
   by_cases c:j=k
   ·subst c;rw[b]at a;cases a
    intro h;rw[N6.2 h]at hb;cases hb
   ·exact b0c d (k+1) (by omega) h j (by omega) e a
  ·rw[hb]at h;cases h
theorem I0r(l:N1)(s:ByteArray)(f:l.length<=9223372036854775807):∀(d k fuel:Nat),k+d=l.length->d<fuel ->
  J5 l s fuel (k:Int)=some (match fnd s l d k with|some i => .inl (i:Int)|none => .inr ())
 |d,k,0,b,hf=>by omega
 |0,k,fuel+1,b,hf=>by
  rw[J5.eq_2,if_neg (by simp;omega)];rfl
 |d+1,k,fuel+1,b,hf=>by
  have c:k<l.length:=by omega
  have a:=P4 c
  generalize l[k]=e at a
  obtain⟨h,j,n,es⟩:=e
  have g:=I0r l s f d (k+1) fuel (by omega) (by omega)
  rw[J5.eq_2,if_pos (by simp;omega)]
  simp only[B3 a,oB,A3 c f,g,fnd,a]
  cases b9 h s<;>rfl
theorem f0n(x:N0)(s:ByteArray)(a:x.2.length<=9223372036854775807):I7 x s=some (match a02 x s with|some i=>(i:Int)|none => -1):=by
 obtain⟨r,l⟩:=x
 have h:=I0r l s a l.length 0 Y0 (by omega) (by unfold Y0;simp only at a;omega)
 rw[show((0:Nat):Int)=0 from rfl]at h
 unfold I7 a02
 simp only[h,oB]
 cases fnd s l l.length 0<;>rfl
def r01(x:N0)(s:ByteArray):N0×Bool:=bif G2 x then(match a02 x s with
 |some i=>((x.1,x.2.take i++x.2.drop (i+1)),true)
 |none=>(x,false))else(x,false)
theorem L09{x:N0}{s:ByteArray}{i:Nat}(h:a02 x s=some i):i<x.2.length:=by
 obtain⟨_,⟨e,a,_⟩,_⟩:=A07 _ _ _ h
 exact(List.getElem?_eq_some_iff.1 a).1
theorem i0g(x:N0)(s:ByteArray)(a:r8 x.2):J00 x s=some (r01 x s):=by
 have e:=C0j x a
 have d:=a.1
 have hf:=f0n x s (by omega)
 have f:=w00 x a.ok
 have b:=λi => @L09 x s i
 obtain⟨r,l⟩:=x
 unfold J00 r01
 simp only at d b
 simp only[e,hf,f,oB]
 cases hq:a02 (r,l) s with
 |none =>
  simp only[H0 (show J0 (-1) by decide),oB]
  cases G2 (r,l)<;>rfl
 |some i =>
  have g:=b i hq
  have c:decide ((i:Int)<0)=false:=decide_eq_false (by omega)
  have h:IntKind.i64.wrap ((i:Int)+1)=((i+1:Nat):Int):=A3 g (by omega)
  simp only[H0 (show J0 (i:Int) from c64 (by omega) (by omega)),oB,c,h]
  cases G2 (r,l)
  ·rfl
  ·simp only[Bool.not_true,cond_false,Bool.false_eq_true,if_false,cond_true]
   rw[f0g (by omega),oB,O04 (by omega),oB,H0 (by simp only[List.length_take,List.length_drop];omega),oB]
def flt(s:ByteArray):N1->N1
 | []=>[]
 |e::r=>bif b9 e.1 s then flt s r else e::flt s r
theorem c0c{s:ByteArray}:∀ {l:N1},(∀ e∈l,e.1≠s)->flt s l=l
 | [],h=>rfl
 |e::r,h=>by
  have:b9 e.1 s=false:=Bool.eq_false_iff.2 λa=>h e mS (N6.1 a)
  unfold flt
  rw[this,cond_false,c0c λe b=>h e (mC _ b)]
theorem N0o(s:ByteArray):∀(a b:N1),flt s (a++b)=flt s a++flt s b
 | [],b=>rfl
 |e::r,b=>by
  have:=N0o s r b
  simp only[List.cons_append,flt,this]
  cases b9 e.1 s<;>rfl
theorem O0o(s:ByteArray):∀ l:N1,(flt s l).length<=l.length
 | []=>Nat.le_refl _
 |e::r=>by have:=O0o s r;unfold flt;cases b9 e.1 s<;>simp only[cond_true,cond_false,List.length_cons]<;>omega
theorem P0o(l:N1)(b:r8 l)(s:ByteArray)(r:Int):∀(d k fuel:Nat) (acc:N1),k+d=l.length->d<fuel->acc.length<=k ->
  w6 l s fuel (k:Int) r acc=some (r,acc++flt s (l.drop k))
 |d,k,0,acc,f,hf,c=>by omega
 |0,k,fuel+1,acc,f,hf,c=>by
  rw[w6.eq_2,if_neg (by simp;omega),V1 (by omega)];simp[flt]
 |d+1,k,fuel+1,acc,f,hf,c=>by
  have i:k<l.length:=by omega
  have a:=P4 i
  have g:=b.2 _ (List.mem_of_getElem? a)
  generalize l[k]=e at a g
  obtain⟨o,p,n,es⟩:=e
  simp only at g
  have q:=b.1
  have j:=λm h=>P0o l b s r d (k+1) fuel m (by omega) (by omega) h
  rw[w6.eq_2,if_pos (by simp;omega),C2 a]
  simp only[B3 a,oB,v00 (p,n,es) (by simp only;omega),A3 i (show l.length<=9223372036854775807 by omega),flt]
  cases b9 o s
  ·rw[if_pos (by rfl),H0 (by simp only[List.length_singleton];omega),oB,j _ (by simp;omega)];simp
  ·rw[if_neg (by simp),j _ (by omega)];rfl
theorem Q0o{x:N0}{s:ByteArray}(l:G2 x=true){i:Nat}(g:a02 x s=some i):flt s x.2=x.2.take i++x.2.drop (i+1):=by
 obtain⟨_,⟨e,d,f⟩,m⟩:=A07 _ _ _ g
 have o:=L09 g
 have k:x.2=x.2.take i++(e::x.2.drop (i+1)):=by
  rw[←C2 d,List.take_append_drop]
 conv=>lhs;rw[k]
 rw[N0o,c0c (λb c=>?_)]
 ·congr 1
  unfold flt
  rw[N6.2 f,cond_true]
  refine c0c λb c=>?_
  obtain⟨j,a⟩:=List.getElem?_of_mem c
  rw[List.getElem?_drop]at a
  have:=a0c l (i+1+j) i e b (by omega) d a
  intro h;rw[f,h,Z0b]at this;cases this
 ·obtain⟨j,a⟩:=List.getElem?_of_mem c
  have n:=(List.getElem?_eq_some_iff.1 a).1
  rw[List.length_take]at n
  rw[List.getElem?_take_of_lt (by omega)]at a
  exact m j (Nat.zero_le _) (by omega) b a
theorem g0n(x:N0)(s:ByteArray)(a:r8 x.2):Y01 x s=some (r01 x s):=by
 have m:=I0e x a
 have k:=a.1
 have o:=h01 x a.ok
 have c:=λh i => @Q0o x s h i
 have f:=λi => @L09 x s i
 have d:a02 x s=none->flt s x.2=x.2:=λh=>c0c λe n=>by
  obtain⟨j,p⟩:=List.getElem?_of_mem n
  exact b0c _ _ (by omega) h j (Nat.zero_le _) e p
 have b:=P0o x.2 a s x.1 x.2.length 0 Y0 [] (by omega) (M1 (by omega)) (Nat.le_refl _)
 rw[show((0:Nat):Int)=0 from rfl,List.drop_zero,List.nil_append]at b
 have q:=O0o s x.2
 obtain⟨r,l⟩:=x
 unfold Y01 r01
 simp only at k f c d b q
 simp only[m,o,b,oB,H0 (show(flt s l).length<=9223372036854775807 by omega)]
 cases hL:G2 (r,l)
 ·rfl
 ·cases hq:a02 (r,l) s with
  |none =>
   rw[d hq]
   simp only[Bool.not_true,cond_false,decide_true,if_true,cond_true]
  |some i =>
   rw[c hL i hq]
   have:=f i hq
   have g:decide ((((l.take i++l.drop (i+1)).length:Nat):Int)=((l.length:Nat):Int))=false:=decide_eq_false (by simp only[List.length_append,List.length_take,List.length_drop];omega)
   simp only[Bool.not_true,cond_false,g,Bool.false_eq_true,if_false,cond_true]
theorem v0l{e:Type}{c:e->e->Int}(h:d01 c):∀ {l:List e},(∀ i x y,l[i]?=some x->l[i+1]?=some y->c x y<0)->Asc c l
 | [],_=>List.Pairwise.nil
 | [x],_=>List.pairwise_singleton _ _
 |x::y::l,f=>by
  have j:Asc c (y::l):=v0l h λi a b k m=>f (i+1) a b (by simpa using k) (by simpa using m)
  have g:=f 0 x y rfl rfl
  refine List.pairwise_cons.2 ⟨λz d=>?_,j⟩
  rcases List.mem_cons.1 d with rfl|d
  ·exact g
  ·exact h.trans _ _ _ g ((List.pairwise_cons.1 j).1 z d)
theorem Q0r{d:Type}{e:d->d->Int}:∀ {l:List d},Asc e l->∀ {i:Nat} {x y:d},l[i]?=some x->l[i+1]?=some y->e x y<0
 | [],_,i,x,y,b,_=>by simp at b
 |a::l,h,0,x,y,b,c=>by
  simp at b c;subst b
  exact(List.pairwise_cons.1 h).1 y (List.mem_of_getElem? c)
 |a::l,h,i+1,x,y,b,c=>Q0r (List.pairwise_cons.1 h).2 (i:=i) (by simpa using b) (by simpa using c)
theorem R0r{r a:Int}{es:List Q0}:∀ {d k:Nat},(∀ i,k<=i->i<k+d->s0r r a es i=false)->okE r a es d k=true
 |0,k,h=>rfl
 |d+1,k,h=>by
  simp only[okE,Bool.and_eq_true,Bool.not_eq_true']
  exact⟨h k (Nat.le_refl _) (by omega),R0r λi b c=>h i (by omega) (by omega)⟩
theorem r00(g:j0):T0 g=true↔inG g/\(1<=g.1/\g.1<=3)/\(1<=g.2.1/\g.2.1<=40)/\g.2.2.length<=120/\Asc S0 g.2.2:=by
 constructor
 ·intro h
  obtain⟨m,c,d,k⟩:=Q1 h
  refine⟨m,c,d,k,v0l P6 λi x y a b=>?_⟩
  simp only[T0,Bool.and_eq_true]at h
  have l:=V0m h.1.1.1 (i+1) (Nat.zero_le _) (by have:=(List.getElem?_eq_some_iff.1 b).1;omega)
  rw[L0b b]at l
  simp only[Nat.add_sub_cancel,a,Bool.or_eq_false_iff]at l
  have:=l.2
  simp only[show decide (0<i+1)=true by simp,Bool.true_and,decide_eq_false_iff_not]at this
  have e:K0f x y=S0 x y:=rfl
  omega
 ·rintro⟨m,c,d,k,o⟩
  obtain⟨r,n,es⟩:=g
  simp only at c d k o
  simp only[T0,inR,Bool.and_eq_true,decide_eq_true_eq]
  refine⟨⟨⟨R0r λi _ s=>?_,c⟩,d⟩,k⟩
  have a:=P4 (show i<es.length by omega)
  generalize es[i]=e at a
  rw[L0b a]
  have q:=m e (List.mem_of_getElem? a)
  simp only at q
  simp only[Bool.or_eq_false_iff,Bool.not_eq_false',r05,inR,Bool.and_eq_true,decide_eq_true_eq]
  rw[w64 (by omega) (by omega)]
  refine⟨⟨⟨⟨by omega,by omega⟩,by omega,by omega⟩,by omega,by omega⟩,?_⟩
  cases i with
  |zero=>rfl
  |succ j =>
   have b:=P4 (show j<es.length by omega)
   generalize es[j]=f at b
   have:=Q0r o b a
   simp only[Nat.add_sub_cancel,b]
   have p:K0f f e=S0 f e:=rfl
   simp[p];omega
theorem H05{r:Int}{n:Int}{es:List Q0}(d:1<=r/\r<=3)(c:1<=n/\n<=40)(f:es.length<=120)(b:inG (r,n,es)):T0 (r,n,B5 S0 [] es)=true:=by
 refine(r00 _).2 ⟨λe a=>b e ?_,d,c,?_,M04 P6 _ _ List.Pairwise.nil⟩
 ·rcases(R00 P6 e es []).1 a with h|h
  ·simp at h
  ·exact h
 ·have:=d04 es []
  simp only[List.length_nil]at this
  simp only;omega
def d0c(a b:Q0):List (Int×Int) :=
 bif decide (a.2.1=b.2.1)then(bif decide (a.1=b.1)then [(if b.2.2<a.2.2 then b.2.2 else a.2.2,if b.2.2>a.2.2 then b.2.2 else a.2.2)]else [])++(bif decide (a.2.2=b.2.2)then [(if b.1<a.1 then b.1 else a.1,if b.1>a.1 then b.1 else a.1)]else [])else []
def f04(a:Q0):List Q0->List (Int×Int)
 | []=>[]
 |b::r=>d0c a b++f04 a r
def Y9:List Q0->List (Int×Int)
 | []=>[]
 |a::r=>f04 a r++Y9 r
theorem k0q(a b:Q0):(d0c a b).length<=2:=by
 unfold d0c
 cases decide (a.2.1=b.2.1)<;>cases decide (a.1=b.1)<;>cases decide (a.2.2=b.2.2)<;>simp
theorem q0d(a:Q0):∀ l,(f04 a l).length<=2*l.length
 | []=>by simp[f04]
 |b::r=>by have:=k0q a b;have:=q0d a r;simp only[f04,List.length_append,List.length_cons];omega
def mvV(f:Int×Int)(v:Int):Int:=if v=f.2 then f.1 else if v>f.2 then v-1 else v
def mvE(f:Int×Int)(e:Q0):Q0:=(mvV f e.1,e.2.1,mvV f e.2.2)
def S02(g:j0)(f:Int×Int):j0:=(g.1,g.2.1-1,B5 S0 [] (g.2.2.map (mvE f)))
def okF(g:j0)(f:Int×Int):Prop:=0<=f.1/\f.1<f.2/\f.2<g.2.1
theorem N06{g:j0}{f:Int×Int}(k:T0 g=true)(hf:okF g f):T0 (S02 g f)=true:=by
 obtain⟨l,m,q,n,_⟩:=(r00 g).1 k
 obtain⟨o,f2,f3⟩:=hf
 refine H05 m ⟨by omega,by omega⟩ (by simpa using n) λe i=>?_
 obtain⟨h,j,rfl⟩:=List.mem_map.1 i
 obtain⟨b,c,d⟩:=l h j
 have a:∀ v:Int,0<=v/\v<g.2.1->0<=mvV f v/\mvV f v<g.2.1-1:=λv p=>by
  unfold mvV;split
  ·omega
  ·split<;>omega
 exact⟨a _ b,a _ c,d⟩
theorem w0l{g:j0}(j:inG g){a:Q0}(m:a∈g.2.2):∀ {l:List Q0},(∀ b∈l,b∈g.2.2/\a≠b)->∀ f∈f04 a l,okF g f
 | [],_,f,hf=>by simp[f04]at hf
 |b::r,h,f,hf=>by
  rcases List.mem_append.1 (show f∈d0c a b++f04 a r from hf)with hf|hf
  ·have s:=j b (h b mS).1
   have q:=j a m
   have u:=(h b mS).2
   obtain⟨c,n,d⟩:=a
   obtain⟨e,p,i⟩:=b
   simp only at q s
   unfold d0c at hf
   simp only at hf
   by_cases c1:n=p
   ·have k : ¬ (c=e/\d=i):=λ⟨x,y⟩=>u (by rw[x,c1,y])
    simp only[c1,decide_true,cond_true,List.mem_append]at hf
    rcases hf with hf|hf
    ·by_cases c2:c=e
     ·simp only[c2,decide_true,cond_true,List.mem_singleton]at hf
      subst hf
      have:d≠i:=λy=>k ⟨c2,y⟩
      unfold okF
      simp only
      split<;>split<;>omega
     ·simp[c2]at hf
    ·by_cases c2:d=i
     ·simp only[c2,decide_true,cond_true,List.mem_singleton]at hf
      subst hf
      have:c≠e:=λy=>k ⟨y,c2⟩
      unfold okF
      simp only
      split<;>split<;>omega
     ·simp[c2]at hf
   ·simp[c1]at hf
  ·exact w0l j m (λo t=>h o (mC _ t)) f hf
theorem x0l{g:j0}(i:inG g):∀ {l:List Q0},(∀ b∈l,b∈g.2.2)->Asc S0 l->∀ f∈Y9 l,okF g f
 | [],_,_,f,hf=>by simp[Y9]at hf
 |a::r,h,d,f,hf=>by
  rcases List.mem_append.1 (show f∈f04 a r++Y9 r from hf)with hf|hf
  ·refine w0l i (h a mS) (λb c=>⟨h b (mC _ c),λe=>?_⟩) f hf
   have:=(List.pairwise_cons.1 d).1 b c
   rw[e,P6.refl]at this;omega
  ·exact x0l i (λb c=>h b (mC _ c)) (List.pairwise_cons.1 d).2 f hf
theorem o06{g:j0}(a:T0 g=true):∀ f∈Y9 g.2.2,okF g f:=by
 obtain⟨b,_,_,_,c⟩:=(r00 g).1 a
 exact x0l b (λ_ h=>h) c
def z03:Nat->j0->j0×List (Int×Int)
 |0,g=>(g,[])
 |n+1,g=>match Y9 g.2.2 with
  | []=>(g,[])
  |f::_=>((z03 n (S02 g f)).1,f::(z03 n (S02 g f)).2)
def b02(g:j0):j0×List (Int×Int):=bif T0 g then z03 40 g else(g,[])
theorem a0e:∀(n:Nat) {g:j0},T0 g=true->T0 (z03 n g).1=true
 |0,g,h=>h
 |n+1,g,h=>by
  unfold z03
  cases e:Y9 g.2.2 with
  |nil=>exact h
  |cons f l=>exact a0e n (N06 h (o06 h f (by rw[e];exact mS)))
theorem Q0a:∀(n:Nat) {g:j0},T0 g=true->g.2.1<=(n:Int)+1->Y9 (z03 n g).1.2.2 = []
 |0,g,h,a=>by
  cases e:Y9 g.2.2 with
  |nil=>exact e
  |cons f l =>
   have:=o06 h f (by rw[e];exact mS)
   unfold okF at this
   omega
 |n+1,g,h,a=>by
  unfold z03
  cases e:Y9 g.2.2 with
  |nil=>exact e
  |cons f l=>exact Q0a n (N06 h (o06 h f (by rw[e];exact mS))) (by show g.2.1-1<=_;omega)
theorem l0q(a b:Q0):d0c a b = []↔s05 a b=false:=by
 unfold d0c s05
 cases decide (a.2.1=b.2.1)<;>cases decide (a.1=b.1)<;>cases decide (a.2.2=b.2.2)<;>simp
theorem i0i(a:Q0):∀ l,f04 a l = []↔∀ b∈l,s05 a b=false
 | []=>by simp[f04]
 |b::r=>by
  rw[f04,List.append_eq_nil_iff,l0q,i0i a r]
  simp
theorem r0d:∀ l,Y9 l = []↔l.Pairwise λa b=>s05 a b=false
 | []=>by simp[Y9]
 |a::r=>by rw[Y9,List.append_eq_nil_iff,i0i,r0d r,List.pairwise_cons]
theorem j0g(g:j0):M0 g=true↔T0 g=true/\Y9 g.2.2 = []:=by
 unfold M0
 rw[Bool.and_eq_true,J09,r0d]
theorem p06{g:j0}(h:T0 g=true):M0 (b02 g).1=true:=by
 have a:=(Q1 h).2.2.1
 unfold b02
 rw[h]
 exact(j0g _).2 ⟨a0e 40 h,Q0a 40 h (by omega)⟩
end Go.Proofs.YtmgikbbmpnbbjaaGreat
