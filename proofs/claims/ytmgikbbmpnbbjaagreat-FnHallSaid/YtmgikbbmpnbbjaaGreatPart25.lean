/- Texts of the claim, joined: Plain laws: words and presentations, as the spec and the cod and others. -/
import Derived.Test.YtmgikbbmpnbbjaaGreatPart20
import Derived.Test.YtmgikbbmpnbbjaaGreatH33
import Derived.Test.YtmgikbbmpnbbjaaGreatH36
import Derived.Test.YtmgikbbmpnbbjaaGreatPart19
namespace Go.Proofs.YtmgikbbmpnbbjaaGreat
open Go.H
set_option linter.unusedVariables false
set_option linter.unusedSimpArgs false
theorem F1{n:Nat}(h:n<=140737488355328):n<P0:=by unfold P0;omega
theorem J0{p:Prop}[Decidable p](h:p):grd p=some ():=by unfold grd;rw[if_pos h]
theorem K1{a:Type}(o:Option a)(d:a):chk true o d=o:=rfl
theorem C3{a:Type}(o:Option a)(d:a):chk false o d=some d:=rfl
theorem B3{a:Type}{xs:List a}{k:Nat}{x:a}(h:xs[k]?=some x):gi xs (k:Int)=some x:=by rw[H0c];exact h
theorem J0c{a:Type}{xs:List a}{x:a}(h:xs[0]?=some x):gi xs 0=some x:=B3 (k:=0) h
theorem v0k{x:Int}(h:I0 x)(a:x ≠ -9223372036854775808):IntKind.i64.wrap (0-x) = -x:=by rw[w64 (by have:=h.1;have:=h.2;omega) (by have:=h.1;have:=h.2;omega)];omega
theorem w0k{n:Nat}(h:0<n)(a:n<=9223372036854775807):IntKind.i64.wrap ((n:Int)-1)=((n-1:Nat):Int):=by rw[w64 (by omega) (by omega)];omega
theorem a7{a:Type}{xs:List a}{k:Nat}(h:k<xs.length):xs[k]?=some xs[k]:=List.getElem?_eq_getElem h
def inR(b a x:Int):Bool:=decide (b<=x)&&decide (x<=a)
def r0f(b a:Int)(w:List Int)(i:Nat):Bool :=
 match w[i]? with
 |none=>true
 |some x=>x == 0 || !inR b a x || (decide (0<i)&&match w[i-1]? with
  |none=>true
  |some y=>x == IntKind.i64.wrap (0-y))
def X05(b a:Int)(w:List Int):Nat->Nat->Bool
 |0,_=>true
 |d+1,k => !r0f b a w k&&X05 b a w d (k+1)
def c7(r:Int)(w:List Int):Bool:=inR 1 3 r&&decide (w.length<=24)&&X05 (-r) r w w.length 0
theorem D01(a b c:Int):E2 a b c=some (inR b c a):=by
 unfold E2 inR
 by_cases h:b<=a<;>simp[h]
theorem Y05(a b c:Int):B5 a b c=some (inR b c a):=D01 a b c
theorem i07(r:Int)(w:List Int)(n:w.length<=140737488355328):∀(d k fuel:Nat),k+d=w.length->d<fuel ->
  Y8 w r fuel (k:Int)=some (bif X05 (IntKind.i64.wrap (0-r)) r w d k then .inr ()else .inl false)
 |d,k,0,j,hf=>by omega
 |0,k,fuel+1,j,hf=>by
  rw[Y8.eq_2,if_neg (by simp;omega)]
  simp[X05]
 |d+1,k,fuel+1,j,hf=>by
  have l:k<w.length:=by omega
  have a:=a7 l
  generalize w[k]=x at a
  have next:=i07 r w n d (k+1) fuel (by omega) (by omega)
  rw[Y8.eq_2,if_pos (by simp;omega)]
  generalize IntKind.i64.wrap (0-r)=lo at next ⊢
  simp only[B3 a,oB,D01,A2 l (by omega:w.length<=9223372036854775807),next]
  have m:r0f lo r w k=(x == 0 || !inR lo r x || (decide (0<k)&&match w[k-1]? with
   |none=>true
   |some y=>x == IntKind.i64.wrap (0-y))):=by unfold r0f;rw[a]
  simp only[X05,m]
  by_cases h0:x=0
  ·simp[h0,chk]
  have f:decide (x=0)=false:=by simpa using h0
  have b:(x == 0)=false:=by simpa using h0
  cases hin:inR lo r x with
  |false=>simp[f,b,hin,chk]
  |true =>
   by_cases hk0:k=0
   ·have h:decide ((k:Int)>0)=false:=by simp;omega
    have e:decide (0<k)=false:=by simp;omega
    simp only[f,b,hin,h,e,K1,C3,Bool.not_true,Bool.not_false,Bool.and_true,Bool.false_and,Bool.or_self,Bool.true_and,cond_true,cond_false,oB,Bool.or_false,Bool.and_false,Bool.false_eq_true,if_false,cond_true,cond_false]
   ·have i:=a7 (show k-1<w.length by omega)
    generalize w[k-1]=y at i
    have o:IntKind.i64.wrap ((k:Int)-1)=((k-1:Nat):Int):=w0k (by omega) (by omega)
    have h:decide ((k:Int)>0)=true:=by simp;omega
    have e:decide (0<k)=true:=by simp;omega
    simp only[f,b,hin,h,e,o,i,B3 a,B3 i,K1,C3,Bool.not_true,Bool.not_false,Bool.and_true,Bool.false_and,Bool.or_self,Bool.true_and,cond_true,cond_false,oB,Bool.or_false,Bool.and_false,Bool.false_or]
    by_cases hxy:x=IntKind.i64.wrap (0-y)
    ·have g:decide (x=IntKind.i64.wrap (0-y))=true:=by simpa using hxy
     have c:(x == IntKind.i64.wrap (0-y))=true:=by simpa using hxy
     simp only[g,c,if_true,Bool.not_true,Bool.false_and,Bool.false_eq_true,if_false,cond_true,cond_false]
    ·have g:decide (x=IntKind.i64.wrap (0-y))=false:=by simpa using hxy
     have c:(x == IntKind.i64.wrap (0-y))=false:=by simpa using hxy
     simp only[g,c,Bool.false_eq_true,if_false,Bool.not_false,Bool.true_and]
theorem U07(r:Int)(w:List Int)(a:w.length<=140737488355328):q01 r w=some (c7 r w):=by
 unfold q01
 have h:=i07 r w a w.length 0 P0 (by omega) (F1 a)
 rw[show((0:Nat):Int)=0 from rfl]at h
 rw[h,D01]
 unfold c7
 by_cases hr:inR 1 3 r=true
 ·have:IntKind.i64.wrap (0-r) = -r:=by
   simp only[inR,Bool.and_eq_true,decide_eq_true_eq]at hr
   rw[w64 (by omega) (by omega)];omega
  rw[this,hr]
  cases X05 (-r) r w w.length 0<;>simp[d9]<;>omega
 ·simp only[Bool.not_eq_true]at hr
  rw[hr]
  cases X05 (IntKind.i64.wrap (0-r)) r w w.length 0<;>simp[d9]
theorem O0i(y x:Int):b01 y x=some (!(y == 0) && !(y == -9223372036854775808)&&(x == IntKind.i64.wrap (0-y))):=by
 unfold b01
 by_cases h0:y=0
 ·simp[h0]
 ·by_cases h1:y = -9223372036854775808
  ·simp[h1]
  ·simp only[h0,h1,decide_false,Bool.not_false,cond_true,Option.some.injEq]
   have a:(y == 0)=false:=by simpa using h0
   have b:(y == -9223372036854775808)=false:=by simpa using h1
   rw[a,b]
   rfl
def tot:List (List Int)->Nat
 | []=>0
 |w::r=>w.length+tot r
theorem U1{a:Type}{xs:List a}{k:Nat}{x:a}(h:xs[k]?=some x):xs.drop k=x::xs.drop (k+1):=by
 obtain⟨b,rfl⟩:=List.getElem?_eq_some_iff.1 h
 exact List.drop_eq_getElem_cons b
theorem T1{a:Type}{xs:List a}{k:Nat}(h:k=xs.length):xs.drop k = []:=by rw[h];exact List.drop_length
theorem l04(b:List (List Int))(h:b.length<=140737488355328):∀(d k fuel a:Nat),k+d=b.length->d<fuel->a+tot (b.drop k)<=9223372036854775807 ->
  I5 b fuel (a:Int) (k:Int)=some ((a+tot (b.drop k):Nat):Int)
 |d,k,0,a,f,hf,c=>by omega
 |0,k,fuel+1,a,f,hf,c=>by
  rw[I5.eq_2,if_neg (by simp;omega),T1 (by omega)]
  rfl
 |d+1,k,fuel+1,a,f,hf,c=>by
  have g:k<b.length:=by omega
  have e:=a7 g
  generalize b[k]=x at e
  rw[U1 e]at c ⊢
  simp only[tot]at c ⊢
  rw[I5.eq_2,if_pos (by simp;omega),B3 e,oB,A2 g (by omega:b.length<=9223372036854775807),
   show IntKind.i64.wrap ((a:Int)+((x.length:Nat):Int))=((a+x.length:Nat):Int) by rw[w64 (by omega) (by omega)];omega,
   l04 b h d (k+1) fuel (a+x.length) (by omega) (by omega) (by omega)]
  rw[Nat.add_assoc]
theorem D0b(a:List (List Int))(b:a.length<=140737488355328)(c:tot a<=9223372036854775807):F00 a=some ((tot a:Nat):Int):=by
 unfold F00
 have h:=l04 a b a.length 0 P0 0 (by omega) (F1 b) (by simpa using c)
 rw[show((0:Nat):Int)=0 from rfl]at h
 rw[h]
 simp
def P0i(r:Int):List (List Int)->Bool
 | []=>true
 |w::l=>c7 r w&&P0i r l
def G00(r:Int)(a:List (List Int)):Bool:=inR 1 3 r&&decide (a.length<=6)&&P0i r a&&decide (tot a<40)
theorem x0k{r:Int}:∀ {a:List (List Int)},P0i r a=true->tot a<=24*a.length
 | [],_=>by simp[tot]
 |w::l,h=>by
  simp only[P0i,Bool.and_eq_true]at h
  have b:=h.1
  simp only[c7,Bool.and_eq_true,decide_eq_true_eq]at b
  have:=x0k h.2
  simp only[tot,List.length_cons]
  omega
def Z05(a:List (List Int)):Prop:=∀ w∈a,w.length<=140737488355328
theorem a06(r:Int)(a:List (List Int))(h:a.length<=140737488355328)(f:Z05 a):∀(d k fuel:Nat),k+d=a.length->d<fuel ->
  r7 a r fuel (k:Int)=some (bif P0i r (a.drop k)then .inr ()else .inl false)
 |d,k,0,c,hf=>by omega
 |0,k,fuel+1,c,hf=>by
  rw[r7.eq_2,if_neg (by simp;omega),T1 (by omega)]
  rfl
 |d+1,k,fuel+1,c,hf=>by
  have e:k<a.length:=by omega
  have b:=a7 e
  have g:=f _ (List.mem_of_getElem? b)
  generalize a[k]=x at b g
  rw[U1 b,r7.eq_2,if_pos (by simp;omega),B3 b,oB,U07 r x g,oB,A2 e (by omega:a.length<=9223372036854775807),
   a06 r a h f d (k+1) fuel (by omega) (by omega)]
  simp only[P0i]
  cases c7 r x<;>simp
theorem s0f(r:Int)(a:List (List Int))(d:a.length<=140737488355328)(e:Z05 a):i02 r a=some (G00 r a):=by
 unfold i02
 have h:=a06 r a d e a.length 0 P0 (by omega) (F1 d)
 rw[show((0:Nat):Int)=0 from rfl,List.drop_zero]at h
 rw[h,oB]
 unfold G00
 cases ha:P0i r a with
 |false=>simp[d9]
 |true =>
  rw[cond_true,M0,D01,oB]
  have:=x0k ha
  cases hr:inR 1 3 r with
  |false=>simp[chk,grd,I0]
  |true =>
   by_cases h6:a.length<=6
   ·rw[D0b a d (by omega)]
    have b:decide (((a.length:Nat):Int)<=6)=true:=by simp;omega
    have c:decide (a.length<=6)=true:=by simpa using h6
    rw[b,c,cond_true,K1,oB,J0 (by constructor<;>omega)]
    simp
    omega
   ·have b:decide (((a.length:Nat):Int)<=6)=false:=by simp;omega
    have c:decide (a.length<=6)=false:=by simpa using h6
    rw[b,c]
    simp[chk,grd,I0]
theorem K0c{b a:Int}{w:List Int}:∀ {d k:Nat},X05 b a w d k=true->∀ i,k<=i->i<k+d->r0f b a w i=false
 |0,k,h,i,c,f=>by omega
 |d+1,k,h,i,c,f=>by
  simp only[X05,Bool.and_eq_true,Bool.not_eq_true']at h
  by_cases e:i=k
  ·subst e;exact h.1
  ·exact K0c h.2 i (by omega) (by omega)
theorem y0k{r:Int}{w:List Int}(h:c7 r w=true){i:Nat}{x:Int}(d:w[i]?=some x):(1<=r/\r<=3)/\w.length<=24/\x≠0 /\ -r<=x/\x<=r:=by
 simp only[c7,Bool.and_eq_true,decide_eq_true_eq]at h
 have c:=h.1.1
 simp only[inR,Bool.and_eq_true,decide_eq_true_eq]at c
 have a:=K0c h.2 i (Nat.zero_le _) (by have:=(List.getElem?_eq_some_iff.1 d).1;omega)
 unfold r0f at a
 rw[d]at a
 simp only[Bool.or_eq_false_iff,Bool.not_eq_false']at a
 have b:=a.1.2
 simp only[inR,Bool.and_eq_true,decide_eq_true_eq]at b
 exact⟨c,h.1.2,by simpa using a.1.1,b⟩
def ng(x:Int):Int:=IntKind.i64.wrap (0-x)
def inv(w:List Int):List Int:=(w.map ng).reverse
theorem o0r(w:List Int):(inv w).length=w.length:=by simp[inv]
def E9(w:List Int):Prop:=∀ x∈w,I0 x
theorem E0s(w:List Int):E9 (inv w):=λx a=>by
 simp only[inv,List.mem_reverse,List.mem_map]at a
 obtain⟨y,_,rfl⟩:=a
 exact F0 _
theorem R0p{w:List Int}{k:Nat}{x:Int}(a:w[k]?=some x):inv (w.drop k)=inv (w.drop (k+1)) ++ [ng x]:=by
 rw[U1 a]
 simp[inv]
theorem O04(w:List Int)(c:w.length<=1099511627776):∀(k fuel:Nat),k<=w.length->k<fuel ->
  H4 w fuel ((k:Int)-1) (inv (w.drop k))=some (inv w)
 |k,0,b,hf=>by omega
 |0,fuel+1,b,hf=>by
  rw[H4.eq_2,if_neg (by simp)]
  rfl
 |k+1,fuel+1,b,hf=>by
  have a:=a7 (show k<w.length by omega)
  have next:=O04 w c k fuel (by omega) (by omega)
  generalize w[k]=x at a
  rw[R0p a]at next
  have d:=o0r (w.drop (k+1))
  rw[List.length_drop]at d
  rw[show(((k+1:Nat):Int)-1)=(k:Int) by omega,H4.eq_2,if_pos (by simp),B3 a,oB,J0 (by simp only[List.length_singleton];omega),oB,
   w64 (by omega) (by omega)]
  exact next
theorem j07(w:List Int)(a:w.length<=1099511627776):a00 w=some (inv w):=by
 unfold a00
 have h:=O04 w a w.length P0 (Nat.le_refl _) (F1 (by omega))
 rw[List.drop_length]at h
 rw[w64 (by omega) (by omega),show([]:D0)=inv [] from rfl,h]
 rfl
theorem X03(w:List Int):∀(fuel:Nat) (k:Int) (u:List Int),n7 w fuel k u=H4 w fuel k u
 |0,k,u=>rfl
 |fuel+1,k,u=>by
  rw[n7.eq_2,H4.eq_2]
  simp only[X03 w fuel]
theorem L0c(w:List Int)(a:w.length<=1099511627776):c01 w=some (inv w):=by
 rw[←j07 w a]
 unfold c01 a00
 rw[J0 (by omega),oB,X03]
 rfl
def t0f(l x:Int):Bool := !(l == 0) && !(l == -9223372036854775808)&&(x == ng l)
def e05(s:List Int)(x:Int):List Int:=match s with
 | []=>[x]
 |l::t=>bif t0f l x then t else x::l::t
def L0a(s w:List Int):List Int:=w.foldl e05 s
def Red:List Int->Bool
 | []=>true
 | [_]=>true
 |x::l::t => !t0f l x&&Red (l::t)
theorem M0c(s:List Int)(x:Int):(e05 s x).length<=s.length+1:=by
 cases s with
 |nil=>simp[e05]
 |cons l t =>
  simp only[e05]
  cases t0f l x<;>simp<;>omega
theorem U08:∀(w s:List Int),(L0a s w).length<=s.length+w.length
 | [],s=>by simp[L0a]
 |x::w,s=>by
  have:=U08 w (e05 s x)
  have:=M0c s x
  simp only[L0a,List.foldl_cons,List.length_cons]at *
  omega
theorem z0k{b:List Int}{x:Int}(h:E9 b)(c:I0 x):E9 (e05 b x):=by
 cases b with
 |nil=>intro y a;simp[e05]at a;subst a;exact c
 |cons l t =>
  simp only[e05]
  cases t0f l x with
  |true=>exact λy a=>h y (mC _ a)
  |false =>
   intro y a
   rcases List.mem_cons.1 a with rfl|a
   ·exact c
   ·exact h y a
theorem Q0i:∀(w a:List Int),E9 a->E9 w->E9 (L0a a w)
 | [],a,b,c=>b
 |x::w,a,b,c=>Q0i w (e05 a x) (z0k b (c x mS)) λy d=>c y (mC _ d)
theorem E0o{l x:Int}(b:I0 l)(c:I0 x):(!(x == 0)&&(l == ng x) && !(l == x))=t0f l x:=by
 unfold t0f ng
 have e:∀ {z:Int},I0 z->IntKind.i64.wrap (0-z)=if z = -9223372036854775808 then -9223372036854775808 else -z:=λ{z} a=>by
  split
  ·rename_i h;subst h;decide
  ·rw[w64 (by have:=a.1;have:=a.2;omega) (by have:=a.1;have:=a.2;omega)];omega
 rw[e b,e c]
 have d:=b.1
 have f:=b.2
 have g:=c.1
 have i:=c.2
 rw[Bool.eq_iff_iff]
 simp only[Bool.and_eq_true,Bool.not_eq_true',beq_iff_eq,beq_eq_false_iff_ne,ne_eq]
 split<;>split<;>omega
theorem u0f{l:Int}{t:List Int}:(l::t).reverse[t.length]?=some l:=by
 rw[List.reverse_cons,List.getElem?_append_right (by simp)]
 simp
theorem t0h(l:Int)(t:List Int):(l::t).reverse.take t.length=t.reverse:=by
 rw[List.reverse_cons,List.take_append_of_le_length (by simp),List.take_of_length_le (by simp)]
theorem J03(w:List Int)(hw:E9 w)(hl:w.length<=1099511627776):∀(d k fuel:Nat) (s:List Int),k+d=w.length->d<fuel->E9 s->s.length<=k ->
  M2 w fuel (k:Int) s.reverse=some (L0a s (w.drop k)).reverse
 |d,k,0,s,hk,hf,hs,hsl=>by omega
 |0,k,fuel+1,s,hk,hf,hs,hsl=>by
  rw[M2.eq_2,if_neg (by simp;omega),T1 (by omega)]
  rfl
 |d+1,k,fuel+1,s,hk,hf,hs,hsl=>by
  have hkl:k<w.length:=by omega
  have hx:=a7 hkl
  have hx64:=hw _ (List.mem_of_getElem? hx)
  generalize w[k]=x at hx hx64
  have next:=J03 w hw hl d (k+1) fuel (e05 s x) (by omega) (by omega) (z0k hs hx64) (by have:=M0c s x;omega)
  rw[U1 hx]
  show _=some (L0a (e05 s x) (w.drop (k+1))).reverse
  rw[←next,M2.eq_2,if_pos (by simp;omega),oB,J0 (by rw[List.length_reverse];omega),oB]
  rw[A2 hkl (by omega:w.length<=9223372036854775807)]
  have e0:decide (x=0)=(x == 0):=by rw[Bool.eq_iff_iff];simp
  cases s with
  |nil =>
   have hz:decide ((((([]:List Int).reverse).length:Nat):Int)>0)=false:=rfl
   simp only[hz,C3,oB,cond_false,Bool.false_eq_true,if_false,B3 hx]
   rw[J0 (by simp)]
   rfl
  |cons l t =>
   have hl64:=hs l mS
   have hp:decide ((((l::t).reverse.length:Nat):Int)>0)=true:=by simp
   have hpr:IntKind.i64.wrap ((((l::t).reverse.length:Nat):Int)-1)=((t.length:Nat):Int):=by
    rw[w0k (by simp) (by simp only[List.length_reverse,List.length_cons]at *;omega)];simp
   have hc:=E0o hl64 hx64
   have e1:decide (l=IntKind.i64.wrap (0-x))=(l == ng x):=by rw[Bool.eq_iff_iff];simp[ng]
   have e2:decide (l=x)=(l == x):=by rw[Bool.eq_iff_iff];simp
   have hpush:(grd (((l::t).reverse.length + [x].length)*8<=140737488355328))=some ():=J0 (by simp only[List.length_cons]at hsl;simp only[List.length_reverse,List.length_cons,List.length_nil];omega)
   simp only[hp,hpr,K1,oB,cond_true,B3 hx,B3 u0f,e0,e05]
   cases h0:(x == 0)with
   |true =>
    rw[h0]at hc
    simp only[Bool.not_true,Bool.false_and]at hc
    simp only[←hc,Bool.not_true,C3,cond_false,oB,Bool.false_eq_true,if_false,hpush]
    exact congrArg _ (List.reverse_cons ..).symm
   |false =>
    rw[h0]at hc
    simp only[Bool.not_false,Bool.true_and]at hc
    simp only[Bool.not_false,K1,cond_true,oB,e1]
    cases h1:(l == ng x)with
    |false =>
     rw[h1]at hc
     simp only[Bool.false_and]at hc
     simp only[←hc,C3,cond_false,oB,Bool.false_eq_true,if_false,hpush]
     exact congrArg _ (List.reverse_cons ..).symm
    |true =>
     rw[h1]at hc
     simp only[Bool.true_and]at hc
     simp only[K1,cond_true,oB,e2]
     cases h2:(l == x)with
     |true =>
      rw[h2]at hc
      simp only[Bool.not_true]at hc
      simp only[←hc,Bool.not_true,Bool.false_eq_true,if_false,cond_false,oB,hpush]
      exact congrArg _ (List.reverse_cons ..).symm
     |false =>
      rw[h2]at hc
      simp only[Bool.not_false]at hc
      simp only[←hc,Bool.not_false,if_true,cond_true]
      rw[J0 (by simp only[List.length_reverse,List.length_cons]at *;omega),oB,Int.toNat_natCast,t0h]
theorem g05(w:List Int)(b:E9 w)(a:w.length<=1099511627776):L4 w=some (L0a [] w).reverse:=by
 unfold L4
 have h:=J03 w b a w.length 0 P0 [] (by omega) (F1 (by omega)) (λx c=>by cases c) (by simp)
 rw[show((0:Nat):Int)=0 from rfl,List.drop_zero,List.reverse_nil]at h
 rw[h,oB,J0 (by have:=U08 w [];simp only[List.length_reverse,List.length_nil]at *;omega),oB,List.nil_append]
def okQ(bs:List Int)(q:Int×Int):Prop:=0<=q.1/\q.1<=(bs.length:Int)/\bs.length<=1048576
def Drw{a:Type}(bs:List Int)(o:Option (a×(Int×Int)))(p:a->Prop):Prop:=∃ x q,o=some (x,q)/\p x/\okQ bs q
theorem Drw.bind{a b:Type}{bs:List Int}{m:Option (a×(Int×Int))}{p:a->Prop}{r:b->Prop}{k:a×(Int×Int)->Option (b×(Int×Int))}(h:Drw bs m p)(e:∀ x q,p x->okQ bs q->Drw bs (k (x,q)) r):Drw bs (m.bind k) r:=by
 obtain⟨x,q,rfl,c,d⟩:=h
 exact e x q c d
theorem Drw.grd{a:Type}{bs:List Int}{p:Prop}[Decidable p]{r:a->Prop}{k:Unit->Option (a×(Int×Int))}(h:p)(b:Drw bs (k ()) r):Drw bs ((grd p).bind k) r:=by
 rw[J0 h];exact b
theorem Drw.mono{a:Type}{bs:List Int}{m:Option (a×(Int×Int))}{p r:a->Prop}(h:Drw bs m p)(d:∀ x,p x->r x):Drw bs m r:=by
 obtain⟨x,q,e,b,c⟩:=h
 exact⟨x,q,e,d x b,c⟩
theorem R0r(bs:List Int)(c:bs.length<=1048576):∀(d k fuel:Nat) (y:Int),k+d=bs.length->d<fuel->∃ z,O9 bs fuel y (k:Int)=some z
 |d,k,0,y,a,hf=>by omega
 |0,k,fuel+1,y,a,hf=>by
  rw[O9.eq_2,decide_eq_false (show ¬ (k:Int)<((bs.length:Nat):Int) by omega),cond_false,if_neg (by simp)]
  exact⟨_,rfl⟩
 |d+1,k,fuel+1,y,a,hf=>by
  have b:k<bs.length:=by omega
  rw[O9.eq_2,B3 (a7 b),A2 b (by omega)]
  split
  ·exact R0r bs c d (k+1) fuel _ (by omega) (by omega)
  ·exact⟨_,rfl⟩
theorem p0n{bs:List Int}(a:bs.length<=1048576):∃ q,d01 bs=some q/\okQ bs q:=by
 obtain⟨z,b⟩:=R0r bs a bs.length 0 P0 (IntKind.i64.wrap (10101+((bs.length:Nat):Int))) (by omega) (by unfold P0;omega)
 refine⟨(0,z),?_,iR _,Int.natCast_nonneg _,a⟩
 unfold d01
 rw[show(0:Int)=((0:Nat):Int) from rfl,b];rfl
theorem S0p(a:Int):0<=i0m a 255/\i0m a 255<=255:=by
 have h:(BitVec.ofInt 64 a &&& BitVec.ofInt 64 255).toNat<=255:=by
  rw[BitVec.toNat_and];exact Nat.le_trans Nat.and_le_right (by decide)
 unfold i0m
 rw[w64 (by omega) (by omega)];omega
theorem F0s{bs:List Int}{q:Int×Int}(g:okQ bs q):Drw bs (H9 bs q) λx=>0<=x/\x<=255:=by
 obtain⟨a,e,b⟩:=g
 unfold H9
 by_cases c:q.1<((bs.length:Nat):Int)
 ·rw[if_pos (decide_eq_true c)]
  obtain⟨k,f⟩:=Int.eq_ofNat_of_zero_le a
  rw[f]at c ⊢
  have d:k<bs.length:=by omega
  rw[B3 (a7 d),oB,A2 d (by omega)]
  exact⟨_,_,rfl,S0p _,by simp only;omega,by simp only;omega,b⟩
 ·rw[if_neg (by simpa using c)]
  exact⟨_,_,rfl,S0p _,a,e,b⟩
theorem b00{bs:List Int}{q:Int×Int}(a:okQ bs q){n:Int}(h0:0<n)(d:n<=256):Drw bs (Z1 bs q n) λx=>0<=x/\x<n:=by
 unfold Z1
 rw[if_neg (by simp;omega),if_pos (by simp;omega)]
 refine(F0s a).bind λx e c b => .grd ⟨by omega,by omega⟩ (.grd (by omega) ⟨_,_,rfl,?_,b⟩)
 rw[Int.tmod_eq_emod_of_nonneg c.1]
 exact⟨Int.emod_nonneg _ (by omega),Int.emod_lt_of_pos _ h0⟩
theorem R0i{bs:List Int}{q:Int×Int}(b:okQ bs q){n:Int}(h0:0<n)(a:n<=256):Drw bs (r01 bs q n) λ_=>True :=
 (b00 b h0 a).bind λx e d c => .grd ⟨by omega,by omega⟩ ⟨_,_,rfl,trivial,c⟩
theorem S0t{b:Type}{l:List b}{x:Int}(h0:0<=x)(c:x<((l.length:Nat):Int)):∃ y∈l,gi l x=some y:=by
 obtain⟨k,rfl⟩:=Int.eq_ofNat_of_zero_le h0
 have a:k<l.length:=by omega
 exact⟨l[k],List.getElem_mem a,B3 (a7 a)⟩
theorem k07{bs:List Int}{q:Int×Int}(b:okQ bs q){l:List Int}(h0:0<l.length)(f:l.length<=256):Drw bs (Z7 bs q l) λx=>x∈l :=
 (b00 b (n:=((l.length:Nat):Int)) (by omega) (by omega)).bind λx g a c => .grd ⟨by omega,by omega⟩ (by
  obtain⟨y,d,e⟩:=S0t a.1 a.2
  rw[e];exact⟨_,_,rfl,d,c⟩)
theorem p0r(d:Nat)(h:d<=1048576):IntKind.i64.wrap (((d+1:Nat):Int)-1)=(d:Int):=by rw[w64 (by omega) (by omega)];omega
theorem T0p{bs:List Int}{rank:Int}(h0:0<rank)(g:rank<=256):∀(d fuel:Nat) (acc:List Int) (q:Int×Int),d<fuel->d+acc.length<=1000->E9 acc->okQ bs q ->
  Drw bs (B8 bs rank fuel (d:Int) acc q) λw=>E9 w/\w.length<=d+acc.length
 |d,0,acc,q,hf,_,_,_=>by omega
 |0,fuel+1,acc,q,hf,j,c,e=>by
  rw[B8.eq_2,if_neg (by simp)]
  exact⟨_,_,rfl,⟨c,by omega⟩,e⟩
 |d+1,fuel+1,acc,q,hf,j,c,e=>by
  rw[B8.eq_2,if_pos (by simp only[decide_eq_true_eq];omega)]
  refine(b00 e h0 g).bind λx o n k => .grd ⟨by omega,by omega⟩ ((R0i k (by decide) (by decide)).bind λb i _ l=>?_)
  have f:∀ y:Int,I0 y->Drw bs ((grd ((acc.length + [y].length)*8<=140737488355328)).bind λ_=>B8 bs rank fuel (IntKind.i64.wrap (((d+1:Nat):Int)-1)) (acc ++ [y]) i) λw=>E9 w/\w.length<=d+1+acc.length:=λy m =>
   .grd (by simp only[List.length_singleton];omega) (by
    rw[p0r d (by omega)]
    refine(T0p h0 g d fuel (acc ++ [y]) i (by omega) (by simp;omega) (λz a=>?_) l).mono λw h=>⟨h.1,by have:=h.2;simp at this;omega⟩
    rcases List.mem_append.1 a with a|a
    ·exact c z a
    ·rw[List.mem_singleton.1 a];exact m)
  show Drw bs (if b=true then _ else _) _
  cases b
  ·rw[if_neg (by simp)];exact f _ (F0 _)
  ·rw[if_pos rfl];exact f _ (F0 _)
theorem U0p{bs:List Int}{q:Int×Int}(e:okQ bs q){rank most:Int}(h0:0<rank)(c:rank<=256)(j:0<=most)(k:most<=200):Drw bs (K03 bs q rank most) λw=>E9 w/\w.length<=200:=by
 unfold K03
 rw[w64 (x:=most+1) (by omega) (by omega)]
 refine(b00 e (by omega) (by omega)).bind λx i h f => .grd ⟨by omega,by omega⟩ ?_
 obtain⟨d,rfl⟩:=Int.eq_ofNat_of_zero_le h.1
 refine(T0p h0 c d P0 [] i (by unfold P0;omega) (by simp;omega) (λz a=>nomatch a) f).bind λw m b g=>?_
 have l:w.length<=200:=by have:=b.2;simp at this;omega
 show Drw bs ((L4 w).bind _) _
 rw[g05 w b.1 (by omega),oB]
 refine⟨_,_,rfl,⟨λz a=>?_,?_⟩,g⟩
 ·exact Q0i w [] (λz a=>nomatch a) b.1 z (by simpa using a)
 ·have:=U08 w []
  simp at this ⊢;omega
def v0f(a:List (List Int)):Prop:=∀ w∈a,E9 w/\w.length<=200
theorem y0t{bs:List Int}{rank:Int}(h0:0<rank)(e:rank<=256):∀(d fuel:Nat) (acc:List (List Int)) (q:Int×Int),d<fuel->d+acc.length<=1000->v0f acc->okQ bs q ->
  Drw bs (a8 bs rank fuel (d:Int) acc q) λw=>v0f w/\w.length<=d+acc.length
 |d,0,acc,q,hf,_,_,_=>by omega
 |0,fuel+1,acc,q,hf,g,b,c=>by
  rw[a8.eq_2,if_neg (by simp)]
  exact⟨_,_,rfl,⟨b,by omega⟩,c⟩
 |d+1,fuel+1,acc,q,hf,g,b,c=>by
  rw[a8.eq_2,if_pos (by simp only[decide_eq_true_eq];omega)]
  refine(U0p c h0 e (by decide) (by decide)).bind λx j i h => .grd (by simp only[List.length_singleton];omega) ?_
  rw[p0r d (by omega)]
  refine(y0t h0 e d fuel (acc ++ [x]) j (by omega) (by simp;omega) (λz a=>?_) h).mono λw f=>⟨f.1,by have:=f.2;simp at this;omega⟩
  rcases List.mem_append.1 a with a|a
  ·exact b z a
  ·rw[List.mem_singleton.1 a];exact i
theorem q0r{bs:List Int}{q:Int×Int}(e:okQ bs q){rank:Int}(h0:0<rank)(c:rank<=256):Drw bs (J02 bs q rank) λb=>v0f b/\b.length<=3:=by
 unfold J02
 refine(b00 e (by decide) (by decide)).bind λx j h f => .grd ⟨by omega,by omega⟩ ?_
 obtain⟨d,rfl⟩:=Int.eq_ofNat_of_zero_le h.1
 refine(y0t h0 c d P0 [] j (by unfold P0;omega) (by simp;omega) (λz i=>nomatch i) f).bind λw k a g=>⟨_,_,rfl,⟨a.1,?_⟩,g⟩
 have:=a.2
 simp at this;omega
def T04(r a:Int)(e:Q0):Bool:=inR 0 a e.1&&inR 0 a e.2.2&&inR 1 r e.2.1
def w0f(e f:Q0):Int:=U0 e f
theorem x0f(e f:Q0):w0f e f=if Z9 e.1 f.1≠0 then Z9 e.1 f.1 else if Z9 e.2.1 f.2.1≠0 then Z9 e.2.1 f.2.1 else Z9 e.2.2 f.2.2:=rfl
theorem V07(a b:Int):(a<b/\Z9 a b = -1)∨(a>b/\Z9 a b=1)∨(a=b/\Z9 a b=0):=by
 unfold Z9
 split
 ·omega
 ·split<;>omega
theorem x0e(e f:Q0):I0 (w0f e f):=by
 rw[x0f]
 split
 ·exact N0i _ _
 ·split<;>exact N0i _ _
theorem A0k(g:l0)(e:Q0):v02 g e=some (T04 g.1 (IntKind.i64.wrap (g.2.1-1)) e):=by
 obtain⟨r,n,es⟩:=g
 obtain⟨a,l,b⟩:=e
 unfold v02 T04
 simp only[D01,oB]
 cases inR 0 (IntKind.i64.wrap (n-1)) a with
 |false=>rfl
 |true =>
  cases inR 0 (IntKind.i64.wrap (n-1)) b with
  |false=>rfl
  |true=>simp[chk]
theorem Z0d(g:l0)(e:Q0):P9 g e=some (T04 g.1 (IntKind.i64.wrap (g.2.1-1)) e):=by
 obtain⟨r,n,es⟩:=g
 obtain⟨a,l,b⟩:=e
 unfold P9 I4 T04
 simp only[Y05,oB]
 cases inR 0 (IntKind.i64.wrap (n-1)) a with
 |false=>rfl
 |true =>
  cases inR 0 (IntKind.i64.wrap (n-1)) b with
  |false=>rfl
  |true=>simp[chk]
theorem B03(e f:Q0):T8 e f=some (w0f e f):=by
 obtain⟨a,l,b⟩:=e
 obtain⟨g,j,i⟩:=f
 unfold T8
 rw[show P0=(P0-4)+1+1+1+1 from rfl]
 have s:IntKind.i64.wrap (0+1)=1:=by decide
 have t:IntKind.i64.wrap (1+1)=2:=by decide
 have u:IntKind.i64.wrap (2+1)=3:=by decide
 have o:∀ x y z:Int,gi [x,y,z] 0=some x:=λ_ _ _=>rfl
 have p:∀ x y z:Int,gi [x,y,z] 1=some y:=λ_ _ _=>rfl
 have q:∀ x y z:Int,gi [x,y,z] 2=some z:=λ_ _ _=>rfl
 have d0:decide ((0:Int)<3)=true:=rfl
 have k:decide ((1:Int)<3)=true:=rfl
 have m:decide ((2:Int)<3)=true:=rfl
 have n:decide ((3:Int)<3)=false:=rfl
 simp only[H7.eq_2,s,t,u,o,p,q,d0,k,m,n,if_true,oB,Bool.false_eq_true,if_false]
 rw[x0f]
 simp only
 rcases V07 a g with⟨h,e⟩|⟨h,e⟩|⟨h,e⟩
 ·simp[e,h,d9]
 ·have : ¬ a<g:=by omega
  simp[e,h,this,d9]
 ·subst h
  rcases V07 l j with⟨h,c⟩|⟨h,c⟩|⟨h,c⟩
  ·simp[e,c,h,d9]
  ·have : ¬ l<j:=by omega
   simp[e,c,h,this,d9]
  ·subst h
   rcases V07 b i with⟨h,d⟩|⟨h,d⟩|⟨h,d⟩
   ·simp[e,c,d,h,d9]
   ·have : ¬ b<i:=by omega
    simp[e,c,d,h,this,d9]
   ·subst h
    simp[e,c,d,d9]
theorem F0o(a b:Int):Q7 a b=some (Z9 a b):=by
 unfold Q7 Z9
 by_cases h:a<b
 ·simp[h]
 ·by_cases h2:a>b<;>simp[h,h2]
theorem b06(e f:Q0):n00 e f=some (w0f e f):=by
 obtain⟨a,l,b⟩:=e
 obtain⟨c,d,g⟩:=f
 rw[x0f]
 unfold n00
 simp only[F0o,oB,J0 (N0i _ _)]
 by_cases h1:Z9 a c=0
 ·by_cases h2:Z9 l d=0
  ·simp[h1,h2]
  ·simp[h1,h2]
 ·simp[h1]
def V0p(r a:Int)(es:List Q0)(k:Nat):Bool:=match es[k]? with
 |none=>true
 |some e => !T04 r a e || (decide (0<k)&&match es[k-1]? with
  |none=>true
  |some f=>decide (w0f f e ≥ 0))
def okE(r a:Int)(es:List Q0):Nat->Nat->Bool
 |0,_=>true
 |d+1,k => !V0p r a es k&&okE r a es d (k+1)
def W0(g:l0):Bool:=okE g.1 (IntKind.i64.wrap (g.2.1-1)) g.2.2 g.2.2.length 0&&inR 1 3 g.1&&inR 1 40 g.2.1&&decide (g.2.2.length<=120)
theorem E0b{r a:Int}{es:List Q0}{k:Nat}{e:Q0}(b:es[k]?=some e):V0p r a es k=(!T04 r a e || (decide (0<k)&&match es[k-1]? with
  |none=>true
  |some f=>decide (w0f f e ≥ 0))):=by unfold V0p;rw[b]
theorem B06(r n:Int)(es:List Q0)(q:es.length<=140737488355328):∀(d k fuel:Nat),k+d=es.length->d<fuel ->
  c8 es r n fuel (k:Int)=some (bif okE r (IntKind.i64.wrap (n-1)) es d k then .inr ()else .inl false)
 |d,k,0,l,hf=>by omega
 |0,k,fuel+1,l,hf=>by
  rw[c8.eq_2,if_neg (by simp;omega)]
  simp[okE]
 |d+1,k,fuel+1,l,hf=>by
  have m:k<es.length:=by omega
  have a:=a7 m
  generalize es[k]=e at a
  obtain⟨h,i,j⟩:=e
  have next:=B06 r n es q d (k+1) fuel (by omega) (by omega)
  rw[c8.eq_2,if_pos (by simp;omega),B3 a,oB]
  simp only[A0k,oB,A2 m (by omega:es.length<=9223372036854775807),next,okE,E0b a]
  generalize IntKind.i64.wrap (n-1)=hi
  cases hin:T04 r hi (h,i,j)with
  |false=>simp[chk,grd,I0]
  |true =>
   by_cases hk0:k=0
   ·have c:decide ((k:Int)>0)=false:=by simp;omega
    have b:decide (0<k)=false:=by simp;omega
    simp only[c,b,C3,Bool.not_true,Bool.not_false,Bool.and_true,Bool.false_and,Bool.or_self,Bool.true_and,cond_true,cond_false,oB,Bool.or_false,Bool.false_eq_true,if_false,J0 (show I0 0 by decide)]
   ·have g:=a7 (show k-1<es.length by omega)
    generalize es[k-1]=f at g
    obtain⟨o,p,f2⟩:=f
    have s:IntKind.i64.wrap ((k:Int)-1)=((k-1:Nat):Int):=w0k (by omega) (by omega)
    have c:decide ((k:Int)>0)=true:=by simp;omega
    have b:decide (0<k)=true:=by simp;omega
    simp only[c,b,s,g,B3 a,B3 g,K1,Bool.not_true,Bool.not_false,Bool.and_true,Bool.false_and,Bool.or_self,Bool.true_and,cond_true,cond_false,oB,Bool.or_false,Bool.false_or,B03,J0 (x0e _ _)]
    cases decide (w0f (o,p,f2) (h,i,j) ≥ 0)<;>rfl
theorem O7(g:l0)(a:g.2.2.length<=140737488355328):B4 g=some (W0 g):=by
 obtain⟨r,n,es⟩:=g
 unfold B4 W0
 simp only at a ⊢
 have h:=B06 r n es a es.length 0 P0 (by omega) (F1 a)
 rw[show((0:Nat):Int)=0 from rfl]at h
 rw[h,oB]
 cases okE r (IntKind.i64.wrap (n-1)) es es.length 0 with
 |false=>simp[d9]
 |true =>
  rw[cond_true,M0,D01,D01,oB]
  cases inR 1 3 r with
  |false=>simp[chk]
  |true =>
   simp only[K1,oB,cond_true,Bool.true_and]
   cases inR 1 40 n with
   |false=>simp
   |true=>simp;omega
theorem C06(r n:Int)(es:List Q0)(q:es.length<=140737488355328):∀(d k fuel:Nat),k+d=es.length->d<fuel ->
  d8 es r n fuel (k:Int)=some (bif okE r (IntKind.i64.wrap (n-1)) es d k then .inr ()else .inl false)
 |d,k,0,l,hf=>by omega
 |0,k,fuel+1,l,hf=>by
  rw[d8.eq_2,if_neg (by simp;omega)]
  simp[okE]
 |d+1,k,fuel+1,l,hf=>by
  have m:k<es.length:=by omega
  have a:=a7 m
  generalize es[k]=e at a
  obtain⟨h,i,j⟩:=e
  have next:=C06 r n es q d (k+1) fuel (by omega) (by omega)
  rw[d8.eq_2,if_pos (by simp;omega),B3 a,oB]
  simp only[Z0d,oB,A2 m (by omega:es.length<=9223372036854775807),next,okE,E0b a]
  generalize IntKind.i64.wrap (n-1)=hi
  cases hin:T04 r hi (h,i,j)with
  |false=>simp[chk,grd,I0]
  |true =>
   by_cases hk0:k=0
   ·have c:decide ((k:Int)>0)=false:=by simp;omega
    have b:decide (0<k)=false:=by simp;omega
    simp only[c,b,C3,Bool.not_true,Bool.not_false,Bool.and_true,Bool.false_and,Bool.or_self,Bool.true_and,cond_true,cond_false,oB,Bool.or_false,Bool.false_eq_true,if_false,J0 (show I0 0 by decide)]
   ·have g:=a7 (show k-1<es.length by omega)
    generalize es[k-1]=f at g
    obtain⟨o,p,f2⟩:=f
    have s:IntKind.i64.wrap ((k:Int)-1)=((k-1:Nat):Int):=w0k (by omega) (by omega)
    have c:decide ((k:Int)>0)=true:=by simp;omega
    have b:decide (0<k)=true:=by simp;omega
    simp only[c,b,s,g,B3 a,B3 g,K1,Bool.not_true,Bool.not_false,Bool.and_true,Bool.false_and,Bool.or_self,Bool.true_and,cond_true,cond_false,oB,Bool.or_false,Bool.false_or,b06,J0 (x0e _ _)]
    cases decide (w0f (o,p,f2) (h,i,j) ≥ 0)<;>rfl
theorem r03(g:l0)(c:g.2.2.length<=140737488355328):Q9 g=some (W0 g):=by
 obtain⟨r,n,es⟩:=g
 unfold Q9 W0
 simp only at c ⊢
 rw[Y05,Y05,oB]
 cases hr:inR 1 3 r with
 |false=>simp[chk]
 |true =>
  simp only[Bool.not_true,Bool.not_false,K1,oB,cond_false]
  cases hn:inR 1 40 n with
  |false=>simp
  |true =>
   by_cases h120:es.length<=120
   ·have h:=C06 r n es c es.length 0 P0 (by omega) (F1 c)
    rw[show((0:Nat):Int)=0 from rfl]at h
    have a:decide (((es.length:Nat):Int)>120)=false:=by simp;omega
    have b:decide (es.length<=120)=true:=by simpa using h120
    simp only[a,b,Bool.not_true,cond_false,Bool.false_eq_true,if_false,h,oB]
    cases okE r (IntKind.i64.wrap (n-1)) es es.length 0<;>rfl
   ·have a:decide (((es.length:Nat):Int)>120)=true:=by simp;omega
    have b:decide (es.length<=120)=false:=by simpa using h120
    simp only[a,b,Bool.not_true,cond_false,if_true,Bool.and_false]
theorem j0m{r a:Int}{es:List Q0}:∀ {d k:Nat},okE r a es d k=true->∀ i,k<=i->i<k+d->V0p r a es i=false
 |0,k,h,i,b,c=>by omega
 |d+1,k,h,i,b,c=>by
  simp only[okE,Bool.and_eq_true,Bool.not_eq_true']at h
  by_cases e:i=k
  ·subst e;exact h.1
  ·exact j0m h.2 i (by omega) (by omega)
theorem B0k{n:Nat}(h:n<=9223372036854775807):n<P0:=by unfold P0;omega
def goI(x:Int):List Int->Bool×List Int
 | []=>(false,[])
 |y::l=>if x<y then(true,x::y::l)else if y=x then(true,y::l)else((goI x l).1,y::(goI x l).2)
theorem q0n(x:Int):∀ l,x00 Z9 x l=bif(goI x l).1 then(goI x l).2 else(goI x l).2 ++ [x]
 | []=>rfl
 |y::l=>by
  have a:=q0n x l
  unfold x00 goI
  rcases V07 x y with⟨h,e⟩|⟨h,e⟩|⟨h,e⟩
  ·rw[e,if_pos (by omega),if_pos h];rfl
  ·rw[e,if_neg (by omega),if_neg (by omega),if_neg (by omega),if_neg (by omega),a]
   cases (goI x l).1<;>rfl
  ·rw[e,if_neg (by omega),if_pos rfl,if_neg (by omega),if_pos h.symm];rfl
theorem y0f(l:List Int)(w:Int)(h:l.length<=1099511627776):∀(d k fuel:Nat) (acc:List Int),k+d=l.length->d<fuel->acc.length<=k+1 ->
  M4 l w fuel true (k:Int) acc=some (true,acc++l.drop k)
 |d,k,0,acc,e,hf,b=>by omega
 |0,k,fuel+1,acc,e,hf,b=>by
  rw[M4.eq_2,if_neg (by simp;omega),T1 (by omega),List.append_nil]
 |d+1,k,fuel+1,acc,e,hf,b=>by
  have f:k<l.length:=by omega
  have a:=a7 f
  generalize l[k]=x at a
  have i:=y0f l w h d (k+1) fuel (acc ++ [x]) (by omega) (by omega) (by simp;omega)
  rw[M4.eq_2,if_pos (by simp;omega),B3 a,oB]
  have g:∀ c:Bool,(bif c then(!true)else false)=false:=λc=>by cases c<;>rfl
  simp only[g,Bool.false_eq_true,if_false,oB,A2 f (show l.length<=9223372036854775807 by omega),i,J0 (show(acc.length + [x].length)*8<=140737488355328 by simp;omega)]
  rw[U1 a]
  split<;>simp
theorem u0h(l:List Int)(w:Int)(b:l.length<=1099511627776):∀(d k fuel:Nat) (acc:List Int),k+d=l.length->d<fuel->acc.length=k ->
  M4 l w fuel false (k:Int) acc=some ((goI w (l.drop k)).1,acc++(goI w (l.drop k)).2)
 |d,k,0,acc,g,hf,f=>by omega
 |0,k,fuel+1,acc,g,hf,f=>by
  rw[M4.eq_2,if_neg (by simp;omega),T1 (by omega)]
  simp[goI]
 |d+1,k,fuel+1,acc,g,hf,f=>by
  have a:k<l.length:=by omega
  have e:=a7 a
  generalize l[k]=x at e
  have j:=u0h l w b d (k+1) fuel (acc ++ [x]) (by omega) (by omega) (by simp;omega)
  have m:=y0f l w b d (k+1) fuel (acc ++ [x]) (by omega) (by omega) (by simp;omega)
  have n:=y0f l w b d (k+1) fuel (acc ++ [w] ++ [x]) (by omega) (by omega) (by simp;omega)
  rw[M4.eq_2,if_pos (by simp;omega),B3 e,oB,U1 e]
  unfold goI
  have h:∀ c:Bool,(bif c then(!true)else false)=false:=λc=>by cases c<;>rfl
  have i:∀ c:Bool,(bif c then(!false)else false)=c:=λc=>by cases c<;>rfl
  by_cases h0:x=w
  ·rw[if_pos (by simpa using h0),oB,h,if_neg (by simp),oB,J0 (by simp;omega),oB,A2 a (by omega),m,if_neg (by omega),if_pos h0]
   simp
  ·rw[if_neg (by simpa using h0),oB,i]
   by_cases h1:w<x
   ·rw[if_pos (by simpa using h1),J0 (by simp;omega),oB,oB,J0 (by simp;omega),oB,A2 a (by omega),n,if_pos h1]
    simp
   ·rw[if_neg (by simpa using h1),oB,J0 (by simp;omega),oB,A2 a (by omega),j,if_neg h1,if_neg h0]
    simp
theorem F0b(l:List Int)(w:Int)(a:l.length<=1099511627776):I9 l w=some (x00 Z9 w l):=by
 unfold I9
 have h:=u0h l w a l.length 0 P0 [] (by omega) (F1 (by omega)) rfl
 rw[show((0:Nat):Int)=0 from rfl,List.drop_zero,List.nil_append]at h
 rw[h,oB,q0n]
 have b:∀ l:List Int,(goI w l).2.length<=l.length+1:=λl=>by
  induction l with
  |nil=>simp[goI]
  |cons y l c =>
   unfold goI
   split
   ·simp
   ·split
    ·simp
    ·simp only[List.length_cons];omega
 have:=b l
 cases (goI w l).1 with
 |true=>rfl
 |false =>
  simp only[Bool.not_false,if_true,cond_false]
  rw[J0 (by simp;omega),oB]
def v0h(v x:Int)(e:Q0):List Int :=
 if 0<x/\e.2.1=x/\e.1=v then [e.2.2]else if x<0/\e.2.1 = -x/\e.2.2=v then [e.1]else []
def r00(v x:Int):List Q0->List Int
 | []=>[]
 |e::es=>v0h v x e++r00 v x es
theorem G0o(v x:Int)(e:Q0):(v0h v x e).length<=1:=by unfold v0h;split<;>(try split)<;>simp
theorem z0f(v x:Int):∀ es,(r00 v x es).length<=es.length
 | []=>by simp[r00]
 |e::es=>by
  have a:=G0o v x e
  have b:=z0f v x es
  simp only[r00,List.length_append,List.length_cons]
  omega
def I00(x:Int):Prop:=I0 x/\x ≠ -9223372036854775808
theorem G0b(es:List Q0)(v x:Int)(f:I00 x)(t:es.length<=1099511627776):∀(d k fuel:Nat) (acc:List Int),k+d=es.length->d<fuel->acc.length<=k ->
  S4 es x v fuel (k:Int) acc=some (acc++r00 v x (es.drop k))
 |d,k,0,acc,p,hf,o=>by omega
 |0,k,fuel+1,acc,p,hf,o=>by
  rw[S4.eq_2,if_neg (by simp;omega),T1 (by omega)]
  simp[r00]
 |d+1,k,fuel+1,acc,p,hf,o=>by
  have q:k<es.length:=by omega
  have m:=a7 q
  generalize es[k]=e at m
  obtain⟨a,l,b⟩:=e
  have n:=λs h=>G0b es v x f t d (k+1) fuel s (by omega) (by omega) h
  have u:decide (x = -9223372036854775808)=false:=by simp;exact f.2
  rw[S4.eq_2,if_pos (by simp;omega),B3 m,oB,U1 m]
  simp only[r00,v0h,v0k f.1 f.2,u,Bool.not_false,A2 q (show es.length<=9223372036854775807 by omega)]
  by_cases c:0<x/\l=x/\a=v
  ·obtain⟨c,rfl,rfl⟩:=c
   rw[if_pos (by simp[c]),if_pos ⟨c,rfl,rfl⟩,J0 (by simp;omega),oB,n _ (by simp;omega)]
   simp
  ·rw[if_neg c,if_neg (by simp only[Bool.cond_eq_ite];simp;intro g i j;exact c ⟨g,i,j⟩)]
   by_cases c2:x<0/\l = -x/\b=v
   ·rw[if_pos c2,if_pos (by simp[c2.1,c2.2.1,c2.2.2]),J0 (by simp;omega),oB,n _ (by simp;omega)]
    simp
   ·rw[if_neg c2,if_neg (by simp only[Bool.cond_eq_ite];simp;intro g i j;exact c2 ⟨g,i,j⟩),n _ (by omega)]
    simp
theorem l07(w:Int):∀ l:List Int,(x00 Z9 w l).length<=l.length+1
 | []=>by simp[x00]
 |y::l=>by
  have:=l07 w l
  unfold x00
  split
  ·simp
  ·split
   ·simp
   ·simp only[List.length_cons];omega
theorem H0b(es:List Q0)(v x:Int)(m:I00 x)(s:es.length<=1099511627776):∀(d k fuel:Nat) (u:List Int),k+d=es.length->d<fuel->u.length<=k ->
  C4 es x v fuel u (k:Int)=some (l7 Z9 u (r00 v x (es.drop k)))
 |d,k,0,u,p,hf,o=>by omega
 |0,k,fuel+1,u,p,hf,o=>by
  rw[C4.eq_2,if_neg (by simp;omega),T1 (by omega)]
  rfl
 |d+1,k,fuel+1,u,p,hf,o=>by
  have q:k<es.length:=by omega
  have j:=a7 q
  generalize es[k]=e at j
  obtain⟨a,l,b⟩:=e
  have n:=λw h=>H0b es v x m s d (k+1) fuel w (by omega) (by omega) h
  rw[C4.eq_2,if_pos (by simp;omega),B3 j,oB,U1 j]
  simp only[r00,v0h,v0k m.1 m.2,A2 q (show es.length<=9223372036854775807 by omega)]
  by_cases c:0<x/\l=x/\a=v
  ·obtain⟨c,rfl,rfl⟩:=c
   have t:decide (l<0)=false:=by simp;omega
   have:=l07 b u
   rw[if_pos (by simp[c]),if_pos ⟨c,rfl,rfl⟩,F0b u b (by omega),oB,t,if_neg (by simp),n _ (by omega)]
   rfl
  ·rw[if_neg c,if_neg (by simp only[Bool.cond_eq_ite];simp;intro f g i;exact c ⟨f,g,i⟩)]
   by_cases c2:x<0/\l = -x/\b=v
   ·have:=l07 a u
    rw[if_pos c2,if_pos (by simp[c2.1,c2.2.1,c2.2.2]),F0b u a (by omega),oB,n _ (by omega)]
    rfl
   ·rw[if_neg c2,if_neg (by simp only[Bool.cond_eq_ite];simp;intro f g i;exact c2 ⟨f,g,i⟩),n _ (by omega)]
    rfl
def y03(g:l0)(v x:Int):List Int:=l7 Z9 [] (r00 v x g.2.2)
theorem r0r(x y:Int):eqI x y=true↔x=y:=by simp[eqI]
theorem C0k(g:l0)(v x:Int)(b:I00 x)(a:g.2.2.length<=1099511627776):E01 g v x=some (y03 g v x):=by
 obtain⟨r,n,es⟩:=g
 unfold E01 y03
 have h:=H0b es v x b a es.length 0 P0 [] (by omega) (B0k (by simp only at a;omega)) (by simp)
 rw[show((0:Nat):Int)=0 from rfl,List.drop_zero]at h
 simp only[h,oB]
theorem D0k(g:l0)(v x:Int)(b:I00 x)(a:g.2.2.length<=1099511627776):F01 g v x=some (y03 g v x):=by
 obtain⟨r,n,es⟩:=g
 unfold F01 y03
 have h:=G0b es v x b a es.length 0 P0 [] (by omega) (B0k (by simp only at a;omega)) (by simp)
 rw[show((0:Nat):Int)=0 from rfl,List.drop_zero,List.nil_append]at h
 have c:=z0f v x es
 simp only at a
 simp only[h,oB,J0 (show(r00 v x es).length<4611686018427387904 by omega)]
 rw[←u0k q03 r0r (r00 v x es) (r00 v x es) λ_=>Iff.rfl]
 rfl
def j1(g:l0)(v x:Int):Int:=match y03 g v x with
 | [] => -1
 |a::_=>a
theorem t04(g:l0)(v x:Int)(c:I00 x)(b:g.2.2.length<=1099511627776):C5 g v x=some (j1 g v x):=by
 have h:=C0k g v x c b
 obtain⟨r,n,es⟩:=g
 unfold C5 j1
 simp only[h,oB]
 cases y03 (r,n,es) v x with
 |nil=>rfl
 |cons a l=>rfl
theorem W07(g:l0)(v x:Int)(c:I00 x)(b:g.2.2.length<=1099511627776):A7 g v x=some (j1 g v x):=by
 have h:=D0k g v x c b
 obtain⟨r,n,es⟩:=g
 unfold A7 j1
 simp only[h,oB]
 cases y03 (r,n,es) v x with
 |nil=>rfl
 |cons a l=>rfl
theorem w0h{g:l0}{v x y:Int}(h:y∈y03 g v x):y∈r00 v x g.2.2:=by
 rcases(o9 q03 y _ []).1 h with h|h
 ·cases h
 ·exact h
theorem c4{v x y:Int}:∀ {es:List Q0},y∈r00 v x es↔∃ e∈es,(0<x/\e.2.1=x/\e.1=v/\y=e.2.2)∨(x<0/\e.2.1 = -x/\e.2.2=v/\y=e.1)
 | []=>by simp[r00]
 |e::es=>by
  simp only[r00,List.mem_append,c4 (es:=es),List.mem_cons,exists_eq_or_imp]
  refine or_congr ?_ Iff.rfl
  unfold v0h
  split
  ·rename_i h
   simp only[List.mem_singleton]
   constructor
   ·rintro rfl;exact .inl ⟨h.1,h.2.1,h.2.2,rfl⟩
   ·rintro(⟨_,_,_,a⟩|⟨f,_⟩)
    ·exact a
    ·omega
  ·rename_i h
   split
   ·rename_i b
    simp only[List.mem_singleton]
    constructor
    ·rintro rfl;exact .inr ⟨b.1,b.2.1,b.2.2,rfl⟩
    ·rintro(⟨f,_⟩|⟨_,_,_,a⟩)
     ·omega
     ·exact a
   ·rename_i b
    constructor
    ·intro h;cases h
    ·rintro(⟨c,a,d,_⟩|⟨c,a,d,_⟩)
     ·exact absurd ⟨c,a,d⟩ h
     ·exact absurd ⟨c,a,d⟩ b
def inG(g:l0):Prop:=∀ e∈g.2.2,(0<=e.1/\e.1<g.2.1)/\(0<=e.2.2/\e.2.2<g.2.1)/\1<=e.2.1/\e.2.1<=g.1
theorem J2{g:l0}(h:W0 g=true):inG g/\(1<=g.1/\g.1<=3)/\(1<=g.2.1/\g.2.1<=40)/\g.2.2.length<=120:=by
 obtain⟨r,n,es⟩:=g
 simp only[W0,inR,Bool.and_eq_true,decide_eq_true_eq]at h
 obtain⟨⟨⟨m,o⟩,p⟩,q⟩:=h
 refine⟨λe s=>?_,o,p,q⟩
 obtain⟨i,b⟩:=List.getElem?_of_mem s
 have a:=j0m m i (Nat.zero_le _) (by have:=(List.getElem?_eq_some_iff.1 b).1;simp only at this;omega)
 rw[E0b b]at a
 simp only[Bool.or_eq_false_iff,Bool.not_eq_false',T04,inR,Bool.and_eq_true,decide_eq_true_eq]at a
 obtain⟨⟨⟨⟨c,d⟩,f,j⟩,k,l⟩,_⟩:=a
 rw[w64 (by omega) (by omega)]at d j
 simp only
 exact⟨⟨c,by omega⟩,⟨f,by omega⟩,k,l⟩
theorem q05{g:l0}(d:inG g)(v x:Int):j1 g v x = -1∨(0<=j1 g v x/\j1 g v x<g.2.1):=by
 unfold j1
 cases hs:y03 g v x with
 |nil=>exact .inl rfl
 |cons a l =>
  right
  have b:a∈y03 g v x:=by rw[hs];exact mS
  obtain⟨e,c,h⟩:=c4.1 (w0h b)
  have:=d e c
  rcases h with⟨_,_,_,rfl⟩|⟨_,_,_,rfl⟩
  ·exact this.2.1
  ·exact this.1
theorem r05{g:l0}(a:inG g)(b:g.2.1<=40)(v x:Int):I0 (j1 g v x):=by
 rcases q05 a v x with h|h
 ·rw[h];decide
 ·constructor<;>omega
def c06(a b:Q0):Bool:=decide (a.2.1=b.2.1)&&(decide (a.1=b.1) || decide (a.2.2=b.2.2))
theorem N0c(a b:Q0):c06 a b=c06 b a:=by
 unfold c06
 have h:∀ x y:Int,decide (x=y)=decide (y=x):=λx y=>decide_eq_decide.2 ⟨Eq.symm,Eq.symm⟩
 rw[h a.2.1,h a.1,h a.2.2]
def noC(a:Q0):List Q0->Bool
 | []=>true
 |b::l => !c06 a b&&noC a l
def n0a:List Q0->Bool
 | []=>true
 |a::l=>noC a l&&n0a l
theorem S0i(a:Q0):∀ l,noC a l=true↔∀ b∈l,c06 a b=false
 | []=>by simp[noC]
 |b::l=>by simp[noC,S0i a l]
theorem O0c:∀ l,n0a l=true↔l.Pairwise λa b=>c06 a b=false
 | []=>by simp[n0a]
 |a::l=>by simp[n0a,O0c l,S0i,List.pairwise_cons]
def A0f:List Q0->List Q0->Bool
 |_,[]=>true
 |b,a::l=>noC a b&&A0f (b ++ [a]) l
theorem x0h:∀(l f:List Q0),A0f f l=true↔l.Pairwise (λa b=>c06 a b=false)/\∀ a∈l,∀ b∈f,c06 a b=false
 | [],f=>by simp[A0f]
 |a::l,f=>by
  simp only[A0f,Bool.and_eq_true,S0i,x0h l,List.pairwise_cons]
  constructor
  ·rintro⟨g,h,e⟩
   refine⟨⟨λb c=>by rw[N0c];exact e b c a (by simp),h⟩,λx d b c=>?_⟩
   rcases List.mem_cons.1 d with rfl|d
   ·exact g b c
   ·exact e x d b (by simp[c])
  ·rintro⟨⟨g,h⟩,e⟩
   refine⟨λb c=>e a mS b c,h,λx d b c=>?_⟩
   rcases List.mem_append.1 c with c|c
   ·exact e x (mC _ d) b c
   ·rw[List.mem_singleton.1 c,N0c];exact g x d
theorem H0o(l:List Q0):A0f [] l=n0a l:=by
 rw[Bool.eq_iff_iff,x0h,O0c]
 simp
def V0(g:l0):Bool:=W0 g&&n0a g.2.2
theorem S0r(a b e c d f:Int):(bif decide (b=d)then(bif decide (a=c)then true else decide (e=f))else false)=c06 (a,b,e) (c,d,f):=by
 unfold c06
 cases decide (b=d)<;>cases decide (a=c)<;>rfl
theorem I0b(l:List Q0)(a:Q0)(n:l.length<=140737488355328):∀(d k fuel:Nat),k+d=l.length->d<fuel ->
  B7 l a.2.1 a.1 a.2.2 fuel (k:Int)=some (bif noC a (l.drop k)then .inr ()else .inl false)
 |d,k,0,g,hf=>by omega
 |0,k,fuel+1,g,hf=>by
  rw[B7.eq_2,if_neg (by simp;omega),T1 (by omega)]
  rfl
 |d+1,k,fuel+1,g,hf=>by
  have h:k<l.length:=by omega
  have b:=a7 h
  generalize l[k]=x at b
  obtain⟨c,e,f⟩:=a
  obtain⟨i,j,m⟩:=x
  rw[B7.eq_2,if_pos (by simp;omega),B3 b,oB,U1 b]
  simp only[S0r,noC]
  cases hc:c06 (c,e,f) (i,j,m)with
  |true=>rfl
  |false =>
   rw[if_neg (by simp),A2 h (by omega),I0b l (c,e,f) n d (k+1) fuel (by omega) (by omega)]
   simp
theorem d06{a:Type}{xs:List a}{k:Nat}(h:k<=xs.length):W05 xs (k:Int) (xs.length:Int)=some (xs.drop k):=by
 unfold W05
 rw[if_pos ⟨by omega,by omega,by omega⟩]
 simp
theorem J0b(l:List Q0)(h:l.length<=140737488355328):∀(d k fuel:Nat),k+d=l.length->d<fuel ->
  C7 l fuel (k:Int)=some (bif n0a (l.drop k)then .inr ()else .inl false)
 |d,k,0,b,hf=>by omega
 |0,k,fuel+1,b,hf=>by
  rw[C7.eq_2,if_neg (by simp;omega),T1 (by omega)]
  rfl
 |d+1,k,fuel+1,b,hf=>by
  have c:k<l.length:=by omega
  have a:=a7 c
  generalize l[k]=x at a
  have h0:=I0b (l.drop (k+1)) x (by simp;omega) (l.drop (k+1)).length 0 P0 (by omega) (F1 (by simp;omega))
  rw[show((0:Nat):Int)=0 from rfl,List.drop_zero]at h0
  obtain⟨e,f,g⟩:=x
  rw[C7.eq_2,if_pos (by simp;omega),B3 a,oB,U1 a]
  simp only[A2 c (show l.length<=9223372036854775807 by omega),d06 (show k+1<=l.length by omega),oB]
  simp only at h0
  rw[h0,oB]
  simp only[n0a]
  cases noC (e,f,g) (l.drop (k+1))with
  |false=>rfl
  |true =>
   simp only[cond_true,c0m,Bool.true_and]
   exact J0b l h d (k+1) fuel (by omega) (by omega)
theorem G01(g:l0)(a:g.2.2.length<=140737488355328):O6 g=some (V0 g):=by
 have b:=r03 g a
 obtain⟨r,n,es⟩:=g
 unfold O6 V0
 simp only[b,oB]
 cases W0 (r,n,es)with
 |false=>rfl
 |true =>
  have h:=J0b es a es.length 0 P0 (by omega) (F1 a)
  rw[show((0:Nat):Int)=0 from rfl,List.drop_zero]at h
  rw[if_neg (by simp),h,oB]
  cases n0a es<;>rfl
theorem K0b(l:List Q0)(q:l.length<=140737488355328){i:Nat}{a:Q0}(b:l[i]?=some a):∀(d k fuel:Nat),k+d=i->d<fuel ->
  t7 (i:Int) l fuel (k:Int)=some (bif noC a ((l.take i).drop k)then .inr ()else .inl false)
 |d,k,0,e,hf=>by omega
 |0,k,fuel+1,e,hf=>by
  have:=(List.getElem?_eq_some_iff.1 b).1
  rw[t7.eq_2,if_neg (by simp;omega),T1 (by simp;omega)]
  rfl
 |d+1,k,fuel+1,e,hf=>by
  have t:=(List.getElem?_eq_some_iff.1 b).1
  have f:k<l.length:=by omega
  have c:=a7 f
  have g:(l.take i)[k]?=some l[k]:=by rw[List.getElem?_take,if_pos (by omega)];exact c
  have s:=K0b l q b d (k+1) fuel (by omega) (by omega)
  generalize l[k]=x at c g
  obtain⟨h,j,m⟩:=a
  obtain⟨n,o,p⟩:=x
  rw[t7.eq_2,if_pos (by simp;omega),B3 b,oB,U1 g]
  simp only[B3 c,oB,S0r,noC]
  cases hc:c06 (h,j,m) (n,o,p)with
  |true=>rfl
  |false =>
   rw[if_neg (by simp),A2 f (by omega),s]
   simp
theorem T0r{a:Type}{xs:List a}{k:Nat}{x:a}(h:xs[k]?=some x):xs.take (k+1)=xs.take k ++ [x]:=by
 obtain⟨b,rfl⟩:=List.getElem?_eq_some_iff.1 h
 exact List.take_succ_eq_append_getElem b
theorem L0b(r n:Int)(l:List Q0)(f:W0 (r,n,l)=true)(b:l.length<=140737488355328):∀(d k fuel:Nat),k+d=l.length->d<fuel ->
  D5 l r n fuel (k:Int)=some (bif A0f (l.take k) (l.drop k)then .inr ()else .inl false)
 |d,k,0,c,hf=>by omega
 |0,k,fuel+1,c,hf=>by
  have e:decide ((k:Int)<(l.length:Int))=false:=by simp;omega
  rw[D5.eq_2,e,C3,oB,if_neg (by simp),T1 (by omega)]
  rfl
 |d+1,k,fuel+1,c,hf=>by
  have g:k<l.length:=by omega
  have a:=a7 g
  generalize l[k]=x at a
  have h0:=K0b l b a k 0 P0 (by omega) (F1 (by omega))
  rw[show((0:Nat):Int)=0 from rfl,List.drop_zero]at h0
  have e:decide ((k:Int)<(l.length:Int))=true:=by simp;omega
  rw[D5.eq_2,e,K1,O7 (r,n,l) b,oB,f,if_pos (show(bif true then true else false)=true from rfl),h0,oB,U1 a]
  simp only[A0f]
  cases noC x (l.take k)with
  |false=>rfl
  |true =>
   simp only[cond_true,c0m,Bool.true_and]
   rw[A2 g (by omega),←T0r a]
   exact L0b r n l f b d (k+1) fuel (by omega) (by omega)
theorem F8(g:l0)(a:g.2.2.length<=140737488355328):Y5 g=some (V0 g):=by
 have b:=O7 g a
 obtain⟨r,n,es⟩:=g
 unfold Y5 V0
 simp only[b,oB]
 cases hg:W0 (r,n,es)with
 |false =>
  have c:D5 es r n P0 0=some (.inr ()):=by
   rw[show P0=(P0-1)+1 from rfl,D5.eq_2]
   by_cases e:decide ((0:Int)<(es.length:Int))=true
   ·rw[e,K1,b,oB,hg,if_neg (by simp)]
   ·rw[Bool.not_eq_true]at e
    rw[e,C3,oB,if_neg (by simp)]
  rw[c]
  rfl
 |true =>
  have h:=L0b r n es hg a es.length 0 P0 (by omega) (F1 a)
  rw[show((0:Nat):Int)=0 from rfl,List.drop_zero,List.take_zero,H0o]at h
  rw[h,oB]
  cases n0a es<;>rfl
def w4(g:l0):Int->List Int->Int×Nat
 |v,[]=>(v,0)
 |v,x::w=>if j1 g v x<0 then(v,0)else((w4 g (j1 g v x) w).1,(w4 g (j1 g v x) w).2+1)
theorem B0f(g:l0):∀(w:List Int) (v:Int),(w4 g v w).2<=w.length
 | [],v=>by simp[w4]
 |x::w,v=>by
  have:=B0f g w (j1 g v x)
  unfold w4
  split
  ·simp
  ·simp only[List.length_cons];omega
theorem E0k{g:l0}(a:inG g)(b:g.2.1<=40):∀(w:List Int) (v:Int),I0 v->I0 (w4 g v w).1
 | [],v,h=>h
 |x::w,v,h=>by
  unfold w4
  split
  ·exact h
  ·exact E0k a b w _ (r05 a b v x)
theorem M0d(r n:Int)(es:List Q0)(f:inG (r,n,es))(g:n<=40)(e:es.length<=1099511627776)(w:List Int)(i:∀ x∈w,I00 x)(l:w.length<=140737488355328):∀(d k fuel:Nat) (v:Int),k+d=w.length->d<fuel ->
  w7 w r n es fuel v (k:Int)=some (bif decide ((w4 (r,n,es) v (w.drop k)).2<d)then .inl (-1,false)else .inr (w4 (r,n,es) v (w.drop k)).1)
 |d,k,0,v,c,hf=>by omega
 |0,k,fuel+1,v,c,hf=>by
  rw[w7.eq_2,if_neg (by simp;omega),T1 (by omega)]
  rfl
 |d+1,k,fuel+1,v,c,hf=>by
  have a:k<w.length:=by omega
  have b:=a7 a
  have j:=i _ (List.getElem_mem a)
  generalize w[k]=x at b j
  rw[w7.eq_2,if_pos (by simp;omega),B3 b,oB,t04 (r,n,es) v x j e,oB,J0 (r05 f g v x),oB,U1 b]
  unfold w4
  by_cases h:j1 (r,n,es) v x<0
  ·rw[if_pos (by simpa using h),if_pos h]
   simp
  ·rw[if_neg (by simpa using h),if_neg h,A2 a (by omega),M0d r n es f g e w i l d (k+1) fuel _ (by omega) (by omega)]
   simp only[Nat.add_lt_add_iff_right]
theorem G0s(g:l0)(hf:V0 g=true)(v:Int)(j:0<=v/\v<g.2.1)(w:List Int)(k:∀ x∈w,I00 x)(a:w.length<=140737488355328):
  j02 g v w=some (bif decide ((w4 g v w).2<w.length)then(-1,false)else((w4 g v w).1,true)):=by
 have f:W0 g=true:=by unfold V0 at hf;simp only[Bool.and_eq_true]at hf;exact hf.1
 obtain⟨e,_,b,d⟩:=J2 f
 have c:=F8 g (by omega)
 obtain⟨r,n,es⟩:=g
 simp only at j b d
 unfold j02
 have h:=M0d r n es e b.2 (by omega) w k a w.length 0 P0 v (by omega) (F1 a)
 rw[show((0:Nat):Int)=0 from rfl,List.drop_zero]at h
 have i:inR 0 (n-1) v=true:=by simp only[inR,Bool.and_eq_true,decide_eq_true_eq];omega
 simp only[c,hf,oB,Bool.not_true,Bool.not_false,K1,D01,w64 (show -9223372036854775808<=n-1 by omega) (show n-1<=9223372036854775807 by omega),i,cond_false,Bool.false_eq_true,if_false,h]
 cases decide ((w4 (r,n,es) v w).2<w.length)<;>rfl
theorem O1{g:l0}(h:V0 g=true):inG g/\(1<=g.1/\g.1<=3)/\(1<=g.2.1/\g.2.1<=40)/\g.2.2.length<=120:=by
 unfold V0 at h
 simp only[Bool.and_eq_true]at h
 exact J2 h.1
def G0g(v:Int)(e:Q0):Nat:=(if e.1=v then 1 else 0)+(if e.2.2=v then 1 else 0)
def s00(v:Int):List Q0->Nat
 | []=>0
 |e::r=>G0g v e+s00 v r
theorem s0r(v:Int)(e:Q0):G0g v e<=2:=by unfold G0g;split<;>split<;>omega
theorem T0i(v:Int):∀ l,s00 v l<=2*l.length
 | []=>by simp[s00]
 |e::r=>by have:=s0r v e;have:=T0i v r;simp only[s00,List.length_cons];omega
theorem C0f(es:List Q0)(v:Int)(o:es.length<=1099511627776):∀(d k fuel acc:Nat),k+d=es.length->d<fuel->acc<=2*k ->
  T3 es v fuel (acc:Int) (k:Int)=some ((acc+s00 v (es.drop k):Nat):Int)
 |d,k,0,acc,j,hf,i=>by omega
 |0,k,fuel+1,acc,j,hf,i=>by
  rw[T3.eq_2,if_neg (by simp;omega),T1 (by omega)];rfl
 |d+1,k,fuel+1,acc,j,hf,i=>by
  have m:k<es.length:=by omega
  have f:=a7 m
  generalize es[k]=e at f
  obtain⟨a,l,b⟩:=e
  have c:=λn h=>C0f es v o d (k+1) fuel n (by omega) (by omega) h
  have g:IntKind.i64.wrap ((acc:Int)+1)=((acc+1:Nat):Int):=by rw[w64 (by omega) (by omega)];rfl
  have p:IntKind.i64.wrap (((acc+1:Nat):Int)+1)=((acc+2:Nat):Int):=by rw[w64 (by omega) (by omega)];rfl
  rw[T3.eq_2,if_pos (by simp;omega),B3 f,U1 f]
  simp only[oB,s00,G0g,A2 m (show es.length<=9223372036854775807 by omega)]
  by_cases c1:a=v
  ·rw[if_pos (by simpa using c1),if_pos c1]
   by_cases c2:b=v
   ·rw[if_pos (by simpa using c2),if_pos c2,g,p,c _ (by omega)];congr 2;omega
   ·rw[if_neg (by simpa using c2),if_neg c2,g,c _ (by omega)];congr 2;omega
  ·rw[if_neg (by simpa using c1),if_neg c1]
   by_cases c2:b=v
   ·rw[if_pos (by simpa using c2),if_pos c2,g,c _ (by omega)];congr 2;omega
   ·rw[if_neg (by simpa using c2),if_neg c2,c _ (by omega)];congr 2;omega
theorem D0f(es:List Q0)(v:Int):∀(fuel:Nat) (x y:Int),E5 es v fuel x y=T3 es v fuel x y
 |0,x,y=>rfl
 |fuel+1,x,y=>by
  rw[E5.eq_2,T3.eq_2]
  simp only[D0f es v fuel]
  by_cases c:(decide (y<((es.length:Nat):Int)))=true
  ·rw[if_pos c,if_pos c]
   cases hg:gi es y with
   |none=>rfl
   |some e=>simp only[oB]
  ·rw[if_neg c,if_neg c]
theorem P0c(g:l0)(v:Int)(a:g.2.2.length<=1099511627776):i00 g v=some ((s00 v g.2.2:Nat):Int):=by
 obtain⟨r,n,es⟩:=g
 unfold i00
 have h:=C0f es v a es.length 0 P0 0 (by omega) (F1 (by simp only at a;omega)) (Nat.zero_le _)
 rw[show((0:Nat):Int)=0 from rfl,List.drop_zero,Nat.zero_add]at h
 simp only[h,oB]
theorem y0h(g:l0)(v:Int)(a:g.2.2.length<=1099511627776):T00 g v=some ((s00 v g.2.2:Nat):Int):=by
 have h:=P0c g v a
 obtain⟨r,n,es⟩:=g
 unfold T00
 unfold i00 at h
 simp only[D0f]at h ⊢
 exact h
def m07(g h:l0):Bool:=decide (g=h)
theorem r0n(x y:Q0):eqE x y=true↔x=y:=by simp[eqE]
theorem N0d(a b:List Q0)(l:a.length=b.length)(j:a.length<=9223372036854775807):∀(d k fuel:Nat),k+d=a.length->d<fuel ->
  J1 a b fuel (k:Int)=some (if a.drop k=b.drop k then .inr ()else .inl false)
 |d,k,0,g,hf=>by omega
 |0,k,fuel+1,g,hf=>by
  rw[J1.eq_2,if_neg (by simp;omega),T1 (by omega),T1 (by omega)];rfl
 |d+1,k,fuel+1,g,hf=>by
  have i:k<a.length:=by omega
  have m:k<b.length:=by omega
  have e:=a7 i
  have f:=a7 m
  generalize a[k]=x at e
  generalize b[k]=y at f
  have o:=N0d a b l j d (k+1) fuel (by omega) (by omega)
  rw[J1.eq_2,if_pos (by simp;omega),B3 e,B3 f,U1 e,U1 f]
  simp only[oB,A2 i j,o]
  by_cases c:x=y
  ·subst c
   rw[if_neg (by simp[eqE])]
   simp
  ·have n:eqE x y=false:=Bool.eq_false_iff.2 λh=>c ((r0n x y).1 h)
   rw[if_pos (show(!eqE x y)=true by rw[n];rfl),if_neg (by simp[c])]
theorem E0f(a b:List Q0)(d:a.length<=9223372036854775807):Z2 a b=some (decide (a=b)):=by
 unfold Z2
 by_cases hab:a.length=b.length
 ·have h:=N0d a b hab d a.length 0 P0 (by omega) (by unfold P0;omega)
  rw[if_neg (by simp;omega),show(0:Int)=((0:Nat):Int) from rfl,h,List.drop_zero,List.drop_zero]
  by_cases c:a=b
  ·rw[if_pos c];simp[d9,c]
  ·rw[if_neg c];simp[d9,c]
 ·rw[if_pos (by simp;omega)]
  congr 1
  symm
  simp
  intro h;exact hab (by rw[h])
theorem Q0c(g h:l0)(b:g.2.2.length<=9223372036854775807):B6 g h=some (m07 g h):=by
 obtain⟨r,n,es⟩:=g
 obtain⟨d,c,a⟩:=h
 unfold B6 m07
 simp only[Prod.mk.injEq]
 by_cases c1:r=d<;>by_cases c2:n=c<;>simp[c1,c2,K1,C3,E0f es a b]
theorem z0h(a b:List Q0):∀(fuel:Nat) (k:Int),t6 a b fuel k=J1 a b fuel k
 |0,k=>rfl
 |fuel+1,k=>by
  rw[t6.eq_2,J1.eq_2]
  simp only[z0h a b fuel]
theorem R0c(g h:l0)(b:g.2.2.length<=9223372036854775807):T4 g h=some (m07 g h):=by
 have a:=E0f g.2.2 h.2.2 b
 obtain⟨r,n,es⟩:=g
 obtain⟨d,c,e⟩:=h
 unfold T4 m07
 unfold Z2 at a
 simp only[z0h,Prod.mk.injEq]at a ⊢
 by_cases c1:r=d
 ·by_cases c2:n=c
  ·simp only[c1,c2,decide_true,Bool.not_true,cond_false,true_and]
   rw[←a]
  ·simp[c1,c2]
 ·simp[c1]
def goE(x:Q0):List Q0->Bool×List Q0
 | []=>(false,[])
 |y::l=>if U0 x y<0 then(true,x::y::l)else if U0 x y=0 then(true,y::l)else((goE x l).1,y::(goE x l).2)
theorem s0n(x:Q0):∀ l,x00 U0 x l=bif(goE x l).1 then(goE x l).2 else(goE x l).2 ++ [x]
 | []=>rfl
 |y::l=>by
  have a:=s0n x l
  unfold x00 goE
  by_cases c1:U0 x y<0
  ·rw[if_pos c1,if_pos c1];rfl
  ·rw[if_neg c1,if_neg c1]
   by_cases c2:U0 x y=0
   ·rw[if_pos c2,if_pos c2];rfl
   ·rw[if_neg c2,if_neg c2,a];cases (goE x l).1<;>rfl
theorem S0c(l:List Q0)(w0 i j:Int)(n:l.length<=1099511627776):∀(d k fuel:Nat) (acc:List Q0),k+d=l.length->d<fuel->acc.length<=k+1 ->
  N4 l w0 i j fuel true (k:Int) acc=some (true,acc++l.drop k)
 |d,k,0,acc,g,hf,f=>by omega
 |0,k,fuel+1,acc,g,hf,f=>by
  rw[N4.eq_2,if_neg (by simp;omega),T1 (by omega),List.append_nil]
 |d+1,k,fuel+1,acc,g,hf,f=>by
  have h:k<l.length:=by omega
  have c:=a7 h
  generalize l[k]=e at c
  obtain⟨a,x,b⟩:=e
  have o:=S0c l w0 i j n d (k+1) fuel (acc ++ [(a,x,b)]) (by omega) (by omega) (by simp;omega)
  rw[N4.eq_2,if_pos (by simp;omega),U1 c]
  simp only[B3 c,oB,B03,J0 (x0e _ _),A2 h (show l.length<=9223372036854775807 by omega),Bool.not_true]
  have m:∀ b:Bool,(bif b then false else false)=false:=λb=>by cases b<;>rfl
  simp only[m,Bool.false_eq_true,if_false]
  rw[J0 (by simp;omega),oB,o]
  simp
theorem F0f(l:List Q0)(w0 c f:Int)(h:l.length<=1099511627776):∀(d k fuel:Nat) (acc:List Q0),k+d=l.length->d<fuel->acc.length=k ->
  N4 l w0 c f fuel false (k:Int) acc=some ((goE (w0,c,f) (l.drop k)).1,acc++(goE (w0,c,f) (l.drop k)).2)
 |d,k,0,acc,j,hf,i=>by omega
 |0,k,fuel+1,acc,j,hf,i=>by
  rw[N4.eq_2,if_neg (by simp;omega),T1 (by omega)];simp[goE]
 |d+1,k,fuel+1,acc,j,hf,i=>by
  have m:k<l.length:=by omega
  have g:=a7 m
  generalize l[k]=e at g
  obtain⟨a,x,b⟩:=e
  have n:=F0f l w0 c f h d (k+1) fuel (acc ++ [(a,x,b)]) (by omega) (by omega) (by simp;omega)
  have o:=S0c l w0 c f h d (k+1) fuel (acc ++ [(a,x,b)]) (by omega) (by omega) (by simp;omega)
  have p:=S0c l w0 c f h d (k+1) fuel ((acc ++ [(w0,c,f)]) ++ [(a,x,b)]) (by omega) (by omega) (by simp;omega)
  rw[N4.eq_2,if_pos (by simp;omega),U1 g]
  simp only[B3 g,oB,B03,J0 (x0e _ _),A2 m (show l.length<=9223372036854775807 by omega),Bool.not_true,Bool.not_false,goE]
  show _=_
  unfold w0f
  by_cases c1:U0 (w0,c,f) (a,x,b)=0
  ·rw[if_pos (by simpa using c1),if_neg (by simp[c1]),if_neg (by omega),if_pos c1]
   rw[J0 (by simp;omega),oB,o];simp
  ·rw[if_neg (by simpa using c1)]
   by_cases c2:U0 (w0,c,f) (a,x,b)<0
   ·rw[if_pos (by simp[c2]),if_pos c2,J0 (by simp;omega),oB,J0 (by simp;omega),oB,p];simp
   ·rw[if_neg (by simp[c2]),if_neg c2,if_neg c1,J0 (by simp;omega),oB,n];simp
theorem D06(l:List Q0)(e:Q0)(c:l.length<=1099511627776):Q6 l e=some (x00 U0 e l):=by
 obtain⟨w0,a,b⟩:=e
 unfold Q6
 have h:=F0f l w0 a b c l.length 0 P0 [] (by omega) (F1 (by omega)) rfl
 rw[show((0:Nat):Int)=0 from rfl,List.drop_zero,List.nil_append]at h
 simp only[h,oB,s0n]
 have d:∀ l:List Q0,(goE (w0,a,b) l).2.length<=l.length+1:=λl=>by
  induction l with
  |nil=>simp[goE]
  |cons y l f =>
   unfold goE
   split
   ·simp
   ·split
    ·simp
    ·simp only[List.length_cons];omega
 have:=d l
 cases (goE (w0,a,b) l).1 with
 |true=>rfl
 |false =>
  simp only[Bool.not_false,if_true,cond_false]
  rw[J0 (by simp;omega),oB]
theorem n07(e:Q0):∀ l:List Q0,(x00 U0 e l).length<=l.length+1
 | []=>by simp[x00]
 |y::l=>by
  have:=n07 e l
  unfold x00
  split
  ·simp
  ·split
   ·simp
   ·simp only[List.length_cons];omega
theorem F0k(es:List Q0)(a:es.length<=1099511627776):u01 es=some (l7 U0 [] es):=by
 unfold u01
 rw[J0 (by simp;omega),oB,J0 (by simp;omega),oB,List.nil_append]
 exact congrArg some (u0k A4 r0n es es λ_=>Iff.rfl)
theorem v01(g:l0)(a:g.2.2.length<=1099511627776):W3 g=some g:=by
 obtain⟨r,n,es⟩:=g
 unfold W3
 simp only
 rw[J0 (by simp only[List.length_nil,Nat.zero_add];simp only at a;omega)];rfl
theorem u04(g:l0)(a:g.2.2.length<=1099511627776):n5 g=some g:=by
 obtain⟨r,n,es⟩:=g
 unfold n5
 simp only
 rw[J0 (by simp only[List.length_nil,Nat.zero_add];simp only at a;omega)];rfl
inductive Rch (es:List Q0) (v:Int):Int->Prop
 |base:Rch es v v
 |fwd {e:Q0}:e∈es->Rch es v e.1->Rch es v e.2.2
 |bwd {e:Q0}:e∈es->Rch es v e.2.2->Rch es v e.1
theorem Rch.closed{es:List Q0}{v:Int}:∀ e∈es,Rch es v e.1↔Rch es v e.2.2:=λe a=>⟨.fwd a,.bwd a⟩
theorem Rch.sub{es:List Q0}{v:Int}{P:Int->Prop}(c:P v)(a:∀ e∈es,P e.1↔P e.2.2):∀ {x},Rch es v x->P x
 |_,.base=>c
 |_,.fwd b h=>(a _ b).1 (Rch.sub c a h)
 |_,.bwd b h=>(a _ b).2 (Rch.sub c a h)
def y00(S:List Bool)(i:Int):Bool:=S.getD i.toNat false
def stJ(S:List Bool)(e:Q0):List Bool:=(S.set e.1.toNat true).set e.2.2.toNat true
def pJ:List Q0->Bool->List Bool->Bool×List Bool
 | [],c,S=>(c,S)
 |e::r,c,S=>bif y00 S e.1 == y00 S e.2.2 then pJ r c S else pJ r true (stJ S e)
def cF:List Bool->Nat
 | []=>0
 |b::r=>(bif b then 0 else 1)+cF r
theorem k0m:∀(S:List Bool) (i:Nat),cF (S.set i true)<=cF S
 | [],i=>by simp[cF]
 |b::r,0=>by simp[cF]
 |b::r,i+1=>by have:=k0m r i;simp only[List.set_cons_succ,cF];omega
theorem W0p:∀(S:List Bool) (i:Nat),S[i]?=some false->cF (S.set i true)<cF S
 | [],i,h=>by simp at h
 |b::r,0,h=>by simp at h;subst h;simp[cF]
 |b::r,i+1,h=>by have:=W0p r i (by simpa using h);simp only[List.set_cons_succ,cF];omega
theorem U0r:∀ S:List Bool,cF S<=S.length
 | []=>by simp[cF]
 |b::r=>by have:=U0r r;cases b<;>simp only[cF,List.length_cons,cond_true,cond_false]<;>omega
def inN(n:Nat)(es:List Q0):Prop:=∀ e∈es,(0<=e.1/\e.1<(n:Int))/\(0<=e.2.2/\e.2.2<(n:Int))
theorem V08{S:List Bool}{i:Nat}(h:i<S.length)(x:Int):y00 (S.set i true) x=(decide (x.toNat=i) || y00 S x):=by
 unfold y00
 rw[List.getD_eq_getElem?_getD,List.getD_eq_getElem?_getD,List.getElem?_set]
 by_cases c:i=x.toNat
 ·rw[if_pos c,if_pos (by omega)];simp[c]
 ·rw[if_neg c]
  have:decide (x.toNat=i)=false:=by simp;exact λe=>c e.symm
  rw[this];rfl
theorem l0m:∀(es:List Q0) (c:Bool) (S:List Bool),(pJ es c S).2.length=S.length
 | [],c,S=>rfl
 |e::r,c,S=>by
  unfold pJ
  cases y00 S e.1 == y00 S e.2.2
  ·simp only[cond_false];rw[l0m r];simp[stJ]
  ·simp only[cond_true];exact l0m r c S
theorem U0i{n:Nat}:∀(es:List Q0) (c:Bool) (a:List Bool),a.length=n->inN n es->∀ x,y00 a x=true->y00 (pJ es c a).2 x=true
 | [],c,a,b,d,x,h=>h
 |e::r,c,a,b,d,x,h=>by
  have f:=d e mS
  have g:inN n r:=λe f=>d e (mC _ f)
  unfold pJ
  cases y00 a e.1 == y00 a e.2.2
  ·simp only[cond_false]
   refine U0i r _ _ (by simp[stJ,b]) g x ?_
   rw[stJ,V08 (by rw[List.length_set];omega),V08 (by omega),h];simp
  ·simp only[cond_true];exact U0i r c a b g x h
theorem G0f{n:Nat}{P:Int->Prop}:∀(es:List Q0) (c:Bool) (a:List Bool),a.length=n->inN n es->(∀ e∈es,P e.1↔P e.2.2)->(∀ x,0<=x->y00 a x=true->P x)->∀ x,0<=x->y00 (pJ es c a).2 x=true->P x
 | [],c,a,g,i,f,d,x,h0,h=>d x h0 h
 |e::r,c,a,g,i,f,d,x,h0,h=>by
  have b:=i e mS
  have m:inN n r:=λe b=>i e (mC _ b)
  have j:=λe b=>f e (mC _ b)
  have k:=f e mS
  unfold pJ at h
  cases hb:y00 a e.1 == y00 a e.2.2
  ·rw[hb]at h
   refine G0f r true (stJ a e) (by simp[stJ,g]) m j (λy o h=>?_) x h0 h
   rw[stJ,V08 (by rw[List.length_set];omega),V08 (by omega)]at h
   simp only[Bool.or_eq_true,decide_eq_true_eq]at h
   have l:P e.1∨P e.2.2:=by
    cases h1:y00 a e.1
    ·cases h2:y00 a e.2.2
     ·rw[h1,h2]at hb;cases hb
     ·exact .inr (d _ b.2.1 h2)
    ·exact .inl (d _ b.1.1 h1)
   rcases h with h|h|h
   ·have:y=e.2.2:=by omega
    subst this;exact l.elim k.1 id
   ·have:y=e.1:=by omega
    subst this;exact l.elim id k.2
   ·exact d y o h
  ·rw[hb]at h
   exact G0f r c a g m j d x h0 h
theorem m0m{n:Nat}:∀(es:List Q0) (c:Bool) (a:List Bool),a.length=n->inN n es->cF (pJ es c a).2<=cF a/\((pJ es c a).1=true->c=true∨cF (pJ es c a).2<cF a)/\((pJ es c a).1=false->c=false/\(pJ es c a).2=a/\∀ e∈es,y00 a e.1=y00 a e.2.2)
 | [],c,a,k,l=>⟨Nat.le_refl _,λh => .inl h,λh=>⟨h,rfl,λe b=>nomatch b⟩⟩
 |e::r,c,a,k,l=>by
  have b:=l e mS
  have s:inN n r:=λe b=>l e (mC _ b)
  unfold pJ
  cases hb:y00 a e.1 == y00 a e.2.2
  ·simp only[cond_false]
   obtain⟨m,o,d⟩:=m0m r true (stJ a e) (by simp[stJ,k]) s
   have v:cF (stJ a e)<cF a:=by
    have g:∀(x:Int),0<=x->x<n->y00 a x=false->a[x.toNat]?=some false:=λx w y j=>by
     have p:x.toNat<a.length:=by omega
     unfold y00 at j
     rw[List.getD_eq_getElem?_getD,List.getElem?_eq_getElem p]at j
     rw[List.getElem?_eq_getElem p];simpa using j
    cases g1:y00 a e.1
    ·have:=W0p a _ (g _ b.1.1 b.1.2 g1)
     have:=k0m (a.set e.1.toNat true) e.2.2.toNat
     unfold stJ;omega
    ·have f:y00 a e.2.2=false:=by
      cases f:y00 a e.2.2
      ·rfl
      ·rw[g1,f]at hb;cases hb
     have u:(a.set e.1.toNat true)[e.2.2.toNat]?=some false:=by
      rw[List.getElem?_set]
      by_cases q:e.1.toNat=e.2.2.toNat
      ·exfalso
       have:e.1=e.2.2:=by omega
       rw[this,f]at g1;cases g1
      ·rw[if_neg q];exact g _ b.2.1 b.2.2 f
     have:=W0p _ _ u
     have:=k0m a e.1.toNat
     unfold stJ;omega
   refine⟨by omega,λ_ => .inr (by omega),λh=>?_⟩
   have:=(d h).1;cases this
  ·simp only[cond_true]
   obtain⟨m,o,d⟩:=m0m r c a k s
   refine⟨m,o,λh=>⟨(d h).1,(d h).2.1,λt i=>?_⟩⟩
   rcases List.mem_cons.1 i with rfl|i
   ·simpa using hb
   ·exact(d h).2.2 t i
theorem giB{a:List Bool}{n:Nat}(f:a.length=n){x:Int}(h0:0<=x)(d:x<n):gi a x=some (y00 a x):=by
 have c:x.toNat<a.length:=by omega
 have e:x=((x.toNat:Nat):Int):=by omega
 have b:gi a ((x.toNat:Nat):Int)=some (y00 a x):=by
  rw[H0c,List.getElem?_eq_getElem c]
  unfold y00
  rw[List.getD_eq_getElem?_getD,List.getElem?_eq_getElem c];rfl
 rw[←e]at b;exact b
theorem A0h(es:List Q0){n:Nat}(q:inN n es)(p:es.length<=9223372036854775807):∀(d k fuel:Nat) (c:Bool) (f:List Bool),f.length=n->k+d=es.length->d<fuel ->
  E4 es fuel c (k:Int) f=some (pJ (es.drop k) c f)
 |d,k,0,c,f,g,m,hf=>by omega
 |0,k,fuel+1,c,f,g,m,hf=>by
  rw[E4.eq_2,if_neg (by simp;omega),T1 (by omega)];rfl
 |d+1,k,fuel+1,c,f,g,m,hf=>by
  have o:k<es.length:=by omega
  have j:=a7 o
  have i:=q _ (List.mem_of_getElem? j)
  generalize es[k]=e at j i
  obtain⟨a,l,b⟩:=e
  have s:=λu t h=>A0h es q p d (k+1) fuel u t h (by omega) (by omega)
  rw[E4.eq_2,if_pos (by simp;omega),U1 j]
  simp only[B3 j,oB,giB g i.1.1 i.1.2,giB g i.2.1 i.2.2,A2 o p,giB (show(f.set a.toNat true).length=n by simp[g]) i.2.1 i.2.2,pJ]
  cases hb:y00 f a == y00 f b
  ·simp only[Bool.not_false,if_true,cond_false]
   exact s _ _ (by simp[g])
  ·simp only[Bool.not_true,Bool.false_eq_true,if_false,cond_true]
   exact s _ _ g
theorem B0h(es:List Q0){n:Nat}(f:inN n es)(z:es.length<=9223372036854775806):∀(m fuel:Nat) (a:List Bool),a.length=n->cF a<=m->m+1<fuel ->
  ∃ b,W4 es fuel true a=some b/\b.length=n/\(∀ x,y00 a x=true->y00 b x=true)/\(∀ e∈es,y00 b e.1=y00 b e.2.2) /\
   ∀ P:Int->Prop,(∀ e∈es,P e.1↔P e.2.2)->(∀ x,0<=x->y00 a x=true->P x)->∀ x,0<=x->y00 b x=true->P x
 |m,0,a,d,B,hf=>by omega
 |m,fuel+1,a,d,B,hf=>by
  have h0:=A0h es f (by omega) es.length 0 P0 false a d (by omega) (by unfold P0;omega)
  rw[show((0:Nat):Int)=0 from rfl,List.drop_zero]at h0
  obtain⟨p,i,j⟩:=m0m es false a d f
  have A:=l0m es false a
  rw[W4.eq_2,if_pos rfl,h0,oB]
  have l:=U0i es false a d f
  have o:=λP=>G0f (P:=P) es false a d f
  generalize pJ es false a=q at *
  obtain⟨c,b⟩:=q
  simp only at p i j A l o ⊢
  cases c with
  |true =>
   rcases i rfl with h|h
   ·cases h
   ·obtain⟨S2,s,t,u,v,w⟩:=B0h es f z (m-1) fuel b (by omega) (by omega) (by omega)
    exact⟨S2,s,t,λx C=>u x (l x C),v,λP k g=>w P k (o P k g)⟩
  |false =>
   obtain⟨_,e,y⟩:=j rfl
   subst e
   obtain _|fuel:=fuel
   ·omega
   ·rw[W4.eq_2,if_neg (by simp)]
    exact⟨_,rfl,d,λx h=>h,y,λP _ g=>g⟩
theorem G0k(r:Int)(n:Nat)(es:List Q0)(p:inN n es)(o:es.length<=9223372036854775806)(s:1<=n)(t:n<=140737488355328):
  ∃ a,o00 (r,(n:Int),es) 0=some a/\a.length=n/\∀ x,0<=x->x<(n:Int)->(y00 a x=true↔Rch es 0 x):=by
 unfold o00
 simp only[Int.toNat_natCast]
 have m:gi (List.replicate n (false:Bool)) 0=some false:=by
  rw[J0c (x:=false)];rw[List.getElem?_replicate,if_pos (by omega)]
 rw[J0 (by omega),oB,m,oB]
 have k:((List.replicate n (false:Bool)).set (0:Int).toNat true).length=n:=by simp
 obtain⟨b,d,f,g,i,j⟩:=B0h es p o n P0 _ k (by have:=U0r ((List.replicate n (false:Bool)).set (0:Int).toNat true);omega) (by unfold P0;omega)
 rw[d]
 have c:∀ x,y00 ((List.replicate n (false:Bool)).set (0:Int).toNat true) x=decide (x.toNat=0):=λx=>by
  rw[V08 (by simp;omega)]
  have:y00 (List.replicate n false) x=false:=by
   unfold y00
   rw[List.getD_eq_getElem?_getD,List.getElem?_replicate]
   split<;>rfl
  rw[this];simp
 refine⟨b,rfl,f,λx h0 q=>⟨λh=>?_,λh=>?_⟩⟩
 ·refine j (Rch es 0) Rch.closed (λy u h=>?_) x h0 h
  rw[c]at h
  have:y=0:=by simp at h;omega
  subst this;exact .base
 ·exact Rch.sub (P:=λx=>y00 b x=true) (g 0 (by rw[c];rfl)) (λe l=>by rw[i e l]) h
theorem V0r(l:List Int)(w:Int)(g:l.length<=9223372036854775807):∀(d k fuel:Nat),k+d=l.length->d<fuel ->
  R9 l w fuel (k:Int)=some (if w∈l.drop k then .inl true else .inr ())
 |d,k,0,b,hf=>by omega
 |0,k,fuel+1,b,hf=>by
  rw[R9.eq_2,if_neg (by simp;omega),T1 (by omega)];simp
 |d+1,k,fuel+1,b,hf=>by
  have f:k<l.length:=by omega
  have a:=a7 f
  generalize l[k]=x at a
  have i:=V0r l w g d (k+1) fuel (by omega) (by omega)
  rw[R9.eq_2,if_pos (by simp;omega),U1 a]
  simp only[B3 a,oB,A2 f g,i,List.mem_cons]
  by_cases c:x=w
  ·rw[if_pos (by simpa using c),if_pos (.inl c.symm)]
  ·rw[if_neg (by simpa using c)]
   by_cases c2:w∈l.drop (k+1)
   ·rw[if_pos c2,if_pos (.inr c2)]
   ·rw[if_neg c2,if_neg (λh=>h.elim (λe=>c e.symm) c2)]
theorem y0e(l:List Int)(w:Int)(a:l.length<=9223372036854775807):J9 l w=some (decide (w∈l)):=by
 unfold J9
 have h:=V0r l w a l.length 0 P0 (by omega) (by unfold P0;omega)
 rw[show((0:Nat):Int)=0 from rfl,List.drop_zero]at h
 rw[h,oB]
 by_cases c:w∈l
 ·rw[if_pos c];simp[d9,c]
 ·rw[if_neg c];simp[d9,c]
def s1(u:List Int)(e:Q0):List Int:=if e.1∈u then x00 Z9 e.2.2 u else u
def s2(u:List Int)(e:Q0):List Int:=if e.2.2∈u then x00 Z9 e.1 u else u
def pS:List Q0->List Int->List Int
 | [],u=>u
 |e::r,u=>pS r (s2 (s1 u e) e)
theorem T0c{u:List Int}{e:Q0}{x:Int}:x∈s1 u e↔x∈u∨(e.1∈u/\x=e.2.2):=by
 unfold s1
 split
 ·rename_i h;rw[N04 q03];constructor
  ·rintro(a|a)
   ·exact .inr ⟨h,a⟩
   ·exact .inl a
  ·rintro(a|⟨_,a⟩)
   ·exact .inr a
   ·exact .inl a
 ·rename_i h;constructor
  ·exact .inl
  ·rintro(a|⟨a,_⟩)
   ·exact a
   ·exact absurd a h
theorem U0c{u:List Int}{e:Q0}{x:Int}:x∈s2 u e↔x∈u∨(e.2.2∈u/\x=e.1):=by
 unfold s2
 split
 ·rename_i h;rw[N04 q03];constructor
  ·rintro(a|a)
   ·exact .inr ⟨h,a⟩
   ·exact .inl a
  ·rintro(a|⟨_,a⟩)
   ·exact .inr a
   ·exact .inl a
 ·rename_i h;constructor
  ·exact .inl
  ·rintro(a|⟨a,_⟩)
   ·exact a
   ·exact absurd a h
theorem X0p(u:List Int)(e:Q0):(s1 u e).length<=u.length+1:=by
 unfold s1;split
 ·exact l07 _ _
 ·omega
theorem Y0p(u:List Int)(e:Q0):(s2 u e).length<=u.length+1:=by
 unfold s2;split
 ·exact l07 _ _
 ·omega
theorem n0m:∀(es:List Q0) (u:List Int),(pS es u).length<=u.length+2*es.length
 | [],u=>by simp[pS]
 |e::r,u=>by
  have:=n0m r (s2 (s1 u e) e)
  have:=Y0p (s1 u e) e
  have:=X0p u e
  simp only[pS,List.length_cons];omega
theorem X07:∀(es:List Q0) (u:List Int) (x:Int),x∈u->x∈pS es u
 | [],u,x,h=>h
 |e::r,u,x,h=>X07 r _ x (U0c.2 (.inl (T0c.2 (.inl h))))
theorem H0f{P:Int->Prop}:∀(es:List Q0) (u:List Int),(∀ e∈es,P e.1↔P e.2.2)->(∀ x∈u,P x)->∀ x∈pS es u,P x
 | [],u,b,a=>a
 |e::r,u,b,a=>H0f r _ (λe f=>b e (mC _ f)) λx g=>by
  have d:=b e mS
  have c:∀ y∈s1 u e,P y:=λy i=>by
   rcases T0c.1 i with h|⟨h,rfl⟩
   ·exact a y h
   ·exact d.1 (a _ h)
  rcases U0c.1 g with h|⟨h,rfl⟩
  ·exact c x h
  ·exact d.2 (c _ h)
theorem H0k:∀(es:List Q0) (u:List Int) (e:Q0),e∈es->e.1∈u∨e.2.2∈u->e.1∈pS es u/\e.2.2∈pS es u
 |c::r,u,e,a,h=>by
  simp only[pS]
  rcases List.mem_cons.1 a with rfl|a
  ·have b:e.2.2∈s1 u e:=by
    rcases h with h|h
    ·exact T0c.2 (.inr ⟨h,rfl⟩)
    ·exact T0c.2 (.inl h)
   exact⟨X07 r _ _ (U0c.2 (.inr ⟨b,rfl⟩)),X07 r _ _ (U0c.2 (.inl b))⟩
  ·exact H0k r _ e a (h.imp (λh=>U0c.2 (.inl (T0c.2 (.inl h)))) λh=>U0c.2 (.inl (T0c.2 (.inl h))))
def act(es:List Q0)(u:List Int):Nat:=es.countP λe=>decide (e.1∈u)&&decide (e.2.2∈u)
def clo(es:List Q0)(u:List Int):Prop:=∀ e∈es,e.1∈u↔e.2.2∈u
theorem H0s(es:List Q0)(u:List Int):act es u<=es.length:=List.countP_le_length
theorem C0h{e:Type}{p q:e->Bool}:∀ {l:List e},(∀ x∈l,p x=true->q x=true)->(∃ x∈l,p x=false/\q x=true)->l.countP p<l.countP q
 | [],_,⟨x,a,_⟩=>nomatch a
 |y::l,h,⟨x,a,c,d⟩=>by
  have f:l.countP p<=l.countP q:=List.countP_mono_left λz b=>h z (mC _ b)
  rcases List.mem_cons.1 a with rfl|a
  ·rw[List.countP_cons_of_neg (by simp[c]),List.countP_cons_of_pos d];omega
  ·have g:=C0h (l:=l) (λz b=>h z (mC _ b)) ⟨x,a,c,d⟩
   cases hp:p y
   ·rw[List.countP_cons_of_neg (by simp[hp])]
    have:l.countP q<=(y::l).countP q:=by rw[List.countP_cons];omega
    omega
   ·rw[List.countP_cons_of_pos hp,List.countP_cons_of_pos (h y mS hp)];omega
theorem M0b{es:List Q0}{u:List Int}(h:clo es u)(x:Int):x∈pS es u↔x∈u :=
 ⟨H0f (P:=λx=>x∈u) es u h (λ_ h=>h) x,X07 es u x⟩
theorem Z0p{es:List Q0}{u:List Int}:clo es (pS es u)∨act es u<act es (pS es u):=by
 by_cases h:clo es u
 ·left
  intro e a
  rw[M0b h,M0b h];exact h e a
 ·right
  have:∃ e∈es,¬ (e.1∈u↔e.2.2∈u):=by
   refine Classical.byContradiction λb=>h λe a=>?_
   exact Classical.byContradiction λd=>b ⟨e,a,d⟩
  obtain⟨e,a,c⟩:=this
  refine C0h (λx g h=>?_) ⟨e,a,?_,?_⟩
  ·simp only[Bool.and_eq_true,decide_eq_true_eq]at h ⊢
   exact⟨X07 _ _ _ h.1,X07 _ _ _ h.2⟩
  ·rw[Bool.eq_false_iff]
   intro h
   simp only[Bool.and_eq_true,decide_eq_true_eq]at h
   exact c ⟨λ_=>h.2,λ_=>h.1⟩
  ·have f:e.1∈u∨e.2.2∈u:=by
    refine Classical.byContradiction λb=>c ⟨λh=>absurd (.inl h) b,λh=>absurd (.inr h) b⟩
   have:=H0k es u e a f
   simp only[Bool.and_eq_true,decide_eq_true_eq];exact this
def itS(es:List Q0):Nat->List Int->List Int
 |0,u=>u
 |j+1,u=>itS es j (pS es u)
theorem t0n(es:List Q0):∀(j:Nat) (u:List Int),(itS es j u).length<=u.length+j*(2*es.length)
 |0,u=>by simp[itS]
 |j+1,u=>by have:=t0n es j (pS es u);have:=n0m es u;simp only[itS,Nat.add_mul,Nat.one_mul];omega
theorem u0n(es:List Q0):∀(j:Nat) (u:List Int),clo es u->clo es (itS es j u)
 |0,u,h=>h
 |j+1,u,h=>u0n es j _ λe a=>by rw[M0b h,M0b h];exact h e a
theorem v0n(es:List Q0):∀(j:Nat) (u:List Int),clo es (itS es j u)∨act es u+j<=act es (itS es j u)
 |0,u => .inr (Nat.le_refl _)
 |j+1,u=>by
  rcases Z0p (es:=es) (u:=u)with h|h
  ·exact .inl (u0n es j _ h)
  ·rcases v0n es j (pS es u)with a|a
   ·exact .inl a
   ·right;simp only[itS];omega
theorem I0k(es:List Q0):∀(j:Nat) (u:List Int) (x:Int),x∈u->x∈itS es j u
 |0,u,x,h=>h
 |j+1,u,x,h=>I0k es j _ x (X07 es u x h)
theorem D0h{P:Int->Prop}(es:List Q0)(b:∀ e∈es,P e.1↔P e.2.2):∀(j:Nat) (u:List Int),(∀ x∈u,P x)->∀ x∈itS es j u,P x
 |0,u,a=>a
 |j+1,u,a=>D0h es b j _ (H0f es u b a)
theorem E06(es:List Q0)(v x:Int):x∈itS es (es.length+1) [v]↔Rch es v x:=by
 constructor
 ·exact D0h (P:=Rch es v) es Rch.closed _ _ (λy a=>by simp at a;subst a;exact .base) x
 ·have b:clo es (itS es (es.length+1) [v]):=by
   rcases v0n es (es.length+1) [v]with h|h
   ·exact h
   ·have:=H0s es (itS es (es.length+1) [v]);omega
  exact Rch.sub (P:=λx=>x∈itS es (es.length+1) [v]) (I0k _ _ _ _ (by simp)) b
theorem I0f(es:List Q0)(p:es.length<=9223372036854775807):∀(d k fuel:Nat) (u:List Int),k+d=es.length->d<fuel->u.length+2*d<=1099511627776 ->
  S3 es fuel u (k:Int)=some (pS (es.drop k) u)
 |d,k,0,u,n,hf,q=>by omega
 |0,k,fuel+1,u,n,hf,q=>by
  rw[S3.eq_2,if_neg (by simp;omega),T1 (by omega)];rfl
 |d+1,k,fuel+1,u,n,hf,q=>by
  have o:k<es.length:=by omega
  have m:=a7 o
  generalize es[k]=e at m
  obtain⟨a,l,b⟩:=e
  have i:=λt h=>I0f es p d (k+1) fuel t (by omega) (by omega) h
  have s:=X0p u (a,l,b)
  have g:=Y0p (s1 u (a,l,b)) (a,l,b)
  rw[S3.eq_2,if_pos (by simp;omega),U1 m]
  simp only[B3 m,oB,y0e u _ (by omega),A2 o p,pS]
  by_cases c:a∈u
  ·rw[if_pos (by simpa using c),F0b _ _ (by omega),oB]
   have j:s1 u (a,l,b)=x00 Z9 b u:=if_pos c
   rw[j]at s g ⊢
   rw[y0e _ _ (by omega),oB]
   by_cases c2:b∈x00 Z9 b u
   ·rw[if_pos (by simpa using c2),F0b _ _ (by omega),oB]
    have f:s2 (x00 Z9 b u) (a,l,b)=x00 Z9 a (x00 Z9 b u):=if_pos c2
    rw[f]at g ⊢
    exact i _ (by omega)
   ·rw[if_neg (by simpa using c2)]
    have f:s2 (x00 Z9 b u) (a,l,b)=x00 Z9 b u:=if_neg c2
    rw[f]
    exact i _ (by omega)
  ·rw[if_neg (by simpa using c)]
   have j:s1 u (a,l,b)=u:=if_neg c
   rw[j]at g ⊢
   by_cases c2:b∈u
   ·rw[if_pos (by simpa using c2),F0b _ _ (by omega),oB]
    have f:s2 u (a,l,b)=x00 Z9 a u:=if_pos c2
    rw[f]at g ⊢
    exact i _ (by omega)
   ·rw[if_neg (by simpa using c2)]
    have f:s2 u (a,l,b)=u:=if_neg c2
    rw[f]
    exact i _ (by omega)
theorem J0f(es:List Q0)(c:es.length<=120):∀(d k fuel:Nat) (u:List Int),k+d=es.length+1->d<fuel->u.length<=1+k*240 ->
  J5 es fuel u (k:Int)=some (itS es d u)
 |d,k,0,u,a,hf,b=>by omega
 |0,k,fuel+1,u,a,hf,b=>by
  rw[J5.eq_2,if_neg (by rw[w64 (by omega) (by omega)];simp;omega)];rfl
 |d+1,k,fuel+1,u,a,hf,b=>by
  have h0:=I0f es (by omega) es.length 0 P0 u (by omega) (F1 (by omega)) (by omega)
  rw[show((0:Nat):Int)=0 from rfl,List.drop_zero]at h0
  have e:=J0f es c d (k+1) fuel (pS es u) (by omega) (by omega) (by have:=n0m es u;omega)
  rw[J5.eq_2,if_pos (by rw[w64 (by omega) (by omega)];simp;omega),h0,oB,A2 (show k<1000 by omega) (by omega),e]
  rfl
def getI(P:List Int)(v:Int):Int:=P.getD v.toNat (-1)
def b02:List Int->Nat->List Int->List Int
 |A,k,[]=>A
 |A,k,v::r=>b02 (A.set v.toNat (k:Int)) (k+1) r
def plc(n:Nat)(o:List Int):List Int:=b02 (List.replicate n (-1)) 0 o
theorem K0f:∀(o:List Int) (k:Nat) (A:List Int),(b02 A k o).length=A.length
 | [],k,A=>rfl
 |v::r,k,A=>by rw[b02,K0f r];simp
def inV(n:Nat)(o:List Int):Prop:=∀ v∈o,0<=v/\v<(n:Int)
theorem giI{P:List Int}{n:Nat}(d:P.length=n){x:Int}(h0:0<=x)(c:x<n):gi P x=some (getI P x):=by
 have b:x.toNat<P.length:=by omega
 have e:x=((x.toNat:Nat):Int):=by omega
 have a:gi P ((x.toNat:Nat):Int)=some (getI P x):=by
  rw[H0c,List.getElem?_eq_getElem b]
  unfold getI
  rw[List.getD_eq_getElem?_getD,List.getElem?_eq_getElem b];rfl
 rw[←e]at a;exact a
theorem P04{A:List Int}{v x:Int}{y:Int}(h0:0<=v)(a:v.toNat<A.length)(b:0<=x):getI (A.set v.toNat y) x=if x=v then y else getI A x:=by
 unfold getI
 rw[List.getD_eq_getElem?_getD,List.getD_eq_getElem?_getD,List.getElem?_set]
 by_cases c:x=v
 ·rw[if_pos c,if_pos (by rw[c]),if_pos a];rfl
 ·rw[if_neg c,if_neg (by omega)]
theorem N0b{n:Nat}:∀(o:List Int) (k:Nat) (A:List Int),A.length=n->inV n o->(∀ x,0<=x -> -1<=getI A x/\getI A x<(k:Int))->∀ x,0<=x -> -1<=getI (b02 A k o) x/\getI (b02 A k o) x<((k+o.length:Nat):Int)
 | [],k,A,c,a,h,x,b=>h x b
 |v::r,k,A,c,a,h,x,b=>by
  have e:=a v mS
  have:=N0b r (k+1) (A.set v.toNat (k:Int)) (by simp[c]) (λw f=>a w (mC _ f)) (λy d=>by
   rw[P04 e.1 (by omega) d]
   have:=h y d
   split<;>omega) x b
  rw[b02,List.length_cons,show k+(r.length+1)=k+1+r.length by omega];exact this
theorem W08(n:Nat)(x:Int):getI (List.replicate n (-1)) x = -1:=by
 unfold getI
 rw[List.getD_eq_getElem?_getD,List.getElem?_replicate]
 split<;>rfl
theorem o07{n:Nat}{o:List Int}(b:inV n o){x:Int}(a:0<=x): -1<=getI (plc n o) x/\getI (plc n o) x<(o.length:Int):=by
 have:=N0b o 0 (List.replicate n (-1)) (by simp) b (λx a=>by rw[W08];omega) x a
 rw[Nat.zero_add]at this;exact this
theorem w0n(n:Nat)(o:List Int):(plc n o).length=n:=by unfold plc;rw[K0f];simp
def pE(P:List Int):List Q0->List Q0
 | []=>[]
 |e::r=>bif decide (0<=getI P e.1)&&decide (0<=getI P e.2.2)then(getI P e.1,e.2.1,getI P e.2.2)::pE P r else pE P r
theorem V0i(P:List Int):∀ es,(pE P es).length<=es.length
 | []=>by simp[pE]
 |e::r=>by
  have:=V0i P r
  unfold pE
  cases decide (0<=getI P e.1)&&decide (0<=getI P e.2.2)<;>simp only[cond_true,cond_false,List.length_cons]<;>omega
theorem W0r{n:Nat}{o:List Int}(d:inV n o):∀(es:List Q0),inN n es->inN o.length (pE (plc n o) es)
 | [],c=>λe a=>nomatch a
 |e::r,c=>by
  have f:=W0r d r λe a=>c e (mC _ a)
  have a:=c e mS
  unfold pE
  cases hb:decide (0<=getI (plc n o) e.1)&&decide (0<=getI (plc n o) e.2.2)
  ·simpa only[cond_false] using f
  ·simp only[cond_true]
   simp only[Bool.and_eq_true,decide_eq_true_eq]at hb
   intro g b
   rcases List.mem_cons.1 b with rfl|b
   ·exact⟨⟨hb.1,(o07 d a.1.1).2⟩,hb.2,(o07 d a.2.1).2⟩
   ·exact f g b
def r6(g:l0)(o:List Int):l0:=(g.1,(o.length:Int),l7 U0 [] (pE (plc g.2.1.toNat o) g.2.2))
theorem Q04:∀(r l:List Q0),(l7 U0 l r).length<=l.length+r.length
 | [],l=>by simp[l7]
 |e::r,l=>by have:=Q04 r (x00 U0 e l);have:=n07 e l;simp only[l7,List.length_cons];omega
theorem M0a(g:l0)(o:List Int):(r6 g o).2.2.length<=g.2.2.length:=by
 have:=Q04 (pE (plc g.2.1.toNat o) g.2.2) []
 have:=V0i (plc g.2.1.toNat o) g.2.2
 simp only[r6,List.length_nil]at *;omega
theorem E0h{n:Nat}{r:Int}{es:List Q0}{o:List Int}(c:inV n o)(b:inN n es):inN o.length (r6 (r,(n:Int),es) o).2.2:=by
 intro e a
 simp only[r6,Int.toNat_natCast]at a
 rcases(o9 A4 e _ _).1 a with h|h
 ·cases h
 ·exact W0r c es b e h
theorem x0n(n:Nat)(c:n<=140737488355328):∀(d k fuel:Nat),k+d=n->d<fuel ->
  v00 n fuel (k:Int) (List.replicate k (-1)++List.replicate d 0)=some (List.replicate n (-1))
 |d,k,0,a,hf=>by omega
 |0,k,fuel+1,a,hf=>by
  rw[v00.eq_2,if_neg (by simp;omega),show k=n by omega];simp
 |d+1,k,fuel+1,a,hf=>by
  have b:gi (List.replicate k (-1)++List.replicate (d+1) (0:Int)) (k:Int)=some 0:=by
   rw[H0c,List.getElem?_append_right (by simp)];simp
  have f:=x0n n c d (k+1) fuel (by omega) (by omega)
  rw[v00.eq_2,if_pos (by simp;omega),b,oB,A2 (show k<n by omega) (by omega),Int.toNat_natCast]
  have e:(List.replicate k (-1)++List.replicate (d+1) (0:Int)).set k (-1)=List.replicate (k+1) (-1)++List.replicate d 0:=by
   rw[List.set_append_right _ _ (by simp),List.length_replicate,Nat.sub_self,List.replicate_succ,List.set_cons_zero,List.replicate_succ']
   simp
  rw[e,f]
theorem y0n(o:List Int){n:Nat}(h:inV n o)(g:o.length<=9223372036854775807):∀(d k fuel:Nat) (A:List Int),A.length=n->k+d=o.length->d<fuel ->
  u00 o fuel (k:Int) A=some (b02 A k (o.drop k))
 |d,k,0,A,a,e,hf=>by omega
 |0,k,fuel+1,A,a,e,hf=>by
  rw[u00.eq_2,if_neg (by simp;omega),T1 (by omega)];rfl
 |d+1,k,fuel+1,A,a,e,hf=>by
  have f:k<o.length:=by omega
  have b:=a7 f
  have c:=h _ (List.mem_of_getElem? b)
  generalize o[k]=v at b c
  have i:=y0n o h g d (k+1) fuel (A.set v.toNat (k:Int)) (by simp[a]) (by omega) (by omega)
  rw[u00.eq_2,if_pos (by simp;omega),U1 b,B3 b,oB,giI a c.1 c.2,oB,A2 f g,i]
  rfl
theorem z0n(es:List Q0){n:Nat}(q:inN n es)(t:es.length<=1099511627776)(P:List Int)(g:P.length=n)(r m:Int):∀(d k fuel:Nat) (acc:List Q0),k+d=es.length->d<fuel->acc.length<=k ->
  K9 es P fuel (k:Int) r m acc=some (r,m,acc++pE P (es.drop k))
 |d,k,0,acc,o,hf,j=>by omega
 |0,k,fuel+1,acc,o,hf,j=>by
  rw[K9.eq_2,if_neg (by simp;omega),T1 (by omega)];simp[pE]
 |d+1,k,fuel+1,acc,o,hf,j=>by
  have p:k<es.length:=by omega
  have f:=a7 p
  have c:=q _ (List.mem_of_getElem? f)
  generalize es[k]=e at f c
  obtain⟨a,l,b⟩:=e
  have i:=λs h=>z0n es q t P g r m d (k+1) fuel s (by omega) (by omega) h
  rw[K9.eq_2,if_pos (by simp;omega),U1 f]
  simp only[B3 f,oB,giI g c.1.1 c.1.2,giI g c.2.1 c.2.2,A2 p (show es.length<=9223372036854775807 by omega),pE]
  by_cases c1:0<=getI P a
  ·simp only[show decide (getI P a ≥ 0)=true by simpa using c1,K1,oB,cond_true,show decide (0<=getI P a)=true by simpa using c1,Bool.true_and]
   by_cases c2:0<=getI P b
   ·rw[if_pos (by simpa using c2),J0 (by simp;omega),oB,i _ (by simp;omega)]
    simp[c2]
   ·rw[if_neg (by simpa using c2),i _ (by omega)]
    simp[c2]
  ·simp only[show decide (getI P a ≥ 0)=false by simpa using c1,C3,oB,cond_false,show decide (0<=getI P a)=false by simpa using c1,Bool.false_and]
   rw[if_neg (by simp),i _ (by omega)]
theorem W0i(r:Int)(n:Nat)(es:List Q0)(o:List Int)(d:inN n es)(e:inV n o)(g:n<=1000000)(c:es.length<=1099511627776)(f:o.length<=1099511627776):
  K02 (r,(n:Int),es) o=some (r6 (r,(n:Int),es) o):=by
 unfold K02
 have b:=x0n n (by omega) n 0 P0 (by omega) (F1 (by omega))
 have a:=y0n o e (by omega) o.length 0 P0 (List.replicate n (-1)) (by simp) (by omega) (F1 (by omega))
 have h0:=z0n es d c (plc n o) (w0n n o) r ((o.length:Nat):Int) es.length 0 P0 [] (by omega) (F1 (by omega)) (Nat.le_refl _)
 rw[show((0:Nat):Int)=0 from rfl]at h0 a b
 rw[List.replicate_zero,List.nil_append]at b
 rw[List.drop_zero]at a
 rw[List.drop_zero,List.nil_append]at h0
 simp only[Int.toNat_natCast]
 rw[J0 (by omega),oB,oB,List.length_replicate,J0 (by omega),oB,b,oB,a,oB]
 rw[show b02 (List.replicate n (-1)) 0 o=plc n o from rfl,h0]
 simp only[oB]
 rw[F0k _ (by have:=V0i (plc n o) es;omega),oB]
 rfl
theorem a0q(A:List Int)(i k:Nat):(A.map (·+1)).set i (((k+1:Nat):Int))=(A.set i (k:Int)).map (·+1):=by
 rw[List.map_set];rfl
theorem L0f{A:List Int}{n:Nat}(d:A.length=n){x:Int}(h0:0<=x)(c:x<n):gi (A.map (·+1)) x=some (getI A x+1):=by
 have b:x.toNat<A.length:=by omega
 have e:x=((x.toNat:Nat):Int):=by omega
 have a:gi (A.map (·+1)) ((x.toNat:Nat):Int)=some (getI A x+1):=by
  rw[H0c,List.getElem?_map,List.getElem?_eq_getElem b]
  unfold getI
  rw[List.getD_eq_getElem?_getD,List.getElem?_eq_getElem b];rfl
 rw[←e]at a;exact a
theorem M0f{n:Nat}:∀(o:List Int) (k:Nat) (A:List Int) (x:Int),A.length=n->inV n o->0<=x->x ∉ o->getI (b02 A k o) x=getI A x
 | [],k,A,x,c,a,b,h=>rfl
 |v::r,k,A,x,c,a,b,h=>by
  have f:=a v mS
  rw[b02,M0f r _ _ x (by simp[c]) (λw g=>a w (mC _ g)) b (λd=>h (mC _ d)),P04 f.1 (by omega) b,if_neg (λe=>h (by rw[e];exact mS))]
theorem b0q(r:Int)(n:Nat)(es:List Q0)(o:List Int)(h:inV n o)(l:o.Nodup)(t:1<=n/\n<=1000000)(s:o.length<=1099511627776):∀(d k fuel:Nat) (A:List Int),A.length=n->(∀ x,0<=x -> -1<=getI A x/\getI A x<=1099511627776)->(∀ x∈o.drop k,getI A x = -1)->k+d=o.length->d<fuel ->
  O4 o (n:Int) r es fuel (k:Int) (A.map (·+1))=some (.inr ((b02 A k (o.drop k)).map (·+1)))
 |d,k,0,A,f,i,c,j,hf=>by omega
 |0,k,fuel+1,A,f,i,c,j,hf=>by
  rw[O4.eq_2,if_neg (by simp;omega),T1 (by omega)];rfl
 |d+1,k,fuel+1,A,f,i,c,j,hf=>by
  have m:k<o.length:=by omega
  have a:=a7 m
  have b:=h _ (List.mem_of_getElem? a)
  have g:=U1 a
  generalize o[k]=v at a b g
  have p:(o.drop k).Nodup:=l.sublist (List.drop_sublist _ _)
  rw[g]at p c
  have q:=c v mS
  have w:=b0q r n es o h l t s d (k+1) fuel (A.set v.toNat (k:Int)) (by simp[f]) (λx a=>by
   rw[P04 b.1 (by omega) a];have:=i x a;split<;>omega) (λx a=>by
   have u:=h x (List.mem_of_mem_drop a)
   rw[P04 b.1 (by omega) u.1,if_neg (λe=>(List.nodup_cons.1 p).1 (by rw[←e];exact a))]
   exact c x (mC _ a)) (by omega) (by omega)
  rw[O4.eq_2,if_pos (by simp;omega),g,B3 a]
  simp only[oB,D01,w64 (show -9223372036854775808<=(n:Int)-1 by omega) (show(n:Int)-1<=9223372036854775807 by omega),inR,show decide (0<=v)=true by simpa using b.1,show decide (v<=(n:Int)-1)=true by simp;omega,Bool.and_self,Bool.not_true,Bool.not_false,K1,L0f f b.1 b.2,q,cond_false]
  rw[if_neg (by decide),A2 m (by omega),a0q,w]
  rfl
theorem c0q(es:List Q0){n:Nat}(s:inN n es)(u:es.length<=1099511627776)(P:List Int)(g:P.length=n)(i:∀ x,0<=x -> -1<=getI P x/\getI P x<=1099511627776)(r m:Int):∀(d k fuel:Nat) (acc:List Q0),k+d=es.length->d<fuel->acc.length<=k ->
  j4 es (P.map (·+1)) fuel (k:Int) r m acc=some (r,m,l7 U0 acc (pE P (es.drop k)))
 |d,k,0,acc,p,hf,o=>by omega
 |0,k,fuel+1,acc,p,hf,o=>by
  rw[j4.eq_2,if_neg (by simp;omega),T1 (by omega)];rfl
 |d+1,k,fuel+1,acc,p,hf,o=>by
  have q:k<es.length:=by omega
  have f:=a7 q
  have c:=s _ (List.mem_of_getElem? f)
  generalize es[k]=e at f c
  obtain⟨a,l,b⟩:=e
  have j:=λt h=>c0q es s u P g i r m d (k+1) fuel t (by omega) (by omega) h
  have v:=i a c.1.1
  have w:=i b c.2.1
  rw[j4.eq_2,if_pos (by simp;omega),U1 f]
  simp only[B3 f,oB,L0f g c.1.1 c.1.2,L0f g c.2.1 c.2.2,A2 q (show es.length<=9223372036854775807 by omega),pE]
  by_cases c1:0<=getI P a
  ·simp only[show decide (getI P a+1>0)=true by simp;omega,K1,oB,cond_true,show decide (0<=getI P a)=true by simpa using c1,Bool.true_and]
   by_cases c2:0<=getI P b
   ·rw[if_pos (by simp;omega),w64 (by omega) (by omega),w64 (by omega) (by omega),show getI P a+1-1=getI P a by omega,show getI P b+1-1=getI P b by omega]
    rw[D06 _ _ (by omega),oB,j _ (by have:=n07 (getI P a,l,getI P b) acc;omega)]
    simp[c2,l7]
   ·rw[if_neg (by simp;omega),j _ (by omega)]
    simp[c2]
  ·simp only[show decide (getI P a+1>0)=false by simp;omega,C3,oB,cond_false,show decide (0<=getI P a)=false by simpa using c1,Bool.false_and]
   rw[if_neg (by simp),j _ (by omega)]
theorem N0a(r:Int)(n:Nat)(es:List Q0)(o:List Int)(f:W0 (r,(n:Int),es)=true)(g:inV n o)(l:o.Nodup)(t:1<=o.length)(u:o.length<=n):
  w6 (r,(n:Int),es) o=some (r6 (r,(n:Int),es) o,true):=by
 obtain⟨h,p,q,s⟩:=J2 f
 simp only at p q s
 have m:inN n es:=λe d=>⟨(h e d).1,(h e d).2.1⟩
 have k:=O7 (r,(n:Int),es) (by simp only;omega)
 unfold w6
 have a:=b0q r n es o g l (by omega) (by omega) o.length 0 P0 (List.replicate n (-1)) (by simp) (λx b=>by rw[W08];omega) (λx b=>W08 n x) (by omega) (F1 (by omega))
 have c:=c0q es m (by omega) (plc n o) (w0n n o) (λx b=>by have:=o07 g b;omega) r ((o.length:Nat):Int) es.length 0 P0 [] (by omega) (F1 (by omega)) (Nat.le_refl _)
 rw[show((0:Nat):Int)=0 from rfl,List.drop_zero]at c a
 rw[show(List.replicate n (-1:Int)).map (·+1)=List.replicate n 0 by simp]at a
 rw[show b02 (List.replicate n (-1)) 0 o=plc n o from rfl]at a
 have i:decide (((o.length:Nat):Int)=0)=false:=decide_eq_false (by omega)
 have j:decide (((o.length:Nat):Int)>(n:Int))=false:=decide_eq_false (by omega)
 simp only[k,f,oB,Bool.not_true,cond_false,Int.toNat_natCast,i,j]
 rw[if_neg (by simp),J0 (by omega),oB,a]
 simp only[oB,d9,c]
 rfl
theorem w01:∀(n:Nat) (o:List Int),o.Nodup->inV n o->o.length<=n
 |0,[],_,_=>Nat.le_refl _
 |0,x::r,_,h=>by have:=h x mS;omega
 |n+1,o,c,h=>by
  have d:inV n (o.erase (n:Int)):=λx e=>by
   obtain⟨f,a⟩:=(List.Nodup.mem_erase_iff c).1 e
   have:=h x a;omega
  have b:=w01 n _ (c.erase _) d
  by_cases a:(n:Int)∈o
  ·rw[List.length_erase_of_mem a]at b;omega
  ·rw[List.erase_of_not_mem a]at b;omega
def V4:Nat->Nat->List Int
 |0,_=>[]
 |d+1,i=>(i:Int) :: -(i:Int)::V4 d (i+1)
theorem H01:∀ d i,(V4 d i).length=2*d
 |0,i=>rfl
 |d+1,i=>by simp only[V4,List.length_cons,H01 d];omega
theorem O0b:∀(d i:Nat),i+d<=1000->∀ x∈V4 d i,I00 x
 |0,i,h,x,a=>nomatch a
 |d+1,i,h,x,a=>by
  simp only[V4,List.mem_cons]at a
  rcases a with rfl|rfl|a
  ·exact⟨⟨by omega,by omega⟩,by omega⟩
  ·exact⟨⟨by omega,by omega⟩,by omega⟩
  ·exact O0b d (i+1) (by omega) x a
theorem d0q(R:Nat)(c:R<=900):∀(d i fuel:Nat) (acc:List Int),i+d=R+1->d<fuel->acc.length+2*d<=10000 ->
  g8 (R:Int) fuel (i:Int) acc=some (acc++V4 d i)
 |d,i,0,acc,b,hf,a=>by omega
 |0,i,fuel+1,acc,b,hf,a=>by
  rw[g8.eq_2,if_neg (by simp;omega)];simp[V4]
 |d+1,i,fuel+1,acc,b,hf,a=>by
  have e:=d0q R c d (i+1) fuel (acc ++ [(i:Int),-(i:Int)]) (by omega) (by omega) (by simp;omega)
  have f:IntKind.i64.wrap (0-(i:Int)) = -(i:Int):=by rw[w64 (by omega) (by omega)];omega
  rw[g8.eq_2,if_pos (by simp;omega),f,J0 (by simp;omega),oB,A2 (show i<1000 by omega) (by omega),e]
  simp[V4]
theorem e0q(R:Nat)(c:R<=900):∀(d i fuel:Nat) (acc:List Int),i+d=R+1->d<fuel->acc.length+2*d<=10000 ->
  A6 (R:Int) fuel (i:Int) acc=some (acc++V4 d i)
 |d,i,0,acc,b,hf,a=>by omega
 |0,i,fuel+1,acc,b,hf,a=>by
  rw[A6.eq_2,if_neg (by simp;omega)];simp[V4]
 |d+1,i,fuel+1,acc,b,hf,a=>by
  have e:=e0q R c d (i+1) fuel ((acc ++ [(i:Int)]) ++ [-(i:Int)]) (by omega) (by omega) (by simp;omega)
  have f:IntKind.i64.wrap (0-(i:Int)) = -(i:Int):=by rw[w64 (by omega) (by omega)];omega
  rw[A6.eq_2,if_pos (by simp;omega),f,J0 (by simp;omega),oB,J0 (by simp;omega),oB,A2 (show i<1000 by omega) (by omega),e]
  simp[V4]
theorem X0i(R:Nat)(a:R<=900):N7 (R:Int)=some (V4 R 1):=by
 unfold N7
 rw[show(1:Int)=((1:Nat):Int) from rfl,d0q R a R 1 P0 [] (by omega) (F1 (by omega)) (by simp;omega)];rfl
theorem Y0i(R:Nat)(a:R<=900):R6 (R:Int)=some (V4 R 1):=by
 unfold R6
 rw[show(1:Int)=((1:Nat):Int) from rfl,e0q R a R 1 P0 [] (by omega) (F1 (by omega)) (by simp;omega)];rfl
def M06(u:List Int)(x:Int):List Int:=if 0<=x/\x ∉ u then u ++ [x]else u
def X01(g:l0)(v:Int):List Int->List Int->List Int
 | [],u=>u
 |x::r,u=>X01 g v r (M06 u (j1 g v x))
def R7(g:l0)(a:List Int):Nat->Nat->List Int->List Int
 |0,i,u=>u
 |f+1,i,u=>match u[i]? with
  |some v=>R7 g a f (i+1) (X01 g v a u)
  |none=>u
def gud(n:Nat)(u:List Int):Prop:=u.Nodup/\inV n u
theorem J0k{n:Nat}{u:List Int}{x:Int}(h:gud n u)(i:x = -1∨(0<=x/\x<(n:Int))):gud n (M06 u x):=by
 unfold M06
 split
 ·rename_i g
  refine⟨List.nodup_append.2 ⟨h.1,by simp,λa f b d=>?_⟩,λy c=>?_⟩
  ·simp at d;subst d;exact λe=>g.2 (e▸f)
  ·rcases List.mem_append.1 c with c|c
   ·exact h.2 y c
   ·simp at c;subst c;omega
 ·exact h
theorem N0f(u:List Int)(x:Int):∃ t,M06 u x=u++t:=by
 unfold M06;split
 ·exact⟨_,rfl⟩
 ·exact⟨[],by simp⟩
theorem L03(g:l0)(v:Int):∀(c u:List Int),∃ t,X01 g v c u=u++t
 | [],u=>⟨[],by simp[X01]⟩
 |x::r,u=>by
  obtain⟨d,a⟩:=N0f u (j1 g v x)
  obtain⟨e,b⟩:=L03 g v r (M06 u (j1 g v x))
  exact⟨d++e,by rw[X01,b,a,List.append_assoc]⟩
theorem v04{r:Int}{n:Nat}{es:List Q0}(a:inG (r,(n:Int),es))(v:Int):∀(b u:List Int),gud n u->gud n (X01 (r,(n:Int),es) v b u)
 | [],u,h=>h
 |x::l,u,h=>v04 a v l _ (J0k h (q05 a v x))
theorem O0f{r:Int}{n:Nat}{es:List Q0}(a:inG (r,(n:Int),es))(b:List Int):∀(f i:Nat) (u:List Int),gud n u->gud n (R7 (r,(n:Int),es) b f i u)
 |0,i,u,h=>h
 |f+1,i,u,h=>by
  unfold R7
  split
  ·exact O0f a b f _ _ (v04 a _ _ _ h)
  ·exact h
theorem P0f(g:l0)(a:List Int):∀(f i:Nat) (u:List Int),u.length<=(R7 g a f i u).length
 |0,i,u=>Nat.le_refl _
 |f+1,i,u=>by
  unfold R7
  split
  ·rename_i v _
   obtain⟨t,e⟩:=L03 g v a u
   have:=P0f g a f (i+1) (X01 g v a u)
   rw[e]at this ⊢;simp only[List.length_append]at this;omega
  ·exact Nat.le_refl _
theorem A0n(r:Int)(n:Nat)(es:List Q0)(g:inG (r,(n:Int),es))(A:n<=40)(m:es.length<=1099511627776)(a:List Int)(p:∀ x∈a,I00 x)(z:a.length<=1000000)(i:Nat)(v:Int):∀(d k fuel:Nat) (u:List Int),gud n u->u[i]?=some v->k+d=a.length->d<fuel ->
  U3 a (i:Int) r (n:Int) es fuel (k:Int) u=some (X01 (r,(n:Int),es) v (a.drop k) u)
 |d,k,0,u,c,b,j,hf=>by omega
 |0,k,fuel+1,u,c,b,j,hf=>by
  rw[U3.eq_2,if_neg (by simp;omega),T1 (by omega)];rfl
 |d+1,k,fuel+1,u,c,b,j,hf=>by
  have o:k<a.length:=by omega
  have f:=a7 o
  have q:=p _ (List.mem_of_getElem? f)
  have l:=U1 f
  generalize a[k]=x at f q l
  have D:=w01 n u c.1 c.2
  have B:j1 (r,(n:Int),es) v x = -1∨(0<=j1 (r,(n:Int),es) v x/\j1 (r,(n:Int),es) v x<(n:Int)):=q05 g v x
  have s:=J0k c B
  have w:(M06 u (j1 (r,(n:Int),es) v x))[i]?=some v:=by
   obtain⟨t,e⟩:=N0f u (j1 (r,(n:Int),es) v x)
   rw[e,List.getElem?_append_left (List.getElem?_eq_some_iff.1 b).1];exact b
  have C:=A0n r n es g A m a p z i v d (k+1) fuel _ s w (by omega) (by omega)
  rw[U3.eq_2,if_pos (by simp;omega),l]
  simp only[B3 b,B3 f,oB,t04 (r,(n:Int),es) v x q m,J0 (r05 g (show(n:Int)<=40 by omega) v x),A2 o (show a.length<=9223372036854775807 by omega),X01]
  rw[←C]
  generalize j1 (r,(n:Int),es) v x=y at *
  unfold M06
  by_cases c1:0<=y
  ·simp only[show decide (y ≥ 0)=true by simpa using c1,K1,y0e u y (by omega),oB,cond_true]
   by_cases c2:y∈u
   ·rw[if_neg (by simp[c2]),if_neg (by simp[c2])]
   ·rw[if_pos (by simp[c2]),if_pos ⟨c1,c2⟩,J0 (by simp;omega),oB]
  ·simp only[show decide (y ≥ 0)=false by simpa using c1,C3,oB,cond_false]
   rw[if_neg (by simp),if_neg (λh=>c1 h.1)]
theorem B0n(r:Int)(n:Nat)(es:List Q0)(d:inG (r,(n:Int),es))(m:n<=40)(h:es.length<=1099511627776)(a:List Int)(l:∀ x∈a,I00 x)(k:a.length<=1000000):∀(f i fuel:Nat) (u:List Int),gud n u->i<=u.length->n+1<=i+f->f<fuel ->
  l5 a r (n:Int) es fuel (i:Int) u=some (R7 (r,(n:Int),es) a f i u)
 |f,i,0,u,b,j,g,hf=>by omega
 |0,i,fuel+1,u,b,j,g,hf=>by have:=w01 n u b.1 b.2;omega
 |f+1,i,fuel+1,u,b,j,g,hf=>by
  have p:=w01 n u b.1 b.2
  rw[l5.eq_2,oB,J0 (by omega),oB]
  by_cases hk:i<u.length
  ·have c:=a7 hk
   generalize u[i]=v at c
   have h0:=A0n r n es d m h a l k i v a.length 0 P0 u b c (by omega) (F1 (by omega))
   rw[show((0:Nat):Int)=0 from rfl,List.drop_zero]at h0
   obtain⟨t,e⟩:=L03 (r,(n:Int),es) v a u
   have o:=B0n r n es d m h a l k f (i+1) fuel _ (v04 d v a u b) (by rw[e,List.length_append];omega) (by omega) (by omega)
   rw[if_pos (by simpa using hk),h0,oB,A2 hk (by omega),o]
   simp only[R7,c]
  ·have c:u[i]?=none:=List.getElem?_eq_none (by omega)
   rw[if_neg (by simpa using hk)]
   simp only[R7,c]
def D3(g:l0):List Int:=R7 g (V4 g.1.toNat 1) (g.2.1.toNat+1) 0 [0]
theorem M03{g:l0}(hf:V0 g=true):gud g.2.1.toNat (D3 g)/\1<=(D3 g).length:=by
 obtain⟨b,c,d,e⟩:=O1 hf
 obtain⟨r,n,es⟩:=g
 simp only at c d e
 obtain⟨N,rfl⟩:∃ N:Nat,n=(N:Int):=⟨n.toNat,by omega⟩
 refine⟨?_,?_⟩
 ·exact O0f b _ _ _ _ ⟨by simp,λx a=>by simp at a;subst a;show(0:Int)<=0/\(0:Int)<(((N:Int).toNat:Nat):Int);omega⟩
 ·exact P0f _ _ _ _ [0]
theorem K0k(g:l0)(hf:V0 g=true):g9 g=some (D3 g):=by
 obtain⟨b,c,d,e⟩:=O1 hf
 have f:=F8 g (by omega)
 obtain⟨r,n,es⟩:=g
 simp only at c d e
 obtain⟨N,rfl⟩:∃ N:Nat,n=(N:Int):=⟨n.toNat,by omega⟩
 obtain⟨R,rfl⟩:∃ R:Nat,r=(R:Int):=⟨r.toNat,by omega⟩
 unfold g9
 have h0:=B0n (R:Int) N es b (by omega) (by omega) (V4 R 1) (O0b R 1 (by omega)) (by rw[H01];omega) (N+1) 0 P0 [0] ⟨by simp,λx a=>by simp at a;subst a;omega⟩ (by simp) (by omega) (F1 (by omega))
 simp only[f,hf,oB,Bool.not_true,Y0i R (by omega)]
 rw[show((0:Nat):Int)=0 from rfl]at h0
 rw[if_neg (by simp),h0]
 rfl
theorem C0n{a:List Int}(la:a.length<=1099511627776):a9 a=some a:=by
 unfold a9
 rw[J0 (by simp;omega)];rfl
def A8(W:List (Option (List Int)))(x:Int):Option (List Int):=W.getD x.toNat none
theorem giO{a:List (Option (List Int))}{n:Nat}(f:a.length=n){x:Int}(h0:0<=x)(d:x<n):gi a x=some (A8 a x):=by
 have c:x.toNat<a.length:=by omega
 have e:x=((x.toNat:Nat):Int):=by omega
 have b:gi a ((x.toNat:Nat):Int)=some (A8 a x):=by
  rw[H0c,List.getElem?_eq_getElem c]
  unfold A8
  rw[List.getD_eq_getElem?_getD,List.getElem?_eq_getElem c];rfl
 rw[←e]at b;exact b
theorem k02{A:List (Option (List Int))}{v x:Int}{y:Option (List Int)}(h0:0<=v)(a:v.toNat<A.length)(b:0<=x):A8 (A.set v.toNat y) x=if x=v then y else A8 A x:=by
 unfold A8
 rw[List.getD_eq_getElem?_getD,List.getD_eq_getElem?_getD,List.getElem?_set]
 by_cases c:x=v
 ·rw[if_pos c,if_pos (by rw[c]),if_pos a];rfl
 ·rw[if_neg c,if_neg (by omega)]
structure WOk (n:Nat) (W:List (Option (List Int))) (u:List Int):Prop where
 len:W.length=n
 iff:∀ x,0<=x->x<(n:Int)->((A8 W x).isNone=true↔x ∉ u)
 short:∀ x,((A8 W x).getD []).length<=u.length
theorem D0n(r:Int)(n:Nat)(es:List Q0)(m:inG (r,(n:Int),es))(G:n<=40)(t:es.length<=1099511627776)(f:List Int)(A:∀ x∈f,I00 x)(F:f.length<=1000000)(v:Int)(o:0<=v/\v<(n:Int)):∀(d k fuel:Nat) (b:List (Option (List Int))) (u:List Int),gud n u->WOk n b u->k+d=f.length->d<fuel ->
  ∃ j,Q2 f r (n:Int) es v fuel (k:Int) b u=some (j,X01 (r,(n:Int),es) v (f.drop k) u)/\WOk n j (X01 (r,(n:Int),es) v (f.drop k) u)
 |d,k,0,b,u,i,a,q,hf=>by omega
 |0,k,fuel+1,b,u,i,a,q,hf=>by
  rw[Q2.eq_2,if_neg (by simp;omega),T1 (by omega)];exact⟨b,rfl,a⟩
 |d+1,k,fuel+1,b,u,i,a,q,hf=>by
  have w:k<f.length:=by omega
  have l:=a7 w
  have C:=A _ (List.mem_of_getElem? l)
  have s:=U1 l
  generalize f[k]=x at l C s
  have J:=w01 n u i.1 i.2
  have H:j1 (r,(n:Int),es) v x = -1∨(0<=j1 (r,(n:Int),es) v x/\j1 (r,(n:Int),es) v x<(n:Int)):=q05 m v x
  have E:=J0k i H
  have g:=λj h=>D0n r n es m G t f A F v o d (k+1) fuel j _ E h (by omega) (by omega)
  rw[Q2.eq_2,if_pos (by simp;omega),s]
  simp only[B3 l,oB,W07 (r,(n:Int),es) v x C t,J0 (r05 m (show(n:Int)<=40 by omega) v x),A2 w (show f.length<=9223372036854775807 by omega),X01]
  generalize j1 (r,(n:Int),es) v x=y at *
  by_cases c1:0<=y
  ·have p:y<(n:Int):=by omega
   simp only[show decide (y ≥ 0)=true by simpa using c1,K1,giO a.len c1 p,oB,cond_true]
   by_cases c2:y∈u
   ·have : ¬ ((A8 b y).isNone=true):=λh=>(a.iff y c1 p).1 h c2
    have e:M06 u y=u:=if_neg λh=>h.2 c2
    rw[if_neg this]
    rw[e]at g ⊢
    exact g b a
   ·have:(A8 b y).isNone=true:=(a.iff y c1 p).2 c2
    have e:M06 u y=u ++ [y]:=if_pos ⟨c1,c2⟩
    have B:=a.short v
    rw[if_pos this,giO a.len o.1 o.2,oB,C0n (by omega),oB,J0 (by simp;omega),oB,J0 (by simp;omega),oB]
    rw[e]at g ⊢
    refine g _ ⟨by simp[a.len],λz h0 D=>?_,λz=>?_⟩
    ·rw[k02 c1 (by have:=a.len;omega) h0]
     by_cases c:z=y
     ·rw[if_pos c];simp[c]
     ·rw[if_neg c,a.iff z h0 D];simp[c]
    ·by_cases hz:0<=z
     ·rw[k02 c1 (by have:=a.len;omega) hz]
      by_cases c:z=y
      ·rw[if_pos c];simp;exact B
      ·rw[if_neg c];have:=a.short z;simp only[List.length_append];omega
     ·have I:A8 (b.set y.toNat (some ((A8 b v).getD [] ++ [x]))) z=A8 (b.set y.toNat (some ((A8 b v).getD [] ++ [x]))) 0:=by
       unfold A8;rw[show z.toNat=(0:Int).toNat by omega]
      rw[I,k02 c1 (by have:=a.len;omega) (iR 0)]
      by_cases c:(0:Int)=y
      ·rw[if_pos c];simp;exact B
      ·rw[if_neg c];have:=a.short 0;simp only[List.length_append];omega
  ·have e:M06 u y=u:=if_neg λh=>c1 h.1
   simp only[show decide (y ≥ 0)=false by simpa using c1,C3,oB,cond_false]
   rw[if_neg (by simp)]
   rw[e]at g ⊢
   exact g b a
theorem E0n(R n:Nat)(h:R<=900)(es:List Q0)(d:inG ((R:Int),(n:Int),es))(m:n<=40)(k:es.length<=1099511627776):∀(f i fuel:Nat) (b:List (Option (List Int))) (u:List Int),gud n u->WOk n b u->i<=u.length->n+1<=i+f->f<fuel ->
  ∃ q,f4 (R:Int) (n:Int) es fuel (i:Int) b u=some (q,R7 ((R:Int),(n:Int),es) (V4 R 1) f i u)
 |f,i,0,b,u,a,g,l,j,hf=>by omega
 |0,i,fuel+1,b,u,a,g,l,j,hf=>by have:=w01 n u a.1 a.2;omega
 |f+1,i,fuel+1,b,u,a,g,l,j,hf=>by
  have y:=w01 n u a.1 a.2
  rw[f4.eq_2,oB,J0 (by omega),oB]
  by_cases hk:i<u.length
  ·have c:=a7 hk
   have o:=a.2 _ (List.mem_of_getElem? c)
   generalize u[i]=v at c o
   obtain⟨s,h0,p⟩:=D0n (R:Int) n es d m k (V4 R 1) (O0b R 1 (by omega)) (by rw[H01];omega) v o (V4 R 1).length 0 P0 b u a g (by omega) (F1 (by rw[H01];omega))
   rw[show((0:Nat):Int)=0 from rfl,List.drop_zero]at h0
   rw[List.drop_zero]at p
   obtain⟨t,e⟩:=L03 ((R:Int),(n:Int),es) v (V4 R 1) u
   obtain⟨x,w⟩:=E0n R n h es d m k f (i+1) fuel s _ (v04 d v _ u a) p (by rw[e,List.length_append];omega) (by omega) (by omega)
   rw[if_pos (by simpa using hk),B3 c,oB,X0i R h,oB,h0,oB]
   simp only[A2 hk (show u.length<=9223372036854775807 by omega),w,R7,c]
   exact⟨_,rfl⟩
  ·have c:u[i]?=none:=List.getElem?_eq_none (by omega)
   rw[if_neg (by simpa using hk)]
   simp only[R7,c]
   exact⟨_,rfl⟩
theorem L0k(g:l0)(hf:V0 g=true):i9 g=some (D3 g):=by
 obtain⟨a,e,f,h⟩:=O1 hf
 have i:=G01 g (by omega)
 obtain⟨r,n,es⟩:=g
 simp only at e f h
 obtain⟨N,rfl⟩:∃ N:Nat,n=(N:Int):=⟨n.toNat,by omega⟩
 obtain⟨R,rfl⟩:∃ R:Nat,r=(R:Int):=⟨r.toNat,by omega⟩
 unfold i9
 have b:∀ x,A8 (List.replicate N (none:Option (List Int))) x=none:=λx=>by
  unfold A8
  rw[List.getD_eq_getElem?_getD,List.getElem?_replicate];split<;>rfl
 have j:WOk N ((List.replicate N (none:Option (List Int))).set (0:Int).toNat (some [])) [0]:=by
  refine⟨by simp,λx h0 a=>?_,λx=>?_⟩
  ·rw[k02 (iR 0) (by simp;omega) h0]
   by_cases c:x=0
   ·rw[if_pos c];simp[c]
   ·rw[if_neg c,b];simp[c]
  ·by_cases hz:0<=x
   ·rw[k02 (iR 0) (by simp;omega) hz]
    split
    ·simp
    ·rw[b];simp
   ·have:A8 ((List.replicate N (none:Option (List Int))).set (0:Int).toNat (some [])) x=A8 ((List.replicate N (none:Option (List Int))).set (0:Int).toNat (some [])) 0:=by
     unfold A8;rw[show x.toNat=(0:Int).toNat by omega]
    rw[this,k02 (iR 0) (by simp;omega) (iR 0),if_pos rfl];simp
 obtain⟨l,h0⟩:=E0n R N (by omega) es a (by omega) (by omega) (N+1) 0 P0 _ [0] ⟨by simp,λx d=>by simp at d;subst d;omega⟩ j (by simp) (by omega) (F1 (by omega))
 have k:gi (List.replicate N (none:Option (List Int))) 0=some none:=by
  rw[J0c (x:=none)];rw[List.getElem?_replicate,if_pos (by omega)]
 simp only[i,hf,oB,Bool.not_true,x02,Int.toNat_natCast]
 rw[if_neg (by simp),J0 (by omega),oB,k,oB]
 rw[show((0:Nat):Int)=0 from rfl]at h0
 rw[h0]
 rfl
def Y2(g:l0):l0:=r6 g (D3 g)
theorem O0d(g:l0)(hf:V0 g=true):J7 g=some (Y2 g):=by
 obtain⟨b,d,f,h⟩:=O1 hf
 have i:=G01 g (by omega)
 have j:=L0k g hf
 obtain⟨a,m⟩:=M03 hf
 have k:=w01 _ _ a.1 a.2
 obtain⟨r,n,es⟩:=g
 simp only at d f h
 obtain⟨N,rfl⟩:∃ N:Nat,n=(N:Int):=⟨n.toNat,by omega⟩
 simp only[Int.toNat_natCast]at a k
 have l:=W0i r N es (D3 (r,(N:Int),es)) (λe c=>⟨(b e c).1,(b e c).2.1⟩) a.2 (by omega) (by omega) (by omega)
 unfold J7
 simp only[i,hf,oB,Bool.not_true,j,l]
 rfl
theorem X08(g:l0)(hf:V0 g=true):I7 g=some (Y2 g):=by
 obtain⟨l,d,e,f⟩:=O1 hf
 have i:W0 g=true:=by
  unfold V0 at hf;exact(Bool.and_eq_true _ _▸hf).1
 have j:=K0k g hf
 obtain⟨a,b⟩:=M03 hf
 have c:=w01 _ _ a.1 a.2
 obtain⟨r,n,es⟩:=g
 simp only at d e f
 obtain⟨N,rfl⟩:∃ N:Nat,n=(N:Int):=⟨n.toNat,by omega⟩
 simp only[Int.toNat_natCast]at a c
 have k:=N0a r N es (D3 (r,(N:Int),es)) i a.2 a.1 b c
 unfold I7
 simp only[oB,j,k]
 rw[if_neg (by simp;intro h;rw[h]at b;simp at b)]
 rfl
def lf(a:Nat->Bool):Nat->Nat->Option Nat
 |0,v=>none
 |d+1,v=>bif a v then some v else lf a d (v+1)
theorem Y08{a:Nat->Bool}:∀(d v k:Nat),lf a d v=some k->v<=k/\k<v+d
 |0,v,k,h=>by cases h
 |d+1,v,k,h=>by
  unfold lf at h
  cases hb:a v
  ·rw[hb]at h;have:=Y08 d (v+1) k h;omega
  ·rw[hb]at h;cases h;omega
theorem Q0f{a b:Nat->Bool}:∀(d v:Nat),(∀ k,v<=k->k<v+d->a k=b k)->lf a d v=lf b d v
 |0,v,h=>rfl
 |d+1,v,h=>by unfold lf;rw[h v (Nat.le_refl _) (by omega),Q0f d (v+1) λk c e=>h k (by omega) (by omega)]
def I0o(es:List Q0):List Int:=itS es (es.length+1) [0]
def Z08(es:List Q0)(v:Nat):Bool:=decide (s00 (v:Int) es<2) || !decide ((v:Int)∈I0o es)
def o7(g:l0):Option Nat:=lf (Z08 g.2.2) (g.2.1.toNat-1) 1
theorem o0m(g:l0)(b:W0 g=true):H00 g 0=some (I0o g.2.2)/\(I0o g.2.2).length<=100000:=by
 obtain⟨i,d,e,a⟩:=J2 b
 have h:=O7 g (by omega)
 obtain⟨r,n,es⟩:=g
 simp only at d e a
 unfold H00 I0o
 have c:=J0f es a (es.length+1) 0 P0 [0] (by omega) (F1 (by omega)) (by simp)
 have f:=t0n es (es.length+1) [0]
 refine⟨?_,?_⟩
 ·rw[show((0:Nat):Int)=0 from rfl]at c
  simp only[h,b,oB,Bool.not_true,Bool.not_false,K1,D01,inR,w64 (show -9223372036854775808<=n-1 by omega) (show n-1<=9223372036854775807 by omega)]
  rw[if_neg (by simp;omega),c];rfl
 ·have:(es.length+1)*(2*es.length)<=121*240:=Nat.mul_le_mul (by omega) (by omega)
  simp only[List.length_singleton]at f
  simp only
  omega
theorem f0q(r:Int)(n:Nat)(es:List Q0)(e:es.length<=1000)(u:List Int)(g:u.length<=100000)(f:n<=40):∀(d v fuel:Nat),v+d=n∨(d=0/\n<=v)->v<=1000->d<fuel ->
  Z8 (n:Int) r es u fuel (v:Int)=some (match lf (λv=>decide (s00 (v:Int) es<2) || !decide ((v:Int)∈u)) d v with|some k => .inl (k:Int)|none => .inr ())
 |d,v,0,b,c,hf=>by omega
 |0,v,fuel+1,b,c,hf=>by
  rw[Z8.eq_2,if_neg (by simp;omega)];rfl
 |d+1,v,fuel+1,b,c,hf=>by
  have h:=f0q r n es e u g f d (v+1) fuel (by omega) (by omega) (by omega)
  have i:=T0i (v:Int) es
  rw[Z8.eq_2,if_pos (by simp;omega),P0c (r,(n:Int),es) _ (by simp only;omega),oB,J0 (c64 (by simp only;omega) (by simp only;omega)),oB,A2 (show v<10000 by omega) (by omega)]
  unfold lf
  by_cases c1:s00 (v:Int) es<2
  ·have a:decide (((s00 (v:Int) es:Nat):Int)<2)=true:=decide_eq_true (by omega)
   simp only[a,Bool.not_true,C3,oB,cond_true,if_true,decide_eq_true c1,Bool.true_or]
  ·have a:decide (((s00 (v:Int) es:Nat):Int)<2)=false:=decide_eq_false (by omega)
   simp only[a,Bool.not_false,K1,y0e u _ (show u.length<=9223372036854775807 by omega),oB,cond_false,decide_eq_false c1,Bool.false_or]
   by_cases c2:(v:Int)∈u
   ·simp only[decide_eq_true c2,Bool.not_true,Bool.false_eq_true,if_false,cond_false];exact h
   ·simp only[decide_eq_false c2,Bool.not_false,if_true,cond_true]
theorem g0q(g:l0)(c:W0 g=true):w02 g=some (match o7 g with|some k=>(k:Int)|none => -1):=by
 obtain⟨a,b⟩:=o0m g c
 obtain⟨i,d,e,f⟩:=J2 c
 obtain⟨r,n,es⟩:=g
 simp only at d e f a b
 obtain⟨N,rfl⟩:∃ N:Nat,n=(N:Int):=⟨n.toNat,by omega⟩
 unfold w02 o7
 have h:=f0q r N es (by omega) (I0o es) b (by omega) (N-1) 1 P0 (by omega) (by omega) (F1 (by omega))
 simp only[a,oB,Int.toNat_natCast]
 rw[show(1:Int)=((1:Nat):Int) from rfl,h]
 rw[show(λv:Nat=>decide (s00 (v:Int) es<2) || !decide ((v:Int)∈I0o es))=Z08 es from rfl]
 cases lf (Z08 es) (N-1) 1<;>rfl
theorem Z0i(r:Int)(n:Nat)(es:List Q0)(o:es.length<=1000)(a:List Bool)(g:a.length=n)(p:n<=40):∀(d v fuel:Nat),1<=v->v+d=n∨(d=0/\n<=v)->v<=1000->d+1<fuel ->
  D4 (n:Int) r es a fuel 0 (v:Int)=some (match lf (λv=>decide (s00 (v:Int) es<2) || !y00 a (v:Int)) d v with|some k=>(k:Int)|none=>0)
 |d,v,0,f,h,j,hf=>by omega
 |0,v,fuel+1,f,h,j,hf=>by
  have e:decide ((v:Int)<(n:Int))=false:=decide_eq_false (by omega)
  rw[D4.eq_2,if_neg (by rw[e];simp)];rfl
 |d+1,v,fuel+1,f,h,j,hf=>by
  have q:=Z0i r n es o a g p d (v+1) fuel (by omega) (by omega) (by omega) (by omega)
  have s:=T0i (v:Int) es
  have e:decide ((v:Int)<(n:Int))=true:=decide_eq_true (by omega)
  have i:∀ w:Int,D4 (n:Int) r es a fuel (v:Int) w=some (v:Int):=λw=>by
   obtain _|fuel:=fuel
   ·omega
   ·have l:decide ((v:Int)=0)=false:=decide_eq_false (by omega)
    have m:∀ b:Bool,(bif b then false else false)=false:=λb=>by cases b<;>rfl
    rw[D4.eq_2,if_neg (by rw[l,m];simp)]
  rw[D4.eq_2,if_pos (by rw[e];rfl),y0h (r,(n:Int),es) _ (by simp only;omega),oB,J0 (c64 (by simp only;omega) (by simp only;omega)),oB,A2 (show v<10000 by omega) (by omega)]
  unfold lf
  by_cases c1:s00 (v:Int) es<2
  ·have c:decide (((s00 (v:Int) es:Nat):Int)<2)=true:=decide_eq_true (by omega)
   simp only[c,Bool.not_true,C3,oB,cond_true,if_true,decide_eq_true c1,Bool.true_or,i]
  ·have c:decide (((s00 (v:Int) es:Nat):Int)<2)=false:=decide_eq_false (by omega)
   simp only[c,Bool.not_false,K1,giB g (show(0:Int)<=(v:Int) by omega) (show(v:Int)<(n:Int) by omega),oB,cond_false,decide_eq_false c1,Bool.false_or]
   cases hb:y00 a (v:Int)
   ·simp only[Bool.not_false,if_true,cond_true,i]
   ·simp only[Bool.not_true,Bool.false_eq_true,if_false,cond_false];exact q
def wo(g:Nat):Nat->Nat->List Int
 |0,k=>[]
 |d+1,k=>if k=g then wo g d (k+1)else(k:Int)::wo g d (k+1)
theorem R0f(g:Nat):∀(d k:Nat),(wo g d k).length=d-(if k<=g/\g<k+d then 1 else 0)
 |0,k=>by simp[wo]
 |d+1,k=>by
  have a:=R0f g d (k+1)
  unfold wo
  by_cases c:k=g
  ·rw[if_pos c,a,if_neg (by omega),if_pos (by omega)];omega
  ·rw[if_neg c,List.length_cons,a]
   by_cases c2:k+1<=g/\g<k+1+d
   ·rw[if_pos c2,if_pos (by omega)];omega
   ·rw[if_neg c2,if_neg (by omega)];omega
theorem M0k(g n:Nat):∀(d k:Nat),k+d<=n->inV n (wo g d k)
 |0,k,h=>λx a=>nomatch a
 |d+1,k,h=>by
  have b:=M0k g n d (k+1) (by omega)
  unfold wo
  split
  ·exact b
  ·intro x a
   rcases List.mem_cons.1 a with rfl|a
   ·omega
   ·exact b x a
theorem a0j(n g:Nat)(j:n<=1000):∀(d k fuel:Nat) (acc:List Int),k+d=n->d<fuel->acc.length<=k ->
  N5 (n:Int) (g:Int) fuel (k:Int) acc=some (acc++wo g d k)
 |d,k,0,acc,b,hf,a=>by omega
 |0,k,fuel+1,acc,b,hf,a=>by
  rw[N5.eq_2,if_neg (by simp;omega)];simp[wo]
 |d+1,k,fuel+1,acc,b,hf,a=>by
  have f:=λi h=>a0j n g j d (k+1) fuel i (by omega) (by omega) h
  rw[N5.eq_2,if_pos (by simp;omega),A2 (show k<10000 by omega) (by omega)]
  unfold wo
  by_cases c:k=g
  ·have e:decide ((k:Int)=(g:Int))=true:=decide_eq_true (by omega)
   rw[e,if_neg (by simp),if_pos c,f _ (by omega)]
  ·have e:decide ((k:Int)=(g:Int))=false:=decide_eq_false (by omega)
   rw[e,if_pos (show(!false)=true from rfl),if_neg c,J0 (by simp;omega),oB,f _ (by simp;omega)]
   simp
theorem b0j(n:Nat)(f:n<=1000):∀(d k fuel:Nat) (acc:List Int),k+d=n->d<fuel->acc.length=k ->
  ∃ u,C6 (n:Int) fuel (k:Int) acc=some u/\u.length=n
 |d,k,0,acc,b,hf,a=>by omega
 |0,k,fuel+1,acc,b,hf,a=>by
  rw[C6.eq_2,if_neg (by simp;omega)];exact⟨_,rfl,by omega⟩
 |d+1,k,fuel+1,acc,b,hf,a=>by
  obtain⟨u,c,e⟩:=b0j n f d (k+1) fuel (acc ++ [(k:Int)]) (by omega) (by omega) (by simp;omega)
  rw[C6.eq_2,if_pos (by simp;omega),A2 (show k<10000 by omega) (by omega),J0 (by simp;omega),oB,c]
  exact⟨u,rfl,e⟩
theorem S0f{a:Type}{xs:List a}{k:Nat}(h:k<=xs.length):W05 xs 0 (k:Int)=some (xs.take k):=by
 unfold W05
 rw[if_pos (by omega)];rfl
theorem F0n:∀(n fuel:Nat) (left:List Int) (r:Int) (es:List Q0),1<=n->n<=40->inN n es->es.length<=120->left.length=n->n<fuel ->
  ∃(a:l0) (e:List Int),O5 fuel left r (n:Int) es=some (.inl (a,e))/\a.2.1<=(n:Int)/\(a.2.1=(n:Int)↔lf (Z08 es) (n-1) 1=none)
 |n,0,left,r,es,f,g,b,u,w,hf=>by omega
 |n,fuel+1,left,r,es,f,g,b,u,w,hf=>by
  obtain⟨c,q,A,s⟩:=G0k r n es b (by omega) f (by omega)
  have o:=Z0i r n es (by omega) c A g (n-1) 1 P0 (Nat.le_refl _) (by omega) (by omega) (F1 (by omega))
  have t:lf (λv=>decide (s00 (v:Int) es<2) || !y00 c (v:Int)) (n-1) 1=lf (Z08 es) (n-1) 1:=Q0f _ _ λk D E=>by
   unfold Z08
   have:=s (k:Int) (by omega) (by omega)
   have i:=E06 es 0 (k:Int)
   congr 2
   cases hb:y00 c (k:Int)
   ·symm;exact decide_eq_false λh=>by rw[this.2 (i.1 h)]at hb;cases hb
   ·symm;exact decide_eq_true (i.2 (this.1 hb))
  rw[t]at o
  rw[O5.eq_2,q,oB,show(1:Int)=((1:Nat):Int) from rfl,o,oB]
  cases hlf:lf (Z08 es) (n-1) 1 with
  |none =>
   exact⟨(r,(n:Int),es),left,by rw[if_pos (by rfl)],iR _,by simp⟩
  |some k =>
   have C:=Y08 _ _ _ hlf
   have p:decide ((k:Int)=0)=false:=decide_eq_false (by omega)
   have j:=M0k k n n 0 (by omega)
   have d:=R0f k n 0
   rw[if_pos (by omega)]at d
   have m:=a0j n k (by omega) n 0 P0 [] (by omega) (F1 (by omega)) (Nat.le_refl _)
   rw[show((0:Nat):Int)=0 from rfl,List.nil_append]at m
   have x:=W0i r n es (wo k n 0) b j (by omega) (by omega) (by omega)
   have y:=M0a (r,(n:Int),es) (wo k n 0)
   have l:=E0h (r:=r) j b
   have z:IntKind.i64.wrap ((k:Int)+((1:Nat):Int))=((k+1:Nat):Int):=by rw[w64 (by omega) (by omega)];rfl
   obtain⟨a,e,B,F,G⟩:=F0n (n-1) fuel (left.take k++left.drop (k+1)) r (r6 (r,(n:Int),es) (wo k n 0)).2.2 (by omega) (by omega) (by rw[d]at l;exact l) (by simp only at y;omega) (by simp only[List.length_append,List.length_take,List.length_drop];omega) (by omega)
   refine⟨a,e,?_,by omega,?_⟩
   ·simp only[p,Bool.false_eq_true,if_false,m,oB,x]
    rw[show r6 (r,(n:Int),es) (wo k n 0)=(r,((n-1:Nat):Int),(r6 (r,(n:Int),es) (wo k n 0)).2.2) by rw[←d];rfl]
    simp only[z]
    rw[S0f (by omega),oB,d06 (by omega),oB,J0 (by simp only[List.length_take,List.length_drop];omega),oB,B]
   ·constructor
    ·intro h;omega
    ·intro h;cases h
theorem p0m(g:l0)(i:W0 g=true):∃(a:l0) (b:List Int),i8 g=some (a,b)/\(a.2.1=g.2.1↔o7 g=none):=by
 obtain⟨d,k,l,f⟩:=J2 i
 have p:=r03 g (by omega)
 have m:=u04 g (by omega)
 obtain⟨r,n,es⟩:=g
 simp only at k l f
 obtain⟨N,rfl⟩:∃ N:Nat,n=(N:Int):=⟨n.toNat,by omega⟩
 have o:inN N es:=λe h=>⟨(d e h).1,(d e h).2.1⟩
 obtain⟨u,c,j⟩:=b0j N (by omega) N 0 P0 [] (by omega) (F1 (by omega)) rfl
 obtain⟨a,b,q,t,s⟩:=F0n N P0 u r es (by omega) (by omega) o f j (F1 (by omega))
 refine⟨a,b,?_,?_⟩
 ·unfold i8
  rw[show((0:Nat):Int)=0 from rfl]at c
  simp only[m,oB,p,i,Bool.not_true,Bool.false_eq_true,if_false,c,q,d9]
 ·simp only[o7,Int.toNat_natCast];exact s
def L1(g:l0):Bool:=V0 g&&((o7 g).isNone&&m07 (Y2 g) g)
theorem P3{g:l0}(h:V0 g=true):W0 g=true:=by
 unfold V0 at h;exact(Bool.and_eq_true _ _▸h).1
theorem V0c{g:l0}(hf:V0 g=true):(Y2 g).2.2.length<=120:=by
 have:=M0a g (D3 g)
 have:=(O1 hf).2.2.2
 unfold Y2;omega
theorem Y03(g:l0)(j:g.2.2.length<=140737488355328):C8 g=some (L1 g):=by
 have b:=G01 g j
 unfold L1
 by_cases hf:V0 g=true
 ·obtain⟨e,t,d,a⟩:=p0m g (P3 hf)
  have f:=O0d g hf
  have h:=Q0c (Y2 g) g (by have:=V0c hf;omega)
  obtain⟨r,n,es⟩:=g
  obtain⟨u,m,s⟩:=e
  unfold C8
  simp only at a
  generalize Y2 (r,n,es)=C at *
  obtain⟨o,p,q⟩:=C
  simp only[b,hf,oB,Bool.not_true,Bool.false_eq_true,if_false,d,f]
  by_cases c:m=n
  ·have:=a.1 c
   simp only[decide_eq_true c,K1,oB,h,cond_true,this,Option.isNone_none,Bool.true_and]
  ·have l:(o7 (r,n,es)).isNone=false:=by
    cases hq:o7 (r,n,es)with
    |none=>exact absurd (a.2 hq) c
    |some k=>rfl
   simp only[decide_eq_false c,C3,oB,cond_false,l,Bool.false_and,Bool.and_false]
 ·have i:V0 g=false:=Bool.eq_false_iff.2 hf
  obtain⟨r,n,es⟩:=g
  unfold C8
  simp only[b,i,oB,Bool.not_false,if_true,Bool.false_and]
theorem s05(g:l0)(j:g.2.2.length<=140737488355328):t01 g=some (L1 g):=by
 have a:=F8 g j
 unfold L1
 by_cases hf:V0 g=true
 ·have f:=g0q g (P3 hf)
  have d:=X08 g hf
  have e:=R0c (Y2 g) g (by have:=V0c hf;omega)
  obtain⟨p,q,c,s⟩:=O1 hf
  obtain⟨r,n,es⟩:=g
  unfold t01
  generalize Y2 (r,n,es)=C at *
  obtain⟨l,m,o⟩:=C
  simp only[a,hf,oB,K1,f,cond_true]
  cases hq:o7 (r,n,es)with
  |none =>
   simp only[J0 (show I0 (-1) by decide),oB,show decide ((-1:Int)<0)=true from rfl,K1,d,e,cond_true,Option.isNone_none,Bool.true_and]
  |some k =>
   have i:=Y08 _ _ _ hq
   simp only at c
   simp only at i
   have b:decide ((k:Int)<0)=false:=decide_eq_false (by omega)
   simp only[J0 (show I0 (k:Int) from c64 (by omega) (by omega)),oB,b,C3,cond_false,Option.isNone_some,Bool.false_and,Bool.and_false]
 ·have h:V0 g=false:=Bool.eq_false_iff.2 hf
  obtain⟨r,n,es⟩:=g
  unfold t01
  simp only[a,h,oB,C3,J0 (show I0 0 by decide),cond_false,Bool.false_and]
def I0s(l:J09):Prop:=l.length<=140737488355328/\∀ e∈l,e.1.size<=140737488355328/\e.2.2.2.length<=140737488355328
def q0m(l:J09):Prop:=l.length<=1048576/\∀ e∈l,e.1.size<=1048576/\e.2.2.2.length<=1048576
theorem q0m.ok{l:J09}(h:q0m l):I0s l:=⟨by have:=h.1;omega,λe a=>by have:=h.2 e a;omega⟩
theorem N0k{e:Type}{c:e->e->Int}(h:R00 c):∀ {l:List e},(∀ i x y,l[i]?=some x->l[i+1]?=some y->c x y<0)->Asc c l
 | [],_=>List.Pairwise.nil
 | [x],_=>List.pairwise_singleton _ _
 |x::y::l,f=>by
  have j:Asc c (y::l):=N0k h λi a b k m=>f (i+1) a b (by simpa using k) (by simpa using m)
  have g:=f 0 x y rfl rfl
  refine List.pairwise_cons.2 ⟨λz d=>?_,j⟩
  rcases List.mem_cons.1 d with rfl|d
  ·exact g
  ·exact h.trans _ _ _ g ((List.pairwise_cons.1 j).1 z d)
theorem h0q{d:Type}{e:d->d->Int}:∀ {l:List d},Asc e l->∀ {i:Nat} {x y:d},l[i]?=some x->l[i+1]?=some y->e x y<0
 | [],_,i,x,y,b,_=>by simp at b
 |a::l,h,0,x,y,b,c=>by
  simp at b c;subst b
  exact(List.pairwise_cons.1 h).1 y (List.mem_of_getElem? c)
 |a::l,h,i+1,x,y,b,c=>h0q (List.pairwise_cons.1 h).2 (i:=i) (by simpa using b) (by simpa using c)
theorem i0q{r a:Int}{es:List Q0}:∀ {d k:Nat},(∀ i,k<=i->i<k+d->V0p r a es i=false)->okE r a es d k=true
 |0,k,h=>rfl
 |d+1,k,h=>by
  simp only[okE,Bool.and_eq_true,Bool.not_eq_true']
  exact⟨h k (Nat.le_refl _) (by omega),i0q λi b c=>h i (by omega) (by omega)⟩
theorem K7(g:l0):W0 g=true↔inG g/\(1<=g.1/\g.1<=3)/\(1<=g.2.1/\g.2.1<=40)/\g.2.2.length<=120/\Asc U0 g.2.2:=by
 constructor
 ·intro h
  obtain⟨m,c,d,k⟩:=J2 h
  refine⟨m,c,d,k,N0k A4 λi x y a b=>?_⟩
  simp only[W0,Bool.and_eq_true]at h
  have l:=j0m h.1.1.1 (i+1) (Nat.zero_le _) (by have:=(List.getElem?_eq_some_iff.1 b).1;omega)
  rw[E0b b]at l
  simp only[Nat.add_sub_cancel,a,Bool.or_eq_false_iff]at l
  have:=l.2
  simp only[show decide (0<i+1)=true by simp,Bool.true_and,decide_eq_false_iff_not]at this
  have e:w0f x y=U0 x y:=rfl
  omega
 ·rintro⟨m,c,d,k,o⟩
  obtain⟨r,n,es⟩:=g
  simp only at c d k o
  simp only[W0,inR,Bool.and_eq_true,decide_eq_true_eq]
  refine⟨⟨⟨i0q λi _ s=>?_,c⟩,d⟩,k⟩
  have a:=a7 (show i<es.length by omega)
  generalize es[i]=e at a
  rw[E0b a]
  have q:=m e (List.mem_of_getElem? a)
  simp only at q
  simp only[Bool.or_eq_false_iff,Bool.not_eq_false',T04,inR,Bool.and_eq_true,decide_eq_true_eq]
  rw[w64 (by omega) (by omega)]
  refine⟨⟨⟨⟨by omega,by omega⟩,by omega,by omega⟩,by omega,by omega⟩,?_⟩
  cases i with
  |zero=>rfl
  |succ j =>
   have b:=a7 (show j<es.length by omega)
   generalize es[j]=f at b
   have:=h0q o b a
   simp only[Nat.add_sub_cancel,b]
   have p:w0f f e=U0 f e:=rfl
   simp[p];omega
theorem P0b{r:Int}{n:Int}{es:List Q0}(d:1<=r/\r<=3)(c:1<=n/\n<=40)(f:es.length<=120)(b:inG (r,n,es)):W0 (r,n,l7 U0 [] es)=true:=by
 refine(K7 _).2 ⟨λe a=>b e ?_,d,c,?_,A03 A4 _ _ List.Pairwise.nil⟩
 ·rcases(o9 A4 e es []).1 a with h|h
  ·simp at h
  ·exact h
 ·have:=Q04 es []
  simp only[List.length_nil]at this
  simp only;omega
def Q0b(a b:Q0):List (Int×Int) :=
 bif decide (a.2.1=b.2.1)then(bif decide (a.1=b.1)then [(if b.2.2<a.2.2 then b.2.2 else a.2.2,if b.2.2>a.2.2 then b.2.2 else a.2.2)]else [])++(bif decide (a.2.2=b.2.2)then [(if b.1<a.1 then b.1 else a.1,if b.1>a.1 then b.1 else a.1)]else [])else []
def N03(a:Q0):List Q0->List (Int×Int)
 | []=>[]
 |b::r=>Q0b a b++N03 a r
def F9:List Q0->List (Int×Int)
 | []=>[]
 |a::r=>N03 a r++F9 r
theorem J0o(a b:Q0):(Q0b a b).length<=2:=by
 unfold Q0b
 cases decide (a.2.1=b.2.1)<;>cases decide (a.1=b.1)<;>cases decide (a.2.2=b.2.2)<;>simp
theorem W0c(a:Q0):∀ l,(N03 a l).length<=2*l.length
 | []=>by simp[N03]
 |b::r=>by have:=J0o a b;have:=W0c a r;simp only[N03,List.length_append,List.length_cons];omega
def mvV(f:Int×Int)(v:Int):Int:=if v=f.2 then f.1 else if v>f.2 then v-1 else v
def mvE(f:Int×Int)(e:Q0):Q0:=(mvV f e.1,e.2.1,mvV f e.2.2)
def y02(g:l0)(f:Int×Int):l0:=(g.1,g.2.1-1,l7 U0 [] (g.2.2.map (mvE f)))
def okF(g:l0)(f:Int×Int):Prop:=0<=f.1/\f.1<f.2/\f.2<g.2.1
theorem F06{g:l0}{f:Int×Int}(k:W0 g=true)(hf:okF g f):W0 (y02 g f)=true:=by
 obtain⟨l,m,q,n,_⟩:=(K7 g).1 k
 obtain⟨o,f2,f3⟩:=hf
 refine P0b m ⟨by omega,by omega⟩ (by simpa using n) λe i=>?_
 obtain⟨h,j,rfl⟩:=List.mem_map.1 i
 obtain⟨b,c,d⟩:=l h j
 have a:∀ v:Int,0<=v/\v<g.2.1->0<=mvV f v/\mvV f v<g.2.1-1:=λv p=>by
  unfold mvV;split
  ·omega
  ·split<;>omega
 exact⟨a _ b,a _ c,d⟩
theorem O0k{g:l0}(j:inG g){a:Q0}(m:a∈g.2.2):∀ {l:List Q0},(∀ b∈l,b∈g.2.2/\a≠b)->∀ f∈N03 a l,okF g f
 | [],_,f,hf=>by simp[N03]at hf
 |b::r,h,f,hf=>by
  rcases List.mem_append.1 (show f∈Q0b a b++N03 a r from hf)with hf|hf
  ·have s:=j b (h b mS).1
   have q:=j a m
   have u:=(h b mS).2
   obtain⟨c,n,d⟩:=a
   obtain⟨e,p,i⟩:=b
   simp only at q s
   unfold Q0b at hf
   simp only at hf
   by_cases c1:n=p
   ·have k : ¬ (c=e/\d=i):=λ⟨x,y⟩=>u (by rw[x,c1,y])
    simp only[c1,decide_true,cond_true,List.mem_append]at hf
    rcases hf with hf|hf
    ·by_cases c2:c=e
     ·simp only[c2,decide_true,cond_true,List.mem_singleton]at hf
      subst hf
      have:d≠i:=λy=>k ⟨c2,y⟩
      unfold okF
      simp only
      split<;>split<;>omega
     ·simp[c2]at hf
    ·by_cases c2:d=i
     ·simp only[c2,decide_true,cond_true,List.mem_singleton]at hf
      subst hf
      have:c≠e:=λy=>k ⟨y,c2⟩
      unfold okF
      simp only
      split<;>split<;>omega
     ·simp[c2]at hf
   ·simp[c1]at hf
  ·exact O0k j m (λo t=>h o (mC _ t)) f hf
theorem P0k{g:l0}(i:inG g):∀ {l:List Q0},(∀ b∈l,b∈g.2.2)->Asc U0 l->∀ f∈F9 l,okF g f
 | [],_,_,f,hf=>by simp[F9]at hf
 |a::r,h,d,f,hf=>by
  rcases List.mem_append.1 (show f∈N03 a r++F9 r from hf)with hf|hf
  ·refine O0k i (h a mS) (λb c=>⟨h b (mC _ c),λe=>?_⟩) f hf
   have:=(List.pairwise_cons.1 d).1 b c
   rw[e,A4.refl]at this;omega
  ·exact P0k i (λb c=>h b (mC _ c)) (List.pairwise_cons.1 d).2 f hf
theorem e06{g:l0}(a:W0 g=true):∀ f∈F9 g.2.2,okF g f:=by
 obtain⟨b,_,_,_,c⟩:=(K7 g).1 a
 exact P0k b (λ_ h=>h) c
def z02:Nat->l0->l0×List (Int×Int)
 |0,g=>(g,[])
 |n+1,g=>match F9 g.2.2 with
  | []=>(g,[])
  |f::_=>((z02 n (y02 g f)).1,f::(z02 n (y02 g f)).2)
def I01(g:l0):l0×List (Int×Int):=bif W0 g then z02 40 g else(g,[])
theorem P0d:∀(n:Nat) {g:l0},W0 g=true->W0 (z02 n g).1=true
 |0,g,h=>h
 |n+1,g,h=>by
  unfold z02
  cases e:F9 g.2.2 with
  |nil=>exact h
  |cons f l=>exact P0d n (F06 h (e06 h f (by rw[e];exact mS)))
theorem O0a:∀(n:Nat) {g:l0},W0 g=true->g.2.1<=(n:Int)+1->F9 (z02 n g).1.2.2 = []
 |0,g,h,a=>by
  cases e:F9 g.2.2 with
  |nil=>exact e
  |cons f l =>
   have:=e06 h f (by rw[e];exact mS)
   unfold okF at this
   omega
 |n+1,g,h,a=>by
  unfold z02
  cases e:F9 g.2.2 with
  |nil=>exact e
  |cons f l=>exact O0a n (F06 h (e06 h f (by rw[e];exact mS))) (by show g.2.1-1<=_;omega)
theorem K0o(a b:Q0):Q0b a b = []↔c06 a b=false:=by
 unfold Q0b c06
 cases decide (a.2.1=b.2.1)<;>cases decide (a.1=b.1)<;>cases decide (a.2.2=b.2.2)<;>simp
theorem F0h(a:Q0):∀ l,N03 a l = []↔∀ b∈l,c06 a b=false
 | []=>by simp[N03]
 |b::r=>by
  rw[N03,List.append_eq_nil_iff,K0o,F0h a r]
  simp
theorem X0c:∀ l,F9 l = []↔l.Pairwise λa b=>c06 a b=false
 | []=>by simp[F9]
 |a::r=>by rw[F9,List.append_eq_nil_iff,F0h,X0c r,List.pairwise_cons]
theorem f06(g:l0):V0 g=true↔W0 g=true/\F9 g.2.2 = []:=by
 unfold V0
 rw[Bool.and_eq_true,O0c,X0c]
theorem a09{g:l0}(h:W0 g=true):V0 (I01 g).1=true:=by
 have a:=(J2 h).2.2.1
 unfold I01
 rw[h]
 exact(f06 _).2 ⟨P0d 40 h,O0a 40 h (by omega)⟩
theorem G0h(l:List Q0)(a c e:Int)(s:l.length<=1000):∀(d k fuel:Nat) (acc:List d6),k+d=l.length->d<fuel->acc.length+2*d<=4000000 ->
  p5 l c a e fuel (k:Int) acc=some (acc++N03 (a,c,e) (l.drop k))
 |d,k,0,acc,m,hf,j=>by omega
 |0,k,fuel+1,acc,m,hf,j=>by
  rw[p5.eq_2,if_neg (by simp;omega),T1 (by omega)]
  simp[N03]
 |d+1,k,fuel+1,acc,m,hf,j=>by
  have n:k<l.length:=by omega
  have i:=a7 n
  generalize l[k]=b at i
  obtain⟨o,p,q⟩:=b
  have g:∀ f:List d6,f.length+2*d<=4000000->p5 l c a e fuel ((k+1:Nat):Int) f=some (f++N03 (a,c,e) (l.drop (k+1))):=λf h=>G0h l a c e s d (k+1) fuel f (by omega) (by omega) h
  rw[p5.eq_2,if_pos (by simp;omega),B3 i,oB,A2 n (by omega),U1 i]
  simp only[N03,Q0b]
  cases decide (c=p)
  ·simp only[Bool.not_false,if_true,cond_false,List.nil_append]
   exact g acc (by omega)
  ·cases decide (a=o)<;>cases decide (e=q)
   all_goals simp only[Bool.not_true,Bool.false_eq_true,if_false,if_true,cond_true,cond_false,List.nil_append,List.append_nil]
   ·exact g acc (by omega)
   ·rw[J0 (by simp;omega),oB,g _ (by simp;omega)];simp
   ·rw[J0 (by simp;omega),oB,g _ (by simp;omega)];simp
   ·rw[J0 (by simp;omega),oB,J0 (by simp;omega),oB,g _ (by simp;omega)];simp
theorem H0h(l:List Q0)(m:l.length<=1000):∀(d k fuel:Nat) (acc:List d6),k+d=l.length->d<fuel->acc.length+2000*d<=3000000 ->
  S9 l fuel (k:Int) acc=some (acc++F9 (l.drop k))
 |d,k,0,acc,h,hf,g=>by omega
 |0,k,fuel+1,acc,h,hf,g=>by
  rw[S9.eq_2,if_neg (by simp;omega),T1 (by omega)]
  simp[F9]
 |d+1,k,fuel+1,acc,h,hf,g=>by
  have i:k<l.length:=by omega
  have a:=a7 i
  generalize l[k]=b at a
  obtain⟨c,e,f⟩:=b
  have h0:=G0h (l.drop (k+1)) c e f (by simp;omega) (l.length-(k+1)) 0 P0 acc (by simp) (F1 (by omega)) (by omega)
  have j:=W0c (c,e,f) (l.drop (k+1))
  simp only[List.length_drop]at j
  rw[S9.eq_2,if_pos (by simp;omega),B3 a,oB]
  simp only[A2 i (show l.length<=9223372036854775807 by omega)]
  rw[d06 (by omega),oB,show(0:Int)=((0:Nat):Int) from rfl,h0,oB,H0h l m d (k+1) fuel _ (by omega) (by omega) (by simp only[List.length_append,List.drop_zero,List.length_drop]at j ⊢;omega),U1 a,F9]
  simp
theorem I0h(l:List Q0)(u:l.length<=1000)(i:Nat)(a c e:Int)(o:l[i]?=some (a,c,e)):∀(d k fuel:Nat) (acc:List d6),k+d=l.length->d<fuel->acc.length+2*d<=4000000 ->
  J4 l (i:Int) fuel (k:Int) acc=some (acc++N03 (a,c,e) (l.drop k))
 |d,k,0,acc,n,hf,m=>by omega
 |0,k,fuel+1,acc,n,hf,m=>by
  rw[J4.eq_2,if_neg (by simp;omega),T1 (by omega)]
  simp[N03]
 |d+1,k,fuel+1,acc,n,hf,m=>by
  have p:k<l.length:=by omega
  have j:=a7 p
  generalize l[k]=b at j
  obtain⟨q,s,t⟩:=b
  have g:∀ f:List d6,f.length+2*d<=4000000->J4 l (i:Int) fuel ((k+1:Nat):Int) f=some (f++N03 (a,c,e) (l.drop (k+1))):=λf h=>I0h l u i a c e o d (k+1) fuel f (by omega) (by omega) h
  rw[J4.eq_2,if_pos (by simp;omega),B3 o,oB]
  simp only[]
  rw[B3 j,oB,A2 p (by omega),U1 j]
  simp only[N03,Q0b]
  cases decide (c=s)
  ·simp only[Bool.false_eq_true,if_false,cond_false,List.nil_append]
   exact g acc (by omega)
  ·cases decide (a=q)<;>cases decide (e=t)
   all_goals simp only[Bool.not_true,Bool.false_eq_true,if_false,if_true,cond_true,cond_false,List.nil_append,List.append_nil]
   ·exact g acc (by omega)
   ·rw[J0 (by simp;omega),oB,g _ (by simp;omega)];simp
   ·rw[J0 (by simp;omega),oB,g _ (by simp;omega)];simp
   ·rw[J0 (by simp;omega),oB,J0 (by simp;omega),oB,g _ (by simp;omega)];simp
theorem J0h(l:List Q0)(j:l.length<=1000):∀(d k fuel:Nat) (acc:List d6),k+d=l.length->d<fuel->acc.length+2000*d<=3000000 ->
  j8 l fuel (k:Int) acc=some (acc++F9 (l.drop k))
 |d,k,0,acc,h,hf,g=>by omega
 |0,k,fuel+1,acc,h,hf,g=>by
  rw[j8.eq_2,if_neg (by simp;omega),T1 (by omega)]
  simp[F9]
 |d+1,k,fuel+1,acc,h,hf,g=>by
  have i:k<l.length:=by omega
  have a:=a7 i
  generalize l[k]=b at a
  obtain⟨c,e,f⟩:=b
  have h0:=I0h l j k c e f a (l.length-(k+1)) (k+1) P0 acc (by omega) (F1 (by omega)) (by omega)
  have m:=W0c (c,e,f) (l.drop (k+1))
  simp only[List.length_drop]at m
  rw[j8.eq_2,if_pos (by simp;omega),A2 i (by omega),h0,oB,J0h l j d (k+1) fuel _ (by omega) (by omega) (by simp only[List.length_append,List.length_drop]at m ⊢;omega),U1 a,F9]
  simp
theorem Q0k(g:l0)(a:g.2.2.length<=1000):Z03 g=some (F9 g.2.2):=by
 obtain⟨r,n,es⟩:=g
 unfold Z03
 simp only
 rw[show(0:Int)=((0:Nat):Int) from rfl,H0h es a es.length 0 P0 [] (by omega) (F1 (by simp only at a;omega)) (by simp only at a;simp;omega)]
 rfl
theorem R0k(g:l0)(a:g.2.2.length<=1000):L02 g=some (F9 g.2.2):=by
 obtain⟨r,n,es⟩:=g
 unfold L02
 simp only
 rw[show(0:Int)=((0:Nat):Int) from rfl,J0h es a es.length 0 P0 [] (by omega) (F1 (by simp only at a;omega)) (by simp only at a;simp;omega)]
 rfl
def O03(g:l0):d6×Bool:=bif W0 g then(match F9 g.2.2 with
 | []=>((0,0),false)
 |f::_=>(f,true))else((0,0),false)
theorem a0e(g:l0)(c:g.2.2.length<=140737488355328):A00 g=some (O03 g):=by
 have b:=r03 g c
 have a:=Q0k g
 unfold O03
 cases hg:W0 g with
 |false =>
  obtain⟨r,n,es⟩:=g
  unfold A00
  simp only[b,hg,oB];rfl
 |true =>
  have a:=a (by have:=(J2 hg).2.2.2;omega)
  obtain⟨r,n,es⟩:=g
  unfold A00
  simp only[b,hg,a,oB,cond_true]
  simp only at a
  cases F9 es with
  |nil=>rfl
  |cons f l =>
   rw[if_neg (by simp),if_neg (by simp;omega),J0c rfl]
   rfl
theorem b0e(g:l0)(c:g.2.2.length<=140737488355328):z00 g=some (O03 g):=by
 have b:=O7 g c
 have a:=R0k g
 unfold O03
 cases hg:W0 g with
 |false =>
  obtain⟨r,n,es⟩:=g
  unfold z00
  simp only[b,hg,oB];rfl
 |true =>
  have a:=a (by have:=(J2 hg).2.2.2;omega)
  obtain⟨r,n,es⟩:=g
  unfold z00
  simp only[b,hg,a,oB,cond_true]
  simp only at a
  cases F9 es with
  |nil=>rfl
  |cons f l =>
   rw[if_neg (by simp),if_neg (by simp;omega),J0c rfl]
   rfl
theorem G0n(v:Int)(f:d6)(d:0<=v/\v<1000)(hf:0<=f.1/\f.1<f.2):e03 v f=some (mvV f v):=by
 obtain⟨a,b⟩:=f
 simp only at hf
 unfold e03 mvV
 simp only
 by_cases c:v=b
 ·rw[if_pos (by simp[c]),if_neg (by simp;omega),if_pos c]
 ·rw[if_neg (by simp[c]),if_neg c]
  by_cases c2:v>b
  ·rw[if_pos (by simp[c2]),if_pos c2,w64 (by omega) (by omega)]
  ·rw[if_neg (by simp;omega),if_neg c2]
theorem S0k(v:Int)(f:d6)(d:0<=v/\v<1000):T6 v f=some (mvV f v):=by
 obtain⟨a,b⟩:=f
 unfold T6 mvV
 simp only
 by_cases c:v=b
 ·rw[if_pos (by simp[c]),if_pos c]
 ·rw[if_neg (by simp[c]),if_neg c]
  by_cases c2:v>b
  ·rw[if_pos (by simp[c2]),if_pos c2,w64 (by omega) (by omega)]
  ·rw[if_neg (by simp;omega),if_neg c2]
theorem c0j{f:d6}{v:Int}(a:0<=v/\v<1000)(hf:0<=f.1/\f.1<1000):I0 (mvV f v):=by
 unfold mvV
 split
 ·exact⟨by omega,by omega⟩
 ·split
  ·exact⟨by omega,by omega⟩
  ·exact⟨by omega,by omega⟩
theorem T0k(es:List Q0)(f:d6)(r n:Int)(s:es.length<=1000)(o:∀ e∈es,(0<=e.1/\e.1<1000)/\(0<=e.2.2/\e.2.2<1000))(hf:0<=f.1/\f.1<f.2)(q:f.2<1000):∀(d k fuel:Nat) (acc:List Q0),k+d=es.length->d<fuel->acc.length<=k ->
  P4 es f.1 f.2 fuel (k:Int) r n acc=some (r,n,l7 U0 acc ((es.drop k).map (mvE f)))
 |d,k,0,acc,l,m,j=>by omega
 |0,k,fuel+1,acc,l,m,j=>by
  rw[P4.eq_2,if_neg (by simp;omega),T1 (by omega)]
  rfl
 |d+1,k,fuel+1,acc,l,m,j=>by
  have c:k<es.length:=by omega
  have g:=a7 c
  have a:=o _ (List.getElem_mem c)
  generalize es[k]=b at g a
  obtain⟨h,p,i⟩:=b
  simp only at a
  have t:=n07 (mvE f (h,p,i)) acc
  rw[P4.eq_2,if_pos (by simp;omega),B3 g,oB]
  simp only[]
  rw[G0n h (f.1,f.2) a.1 hf,oB,J0 (c0j a.1 ⟨hf.1,by show f.1<1000;omega⟩),oB,G0n i (f.1,f.2) a.2 hf,oB,J0 (c0j a.2 ⟨hf.1,by show f.1<1000;omega⟩),oB,
   D06 acc _ (by omega),oB,A2 c (by omega),U1 g,List.map_cons]
  exact T0k es f r n s o hf q d (k+1) fuel _ (by omega) (by omega) (Nat.le_trans t (by omega))
theorem U0k{g:l0}{f:d6}(d:W0 g=true)(hf:okF g f):l8 g f=some (y02 g f,true):=by
 obtain⟨k,o,l,m⟩:=J2 d
 have i:=O7 g (by omega)
 obtain⟨c,f2,f3⟩:=hf
 obtain⟨r,n,es⟩:=g
 obtain⟨a,b⟩:=f
 simp only at c f2 f3 l m
 have h:=T0k es (a,b) r (IntKind.i64.wrap (n-1)) (by omega) (λe j=>by
  have:=k e j
  simp only at this
  exact⟨⟨by omega,by omega⟩,by omega,by omega⟩) ⟨c,f2⟩ (by simp only;omega) es.length 0 P0 [] (by omega) (F1 (by omega)) (Nat.le_refl _)
 unfold l8
 simp only[i,d,oB]
 rw[if_neg (by simp;omega),show(0:Int)=((0:Nat):Int) from rfl,h,w64 (by omega) (by omega)]
 rfl
theorem V0k(es:List Q0)(f:d6)(s:es.length<=1000)(n:∀ e∈es,(0<=e.1/\e.1<1000)/\(0<=e.2.2/\e.2.2<1000))(hf:0<=f.1/\f.1<1000):∀(d k fuel:Nat),k+d=es.length->d<fuel ->
  Q4 es f.1 f.2 fuel (k:Int) ((es.take k).map (mvE f)++es.drop k)=some (es.map (mvE f))
 |d,k,0,j,l=>by omega
 |0,k,fuel+1,j,l=>by
  rw[Q4.eq_2,if_neg (by simp;omega),T1 (by omega),List.append_nil,List.take_of_length_le (by omega)]
 |d+1,k,fuel+1,j,l=>by
  have g:k<es.length:=by omega
  have c:=a7 g
  have a:=n _ (List.getElem_mem g)
  generalize es[k]=b at c a
  have m:((es.take k).map (mvE f)).length=k:=by simp;omega
  have q:((es.take k).map (mvE f)++es.drop k)[k]?=some b:=by
   rw[List.getElem?_append_right (by omega),m,U1 c];simp
  have t:∀ y,((es.take k).map (mvE f)++es.drop k).set k y=(es.take k).map (mvE f)++y::es.drop (k+1):=λy=>by
   rw[List.set_append_right _ _ (by omega),m,U1 c];simp
  obtain⟨h,p,i⟩:=b
  simp only at a
  have e:(es.take (k+1)).map (mvE f)++es.drop (k+1)=(es.take k).map (mvE f)++mvE f (h,p,i)::es.drop (k+1):=by
   rw[T0r c];simp
  have o:=V0k es f s n hf d (k+1) fuel (by omega) (by omega)
  rw[e]at o
  rw[Q4.eq_2,if_pos (by simp;omega),B3 q,oB]
  simp only[]
  rw[S0k h (f.1,f.2) a.1,oB,J0 (c0j a.1 hf),oB,S0k i (f.1,f.2) a.2,oB,J0 (c0j a.2 hf),oB]
  simp only[oB]
  rw[show((k:Nat):Int).toNat=k from Int.toNat_natCast k,t,A2 g (by omega)]
  exact o
theorem W0k{g:l0}{f:d6}(d:W0 g=true)(hf:okF g f):n8 g f=some (y02 g f,true):=by
 obtain⟨l,p,m,o⟩:=J2 d
 have i:=r03 g (by omega)
 have j:=u04 g (by omega)
 obtain⟨c,f2,f3⟩:=hf
 obtain⟨r,n,es⟩:=g
 obtain⟨a,b⟩:=f
 simp only at c f2 f3 m o
 have h:=V0k es (a,b) (by omega) (λe k=>by
  have:=l e k
  simp only at this
  exact⟨⟨by omega,by omega⟩,by omega,by omega⟩) ⟨c,by simp only;omega⟩ es.length 0 P0 (by omega) (F1 (by omega))
 simp only[List.take_zero,List.map_nil,List.nil_append,List.drop_zero]at h
 unfold n8
 simp only[i,j,d,oB]
 rw[if_neg (by simp;omega),show(0:Int)=((0:Nat):Int) from rfl,h,oB,F0k _ (by simp;omega),oB,w64 (by omega) (by omega)]
 rfl
def P02(g:l0):l0×d6×Bool:=bif W0 g then(match F9 g.2.2 with
 | []=>(g,(0,0),false)
 |f::_=>(y02 g f,f,true))else(g,(0,0),false)
theorem b09(g:l0)(j:g.2.2.length<=1099511627776):o02 g=some (P02 g):=by
 have c:=b0e g (by omega)
 have d:=v01 g j
 have i:∀ f,W0 g=true->okF g f->l8 g f=some (y02 g f,true):=λf a b=>U0k a b
 have h:W0 g=true->∀ f∈F9 g.2.2,okF g f:=e06
 unfold O03 at c
 unfold P02
 obtain⟨r,n,es⟩:=g
 unfold o02
 simp only[c,oB]
 cases hg:W0 (r,n,es)with
 |false=>simp only[cond_false,Bool.not_false,if_true,d,oB]
 |true =>
  simp only[cond_true]
  simp only at h
  cases e:F9 es with
  |nil=>simp only[Bool.not_false,if_true,d,oB]
  |cons f l =>
   simp only[Bool.not_true,Bool.false_eq_true,if_false,i f hg (h hg f (by rw[e];exact mS)),oB]
theorem c09(g:l0)(j:g.2.2.length<=1099511627776):p02 g=some (P02 g):=by
 have c:=a0e g (by omega)
 have d:=u04 g j
 have i:∀ f,W0 g=true->okF g f->n8 g f=some (y02 g f,true):=λf a b=>W0k a b
 have h:W0 g=true->∀ f∈F9 g.2.2,okF g f:=e06
 unfold O03 at c
 unfold P02
 obtain⟨r,n,es⟩:=g
 unfold p02
 simp only[c,oB]
 cases hg:W0 (r,n,es)with
 |false=>simp only[cond_false,Bool.not_false,if_true,d,oB]
 |true =>
  simp only[cond_true]
  simp only at h
  cases e:F9 es with
  |nil=>simp only[Bool.not_false,if_true,d,oB]
  |cons f l =>
   simp only[Bool.not_true,Bool.false_eq_true,if_false,i f hg (h hg f (by rw[e];exact mS)),oB]
def J0s:(l0×N9) ⊕ (Int×Int×Y0×(List d6))->Option (l0×N9):=λX=>d9 X (λS=>match S with
 |(a,b,c,e)=>some ((a,b,c),e))
theorem T0f:∀(d k fuel:Nat) (g:l0) (acc:List d6),k+d=40->d<fuel->W0 g=true->acc.length=k ->
  (S6 fuel (k:Int) g.1 g.2.1 g.2.2 acc).bind J0s=some ((z02 d g).1,acc++(z02 d g).2)
 |d,k,0,g,acc,h,hf,a,c=>by omega
 |0,k,fuel+1,g,acc,h,hf,a,c=>by
  rw[S6.eq_2,if_neg (by simp;omega)]
  simp[J0s,d9,z02]
 |d+1,k,fuel+1,g,acc,h,hf,a,c=>by
  have b:=b09 g (by have:=(J2 a).2.2.2;omega)
  have i:=e06 a
  unfold P02 at b
  rw[a]at b
  simp only[cond_true]at b
  rw[S6.eq_2,if_pos (by simp;omega),show(g.1,g.2.1,g.2.2)=g from rfl,b]
  unfold z02
  cases e:F9 g.2.2 with
  |nil=>simp[J0s,d9]
  |cons f l =>
   have j:=T0f d (k+1) fuel (y02 g f) (acc ++ [f]) (by omega) (by omega) (F06 a (i f (by rw[e];exact mS))) (by simp[c])
   simp only[oB,Bool.not_true,Bool.false_eq_true,if_false]
   rw[J0 (by simp;omega),oB,A2 (show k<1000 by omega) (by omega)]
   refine j.trans ?_
   simp
theorem o0a(g:l0)(b:g.2.2.length<=1099511627776):M02 g=some (I01 g):=by
 have a:=b09 g b
 have c:=v01 g b
 have d:=T0f 40 0 P0 g [] rfl (F1 (by omega))
 unfold I01
 obtain⟨r,n,es⟩:=g
 unfold M02
 simp only[c,oB]
 cases hg:W0 (r,n,es)with
 |false =>
  unfold P02 at a
  rw[hg]at a
  simp only[cond_false]at a
  rw[show P0=(P0-1)+1 from rfl,S6.eq_2,if_pos (by simp),a]
  rfl
 |true=>exact d hg rfl
theorem U0f:∀(d fuel:Nat) (g:l0) (acc:List d6),d<fuel->W0 g=true->F9 (z02 d g).1.2.2 = []->acc.length+d<=1000 ->
  o8 fuel g.1 g.2.1 g.2.2 acc=some (.inl ((z02 d g).1,acc++(z02 d g).2))
 |d,0,g,acc,hf,a,c,j=>by omega
 |d,fuel+1,g,acc,hf,a,c,j=>by
  have b:=c09 g (by have:=(J2 a).2.2.2;omega)
  have i:=e06 a
  unfold P02 at b
  rw[a]at b
  simp only[cond_true]at b
  rw[o8.eq_2,show(g.1,g.2.1,g.2.2)=g from rfl,b]
  cases e:F9 g.2.2 with
  |nil =>
   have h:z02 d g=(g,[]):=by
    cases d with
    |zero=>rfl
    |succ d=>unfold z02;rw[e]
   rw[h]
   simp
  |cons f l =>
   cases d with
   |zero=>exact absurd e (by rw[show F9 g.2.2 = [] from c];simp)
   |succ d =>
    have h:z02 (d+1) g=((z02 d (y02 g f)).1,f::(z02 d (y02 g f)).2):=by
     show(match F9 g.2.2 with | []=>(g,[])|f::_=>((z02 d (y02 g f)).1,f::(z02 d (y02 g f)).2))=_
     rw[e]
    rw[h]at c ⊢
    have k:=U0f d fuel (y02 g f) (acc ++ [f]) (by omega) (F06 a (i f (by rw[e];exact mS))) c (by simp;omega)
    simp only[oB,Bool.not_true,Bool.false_eq_true,if_false]
    rw[J0 (by simp;omega),oB]
    refine k.trans ?_
    simp
theorem H0g(g:l0)(c:g.2.2.length<=1099511627776):O02 g=some (I01 g):=by
 have b:=c09 g c
 have d:=u04 g c
 have e:=U0f 40 P0 g [] (F1 (by omega))
 have f:W0 g=true->F9 (z02 40 g).1.2.2 = []:=λa=>O0a 40 a (by have:=(J2 a).2.2.1;omega)
 unfold I01
 obtain⟨r,n,es⟩:=g
 unfold O02
 simp only[d,oB]
 cases a:W0 (r,n,es)with
 |false =>
  unfold P02 at b
  rw[a]at b
  simp only[cond_false]at b
  rw[show P0=(P0-1)+1 from rfl,o8.eq_2,b]
  rfl
 |true =>
  have h:=e a (f a) (by simp)
  simp only at h
  rw[h]
  rfl
theorem p07{g:l0}(h:W0 g=true):Asc U0 g.2.2:=((K7 g).1 h).2.2.2.2
def stp(u x v:Int):Q0:=if x<0 then(v,-x,u)else(u,x,v)
def R04(v:Int):List Int->Int->Int->List Q0
 | [],_,_=>[]
 | [x],u,_=>[stp u x v]
 |x::y::r,u,n=>stp u x n::R04 v (y::r) n (n+1)
theorem Y0c(v:Int):∀(w:List Int) (u n:Int),(R04 v w u n).length=w.length
 | [],_,_=>rfl
 | [x],_,_=>rfl
 |x::y::r,u,n=>by simp only[R04,List.length_cons,Y0c v (y::r)]
theorem d0j(w:List Int)(v:Int)(r:Int)(h:∀ x∈w,I00 x/\x≠0)(o:w.length<=1000):∀(d k fuel:Nat) (u n:Int) (es:List Q0),k+d=w.length->d<fuel->0<=n->n<=1000+k->es.length<=1000+k ->
  o5 w v fuel u (k:Int) r n es=some (r,n+((d-1:Nat):Int),l7 U0 es (R04 v (w.drop k) u n))
 |d,k,0,u,n,es,m,hf,h0,j,l=>by omega
 |0,k,fuel+1,u,n,es,m,hf,h0,j,l=>by
  rw[o5.eq_2,if_neg (by simp;omega),T1 (by omega)]
  simp[R04,l7]
 |d+1,k,fuel+1,u,n,es,m,hf,h0,j,l=>by
  have f:k<w.length:=by omega
  have g:=a7 f
  have b:=h _ (List.getElem_mem f)
  generalize w[k]=x at g b
  have p:∀ e,(x00 U0 e es).length<=1000+(k+1):=λe=>by have:=n07 e es;omega
  rw[o5.eq_2,if_pos (by simp;omega),U1 g]
  by_cases c:k+1<w.length
  ·have i:=a7 c
   generalize w[k+1]=y at i
   have a:=d0j w v r h o d (k+1) fuel n (n+1) (x00 U0 (stp u x n) es) (by omega) (by omega) (by omega) (by omega) (p _)
   rw[U1 i]at a
   rw[A2 f (by omega),if_pos (by simp;omega),B3 g,oB,w64 (show(-9223372036854775808:Int)<=n+1 by omega) (by omega),U1 i]
   have fin:some (r,n+1+((d-1:Nat):Int),l7 U0 (x00 U0 (stp u x n) es) (R04 v (y::w.drop (k+1+1)) n (n+1)))=some (r,n+((d+1-1:Nat):Int),l7 U0 es (R04 v (x::y::w.drop (k+1+1)) u n)):=by
    simp only[R04,l7]
    congr 3
    omega
   by_cases c2:x>0
   ·have e:stp u x n=(u,x,n):=by unfold stp;rw[if_neg (by omega)]
    rw[if_pos (by simp[c2])]
    simp only[oB]
    rw[D06 es _ (by omega),oB,←e]
    exact a.trans fin
   ·have e:stp u x n=(n,-x,u):=by unfold stp;rw[if_pos (by omega)]
    rw[if_neg (by simp;omega)]
    simp only[oB]
    rw[v0k b.1.1 b.1.2,D06 es _ (by omega),oB,←e]
    exact a.trans fin
  ·have q:d=0:=by omega
   subst q
   have a:=d0j w v r h o 0 (k+1) fuel v n (x00 U0 (stp u x v) es) (by omega) (by omega) h0 (by omega) (p _)
   rw[T1 (show k+1=w.length by omega)]at a ⊢
   rw[A2 f (by omega),if_neg (by simp;omega),B3 g,oB]
   have fin:some (r,n+((0-1:Nat):Int),l7 U0 (x00 U0 (stp u x v) es) (R04 v [] v n))=some (r,n+((0+1-1:Nat):Int),l7 U0 es (R04 v [x] u n)):=by
    simp[R04,l7]
   by_cases c2:x>0
   ·have e:stp u x v=(u,x,v):=by unfold stp;rw[if_neg (by omega)]
    rw[if_pos (by simp[c2])]
    simp only[oB]
    rw[D06 es _ (by omega),oB,←e]
    exact a.trans fin
   ·have e:stp u x v=(v,-x,u):=by unfold stp;rw[if_pos (by omega)]
    rw[if_neg (by simp;omega)]
    simp only[oB]
    rw[v0k b.1.1 b.1.2,D06 es _ (by omega),oB,←e]
    exact a.trans fin
def W8(g:l0)(u:Int)(w:List Int)(v:Int):l0×Bool :=
 bif !w.isEmpty&&decide (g.2.1+(w.length:Int)-1<=40)&&decide (g.2.2.length+w.length<=120)then((g.1,g.2.1+((w.length-1:Nat):Int),l7 U0 g.2.2 (R04 v w u g.2.1)),true)else(g,false)
theorem e0j{r:Int}{w:List Int}(h:c7 r w=true):w.length<=24/\∀ x∈w,I00 x/\x≠0 /\ -r<=x/\x<=r:=by
 have a:=h
 simp only[c7,Bool.and_eq_true,decide_eq_true_eq]at a
 refine⟨a.1.2,λx c=>?_⟩
 obtain⟨i,b⟩:=List.getElem?_of_mem c
 have:=y0k h b
 exact⟨⟨⟨by omega,by omega⟩,by omega⟩,this.2.2⟩
theorem p0a{g:l0}{u v:Int}{w:List Int}(d:W0 g=true)(f:0<=u/\u<g.2.1)(i:0<=v/\v<g.2.1)(j:c7 g.1 w=true):J01 g u w v=some (W8 g u w v):=by
 obtain⟨y,z,p,q⟩:=J2 d
 obtain⟨A,k⟩:=e0j j
 have l:=O7 g (by omega)
 have m:=v01 g (by omega)
 have b:=U07 g.1 w (by omega)
 obtain⟨r,n,es⟩:=g
 simp only at p q f i b
 have o:IntKind.i64.wrap (n-1)=n-1:=w64 (by omega) (by omega)
 have e:∀ x:Int,0<=x/\x<n->inR 0 (n-1) x=true:=λx a=>by simp[inR];omega
 have h:=d0j w v r (λx a=>⟨(k x a).1,(k x a).2.1⟩) (by omega) w.length 0 P0 u n es (by omega) (F1 (by omega)) (by omega) (by omega) (by omega)
 unfold J01 W8
 simp only[l,m,d,oB,Bool.not_true,Bool.not_false,K1,cond_false,o,D01,e u f,e v i,b,j]
 rw[w64 (show(-9223372036854775808:Int)<=n+((w.length:Nat):Int) by omega) (by omega),w64 (show(-9223372036854775808:Int)<=n+((w.length:Nat):Int)-1 by omega) (by omega),w64 (show(-9223372036854775808:Int)<=((es.length:Nat):Int)+((w.length:Nat):Int) by omega) (by omega)]
 by_cases c:(w≠[]/\n+(w.length:Int)-1<=40)/\es.length+w.length<=120
 ·have t:w.length≠0:=by simpa using c.1.1
  rw[if_neg (by simp only[Bool.not_eq_true];simp[c.1.1];omega),show(0:Int)=((0:Nat):Int) from rfl,h,oB]
  rw[show(!w.isEmpty&&decide (n+(w.length:Int)-1<=40)&&decide (es.length+w.length<=120))=true by simp[c.1.1,c.1.2,c.2]]
  rfl
 ·rw[show(!w.isEmpty&&decide (n+(w.length:Int)-1<=40)&&decide (es.length+w.length<=120))=false by
   rw[←Bool.not_eq_true];simpa using c]
  rw[if_pos ?_]
  ·rfl
  ·by_cases d1:w = []
   ·simp[d1]
   ·by_cases d2:n+(w.length:Int)-1<=40
    ·have s : ¬ es.length+w.length<=120:=λh=>c ⟨⟨d1,d2⟩,h⟩
     have:decide (((es.length:Nat):Int)+((w.length:Nat):Int)>120)=true:=by simp;omega
     rw[this];simp
    ·have:decide (n+((w.length:Nat):Int)-1>40)=true:=by simp;omega
     rw[this];simp
theorem z0t{g:l0}(a:W0 g=true){u:Int}(b:0<=u/\u<g.2.1):I4 g u=some true:=by
 obtain⟨d,e,c,f⟩:=J2 a
 obtain⟨r,n,es⟩:=g
 simp only at c b
 unfold I4
 simp only[Y05]
 rw[w64 (by omega) (by omega)]
 simp[inR];omega
def K00(r n:Int):Q1×Bool:=(V3 r n).getD ([],false)
def k09(r n:Int):Bool:=match V3 r n,w5 r n with
 |some a,some b=>decide (a=b)&&decide (l0n a.1<=1000)
 |_,_=>false
theorem R0s:k09 1 1=true:=by decide +kernel
theorem S0s:k09 1 2=true:=by decide +kernel
theorem T0s:k09 1 3=true:=by decide +kernel
theorem U0s:k09 2 1=true:=by decide +kernel
theorem V0s:k09 2 2=true:=by decide +kernel
theorem W0s:k09 2 3=true:=by decide +kernel
theorem X0s:k09 3 1=true:=by decide +kernel
theorem Y0s:k09 3 2=true:=by decide +kernel
theorem D0r{r n:Int}(h:inR 1 3 r=false∨inR 1 3 n=false∨r=3/\n=3):V3 r n=some ([],false)/\w5 r n=some ([],false):=by
 unfold V3 w5
 rw[D01,Y05,D01,Y05,oB,oB]
 cases h1:inR 1 3 r
 ·simp[chk]
 ·rw[h1]at h
  cases h2:inR 1 3 n
  ·simp[chk]
  ·rw[h2]at h
   obtain⟨rfl,rfl⟩:r=3/\n=3:=by simpa using h
   simp[chk]
theorem Z0s(r n:Int):k09 r n=true:=by
 by_cases h:inR 1 3 r=false∨inR 1 3 n=false∨r=3/\n=3
 ·obtain⟨a,b⟩:=D0r h
  unfold k09
  rw[a,b]
  decide
 ·have a:inR 1 3 r=true:=by
   cases e:inR 1 3 r
   ·exact absurd (.inl e) h
   ·rfl
  have b:inR 1 3 n=true:=by
   cases e:inR 1 3 n
   ·exact absurd (.inr (.inl e)) h
   ·rfl
  have f : ¬(r=3/\n=3):=λe=>h (.inr (.inr e))
  have g:1<=r/\r<=3:=by simpa [inR] using a
  have i:1<=n/\n<=3:=by simpa [inR] using b
  have c:r=1∨r=2∨r=3:=by omega
  have d:n=1∨n=2∨n=3:=by omega
  rcases c with rfl|rfl|rfl<;>rcases d with rfl|rfl|rfl
  ·exact R0s
  ·exact S0s
  ·exact T0s
  ·exact U0s
  ·exact V0s
  ·exact W0s
  ·exact X0s
  ·exact Y0s
  ·exact absurd ⟨rfl,rfl⟩ f
theorem C0t(r n:Int):V3 r n=some (K00 r n)/\w5 r n=some (K00 r n)/\l0n (K00 r n).1<=1000:=by
 have h:=Z0s r n
 unfold k09 at h
 unfold K00
 split at h
 ·rename_i a b c d
  simp only[Bool.and_eq_true,decide_eq_true_eq]at h
  rw[c,d,h.1]
  exact⟨rfl,rfl,by rw[←h.1];exact h.2⟩
 ·cases h
end Go.Proofs.YtmgikbbmpnbbjaaGreat
