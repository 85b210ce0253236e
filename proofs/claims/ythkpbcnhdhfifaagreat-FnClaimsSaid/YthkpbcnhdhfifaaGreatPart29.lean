/- Texts of the claim, joined: Plain laws: words and presentations, as the spec and the cod and others. -/
import Derived.Test.YthkpbcnhdhfifaaGreatPart22
import Derived.Test.YthkpbcnhdhfifaaGreatH33
import Derived.Test.YthkpbcnhdhfifaaGreatH36
import Derived.Test.YthkpbcnhdhfifaaGreatPart23
namespace Go.Proofs.YthkpbcnhdhfifaaGreat
set_option linter.all false
open Go.H
open IntKind (i64)
def F1{n:Nat}(h:n<=140737488355328):n<U0:=by unfold U0;omega
theorem F0{p:Prop}[Decidable p](h:p):grd p=some ():=by unfold grd;rw[iP h]
theorem G1{a:Type}(o:Option a)(d:a):chk true o d=o:=rfl
theorem M1{a:Type}(o:Option a)(d:a):chk false o d=some d:=rfl
theorem E2{a:Type}{xs:List a}{k:Nat}{x:a}(h:xs[k]?=some x):gi xs (k:Int)=some x:=by rw[O0h];exact h
def t0f{a:Type}{xs:List a}{x:a}(h:xs[0]?=some x):gi xs 0=some x:=E2 (k:=0) h
theorem X0b{x:Int}(h:I0 x)(a:x ≠ -9223372036854775808):i64.wrap (0-x) = -x:=by rw[w64 (by have:=h.1;have:=h.2;omega) (by have:=h.1;have:=h.2;omega)];omega
theorem B0g{n:Nat}(h:0<n)(a:n<=9223372036854775807):i64.wrap ((n:Int)-1)=((n-1:Nat):Int):=by grind[w64]
theorem V3{a:Type}{xs:List a}{k:Nat}(h:k<xs.length):xs[k]?=some xs[k]:=gG h
def inR(b a x:Int):Bool:=decide (b<=x)&&decide (x<=a)
def g09(b a:Int)(w:List Int)(i:Nat):Bool :=
 match w[i]? with
 |none=>true
 |some x=>x == 0 || !inR b a x || (decide (0<i)&&match w[i-1]? with
  |none=>true
  |some y=>x == i64.wrap (0-y))
def m06(b a:Int)(w:List Int):Nat->Nat->Bool
 |0,_=>true
 |d+1,k => !g09 b a w k&&m06 b a w d (k+1)
def O1(r:Int)(w:List Int):Bool:=inR 1 3 r&&decide (w.length<=24)&&m06 (-r) r w w.length 0
theorem H03(a b c:Int):i4 a b c=some (inR b c a):=by unfold i4 inR;by_cases h:b<=a<;>simp[h]
theorem y04(a b c:Int):A5 a b c=some (inR b c a):=H03 a b c
def H0a(r:Int)(w:List Int)(l:w.length<=140737488355328):∀(d k fuel:Nat),k+d=w.length->d<fuel -> K00 w r fuel (k:Int)=some (bif m06 (i64.wrap (0-r)) r w d k then .inr ()else .inl false)
 |d,k,0,h,hf=>oM
 |0,k,fuel+1,h,hf=>by simp_all[K00.eq_2,iE,m06]
 |d+1,k,fuel+1,h,hf=>by
  have i:k<w.length:=oM;have a:=V3 i;generalize w[k]=x at a;have next:=H0a r w l d (k+1) fuel oM oM;rw[K00.eq_2,iP (by simp;omega)];generalize i64.wrap (0-r)=lo at next ⊢;simp only[E2 a,oB,H03,G2 i (by omega:w.length<=9223372036854775807),next];have j:g09 lo r w k=(x == 0 || !inR lo r x || (decide (0<k)&&match w[k-1]? with
   |none=>true
   |some y=>x == i64.wrap (0-y))):=by unfold g09;rw[a]
  simp only[m06,j];by_cases h0:x=0;·simp[h0,chk]
  have e:decide (x=0)=false:=by simpa using h0
  have b:(x == 0)=false:=by simpa using h0
  cases hin:inR lo r x;·simp[e,b,hin,chk]
  by_cases hk0:k=0
  ·have f:decide ((k:Int)>0)=false:=by simp;omega
   have c:decide (0<k)=false:=by simp;omega
   simp only[e,b,hin,f,c,G1,M1,bT,bF,Bool.and_true,Bool.false_and,Bool.or_self,Bool.true_and,cT,zF,oB,Bool.or_false,Bool.and_false,fT,if_false,cT,zF]
  have g:=V3 (show k-1<w.length by omega);generalize w[k-1]=y at g;have m:i64.wrap ((k:Int)-1)=((k-1:Nat):Int):=B0g oM oM;have f:decide ((k:Int)>0):=by simp;omega
  have c:decide (0<k):=by simp;omega
  simp only[e,b,hin,f,c,m,g,E2 a,E2 g,G1,M1,bT,bF,Bool.and_true,Bool.false_and,Bool.or_self,Bool.true_and,cT,zF,oB,Bool.or_false,Bool.and_false,Bool.false_or];grind
def h03(r:Int)(w:List Int)(a:w.length<=140737488355328):I8 r w=some (O1 r w):=by
 unfold I8;have h:=H0a r w a w.length 0 U0 oM (F1 a);rw[show((0:Nat):Int)=0 from rfl]at h;rw[h,H03];unfold O1;by_cases hr:inR 1 3 r
 ·have:i64.wrap (0-r) = -r:=by simp only[inR,aE,dE]at hr;grind[w64]
  rw[this,hr];cases m06 (-r) r w w.length 0<;>simp[T9]<;>omega
 simp only[Bool.not_eq_true]at hr;rw[hr];cases m06 (i64.wrap (0-r)) r w w.length 0<;>simp[T9]
def y0s(r x:Int)(b:inR 1 3 r):x04 r x=some (!(x == 0)&&inR (-r) r x):=by
 have a:i64.wrap (0-r) = -r:=by simp only[inR,aE,dE]at b;grind[w64]
 unfold x04;rw[a,y04];by_cases h0:x=0;all_goals grind[chk]
def C0g(y x:Int):J01 y x=some (!(y == 0) && !(y == -9223372036854775808)&&(x == i64.wrap (0-y))):=by unfold J01;grind
def I0a(r:Int)(w:List Int)(g:inR 1 3 r)(t:w.length<=140737488355328):∀(d k fuel:Nat),k+d=w.length->d<fuel ->
  (∀ i,i<k->g09 (-r) r w i=false) ->
  L00 w r fuel (k:Int)=some (bif m06 (-r) r w d k then .inr ()else .inl false)
 |d,k,0,m,hf,f=>oM
 |0,k,fuel+1,m,hf,f=>by
  simp_all[L00.eq_2,iE,m06]
 |d+1,k,fuel+1,m,hf,f=>by
  have n:k<w.length:=oM
  have h:=V3 n
  generalize w[k]=x at h
  have next:=λ(e:g09 (-r) r w k=false)=>I0a r w g t d (k+1) fuel oM oM (λi z=>by
   grind)
  rw[L00.eq_2,iP (by simp;omega)]
  rw[E2 h,oB,y0s r x g,G2 n (by omega:w.length<=9223372036854775807)]
  have l:g09 (-r) r w k=(x == 0 || !inR (-r) r x || (decide (0<k)&&match w[k-1]? with
   |none=>true
   |some y=>x == i64.wrap (0-y))):=by unfold g09;rw[h]
  simp only[m06]
  by_cases h0:x=0
  ·simp[h0,chk,l]
  have b:(x == 0)=false:=by simpa using h0
  cases hin:inR (-r) r x with
  |false=>simp[b,hin,chk,l]
  |true =>
   by_cases hk0:k=0
   ·have e:g09 (-r) r w k=false:=oG
    rw[next e,e]
    have c:decide ((k:Int)>0)=false:=by simp;omega
    simp only[b,c,G1,M1,bT,bF,Bool.and_true,Bool.false_and,Bool.or_self,Bool.true_and,cT,zF,oB,Bool.or_false,Bool.and_false,fT,if_false,cT,zF]
   ·have j:=V3 (show k-1<w.length by omega)
    have a:=f (k-1) oM
    generalize w[k-1]=y at j
    have o:y≠0/\y ≠ -9223372036854775808:=by
     unfold g09 at a
     rw[j]at a
     simp only[Bool.or_eq_false_iff,Bool.not_eq_false']at a
     have s:=a.1.2
     simp only[inR,aE,dE]at s g
     grind
    have p:(y == 0)=false:=by simpa using o.1
    have q:(y == -9223372036854775808)=false:=by simpa using o.2
    have u:i64.wrap ((k:Int)-1)=((k-1:Nat):Int):=B0g oM oM
    have c:decide ((k:Int)>0):=by simp;omega
    have v:decide (0<k):=by simp;omega
    simp only[b,c,u,E2 j,C0g,p,q,G1,M1,bT,bF,Bool.and_true,Bool.false_and,Bool.or_self,Bool.true_and,cT,zF,oB,Bool.or_false,Bool.and_false,Bool.false_or]
    grind
def i03(r:Int)(w:List Int)(a:w.length<=140737488355328):J8 r w=some (O1 r w):=by
 unfold J8;rw[y04];unfold O1;cases hr:inR 1 3 r;·simp
 by_cases h24:w.length<=24;·have h:=I0a r w hr a w.length 0 U0 oM (F1 a) (λi c=>oM);rw[show((0:Nat):Int)=0 from rfl]at h;have b : ¬ (24:Int)<(w.length:Int):=oM;simp only[oB,h,b];cases m06 (-r) r w w.length 0<;>simp[T9,h24]
 grind
def tot:List (List Int)->Nat
 | []=>0
 |w::r=>w.length+tot r
theorem L1{a:Type}{xs:List a}{k:Nat}{x:a}(h:xs[k]?=some x):xs.drop k=x::xs.drop (k+1):=by
 grind[List.getElem?_eq_some_iff,List.drop_eq_getElem_cons]
theorem J1{a:Type}{xs:List a}{k:Nat}(h:k=xs.length):xs.drop k = []:=oG
def h07(ws:List (List Int))(g:ws.length<=140737488355328):∀(d k fuel a:Nat),k+d=ws.length->d<fuel->a+tot (ws.drop k)<=9223372036854775807 -> T4 ws fuel (a:Int) (k:Int)=some ((a+tot (ws.drop k):Nat):Int)
 |d,k,0,a,e,hf,b=>oM
 |0,k,fuel+1,a,e,hf,b=>by rw[T4.eq_2,iE (by simp;omega),J1 oM];rfl
 |d+1,k,fuel+1,a,e,hf,b=>by
  have f:k<ws.length:=oM;have c:=V3 f;generalize ws[k]=x at c;rw[L1 c]at b ⊢;simp only[tot]at b ⊢;rw[T4.eq_2,iP (by simp;omega),E2 c,oB,G2 f (by omega:ws.length<=9223372036854775807),
   show i64.wrap ((a:Int)+((x.length:Nat):Int))=((a+x.length:Nat):Int) by grind[w64],
   h07 ws g d (k+1) fuel (a+x.length) oM oM oM]
  rw[Nat.add_assoc]
def J09(ws:List (List Int))(a:ws.length<=140737488355328)(b:tot ws<=9223372036854775807):Y00 ws=some ((tot ws:Nat):Int):=by unfold Y00;have h:=h07 ws a ws.length 0 U0 0 oM (F1 a) (by simpa using b);grind
def w06(ws:List (List Int)):∀(fuel:Nat) (a k:Int),p8 ws fuel a k=T4 ws fuel a k
 |0,a,k=>rfl
 |fuel+1,a,k=>by rw[p8.eq_2,T4.eq_2];simp only[w06 ws fuel]
def D0g(ws:List (List Int))(a:ws.length<=140737488355328)(b:tot ws<=9223372036854775807):E02 ws=some ((tot ws:Nat):Int):=by rw[←J09 ws a b];unfold E02 Y00;rw[w06]
def E0g(r:Int):List (List Int)->Bool
 | []=>true
 |w::l=>O1 r w&&E0g r l
def O2(r:Int)(ws:List (List Int)):Bool:=inR 1 3 r&&decide (ws.length<=6)&&E0g r ws&&decide (tot ws<40)
theorem x0k{r:Int}:∀ {ws:List (List Int)},E0g r ws=true->tot ws<=24*ws.length
 | [],_=>by simp[tot]
 |w::l,h=>by
  simp only[E0g,Bool.and_eq_true]at h
  have a:=h.1
  simp only[O1,Bool.and_eq_true,decide_eq_true_eq]at a
  have:=x0k h.2
  grind[tot,List.length_cons]
def Y8(ws:List (List Int)):Prop:=∀ w∈ws,w.length<=140737488355328
def h09(r:Int)(ws:List (List Int))(g:ws.length<=140737488355328)(e:Y8 ws):∀(d k fuel:Nat),k+d=ws.length->d<fuel -> c9 ws r fuel (k:Int)=some (bif E0g r (ws.drop k)then .inr ()else .inl false)
 |d,k,0,b,hf=>oM
 |0,k,fuel+1,b,hf=>by rw[c9.eq_2,iE (by simp;omega),J1 oM];rfl
 |d+1,k,fuel+1,b,hf=>by
  have c:k<ws.length:=oM;have a:=V3 c;have f:=e _ (mG a);generalize ws[k]=x at a f;rw[L1 a,c9.eq_2,iP (by simp;omega),E2 a,oB,h03 r x f,oB,G2 c (by omega:ws.length<=9223372036854775807),
   h09 r ws g e d (k+1) fuel oM oM]
  simp only[E0g];cases O1 r x<;>simp
def i09(r:Int)(ws:List (List Int))(a:ws.length<=140737488355328)(d:Y8 ws):V01 r ws=some (O2 r ws):=by
 unfold V01;have h:=h09 r ws a d ws.length 0 U0 oM (F1 a);rw[show((0:Nat):Int)=0 from rfl,(dZ)]at h;rw[h,oB];unfold O2;cases ha:E0g r ws;·simp[T9]
 rw[(cT),V0,H03,oB];have:=x0k ha;cases hr:inR 1 3 r;·simp[chk,grd,I0]
 by_cases h6:ws.length<=6
 ·rw[J09 ws a oM];have b:decide (((ws.length:Nat):Int)<=6):=by simp;omega
  have c:decide (ws.length<=6):=by simpa using h6
  rw[b,c,(cT),G1,oB,F0 (by constructor<;>omega)];simp;omega
 grind[decide,chk,grd,I0]
def j09(r:Int)(ws:List (List Int))(g:ws.length<=140737488355328)(e:Y8 ws):∀(d k fuel:Nat),k+d=ws.length->d<fuel -> d9 ws r fuel (k:Int)=some (bif E0g r (ws.drop k)then .inr ()else .inl false)
 |d,k,0,b,hf=>oM
 |0,k,fuel+1,b,hf=>by rw[d9.eq_2,iE (by simp;omega),J1 oM];rfl
 |d+1,k,fuel+1,b,hf=>by
  have c:k<ws.length:=oM;have a:=V3 c;have f:=e _ (mG a);generalize ws[k]=x at a f;rw[L1 a,d9.eq_2,iP (by simp;omega),E2 a,oB,i03 r x f,oB,G2 c (by omega:ws.length<=9223372036854775807),
   j09 r ws g e d (k+1) fuel oM oM]
  simp only[E0g];cases O1 r x<;>simp
def k09(r:Int)(ws:List (List Int))(a:ws.length<=140737488355328)(d:Y8 ws):W01 r ws=some (O2 r ws):=by
 unfold W01;rw[y04,oB];unfold O2;cases hr:inR 1 3 r;·simp
 by_cases h6:ws.length<=6
 ·have b:decide (((ws.length:Nat):Int)>6)=false:=by simp;omega
  have c:decide (ws.length<=6):=by simpa using h6
  have h:=j09 r ws a d ws.length 0 U0 oM (F1 a);rw[show((0:Nat):Int)=0 from rfl,(dZ)]at h;rw[b,c,h,oB];cases ha:E0g r ws;·simp[T9]
  have:=x0k ha;simp only[cT,V0,D0g ws a oM,oB,F0 (show I0 ((tot ws:Nat):Int) by constructor<;>omega)];simp;omega
 grind
def V0d{b a:Int}{w:List Int}:∀ {d k:Nat},m06 b a w d k->∀ i,k<=i->i<k+d->g09 b a w i=false
 |0,k,h,i,c,f=>oM
 |d+1,k,h,i,c,f=>by
  simp only[m06,aE,Bool.not_eq_true']at h;by_cases e:i=k;·subst e;exact h.1
  exact V0d h.2 i oM oM
def I0i{r:Int}{w:List Int}(h:O1 r w){i:Nat}{x:Int}(c:w[i]?=some x):(1<=r/\r<=3)/\w.length<=24/\x≠0 /\ -r<=x/\x<=r:=by simp only[O1,aE,dE]at h;have b:=h.1.1;simp only[inR,aE,dE]at b;have a:=V0d h.2 i (Nat.zero_le _) oG;unfold g09 at a;simp_all[Bool.or_eq_false_iff,Bool.not_eq_false',inR,aE,dE]
def ng(x:Int):Int:=i64.wrap (0-x)
def inv(w:List Int):List Int:=(w.map ng).reverse
theorem J07(w:List Int):(inv w).length=w.length:=by simp[inv]
def i07(w:List Int):Prop:=∀ x∈w,I0 x
def Y0w{w:List Int}{k:Nat}{x:Int}(a:w[k]?=some x):inv (w.drop k)=inv (w.drop (k+1)) ++ [ng x]:=by simp_all[L1,inv]
def W07(w:List Int)(c:w.length<=17592186044416):∀(k fuel:Nat),k<=w.length->k<fuel -> C5 w fuel ((k:Int)-1) (inv (w.drop k))=some (inv w)
 |k,0,b,hf=>oM
 |0,fuel+1,b,hf=>by simp_all[C5.eq_2,iE]
 |k+1,fuel+1,b,hf=>by
  have a:=V3 (show k<w.length by omega);have next:=W07 w c k fuel oM oM;generalize w[k]=x at a;rw[Y0w a]at next;have d:=J07 (w.drop (k+1));rw[List.length_drop]at d;rw[show(((k+1:Nat):Int)-1)=(k:Int) by omega,C5.eq_2,iP oS,E2 a,oB,F0 oG,oB,
   w64 oM oM]
  exact next
def y05(w:List Int)(a:w.length<=17592186044416):g9 w=some (inv w):=by unfold g9;have h:=W07 w a w.length U0 (Nat.le_refl _) (F1 oM);rw[List.drop_length]at h;rw[w64 oM oM,show([]:J0)=inv [] from rfl,h];rfl
theorem M06(w:List Int):∀(fuel:Nat) (k:Int) (u:List Int),W8 w fuel k u=C5 w fuel k u
 |0,k,u=>rfl
 |fuel+1,k,u=>by rw[W8.eq_2,C5.eq_2];simp only[M06 w fuel]
def u07(w:List Int)(a:w.length<=17592186044416):t00 w=some (inv w):=by rw[←y05 w a];grind[t00,g9,F0,M06]
def N05(l x:Int):Bool := !(l == 0) && !(l == -9223372036854775808)&&(x == ng l)
def j8(s:List Int)(x:Int):List Int:=match s with
 | []=>[x]
 |l::t=>bif N05 l x then t else x::l::t
def Z8(s w:List Int):List Int:=w.foldl j8 s
def Red:List Int->Bool
 | []=>true
 | [_]=>true
 |x::l::t => !N05 l x&&Red (l::t)
def z0q{x:Int}{t:List Int}(h:Red (x::t)):Red t:=by
 cases t with
 |nil=>rfl
 |cons l t=>simp_all[Red,aE]
def D0v{s:List Int}(x:Int)(h:Red s):Red (j8 s x):=by
 cases s with
 |nil=>rfl
 |cons l t =>
  simp only[j8];cases hc:N05 l x;·simp_all[zF,Red]
  exact z0q h
def J0a:∀(w s:List Int),Red s->Red (Z8 s w)
 | [],s,h=>h
 |x::w,s,h=>J0a w (j8 s x) (D0v x h)
theorem K0a(s a b:List Int):Z8 s (a++b)=Z8 (Z8 s a) b:=List.foldl_append
theorem Q0h:∀(s:List Int),Red s->Z8 [] s.reverse=s
 | [],h=>rfl
 |x::t,h=>by
  rw[List.reverse_cons,K0a,Q0h t (z0q h)];show j8 t x=_;cases t with
  |nil=>rfl
  |cons l t =>simp_all[Red,aE,Bool.not_eq_true',j8,zF]
theorem R0h(s:List Int)(x:Int):(j8 s x).length<=s.length+1:=by
 cases s with
 |nil=>simp[j8]
 |cons l t =>simp only[j8];cases N05 l x<;>simp<;>omega
theorem N06:∀(w s:List Int),(Z8 s w).length<=s.length+w.length
 | [],s=>by simp[Z8]
 |x::w,s=>by
  have:=N06 w (j8 s x)
  grind[R0h,Z8,List.length_cons]
def A0q{b:List Int}{x:Int}(h:i07 b)(c:I0 x):i07 (j8 b x):=by
 cases b with
 |nil=>intro y a;grind[j8]
 |cons l t =>
  simp only[j8];cases N05 l x
  ·intro y a;rcases mE.1 a with rfl|a;·exact c
   exact h y a
  exact λy a=>h y (mC _ a)
def E0v{l x:Int}(b:I0 l)(c:I0 x):(!(x == 0)&&(l == ng x) && !(l == x))=N05 l x:=by
 unfold N05 ng;have e:∀ {z:Int},I0 z->i64.wrap (0-z)=if z = -9223372036854775808 then -9223372036854775808 else -z:=λ{z} a=>by
  split;·rename_i h;subst h;decide
  rw[w64 (by have:=a.1;have:=a.2;omega) (by have:=a.1;have:=a.2;omega)];omega
 rw[e b,e c];have d:=b.1;have f:=b.2;have g:=c.1;have i:=c.2;rw[Bool.eq_iff_iff];simp only[aE,Bool.not_eq_true',beq_iff_eq,beq_eq_false_iff_ne,ne_eq];split<;>split<;>omega
def y0k{l:Int}{t:List Int}:(l::t).reverse[t.length]?=some l:=by grind
def V0m(l:Int)(t:List Int):(l::t).reverse.take t.length=t.reverse:=by rw[List.reverse_cons,List.take_append_of_le_length oS,List.take_of_length_le oS]
theorem x06(w:List Int)(hw:i07 w)(hl:w.length<=17592186044416):∀(d k fuel:Nat) (s:List Int),k+d=w.length->d<fuel->i07 s->s.length<=k ->
  D3 w fuel (k:Int) s.reverse=some (Z8 s (w.drop k)).reverse
 |d,k,0,s,hk,hf,hs,hsl=>by omega
 |0,k,fuel+1,s,hk,hf,hs,hsl=>by
  rw[D3.eq_2,if_neg (by simp;omega),J1 (by omega)]
  rfl
 |d+1,k,fuel+1,s,hk,hf,hs,hsl=>by
  have hkl:k<w.length:=by omega
  have hx:=V3 hkl
  have hx64:=hw _ (List.mem_of_getElem? hx)
  generalize w[k]=x at hx hx64
  have next:=x06 w hw hl d (k+1) fuel (j8 s x) (by omega) (by omega) (A0q hs hx64) (by grind[R0h])
  rw[L1 hx]
  show _=some (Z8 (j8 s x) (w.drop (k+1))).reverse
  rw[←next,D3.eq_2,if_pos (by simp;omega),oB,F0 (by grind),oB]
  rw[G2 hkl (by omega:w.length<=9223372036854775807)]
  have e0:decide (x=0)=(x == 0):=by grind
  cases s with
  |nil =>
   have hz:decide ((((([]:List Int).reverse).length:Nat):Int)>0)=false:=rfl
   simp only[hz,M1,oB,cond_false,Bool.false_eq_true,if_false,E2 hx]
   rw[F0 (by simp)]
   rfl
  |cons l t =>
   have hl64:=hs l mS
   have hp:decide ((((l::t).reverse.length:Nat):Int)>0)=true:=by simp
   have hpr:IntKind.i64.wrap ((((l::t).reverse.length:Nat):Int)-1)=((t.length:Nat):Int):=by
    grind[B0g,List.length_reverse,List.length_cons]
   have hc:=E0v hl64 hx64
   have e1:decide (l=IntKind.i64.wrap (0-x))=(l == ng x):=by rw[Bool.eq_iff_iff];simp[ng]
   have e2:decide (l=x)=(l == x):=by grind
   have hpush:(grd (((l::t).reverse.length + [x].length)*8<=140737488355328))=some ():=F0 (by grind)
   simp only[hp,hpr,G1,oB,cond_true,E2 hx,E2 y0k,e0,j8]
   cases h0:(x == 0)with
   |true =>
    rw[h0]at hc
    simp only[Bool.not_true,Bool.false_and]at hc
    simp only[←hc,Bool.not_true,M1,cond_false,oB,Bool.false_eq_true,if_false,hpush]
    grind
   |false =>
    rw[h0]at hc
    simp only[Bool.not_false,Bool.true_and]at hc
    simp only[Bool.not_false,G1,cond_true,oB,e1]
    cases h1:(l == ng x)with
    |false =>
     rw[h1]at hc
     simp only[Bool.false_and]at hc
     simp only[←hc,M1,cond_false,oB,Bool.false_eq_true,if_false,hpush]
     grind
    |true =>
     rw[h1]at hc
     simp only[Bool.true_and]at hc
     simp only[G1,cond_true,oB,e2]
     cases h2:(l == x)with
     |true =>
      grind
     |false =>
      rw[h2]at hc
      simp only[Bool.not_false]at hc
      simp only[←hc,Bool.not_false,if_true,cond_true]
      rw[F0 (by grind),oB,Int.toNat_natCast,V0m]
theorem E00(w:List Int)(b:i07 w)(a:w.length<=17592186044416):L3 w=some (Z8 [] w).reverse:=by
 unfold L3
 have h:=x06 w b a w.length 0 U0 [] (by omega) (F1 (by omega)) (λx c=>by cases c) (by simp)
 rw[show((0:Nat):Int)=0 from rfl,List.drop_zero,List.reverse_nil]at h
 rw[h,oB,F0 (by grind[N06,List.length_reverse,List.length_nil]),oB,List.nil_append]
def okQ(bs:List Int)(q:Int×Int):Prop:=0<=q.1/\q.1<=(bs.length:Int)/\bs.length<=1048576
def Drw{a:Type}(bs:List Int)(o:Option (a×(Int×Int)))(p:a->Prop):Prop:=∃ x q,o=some (x,q)/\p x/\okQ bs q
def Drw.bind{a b:Type}{bs:List Int}{m:Option (a×(Int×Int))}{p:a->Prop}{r:b->Prop}{k:a×(Int×Int)->Option (b×(Int×Int))}(h:Drw bs m p)(e:∀ x q,p x->okQ bs q->Drw bs (k (x,q)) r):Drw bs (m.bind k) r:=by obtain⟨x,q,rfl,c,d⟩:=h;exact e x q c d
def Drw.grd{a:Type}{bs:List Int}{p:Prop}[Decidable p]{r:a->Prop}{k:Unit->Option (a×(Int×Int))}(h:p)(b:Drw bs (k ()) r):Drw bs ((grd p).bind k) r:=by grind[F0]
def Drw.mono{a:Type}{bs:List Int}{m:Option (a×(Int×Int))}{p r:a->Prop}(h:Drw bs m p)(d:∀ x,p x->r x):Drw bs m r:=by obtain⟨x,q,e,b,c⟩:=h;exact⟨x,q,e,d x b,c⟩
def H0z(bs:List Int)(c:bs.length<=1048576):∀(d k fuel:Nat) (y:Int),k+d=bs.length->d<fuel->∃ z,r01 bs fuel y (k:Int)=some z
 |d,k,0,y,a,hf=>oM
 |0,k,fuel+1,y,a,hf=>by simp_all[r01.eq_2,dF,zF,iE]
 |d+1,k,fuel+1,y,a,hf=>by
  have b:k<bs.length:=oM;rw[r01.eq_2,E2 (V3 b),G2 b oM];split;·exact H0z bs c d (k+1) fuel _ oM oM
  exact⟨_,rfl⟩
def d0u{bs:List Int}(a:bs.length<=1048576):∃ q,j03 bs=some q/\okQ bs q:=by obtain⟨z,b⟩:=H0z bs a bs.length 0 U0 (i64.wrap (10101+((bs.length:Nat):Int))) oM (by unfold U0;omega);refine⟨(0,z),?_,iR _,Int.natCast_nonneg _,a⟩;grind[j03]
def Z0w(a:Int):0<=z0s a 255/\z0s a 255<=255:=by
 have h:(BitVec.ofInt 64 a &&& BitVec.ofInt 64 255).toNat<=255:=by grind[BitVec.toNat_and,Nat.le_trans,Nat.and_le_right]
 grind[z0s,w64]
def C0A{bs:List Int}{q:Int×Int}(g:okQ bs q):Drw bs (f01 bs q) λx=>0<=x/\x<=255:=by
 obtain⟨a,e,b⟩:=g;unfold f01;by_cases c:q.1<((bs.length:Nat):Int);·rw[iP (dT c)];obtain⟨k,f⟩:=Int.eq_ofNat_of_zero_le a;rw[f]at c ⊢;have d:k<bs.length:=oM;rw[E2 (V3 d),oB,G2 d oM];exact⟨_,_,rfl,Z0w _,by simp only;omega,by simp only;omega,b⟩
 rw[iE (by simpa using c)];exact⟨_,_,rfl,Z0w _,a,e,b⟩
def C08{bs:List Int}{q:Int×Int}(a:okQ bs q){n:Int}(h0:0<n)(d:n<=256):Drw bs (E4 bs q n) λx=>0<=x/\x<n:=by unfold E4;rw[iE (by simp;omega),iP (by simp;omega)];refine(C0A a).bind λx e c b => .grd ⟨oM,oM⟩ (.grd oM ⟨_,_,rfl,?_,b⟩);rw[Int.tmod_eq_emod_of_nonneg c.1];exact⟨Int.emod_nonneg _ oM,Int.emod_lt_of_pos _ h0⟩
def H0o{bs:List Int}{q:Int×Int}(b:okQ bs q){n:Int}(h0:0<n)(a:n<=256):Drw bs (G9 bs q n) λ_=>True :=
 (C08 b h0 a).bind λx e d c => .grd ⟨oM,oM⟩ ⟨_,_,rfl,trivial,c⟩
def D0A{a:Type}{l:List a}{x:Int}(h0:0<=x)(b:x<((l.length:Nat):Int)):∃ y∈l,gi l x=some y:=by obtain⟨k,rfl⟩:=Int.eq_ofNat_of_zero_le h0;simp_all[List.getElem_mem,E2,V3]
def W0m{bs:List Int}{q:Int×Int}(b:okQ bs q){l:List Int}(h0:0<l.length)(f:l.length<=256):Drw bs (I03 bs q l) λx=>x∈l :=
 (C08 b (n:=((l.length:Nat):Int)) oM oM).bind λx g a c => .grd ⟨oM,oM⟩ (by
  obtain⟨y,d,e⟩:=D0A a.1 a.2
  rw[e];exact⟨_,_,rfl,d,c⟩)
def l0B(d:Nat)(h:d<=1048576):i64.wrap (((d+1:Nat):Int)-1)=(d:Int):=by grind[w64]
def A0s(r:Int)(w:List Int):Prop:=∀ x∈w,x≠0 /\ -r<=x/\x<=r
def A0s.all{r:Int}(b:r<=256){w:List Int}(h:A0s r w):i07 w:=λx a=>by have:=h x a;exact⟨oM,oM⟩
def a0x{P:Int->Prop}{a:List Int}{x:Int}(c:∀ y∈a,P y)(d:P x):∀ y∈j8 a x,P y:=λy b=>by unfold j8 at b;grind
def e0u{P:Int->Prop}:∀(w a:List Int),(∀ y∈a,P y)->(∀ y∈w,P y)->∀ y∈Z8 a w,P y
 | [],a,b,_=>b
 |x::w,a,b,c=>e0u w (j8 a x) (a0x b (c x mS)) λy d=>c y (mC _ d)
def b0x{bs:List Int}{rank:Int}(h0:0<rank)(f:rank<=256):∀(d fuel:Nat) (acc:List Int) (q:Int×Int),d<fuel->d+acc.length<=1000->A0s rank acc->okQ bs q -> Drw bs (q00 bs rank fuel (d:Int) acc q) λw=>A0s rank w/\w.length<=d+acc.length
 |d,0,acc,q,hf,_,_,_=>oM
 |0,fuel+1,acc,q,hf,h,c,e=>by rw[q00.eq_2,iE oS];exact⟨_,_,rfl,⟨c,oM⟩,e⟩
 |d+1,fuel+1,acc,q,hf,h,c,e=>by
  rw[q00.eq_2,iP oG];refine(C08 e h0 f).bind λx s o i => .grd ⟨oM,oM⟩ ((H0o i oD oD).bind λb g _ j=>?_);have n:∀ y:Int,(y≠0 /\ -rank<=y/\y<=rank)->Drw bs ((grd ((acc.length + [y].length)*8<=140737488355328)).bind λ_=>q00 bs rank fuel (i64.wrap (((d+1:Nat):Int)-1)) (acc ++ [y]) g) λw=>A0s rank w/\w.length<=d+1+acc.length:=λy p =>
   .grd oG (by
    rw[l0B d oM]
    refine(b0x h0 f d fuel (acc ++ [y]) g oM (by simp;omega) (λz a=>?_) j).mono λw k=>⟨k.1,oG⟩
    rcases List.mem_append.1 a with a|a
    ·exact c z a
    grind)
  have l:i64.wrap (1+x)=1+x:=w64 oM oM;have m:i64.wrap (0-i64.wrap (1+x)) = -(1+x):=by grind[w64]
  grind
def Y0y{bs:List Int}{q:Int×Int}(f:okQ bs q){rank b:Int}(h0:0<rank)(c:rank<=256)(k:0<=b)(l:b<=200):Drw bs (Y04 bs q rank b) λw=>A0s rank w/\w.length<=200:=by unfold Y04;rw[w64 (x:=b+1) oM oM];refine(C08 f oM oM).bind λx j i g => .grd ⟨oM,oM⟩ ?_;obtain⟨d,rfl⟩:=Int.eq_ofNat_of_zero_le i.1;refine(b0x h0 c d U0 [] j (by unfold U0;omega) (by simp;omega) (λz a=>nomatch a) g).bind λw n e h=>?_;have m:w.length<=200:=oG;show Drw bs ((L3 w).bind _) _;rw[E00 w (e.1.all c) oM,oB];refine⟨_,_,rfl,⟨λz a=>e0u w [] (λz a=>nomatch a) e.1 z (by simpa using a),?_⟩,h⟩;grind[N06]
def c0x{bs:List Int}{q:Int×Int}(f:okQ bs q){rank a:Int}(h0:0<rank)(b:rank<=256)(d:0<=a)(e:a<=200):Drw bs (Y04 bs q rank a) λw=>i07 w/\w.length<=200 :=
 (Y0y f h0 b d e).mono λw c=>⟨c.1.all b,c.2⟩
def u0f(ws:List (List Int)):Prop:=∀ w∈ws,i07 w/\w.length<=200
def m0B{bs:List Int}{rank:Int}(h0:0<rank)(e:rank<=256):∀(d fuel:Nat) (acc:List (List Int)) (q:Int×Int),d<fuel->d+acc.length<=1000->u0f acc->okQ bs q -> Drw bs (V9 bs rank fuel (d:Int) acc q) λw=>u0f w/\w.length<=d+acc.length
 |d,0,acc,q,hf,_,_,_=>oM
 |0,fuel+1,acc,q,hf,f,b,c=>by rw[V9.eq_2,iE oS];exact⟨_,_,rfl,⟨b,oM⟩,c⟩
 |d+1,fuel+1,acc,q,hf,f,b,c=>by
  rw[V9.eq_2,iP oG];refine(c0x c h0 e oD oD).bind λx i j g => .grd oG ?_;rw[l0B d oM];refine(m0B h0 e d fuel (acc ++ [x]) i oM (by simp;omega) (λz a=>?_) g).mono λw h=>⟨h.1,oG⟩;rcases List.mem_append.1 a with a|a;·exact b z a
  grind
def f0u{bs:List Int}{q:Int×Int}(b:okQ bs q){rank:Int}(h0:0<rank)(a:rank<=256):Drw bs (J03 bs q rank) λws=>u0f ws/\ws.length<=3:=by unfold J03;refine(C08 b oD oD).bind λx i g c => .grd ⟨oM,oM⟩ ?_;obtain⟨d,rfl⟩:=Int.eq_ofNat_of_zero_le g.1;refine(m0B h0 a d U0 [] i (by unfold U0;omega) (by simp;omega) (λz h=>nomatch h) c).bind λw j f e=>⟨_,_,rfl,⟨f.1,?_⟩,e⟩;grind
def l09(r a:Int)(e:Q0):Bool:=inR 0 a e.1&&inR 0 a e.2.2&&inR 1 r e.2.1
def z0k(e f:Q0):Int:=X0 e f
theorem A0k(e f:Q0):z0k e f=if l02 e.1 f.1≠0 then l02 e.1 f.1 else if l02 e.2.1 f.2.1≠0 then l02 e.2.1 f.2.1 else l02 e.2.2 f.2.2:=rfl
theorem B0k(a b:Int):(a<b/\l02 a b = -1)∨(a>b/\l02 a b=1)∨(a=b/\l02 a b=0):=by grind[l02]
def F0j(e f:Q0):I0 (z0k e f):=by grind[A0k,c0u]
def d0x(g:B0)(e:Q0):U05 g e=some (l09 g.1 (i64.wrap (g.2.1-1)) e):=by obtain⟨r,n,es⟩:=g;obtain⟨a,l,b⟩:=e;unfold U05 l09;grind[H03,inR,chk]
def d0j(g:B0)(e:Q0):t01 g e=some (l09 g.1 (i64.wrap (g.2.1-1)) e):=by obtain⟨r,n,es⟩:=g;obtain⟨a,l,b⟩:=e;unfold t01 G5 l09;simp only[y04,oB];grind[inR,chk]
def n06(e f:Q0):F00 e f=some (z0k e f):=by obtain⟨a,l,b⟩:=e;obtain⟨m,o,n⟩:=f;unfold F00;rw[show U0=(U0-4)+1+1+1+1 from rfl];have w1:i64.wrap (0+1)=1:=oD;have k:i64.wrap (1+1)=2:=oD;have w3:i64.wrap (2+1)=3:=oD;have h:∀ x y z:Int,gi [x,y,z] 0=some x:=λ_ _ _=>rfl;have i:∀ x y z:Int,gi [x,y,z] 1=some y:=λ_ _ _=>rfl;have j:∀ x y z:Int,gi [x,y,z] 2=some z:=λ_ _ _=>rfl;have d0:decide ((0:Int)<3):=rfl;have c:decide ((1:Int)<3):=rfl;have d:decide ((2:Int)<3):=rfl;have g:decide ((3:Int)<3)=false:=rfl;simp only[A9.eq_2,w1,k,w3,h,i,j,d0,c,d,g,if_true,oB,fT,if_false];grind[A0k,B0k,T9]
def F0v(a b:Int):P9 a b=some (l02 a b):=by grind[P9,l02]
def m09(e f:Q0):f02 e f=some (z0k e f):=by obtain⟨a,l,b⟩:=e;obtain⟨c,g,d⟩:=f;rw[A0k];unfold f02;simp only[F0v,oB,F0 (c0u _ _)];grind
def e0x(r a:Int)(es:List Q0)(k:Nat):Bool:=match es[k]? with
 |none=>true
 |some e => !l09 r a e || (decide (0<k)&&match es[k-1]? with
  |none=>true
  |some f=>decide (z0k f e ≥ 0))
def okE(r a:Int)(es:List Q0):Nat->Nat->Bool
 |0,_=>true
 |d+1,k => !e0x r a es k&&okE r a es d (k+1)
def W0(g:B0):Bool:=okE g.1 (i64.wrap (g.2.1-1)) g.2.2 g.2.2.length 0&&inR 1 3 g.1&&inR 1 40 g.2.1&&decide (g.2.2.length<=120)
def W0d{r a:Int}{es:List Q0}{k:Nat}{e:Q0}(b:es[k]?=some e):e0x r a es k=(!l09 r a e || (decide (0<k)&&match es[k-1]? with
  |none=>true
  |some f=>decide (z0k f e ≥ 0))):=by unfold e0x;rw[b]
def K09(r n:Int)(es:List Q0)(q:es.length<=140737488355328):∀(d k fuel:Nat),k+d=es.length->d<fuel -> W9 es r n fuel (k:Int)=some (bif okE r (i64.wrap (n-1)) es d k then .inr ()else .inl false)
 |d,k,0,l,hf=>oM
 |0,k,fuel+1,l,hf=>by simp_all[W9.eq_2,iE,okE]
 |d+1,k,fuel+1,l,hf=>by
  have m:k<es.length:=oM;have a:=V3 m;generalize es[k]=e at a;obtain⟨h,i,j⟩:=e;have next:=K09 r n es q d (k+1) fuel oM oM;rw[W9.eq_2,iP (by simp;omega),E2 a,oB];simp only[d0x,oB,G2 m (by omega:es.length<=9223372036854775807),next,okE,W0d a];generalize i64.wrap (n-1)=hi;cases hin:l09 r hi (h,i,j);·simp[chk,grd,I0]
  by_cases hk0:k=0
  ·have c:decide ((k:Int)>0)=false:=by simp;omega
   have b:decide (0<k)=false:=by simp;omega
   simp only[c,b,M1,bT,bF,Bool.and_true,Bool.false_and,Bool.or_self,Bool.true_and,cT,zF,oB,Bool.or_false,fT,if_false,F0 (show I0 0 by decide)]
  have g:=V3 (show k-1<es.length by omega);generalize es[k-1]=f at g;obtain⟨o,p,f2⟩:=f;have s:i64.wrap ((k:Int)-1)=((k-1:Nat):Int):=B0g oM oM;have c:decide ((k:Int)>0):=by simp;omega
  have b:decide (0<k):=by simp;omega
  simp only[c,b,s,g,E2 a,E2 g,G1,bT,bF,Bool.and_true,Bool.false_and,Bool.or_self,Bool.true_and,cT,zF,oB,Bool.or_false,Bool.false_or,n06,F0 (F0j _ _)];cases decide (z0k (o,p,f2) (h,i,j) ≥ 0)<;>rfl
def H9(g:B0)(a:g.2.2.length<=140737488355328):Y4 g=some (W0 g):=by
 obtain⟨r,n,es⟩:=g;unfold Y4 W0;simp only at a ⊢;have h:=K09 r n es a es.length 0 U0 oM (F1 a);rw[show((0:Nat):Int)=0 from rfl]at h;rw[h,oB];cases okE r (i64.wrap (n-1)) es es.length 0;·simp[T9]
 rw[(cT),V0,H03,H03,oB];cases inR 1 3 r;·simp[chk]
 simp only[G1,oB,cT,Bool.true_and];cases inR 1 40 n;·simp
 simp;omega
def L09(r n:Int)(es:List Q0)(q:es.length<=140737488355328):∀(d k fuel:Nat),k+d=es.length->d<fuel -> Y9 es r n fuel (k:Int)=some (bif okE r (i64.wrap (n-1)) es d k then .inr ()else .inl false)
 |d,k,0,l,hf=>oM
 |0,k,fuel+1,l,hf=>by simp_all[Y9.eq_2,iE,okE]
 |d+1,k,fuel+1,l,hf=>by
  have m:k<es.length:=oM;have a:=V3 m;generalize es[k]=e at a;obtain⟨h,i,j⟩:=e;have next:=L09 r n es q d (k+1) fuel oM oM;rw[Y9.eq_2,iP (by simp;omega),E2 a,oB];simp only[d0j,oB,G2 m (by omega:es.length<=9223372036854775807),next,okE,W0d a];generalize i64.wrap (n-1)=hi;cases hin:l09 r hi (h,i,j);·simp[chk,grd,I0]
  by_cases hk0:k=0
  ·have c:decide ((k:Int)>0)=false:=by simp;omega
   have b:decide (0<k)=false:=by simp;omega
   simp only[c,b,M1,bT,bF,Bool.and_true,Bool.false_and,Bool.or_self,Bool.true_and,cT,zF,oB,Bool.or_false,fT,if_false,F0 (show I0 0 by decide)]
  have g:=V3 (show k-1<es.length by omega);generalize es[k-1]=f at g;obtain⟨o,p,f2⟩:=f;have s:i64.wrap ((k:Int)-1)=((k-1:Nat):Int):=B0g oM oM;have c:decide ((k:Int)>0):=by simp;omega
  have b:decide (0<k):=by simp;omega
  simp only[c,b,s,g,E2 a,E2 g,G1,bT,bF,Bool.and_true,Bool.false_and,Bool.or_self,Bool.true_and,cT,zF,oB,Bool.or_false,Bool.false_or,m09,F0 (F0j _ _)];cases decide (z0k (o,p,f2) (h,i,j) ≥ 0)<;>rfl
def k01(g:B0)(a:g.2.2.length<=140737488355328):N7 g=some (W0 g):=by
 obtain⟨r,n,es⟩:=g;unfold N7 W0;simp only at a ⊢;rw[y04,y04,oB];cases hr:inR 1 3 r;·simp[chk]
 simp only[bT,bF,G1,oB,zF];cases hn:inR 1 40 n;·simp
 by_cases h120:es.length<=120
 ·have h:=L09 r n es a es.length 0 U0 oM (F1 a);rw[show((0:Nat):Int)=0 from rfl]at h;have b:decide (((es.length:Nat):Int)>120)=false:=by simp;omega
  have c:decide (es.length<=120):=by simpa using h120
  simp only[b,c,bT,zF,fT,if_false,h,oB];cases okE r (i64.wrap (n-1)) es es.length 0<;>rfl
 grind
def I0o{r a:Int}{es:List Q0}:∀ {d k:Nat},okE r a es d k->∀ i,k<=i->i<k+d->e0x r a es i=false
 |0,k,h,i,b,c=>oM
 |d+1,k,h,i,b,c=>by
  simp only[okE,aE,Bool.not_eq_true']at h;by_cases e:i=k;·subst e;exact h.1
  exact I0o h.2 i oM oM
def F0g{n:Nat}(h:n<=9223372036854775807):n<U0:=by unfold U0;omega
def goI(x:Int):List Int->Bool×List Int
 | []=>(false,[])
 |y::l=>if x<y then(true,x::y::l)else if y=x then(true,y::l)else((goI x l).1,y::(goI x l).2)
def g0u(x:Int):∀ l,D02 l02 x l=bif(goI x l).1 then(goI x l).2 else(goI x l).2 ++ [x]
 | []=>rfl
 |y::l=>by have a:=g0u x l;unfold D02 goI;rcases B0k x y with⟨h,e⟩|⟨h,e⟩|⟨h,e⟩;all_goals grind
def C0k(l:List Int)(w:Int)(h:l.length<=1099511627776):∀(d k fuel:Nat) (acc:List Int),k+d=l.length->d<fuel->acc.length<=k+1 -> K5 l w fuel true (k:Int) acc=some (true,acc++l.drop k)
 |d,k,0,acc,e,hf,b=>oM
 |0,k,fuel+1,acc,e,hf,b=>by rw[K5.eq_2,iE (by simp;omega),J1 oM,List.append_nil]
 |d+1,k,fuel+1,acc,e,hf,b=>by
  have f:k<l.length:=oM;have a:=V3 f;generalize l[k]=x at a;have i:=C0k l w h d (k+1) fuel (acc ++ [x]) oM oM (by simp;omega);rw[K5.eq_2,iP (by simp;omega),E2 a,oB];have g:∀ c:Bool,(bif c then(!true)else false)=false:=λc=>by cases c<;>rfl
  simp only[g,fT,if_false,oB,G2 f (show l.length<=9223372036854775807 by omega),i,F0 (show(acc.length + [x].length)*8<=140737488355328 by simp;omega)];rw[L1 a];split<;>simp
def X0m(l:List Int)(w:Int)(b:l.length<=1099511627776):∀(d k fuel:Nat) (acc:List Int),k+d=l.length->d<fuel->acc.length=k -> K5 l w fuel false (k:Int) acc=some ((goI w (l.drop k)).1,acc++(goI w (l.drop k)).2)
 |d,k,0,acc,g,hf,f=>oM
 |0,k,fuel+1,acc,g,hf,f=>by simp_all[K5.eq_2,iE,J1,goI]
 |d+1,k,fuel+1,acc,g,hf,f=>by
  have a:k<l.length:=oM;have e:=V3 a;generalize l[k]=x at e;have j:=X0m l w b d (k+1) fuel (acc ++ [x]) oM oM (by simp;omega);have m:=C0k l w b d (k+1) fuel (acc ++ [x]) oM oM (by simp;omega);have n:=C0k l w b d (k+1) fuel (acc ++ [w] ++ [x]) oM oM (by simp;omega);rw[K5.eq_2,iP (by simp;omega),E2 e,oB,L1 e];unfold goI;have h:∀ c:Bool,(bif c then(!true)else false)=false:=λc=>by cases c<;>rfl
  have i:∀ c:Bool,(bif c then(!false)else false)=c:=λc=>by cases c<;>rfl
  by_cases h0:x=w;·rw[iP (by simpa using h0),oB,h,iE oS,oB,F0 (by simp;omega),oB,G2 a oM,m,iE oM,iP h0];simp
  rw[iE (by simpa using h0),oB,i];by_cases h1:w<x;·rw[iP (by simpa using h1),F0 (by simp;omega),oB,oB,F0 (by simp;omega),oB,G2 a oM,n,iP h1];simp
  rw[iE (by simpa using h1),oB,F0 (by simp;omega),oB,G2 a oM,j,iE h1,iE h0];simp
theorem G0g(l:List Int)(w:Int)(a:l.length<=1099511627776):g01 l w=some (D02 l02 w l):=by
 unfold g01
 have h:=X0m l w a l.length 0 U0 [] (by omega) (F1 (by omega)) rfl
 rw[show((0:Nat):Int)=0 from rfl,List.drop_zero,List.nil_append]at h
 rw[h,oB,g0u]
 have b:∀ l:List Int,(goI w l).2.length<=l.length+1:=λl=>by
  induction l with
  |nil=>simp[goI]
  |cons y l c =>
   grind[goI,List.length_cons]
 have:=b l
 cases (goI w l).1 with
 |true=>rfl
 |false =>
  simp only[Bool.not_false,if_true,cond_false]
  rw[F0 (by simp;omega),oB]
def Y0m(v x:Int)(e:Q0):List Int :=
 if 0<x/\e.2.1=x/\e.1=v then [e.2.2]else if x<0/\e.2.1 = -x/\e.2.2=v then [e.1]else []
def w01(v x:Int):List Q0->List Int
 | []=>[]
 |e::es=>Y0m v x e++w01 v x es
def G0v(v x:Int)(e:Q0):(Y0m v x e).length<=1:=by unfold Y0m;split<;>(try split)<;>simp
theorem D0k(v x:Int):∀ es,(w01 v x es).length<=es.length
 | []=>by simp[w01]
 |e::es=>by
  have a:=G0v v x e
  have b:=D0k v x es
  grind[w01,List.length_append,List.length_cons]
def C3(x:Int):Prop:=I0 x/\x ≠ -9223372036854775808
def H0g(es:List Q0)(v x:Int)(f:C3 x)(p:es.length<=1099511627776):∀(d k fuel:Nat) (acc:List Int),k+d=es.length->d<fuel->acc.length<=k -> j6 es x v fuel (k:Int) acc=some (acc++w01 v x (es.drop k))
 |d,k,0,acc,j,hf,i=>oM
 |0,k,fuel+1,acc,j,hf,i=>by simp_all[j6.eq_2,iE,J1,w01]
 |d+1,k,fuel+1,acc,j,hf,i=>by
  have m:k<es.length:=oM;have g:=V3 m;generalize es[k]=e at g;obtain⟨a,l,b⟩:=e;have n:=λo h=>H0g es v x f p d (k+1) fuel o oM oM h;have q:decide (x = -9223372036854775808)=false:=by simp;exact f.2
  rw[j6.eq_2,iP (by simp;omega),E2 g,oB,L1 g];simp only[w01,Y0m,X0b f.1 f.2,q,bF,G2 m (show es.length<=9223372036854775807 by omega)];by_cases c:0<x/\l=x/\a=v;·obtain⟨c,rfl,rfl⟩:=c;rw[iP (by simp[c]),iP ⟨c,rfl,rfl⟩,F0 (by simp;omega),oB,n _ (by simp;omega)];simp
  rw[iE c,iE oG];by_cases c2:x<0/\l = -x/\b=v;·rw[iP c2,iP oG,F0 (by simp;omega),oB,n _ (by simp;omega)];simp
  grind
theorem L0a(w:Int):∀ l:List Int,(D02 l02 w l).length<=l.length+1
 | []=>by simp[D02]
 |y::l=>by
  have:=L0a w l
  grind[D02,List.length_cons]
def I0g(es:List Q0)(v x:Int)(g:C3 x)(o:es.length<=1099511627776):∀(d k fuel:Nat) (u:List Int),k+d=es.length->d<fuel->u.length<=k -> Z4 es x v fuel u (k:Int)=some (H4 l02 u (w01 v x (es.drop k)))
 |d,k,0,u,j,hf,i=>oM
 |0,k,fuel+1,u,j,hf,i=>by rw[Z4.eq_2,iE (by simp;omega),J1 oM];rfl
 |d+1,k,fuel+1,u,j,hf,i=>by
  have m:k<es.length:=oM;have f:=V3 m;generalize es[k]=e at f;obtain⟨a,l,b⟩:=e;have n:=λq h=>I0g es v x g o d (k+1) fuel q oM oM h;rw[Z4.eq_2,iP (by simp;omega),E2 f,oB,L1 f];simp only[w01,Y0m,X0b g.1 g.2,G2 m (show es.length<=9223372036854775807 by omega)];by_cases c:0<x/\l=x/\a=v
  ·obtain⟨c,rfl,rfl⟩:=c;have p:decide (l<0)=false:=by simp;omega
   have:=L0a b u;rw[iP (by simp[c]),iP ⟨c,rfl,rfl⟩,G0g u b oM,oB,p,iE oS,n _ oM];rfl
  rw[iE c,iE oG];by_cases c2:x<0/\l = -x/\b=v;·have:=L0a a u;rw[iP c2,iP oG,G0g u a oM,oB,n _ oM];rfl
  grind
def e06(g:B0)(v x:Int):List Int:=H4 l02 [] (w01 v x g.2.2)
def Z0y(x y:Int):eqI x y↔x=y:=by simp[eqI]
def B0q(g:B0)(v x:Int)(b:C3 x)(a:g.2.2.length<=1099511627776):K03 g v x=some (e06 g v x):=by obtain⟨r,n,es⟩:=g;unfold K03 e06;have h:=I0g es v x b a es.length 0 U0 [] oM (F0g (by simp only at a;omega)) oS;grind
def C0q(g:B0)(v x:Int)(b:C3 x)(a:g.2.2.length<=1099511627776):L03 g v x=some (e06 g v x):=by obtain⟨r,n,es⟩:=g;unfold L03 e06;have h:=H0g es v x b a es.length 0 U0 [] oM (F0g (by simp only at a;omega)) oS;rw[show((0:Nat):Int)=0 from rfl,(dZ),(nA)]at h;have c:=D0k v x es;simp only at a;simp only[h,oB,F0 (show(w01 v x es).length<4611686018427387904 by omega)];rw[←y0q T05 Z0y (w01 v x es) (w01 v x es) λ_=>Iff.rfl];rfl
def S0(g:B0)(v x:Int):Int:=match e06 g v x with
 | [] => -1
 |a::_=>a
def m04(g:B0)(v x:Int)(c:C3 x)(b:g.2.2.length<=1099511627776):j4 g v x=some (S0 g v x):=by
 have h:=B0q g v x c b;obtain⟨r,n,es⟩:=g;unfold j4 S0;simp only[h,oB];cases e06 (r,n,es) v x with
 |nil=>rfl
 |cons a l=>rfl
def a05(g:B0)(v x:Int)(c:C3 x)(b:g.2.2.length<=1099511627776):W4 g v x=some (S0 g v x):=by
 have h:=C0q g v x c b;obtain⟨r,n,es⟩:=g;unfold W4 S0;simp only[h,oB];cases e06 (r,n,es) v x with
 |nil=>rfl
 |cons a l=>rfl
theorem Z0m{g:B0}{v x y:Int}(h:y∈e06 g v x):y∈w01 v x g.2.2:=by
 rcases(O4 T05 y _ []).1 h with h|h;·cases h
 exact h
def U2{v x y:Int}:∀ {es:List Q0},y∈w01 v x es↔∃ e∈es,(0<x/\e.2.1=x/\e.1=v/\y=e.2.2)∨(x<0/\e.2.1 = -x/\e.2.2=v/\y=e.1)
 | []=>by simp[w01]
 |e::es=>by simp only[w01,List.mem_append,U2 (es:=es),mE,exists_eq_or_imp];refine or_congr ?_ Iff.rfl;grind[Y0m,List.mem_singleton,absurd]
def inG(g:B0):Prop:=∀ e∈g.2.2,(0<=e.1/\e.1<g.2.1)/\(0<=e.2.2/\e.2.2<g.2.1)/\1<=e.2.1/\e.2.1<=g.1
theorem P2{g:B0}(h:W0 g):inG g/\(1<=g.1/\g.1<=3)/\(1<=g.2.1/\g.2.1<=40)/\g.2.2.length<=120:=by obtain⟨r,n,es⟩:=g;simp only[W0,inR,aE,dE]at h;obtain⟨⟨⟨b,c⟩,d⟩,f⟩:=h;refine⟨λe j=>?_,c,d,f⟩;obtain⟨i,k⟩:=List.getElem?_of_mem j;have a:=I0o b i (Nat.zero_le _) oG;rw[W0d k]at a;simp only[Bool.or_eq_false_iff,Bool.not_eq_false',l09,inR,aE,dE]at a;grind[w64]
theorem B03{g:B0}(d:inG g)(v x:Int):S0 g v x = -1∨(0<=S0 g v x/\S0 g v x<g.2.1):=by
 unfold S0;cases hs:e06 g v x with
 |nil=>exact .inl rfl
 |cons a l =>right;have b:a∈e06 g v x:=oG;obtain⟨e,c,h⟩:=U2.1 (Z0m b);have:=d e c;grind
def V02{g:B0}(a:inG g)(b:g.2.1<=40)(v x:Int):I0 (S0 g v x):=by
 rcases B03 a v x with h|h;·rw[h];decide
 constructor<;>omega
def F06(a b:Q0):Bool:=decide (a.2.1=b.2.1)&&(decide (a.1=b.1) || decide (a.2.2=b.2.2))
theorem X0d(a b:Q0):F06 a b=F06 b a:=by unfold F06;have h:∀ x y:Int,decide (x=y)=decide (y=x):=λx y=>decide_eq_decide.2 ⟨Eq.symm,Eq.symm⟩;rw[h a.2.1,h a.1,h a.2.2]
def noC(a:Q0):List Q0->Bool
 | []=>true
 |b::l => !F06 a b&&noC a l
def T0e:List Q0->Bool
 | []=>true
 |a::l=>noC a l&&T0e l
def J0o(a:Q0):∀ l,noC a l↔∀ b∈l,F06 a b=false
 | []=>by simp[noC]
 |b::l=>by simp[noC,J0o a l]
def Y0d:∀ l,T0e l↔l.Pairwise λa b=>F06 a b=false
 | []=>by simp[T0e]
 |a::l=>by simp[T0e,Y0d l,J0o,List.pairwise_cons]
def E0k:List Q0->List Q0->Bool
 |_,[]=>true
 |b,a::l=>noC a b&&E0k (b ++ [a]) l
def a0n:∀(l c:List Q0),E0k c l↔l.Pairwise (λa b=>F06 a b=false)/\∀ a∈l,∀ b∈c,F06 a b=false
 | [],c=>by simp[E0k]
 |a::l,c=>by
  simp only[E0k,aE,J0o,a0n l,List.pairwise_cons];constructor;·grind[X0d]
  grind[List.mem_cons_self,mC,List.mem_singleton,X0d]
def H0v(l:List Q0):E0k [] l=T0e l:=by rw[Bool.eq_iff_iff,a0n,Y0d];simp
def H0(g:B0):Bool:=W0 g&&T0e g.2.2
def I0z(a b e c d f:Int):(bif decide (b=d)then(bif decide (a=c)then true else decide (e=f))else false)=F06 (a,b,e) (c,d,f):=by unfold F06;cases decide (b=d)<;>cases decide (a=c)<;>rfl
def J0g(l:List Q0)(a:Q0)(n:l.length<=140737488355328):∀(d k fuel:Nat),k+d=l.length->d<fuel -> l9 l a.2.1 a.1 a.2.2 fuel (k:Int)=some (bif noC a (l.drop k)then .inr ()else .inl false)
 |d,k,0,g,hf=>oM
 |0,k,fuel+1,g,hf=>by rw[l9.eq_2,iE (by simp;omega),J1 oM];rfl
 |d+1,k,fuel+1,g,hf=>by
  have h:k<l.length:=oM;have b:=V3 h;generalize l[k]=x at b;obtain⟨c,e,f⟩:=a;obtain⟨i,j,m⟩:=x;rw[l9.eq_2,iP (by simp;omega),E2 b,oB,L1 b];simp only[I0z,noC];cases hc:F06 (c,e,f) (i,j,m);·rw[iE oS,G2 h oM,J0g l (c,e,f) n d (k+1) fuel oM oM];simp
  rfl
def n04{a:Type}{xs:List a}{k:Nat}(h:k<=xs.length):U07 xs (k:Int) (xs.length:Int)=some (xs.drop k):=by simp_all[U07,iP]
def K0g(l:List Q0)(h:l.length<=140737488355328):∀(d k fuel:Nat),k+d=l.length->d<fuel -> n9 l fuel (k:Int)=some (bif T0e (l.drop k)then .inr ()else .inl false)
 |d,k,0,b,hf=>oM
 |0,k,fuel+1,b,hf=>by rw[n9.eq_2,iE (by simp;omega),J1 oM];rfl
 |d+1,k,fuel+1,b,hf=>by
  have c:k<l.length:=oM;have a:=V3 c;generalize l[k]=x at a;have h0:=J0g (l.drop (k+1)) x (by simp;omega) (l.drop (k+1)).length 0 U0 oM (F1 (by simp;omega));rw[show((0:Nat):Int)=0 from rfl,(dZ)]at h0;obtain⟨e,f,g⟩:=x;rw[n9.eq_2,iP (by simp;omega),E2 a,oB,L1 a];simp only[G2 c (show l.length<=9223372036854775807 by omega),n04 (show k+1<=l.length by omega),oB];simp only at h0;rw[h0,oB];simp only[T0e];cases noC (e,f,g) (l.drop (k+1));·rfl
  simp only[cT,z0v,Bool.true_and];exact K0g l h d (k+1) fuel oM oM
def v00(g:B0)(a:g.2.2.length<=140737488355328):O7 g=some (H0 g):=by
 have b:=k01 g a;obtain⟨r,n,es⟩:=g;unfold O7 H0;simp only[b,oB];cases W0 (r,n,es);·rfl
 have h:=K0g es a es.length 0 U0 oM (F1 a);rw[show((0:Nat):Int)=0 from rfl,(dZ)]at h;rw[iE oS,h,oB];cases T0e es<;>rfl
def L0g(l:List Q0)(q:l.length<=140737488355328){i:Nat}{a:Q0}(b:l[i]?=some a):∀(d k fuel:Nat),k+d=i->d<fuel -> i9 (i:Int) l fuel (k:Int)=some (bif noC a ((l.take i).drop k)then .inr ()else .inl false)
 |d,k,0,e,hf=>oM
 |0,k,fuel+1,e,hf=>by have:=(gI.1 b).1;rw[i9.eq_2,iE (by simp;omega),J1 (by simp;omega)];rfl
 |d+1,k,fuel+1,e,hf=>by
  have t:=(gI.1 b).1;have f:k<l.length:=oM;have c:=V3 f;have g:(l.take i)[k]?=some l[k]:=by rw[List.getElem?_take,iP oM];exact c
  have s:=L0g l q b d (k+1) fuel oM oM;generalize l[k]=x at c g;obtain⟨h,j,m⟩:=a;obtain⟨n,o,p⟩:=x;rw[i9.eq_2,iP (by simp;omega),E2 b,oB,L1 g];simp only[E2 c,oB,I0z,noC];cases hc:F06 (h,j,m) (n,o,p);·rw[iE oS,G2 f oM,s];simp
  rfl
theorem h0u{a:Type}{xs:List a}{k:Nat}{x:a}(h:xs[k]?=some x):xs.take (k+1)=xs.take k ++ [x]:=by
 grind[List.getElem?_eq_some_iff,List.take_succ_eq_append_getElem]
def M0g(r n:Int)(l:List Q0)(f:W0 (r,n,l))(b:l.length<=140737488355328):∀(d k fuel:Nat),k+d=l.length->d<fuel -> S6 l r n fuel (k:Int)=some (bif E0k (l.take k) (l.drop k)then .inr ()else .inl false)
 |d,k,0,c,hf=>oM
 |0,k,fuel+1,c,hf=>by
  have e:decide ((k:Int)<(l.length:Int))=false:=by simp;omega
  rw[S6.eq_2,e,M1,oB,iE oS,J1 oM];rfl
 |d+1,k,fuel+1,c,hf=>by
  have g:k<l.length:=oM;have a:=V3 g;generalize l[k]=x at a;have h0:=L0g l b a k 0 U0 oM (F1 oM);rw[show((0:Nat):Int)=0 from rfl,(dZ)]at h0;have e:decide ((k:Int)<(l.length:Int)):=by simp;omega
  rw[S6.eq_2,e,G1,H9 (r,n,l) b,oB,f,iP (show(bif true then true else false)=true from rfl),h0,oB,L1 a];simp only[E0k];cases noC x (l.take k);·rfl
  simp only[cT,z0v,Bool.true_and];rw[G2 g oM,←h0u a];exact M0g r n l f b d (k+1) fuel oM oM
def N6(g:B0)(a:g.2.2.length<=140737488355328):P4 g=some (H0 g):=by
 have c:=H9 g a;obtain⟨r,n,es⟩:=g;unfold P4 H0;simp only[c,oB];cases hg:W0 (r,n,es)
 ·have b:S6 es r n U0 0=some (.inr ()):=by rw[show U0=(U0-1)+1 from rfl,S6.eq_2];by_cases e:decide ((0:Int)<(es.length:Int));all_goals simp_all[G1,oB,iE,Bool.not_eq_true,M1]
  rw[b];rfl
 have h:=M0g r n es hg a es.length 0 U0 oM (F1 a);rw[show((0:Nat):Int)=0 from rfl,(dZ),List.take_zero,H0v]at h;rw[h,oB];cases T0e es<;>rfl
def A2(g:B0):Int->List Int->Int×Nat
 |v,[]=>(v,0)
 |v,x::w=>if S0 g v x<0 then(v,0)else((A2 g (S0 g v x) w).1,(A2 g (S0 g v x) w).2+1)
theorem k03(g:B0):∀(w:List Int) (v:Int),(A2 g v w).2<=w.length
 | [],v=>by simp[A2]
 |x::w,v=>by
  have:=k03 g w (S0 g v x)
  grind[A2,List.length_cons]
def X07{g:B0}(a:inG g)(b:g.2.1<=40):∀(w:List Int) (v:Int),I0 v->I0 (A2 g v w).1
 | [],v,h=>h
 |x::w,v,h=>by
  unfold A2;split;·exact h
  exact X07 a b w _ (V02 a b v x)
def a0z(q:Int×Nat)(n:Nat)(k:Nat):(Int×Int) ⊕ Int:=bif decide (q.2<n)then .inl (q.1,((k+q.2:Nat):Int))else .inr q.1
def J0i(r n:Int)(es:List Q0)(f:inG (r,n,es))(g:n<=40)(e:es.length<=1099511627776)(w:List Int)(i:∀ x∈w,C3 x)(l:w.length<=140737488355328):∀(d k fuel:Nat) (v:Int),k+d=w.length->d<fuel -> W7 w r n es fuel v (k:Int)=some (a0z (A2 (r,n,es) v (w.drop k)) d k)
 |d,k,0,v,c,hf=>oM
 |0,k,fuel+1,v,c,hf=>by rw[W7.eq_2,iE (by simp;omega),J1 oM];rfl
 |d+1,k,fuel+1,v,c,hf=>by
  have a:k<w.length:=oM;have b:=V3 a;have j:=i _ (List.getElem_mem a);generalize w[k]=x at b j;rw[W7.eq_2,iP (by simp;omega),E2 b,oB,a05 (r,n,es) v x j e,oB,F0 (V02 f g v x),oB,L1 b];unfold A2;by_cases h:S0 (r,n,es) v x<0;·simp_all[iP,a0z]
  rw[iE (by simpa using h),iE h,G2 a oM,J0i r n es f g e w i l d (k+1) fuel _ oM oM];unfold a0z;grind
def K0o(g:B0)(c:inG g)(d:g.2.1<=40)(b:g.2.2.length<=1099511627776)(v:Int)(w:List Int)(e:∀ x∈w,C3 x)(a:w.length<=140737488355328):K01 g v w=some ((A2 g v w).1,(((A2 g v w).2:Nat):Int)):=by obtain⟨r,n,es⟩:=g;unfold K01;have h:=J0i r n es c d b w e a w.length 0 U0 v oM (F1 a);rw[show((0:Nat):Int)=0 from rfl,(dZ)]at h;grind[k03,a0z,A2,T9]
def K0i(r n:Int)(es:List Q0)(f:inG (r,n,es))(g:n<=40)(e:es.length<=1099511627776)(w:List Int)(i:∀ x∈w,C3 x)(l:w.length<=140737488355328):∀(d k fuel:Nat) (v:Int),k+d=w.length->d<fuel -> j9 w r n es fuel v (k:Int)=some (bif decide ((A2 (r,n,es) v (w.drop k)).2<d)then .inl (-1,false)else .inr (A2 (r,n,es) v (w.drop k)).1)
 |d,k,0,v,c,hf=>oM
 |0,k,fuel+1,v,c,hf=>by rw[j9.eq_2,iE (by simp;omega),J1 oM];rfl
 |d+1,k,fuel+1,v,c,hf=>by
  have a:k<w.length:=oM;have b:=V3 a;have j:=i _ (List.getElem_mem a);generalize w[k]=x at b j;rw[j9.eq_2,iP (by simp;omega),E2 b,oB,m04 (r,n,es) v x j e,oB,F0 (V02 f g v x),oB,L1 b];unfold A2;by_cases h:S0 (r,n,es) v x<0;·grind
  rw[iE (by simpa using h),iE h,G2 a oM,K0i r n es f g e w i l d (k+1) fuel _ oM oM];grind
def B0s(g:B0)(hf:H0 g)(v:Int)(j:0<=v/\v<g.2.1)(w:List Int)(k:∀ x∈w,C3 x)(a:w.length<=140737488355328): X01 g v w=some (bif decide ((A2 g v w).2<w.length)then(-1,false)else((A2 g v w).1,true)):=by
 have f:W0 g:=by simp_all[H0,aE]
 obtain⟨e,_,b,d⟩:=P2 f;have c:=N6 g oM;obtain⟨r,n,es⟩:=g;simp only at j b d;unfold X01;have h:=K0i r n es e b.2 oM w k a w.length 0 U0 v oM (F1 a);rw[show((0:Nat):Int)=0 from rfl,(dZ)]at h;have i:inR 0 (n-1) v:=by simp only[inR,aE,dE];omega
 simp only[c,hf,oB,bT,bF,G1,H03,w64 (show -9223372036854775808<=n-1 by omega) (show n-1<=9223372036854775807 by omega),i,zF,fT,if_false,h];cases decide ((A2 (r,n,es) v w).2<w.length)<;>rfl
theorem P0{g:B0}(h:H0 g):inG g/\(1<=g.1/\g.1<=3)/\(1<=g.2.1/\g.2.1<=40)/\g.2.2.length<=120:=by simp_all[H0,aE,P2]
def N0v{a b:List Int}(c:i07 a)(d:i07 b):i07 (a++b):=λx e=>by
 rcases List.mem_append.1 e with h|h;·exact c x h
 exact d x h
theorem q08(w:List Int)(hl:w.length<=17592186044416)(n0:Nat)(hn:n0+w.length<=17592186044416):∀(d k fuel:Nat) (s:List Int),k+d=w.length->d<fuel->s.length<=n0+k ->
  K8 w fuel (k:Int) s.reverse=some (Z8 s (w.drop k)).reverse
 |d,k,0,s,hk,hf,hsl=>by omega
 |0,k,fuel+1,s,hk,hf,hsl=>by
  rw[K8.eq_2,if_neg (by simp;omega),J1 (by omega)]
  rfl
 |d+1,k,fuel+1,s,hk,hf,hsl=>by
  have hkl:k<w.length:=by omega
  have hx:=V3 hkl
  generalize w[k]=x at hx
  have next:=q08 w hl n0 hn d (k+1) fuel (j8 s x) (by omega) (by omega) (by grind[R0h])
  rw[L1 hx]
  show _=some (Z8 (j8 s x) (w.drop (k+1))).reverse
  rw[←next,K8.eq_2,if_pos (by simp;omega),E2 hx,oB,oB,F0 (by grind),oB,oB,oB]
  rw[G2 hkl (by omega:w.length<=9223372036854775807)]
  cases s with
  |nil =>
   have hz:decide ((((([]:List Int).reverse).length:Nat):Int)>0)=false:=rfl
   simp only[hz,M1,oB,cond_false,Bool.false_eq_true,if_false]
   rw[F0 (by simp)]
   rfl
  |cons l t =>
   have hp:decide ((((l::t).reverse.length:Nat):Int)>0)=true:=by simp
   have hpr:IntKind.i64.wrap ((((l::t).reverse.length:Nat):Int)-1)=((t.length:Nat):Int):=by
    grind[B0g,List.length_cons,List.length_reverse]
   have hpush:(grd (((l::t).reverse.length + [x].length)*8<=140737488355328))=some ():=F0 (by grind)
   have hlen:(grd ((l::t).reverse.length<=9223372036854775807))=some ():=F0 (by grind)
   simp only[hp,hpr,G1,oB,cond_true,E2 y0k,C0g,j8]
   have hcc:(!(l == 0) && !(l == -9223372036854775808)&&(x == IntKind.i64.wrap (0-l)))=N05 l x:=rfl
   rw[hcc]
   cases hc:N05 l x with
   |true =>
    simp only[if_true,cond_true,hlen,oB]
    rw[F0 (by grind),oB,Int.toNat_natCast,V0m]
   |false =>
    grind
def b0p:List (List Int)->Nat
 | []=>0
 |w::r=>w.length+b0p r
def O0v(s:List Int):List (List Int)->List Int
 | []=>s
 |w::r=>O0v (Z8 s w) r
def r08(ws:List (List Int))(g:ws.length<=17592186044416):∀(d k fuel:Nat) (a:List Int),k+d=ws.length->d<fuel->a.length+b0p (ws.drop k)<=17592186044416 -> U9 ws fuel (k:Int) a.reverse=some (O0v a (ws.drop k)).reverse
 |d,k,0,a,e,hf,b=>oM
 |0,k,fuel+1,a,e,hf,b=>by rw[U9.eq_2,iE (by simp;omega),J1 oM];rfl
 |d+1,k,fuel+1,a,e,hf,b=>by have f:k<ws.length:=oM;have c:=V3 f;generalize ws[k]=w at c;rw[L1 c]at b ⊢;simp only[b0p]at b;have h:=N06 w a;have h0:=q08 w oM a.length oM w.length 0 U0 a oM (F1 oM) oM;rw[show((0:Nat):Int)=0 from rfl,(dZ)]at h0;rw[U9.eq_2,iP (by simp;omega),E2 c,oB,h0,oB,G2 f (by omega:ws.length<=9223372036854775807)];exact r08 ws g d (k+1) fuel (Z8 a w) oM oM oM
theorem L07(ws:List (List Int))(b:ws.length<=17592186044416)(a:b0p ws<=17592186044416):u00 ws=some (O0v [] ws).reverse:=by unfold u00;have h:=r08 ws b ws.length 0 U0 [] oM (F1 oM) (by simpa using a);grind
def t08(a b:List Int)(c:i07 a)(d:i07 b)(e:a.length+b.length<=17592186044416):r8 a b=some (Z8 [] (a++b)).reverse:=by
 unfold r8;rw[F0 (by simp only[lN];omega),oB,F0 (by simp only[lA,lN];omega),oB,(nA),
  E00 _ (N0v c d) (by simp only[lA];omega)]
 rfl
def O0x(a b:List Int)(i:a.length=b.length)(g:a.length<=9223372036854775807):∀(d k fuel:Nat),k+d=a.length->d<fuel -> D5 a b fuel (k:Int)=some (bif eqW (a.drop k) (b.drop k)then .inr ()else .inl false)
 |d,k,0,f,hf=>oM
 |0,k,fuel+1,f,hf=>by rw[D5.eq_2,iE (by simp;omega),J1 oM,J1 oM];rfl
 |d+1,k,fuel+1,f,hf=>by
  have c:=V3 (show k<a.length by omega);have e:=V3 (show k<b.length by omega);have next:=O0x a b i g d (k+1) fuel oM oM;generalize a[k]=x at c;generalize b[k]=y at e;rw[D5.eq_2,iP (by simp;omega),E2 c,oB,E2 e,oB,L1 c,L1 e];unfold eqW at next ⊢;by_cases h:x=y;·rw[iE (by simpa using h),G2 (show k<a.length by omega) g,next];simp[h]
  rw[iP (by simpa using h)];simp[h]
def F05{a b:List Int}(c:a.length<=9223372036854775807):V6 a b=some (eqW a b):=by
 unfold V6;by_cases h:a.length=b.length
 ·rw[iE (by simp[h])];have:=O0x a b h oM a.length 0 U0 oM (F0g c);rw[show((0:Nat):Int)=0 from rfl]at this;rw[this];simp only[dZ,oB];unfold eqW;by_cases h2:a=b;·simp[h2,T9]
  simp[h2,T9]
 rw[iP (by simp;omega)];unfold eqW;have : ¬ a=b:=λe=>h (by rw[e]);simp[this]
def I0u(a b:List Int)(i:a.length=b.length)(g:a.length<=9223372036854775807):∀(d k fuel:Nat),k+d=a.length->d<fuel -> E5 a b fuel (k:Int)=some (bif eqW (a.drop k) (b.drop k)then .inr ()else .inl false)
 |d,k,0,f,hf=>oM
 |0,k,fuel+1,f,hf=>by rw[E5.eq_2,iE (by simp;omega),J1 oM,J1 oM];rfl
 |d+1,k,fuel+1,f,hf=>by
  have c:=V3 (show k<a.length by omega);have e:=V3 (show k<b.length by omega);have next:=I0u a b i g d (k+1) fuel oM oM;generalize a[k]=x at c;generalize b[k]=y at e;rw[E5.eq_2,iP (by simp;omega),E2 c,oB,E2 e,oB,L1 c,L1 e];unfold eqW at next ⊢;by_cases h:x=y;·rw[iE (by simpa using h),G2 (show k<a.length by omega) g,next];simp[h]
  rw[iP (by simpa using h)];simp[h]
def c0i{a b:List Int}(c:a.length<=9223372036854775807):W6 a b=some (eqW a b):=by
 unfold W6;by_cases h:a.length=b.length
 ·rw[iE (by simp[h])];have:=I0u a b h oM a.length 0 U0 oM (F0g c);rw[show((0:Nat):Int)=0 from rfl]at this;rw[this];simp only[dZ,oB];unfold eqW;by_cases h2:a=b;·simp[h2,T9]
  simp[h2,T9]
 rw[iP (by simp;omega)];unfold eqW;have : ¬ a=b:=λe=>h (by rw[e]);simp[this]
def B0r(n:Int):BA:=if n=0 then⟨#[48]⟩else if n<0 then⟨(45::w0e 20 n.natAbs []).toArray⟩else⟨(w0e 20 n.natAbs []).toArray⟩
def O05(n:Int)(m:Nat):Int:=if n<0 then -(m:Int)else m
def P0u(n:Int)(m:Nat):(O05 n m).tmod 10=O05 n (m % 10):=by grind[O05,Int.neg_tmod,Int.ofNat_tmod]
def Q0u(n:Int)(m:Nat):(O05 n m).tdiv 10=O05 n (m / 10):=by unfold O05;grind
def C0r{n:Int}{m:Nat}:O05 n m=0↔m=0:=by unfold O05;split<;>omega
def R0B{a:Int}{m:Nat}(acc:List UInt8)(e:a=((m % 10:Nat):Int)):strOfNums [IntKind.u8.wrap (i64.wrap (48+a))]++⟨acc.toArray⟩=⟨(UInt8.ofNat (48+m % 10)::acc).toArray⟩:=by
 have b:IntKind.u8.wrap (i64.wrap (48+a))=((48+m % 10:Nat):Int):=by rw[e];simp[IntKind.wrap,IntKind.signed,IntKind.bits];omega
 rw[b,show strOfNums [((48+m % 10:Nat):Int)]=⟨#[UInt8.ofNat (48+m % 10)]⟩ from by simp only[strOfNums,List.map_cons,List.map_nil,iN]];generalize UInt8.ofNat (48+m % 10)=d;apply ByteArray.ext;simp_all
def F0f(a b:List UInt8):(⟨a.toArray⟩:BA)++⟨b.toArray⟩=⟨(a++b).toArray⟩:=by apply ByteArray.ext;simp_all
theorem E01(a:List UInt8):(⟨a.toArray⟩:BA).size=a.length:=by simp[ByteArray.size]
def Z0z{n:Int}{m:Nat}(h:m<=9223372036854775808)(a:n<0∨m<=9223372036854775807):I0 (O05 n m):=by unfold O05;split<;>constructor<;>omega
theorem v08(n:Int):∀(f m fuel:Nat) (acc:List UInt8),m<10 ^ f->f<fuel->m<=9223372036854775808->acc.length+f<=100->(n<0∨m<=9223372036854775807) ->
  r6 fuel (O05 n m) ⟨acc.toArray⟩=some ⟨(w0e f m acc).toArray⟩
 |f,m,0,acc,b,c,d,g,h=>by omega
 |0,m,fuel+1,acc,b,c,d,g,h=>by
  have:m=0:=by simp at b;exact b
  subst this
  rw[r6.eq_2,show O05 n 0=0 by unfold O05;split<;>simp]
  rfl
 |f+1,m,fuel+1,acc,b,c,d,g,h=>by
  rw[r6.eq_2]
  by_cases h0:m=0
  ·grind[O05,w0e]
  ·have p:O05 n m≠0:=λe=>h0 (C0r.1 e)
   have next:=v08 n f (m / 10) fuel (UInt8.ofNat (48+m % 10)::acc) (by grind) (by omega) (by omega) (by grind) (by omega)
   have o:IntKind.i64.wrap ((O05 n m).tdiv 10)=O05 n (m / 10):=by
    rw[Q0u]
    have:=Z0z (n:=n) (m:=m / 10) (by omega) (by omega)
    exact w64 this.1 this.2
   rw[if_pos (by simpa using p),o,P0u]
   simp only[show ∀ k:Unit->Option ByteArray,(grd (10≠0)).bind k=k () from λk=>rfl]
   have i:∀ a:Int,a=((m % 10:Nat):Int)->((grd ([IntKind.u8.wrap (IntKind.i64.wrap (48+a))].length<=9223372036854775807)).bind λ_=>(grd ((strOfNums [IntKind.u8.wrap (IntKind.i64.wrap (48+a))]).size+(⟨acc.toArray⟩:ByteArray).size<=9223372036854775807)).bind λ_ =>
     r6 fuel (O05 n (m / 10)) (strOfNums [IntKind.u8.wrap (IntKind.i64.wrap (48+a))]++⟨acc.toArray⟩))=some ⟨(w0e (f+1) m acc).toArray⟩:=λa j=>by
    rw[F0 (by simp),oB,F0 (by grind[strOfNums_size,E01,List.length_singleton]),oB,R0B acc j,next]
    simp[w0e,h0]
   by_cases hneg:O05 n (m % 10)<0
   ·rw[if_pos (by simpa using hneg)]
    refine i _ ?_
    unfold O05 at hneg ⊢
    split at hneg
    ·rename_i l
     rw[if_pos l,w64 (by omega) (by omega)];omega
    ·omega
   ·rw[if_neg (by simpa using hneg)]
    refine i _ ?_
    unfold O05 at hneg ⊢
    grind
def D0r(n:Int):O05 n n.natAbs=n:=by unfold O05;split<;>omega
def Q00(n:Int)(a:I0 n):I5 n=some (B0r n):=by
 unfold I5 B0r;by_cases h0:n=0;·rw[iP (by simpa using h0),iP h0]
 rw[iE (by simpa using h0),iE h0];have h:=v08 n 20 n.natAbs U0 [] (by have:=a.1;have:=a.2;omega) (by unfold U0;omega) (by have:=a.1;have:=a.2;omega) oS (by have:=a.2;omega);rw[D0r]at h;rw[h,oB];have b:=u0k 20 n.natAbs [];simp only[lN]at b;by_cases hneg:n<0;·rw[iP (by simpa using hneg),iP hneg,F0 (by grind[E01,w0e]),oB];exact congrArg some (F0f [45] _)
 grind
def i0d:Nat->Nat->List Int
 |0,_=>[]
 |f+1,m=>if m=0 then []else((48+m % 10:Nat):Int)::i0d f (m / 10)
def E0r:∀(f m:Nat),(i0d f m).length<=f
 |0,m=>by simp[i0d]
 |f+1,m=>by
  simp only[i0d];split;·simp
  have:=E0r f (m / 10);grind
def l0e:∀(f m:Nat) (acc:List UInt8),w0e f m acc=(i0d f m).reverse.map (λx=>UInt8.ofNat x.toNat)++acc
 |0,m,acc=>by simp[w0e,i0d]
 |f+1,m,acc=>by
  simp only[w0e,i0d];split;·simp
  rw[l0e f (m / 10)];grind
theorem w08(n:Int):∀(f m fuel:Nat) (acc:List Int),m<10 ^ f->f<fuel->m<=9223372036854775808->acc.length+f<=100->(n<0∨m<=9223372036854775807) ->
  w6 fuel (O05 n m) acc=some (acc++i0d f m)
 |f,m,0,acc,b,c,d,g,h=>by omega
 |0,m,fuel+1,acc,b,c,d,g,h=>by
  grind[w6.eq_2,O05,i0d]
 |f+1,m,fuel+1,acc,b,c,d,g,h=>by
  rw[w6.eq_2]
  by_cases h0:m=0
  ·grind[O05,i0d]
  ·have p:O05 n m≠0:=λe=>h0 (C0r.1 e)
   have next:=w08 n f (m / 10) fuel (acc ++ [((48+m % 10:Nat):Int)]) (by grind) (by omega) (by omega) (by grind) (by omega)
   have o:IntKind.i64.wrap ((O05 n m).tdiv 10)=O05 n (m / 10):=by
    rw[Q0u]
    have:=Z0z (n:=n) (m:=m / 10) (by omega) (by omega)
    exact w64 this.1 this.2
   rw[if_pos (by simpa using p),o,P0u]
   simp only[show ∀ k:Unit->Option (List Int),(grd (10≠0)).bind k=k () from λk=>rfl]
   have i:∀ a:Int,a=((m % 10:Nat):Int)->((grd ((acc.length + [IntKind.u8.wrap (IntKind.i64.wrap (48+a))].length)*1<=140737488355328)).bind λ_ =>
     w6 fuel (O05 n (m / 10)) (acc ++ [IntKind.u8.wrap (IntKind.i64.wrap (48+a))]))=some (acc++i0d (f+1) m):=λa j=>by
    have q:IntKind.u8.wrap (IntKind.i64.wrap (48+a))=((48+m % 10:Nat):Int):=by
     rw[j]
     simp[IntKind.wrap,IntKind.signed,IntKind.bits]
     omega
    grind[F0,List.length_singleton,i0d]
   by_cases hneg:O05 n (m % 10)<0
   ·rw[if_pos (by simpa using hneg)]
    refine i _ ?_
    unfold O05 at hneg ⊢
    split at hneg
    ·rename_i l
     rw[if_pos l,w64 (by omega) (by omega)];omega
    ·omega
   ·rw[if_neg (by simpa using hneg)]
    refine i _ ?_
    unfold O05 at hneg ⊢
    grind
def a0A(xs:List Int)(m:xs.length<=140737488355328):∀(fuel i a:Nat) (b:List Int),i+a+1=xs.length->a+1-i<fuel->b.length=xs.length->(∀ t,t<xs.length->b[t]?=if t<i∨a<t then xs[xs.length-1-t]? else xs[t]?) -> Q4 fuel (i:Int) (a:Int) b=some xs.reverse
 |0,i,a,b,j,l,h,g=>oM
 |fuel+1,i,a,b,j,l,h,g=>by
  rw[Q4.eq_2];by_cases hij:i<a
  ·have e:=V3 (show i<b.length by omega);have f:=V3 (show a<b.length by omega);generalize o:b[i]=xi at e;generalize p:b[a]=xj at f;rw[iP (by simp;omega),E2 f,oB,E2 e,oB,oB];rw[E2 (k:=a) (x:=xj) oG,oB,G2 hij oM,B0g oM oM];refine a0A xs m fuel (i+1) (a-1) _ oM oM (by simpa using h) (λt n=>?_);have c:=g i oM;have d:=g a oM;rw[iE oM]at c d;rw[e]at c;rw[f]at d;simp only[iN];by_cases t1:a=t;·subst t1;rw[List.getElem?_set_self oG,iP (Or.inr oM),show xs.length-1-a=i by omega];exact c
   rw[List.getElem?_set_ne t1];by_cases t2:i=t;·subst t2;rw[List.getElem?_set_self oM,iP (Or.inl oM),show xs.length-1-i=a by omega];exact d
   grind
  rw[iE (by simp;omega)];refine congrArg some (List.ext_getElem? λt=>?_);grind
def f0y(xs:List Int)(h0:0<xs.length)(a:xs.length<=1000):Q4 U0 0 (i64.wrap (((xs.length:Nat):Int)-1)) xs=some xs.reverse:=by rw[B0g h0 oM];exact a0A xs oM U0 0 (xs.length-1) xs oM (by unfold U0;omega) rfl (λt b=>by rw[iE oM])
def a02(n:Int)(a:I0 n):Q6 n=some (B0r n):=by
 unfold Q6 B0r;by_cases h0:n=0;·rw[iP (by simpa using h0),iP h0]
 rw[iE (by simpa using h0),iE h0];have h:=w08 n 20 n.natAbs U0 [] (by have:=a.1;have:=a.2;omega) (by unfold U0;omega) (by have:=a.1;have:=a.2;omega) oS (by have:=a.2;omega);rw[D0r,(nA)]at h;have c:=E0r 20 n.natAbs;have b:0<(i0d 20 n.natAbs).length:=by simp only[i0d];rw[iE oM];simp
 rw[h,oB];simp only[oB];by_cases hneg:n<0
 ·rw[iP (by simpa using hneg),iP hneg,F0 oG,oB,F0 oG,oB,
   f0y _ oS oG,oB,F0 oG,oB,l0e]
  simp[strOfNums]
 rw[iE (by simpa using hneg),iE hneg,F0 oM,oB,
  f0y _ b oM,oB,F0 oG,oB,l0e]
 simp[strOfNums]
end Go.Proofs.YthkpbcnhdhfifaaGreat
