/- Texts of the claim, joined: Plain laws: words and presentations, as the spec and the cod and others. -/
import Derived.Test.YtohcdjhocpakkaaGreatPart19
import Derived.Test.YtohcdjhocpakkaaGreatH33
import Derived.Test.YtohcdjhocpakkaaGreatH36
import Derived.Test.YtohcdjhocpakkaaGreatPart18
namespace Go.Proofs.YtohcdjhocpakkaaGreat
open Go.H
set_option linter.unusedVariables false
set_option linter.unusedSimpArgs false
theorem j1{n:Nat}(h:n<=140737488355328):n<Q0:=by unfold Q0;omega
theorem F0{p:Prop}[Decidable p](h:p):grd p=some ():=by unfold grd;rw[if_pos h]
theorem Z2{a:Type}(o:Option a)(d:a):chk true o d=o:=rfl
theorem L4{a:Type}(o:Option a)(d:a):chk false o d=some d:=rfl
theorem V1{a:Type}{xs:List a}{k:Nat}{x:a}(h:xs[k]?=some x):gi xs (k:Int)=some x:=by rw[I0b];exact h
theorem J05{a:Type}{xs:List a}{x:a}(h:xs[0]?=some x):gi xs 0=some x:=V1 (k:=0) h
theorem D0c{x:Int}(h:K0 x)(a:x ≠ -9223372036854775808):IntKind.i64.wrap (0-x) = -x:=by rw[w64 (by have:=h.1;have:=h.2;omega) (by have:=h.1;have:=h.2;omega)];omega
theorem n0e{n:Nat}(h:0<n)(a:n<=9223372036854775807):IntKind.i64.wrap ((n:Int)-1)=((n-1:Nat):Int):=by rw[w64 (by omega) (by omega)];omega
theorem d5{a:Type}{xs:List a}{k:Nat}(h:k<xs.length):xs[k]?=some xs[k]:=List.getElem?_eq_getElem h
def inR(b a x:Int):Bool:=decide (b<=x)&&decide (x<=a)
def V04(b a:Int)(w:List Int)(i:Nat):Bool :=
 match w[i]? with
 |none=>true
 |some x=>x == 0 || !inR b a x || (decide (0<i)&&match w[i-1]? with
  |none=>true
  |some c=>x == IntKind.i64.wrap (0-c))
def E02(b a:Int)(w:List Int):Nat->Nat->Bool
 |0,_=>true
 |d+1,k => !V04 b a w k&&E02 b a w d (k+1)
def I3(r:Int)(w:List Int):Bool:=inR 1 3 r&&decide (w.length<=24)&&E02 (-r) r w w.length 0
theorem M00(a b c:Int):T3 a b c=some (inR b c a):=by
 unfold T3 inR
 by_cases h:b<=a<;>simp[h]
theorem U7(a b c:Int):E3 a b c=some (inR b c a):=M00 a b c
theorem h06(r:Int)(w:List Int)(p:w.length<=140737488355328):∀(d k fuel:Nat),k+d=w.length->d<fuel ->
  j8 w r fuel (k:Int)=some (bif E02 (IntKind.i64.wrap (0-r)) r w d k then .inr ()else .inl false)
 |d,k,0,m,hf=>by omega
 |0,k,fuel+1,m,hf=>by
  rw[j8.eq_2,if_neg (by simp;omega)]
  simp[E02]
 |d+1,k,fuel+1,m,hf=>by
  have n:k<w.length:=by omega
  have b:=d5 n
  generalize w[k]=x at b
  have next:=h06 r w p d (k+1) fuel (by omega) (by omega)
  rw[j8.eq_2,if_pos (by simp;omega)]
  generalize IntKind.i64.wrap (0-r)=lo at next ⊢
  simp only[V1 b,oB,M00,C2 n (by omega:w.length<=9223372036854775807),next]
  have o:V04 lo r w k=(x == 0 || !inR lo r x || (decide (0<k)&&match w[k-1]? with
   |none=>true
   |some a=>x == IntKind.i64.wrap (0-a))):=by unfold V04;rw[b]
  simp only[E02,o]
  by_cases h0:x=0
  ·simp[h0,chk]
  have h:decide (x=0)=false:=by simpa using h0
  have c:(x == 0)=false:=by simpa using h0
  cases hin:inR lo r x with
  |false=>simp[h,c,hin,chk]
  |true =>
   by_cases hk0:k=0
   ·have j:decide ((k:Int)>0)=false:=by simp;omega
    have g:decide (0<k)=false:=by simp;omega
    simp only[h,c,hin,j,g,Z2,L4,Bool.not_true,Bool.not_false,Bool.and_true,Bool.false_and,Bool.or_self,Bool.true_and,cond_true,cond_false,oB,Bool.or_false,Bool.and_false,Bool.false_eq_true,if_false,cond_true,cond_false]
   ·have l:=d5 (show k-1<w.length by omega)
    generalize w[k-1]=a at l
    have q:IntKind.i64.wrap ((k:Int)-1)=((k-1:Nat):Int):=n0e (by omega) (by omega)
    have j:decide ((k:Int)>0)=true:=by simp;omega
    have g:decide (0<k)=true:=by simp;omega
    simp only[h,c,hin,j,g,q,l,V1 b,V1 l,Z2,L4,Bool.not_true,Bool.not_false,Bool.and_true,Bool.false_and,Bool.or_self,Bool.true_and,cond_true,cond_false,oB,Bool.or_false,Bool.and_false,Bool.false_or]
    by_cases hxy:x=IntKind.i64.wrap (0-a)
    ·have i:decide (x=IntKind.i64.wrap (0-a))=true:=by simpa using hxy
     have f:(x == IntKind.i64.wrap (0-a))=true:=by simpa using hxy
     simp only[i,f,if_true,Bool.not_true,Bool.false_and,Bool.false_eq_true,if_false,cond_true,cond_false]
    ·have i:decide (x=IntKind.i64.wrap (0-a))=false:=by simpa using hxy
     have f:(x == IntKind.i64.wrap (0-a))=false:=by simpa using hxy
     simp only[i,f,Bool.false_eq_true,if_false,Bool.not_false,Bool.true_and]
theorem P06(r:Int)(w:List Int)(a:w.length<=140737488355328):z00 r w=some (I3 r w):=by
 unfold z00
 have h:=h06 r w a w.length 0 Q0 (by omega) (j1 a)
 rw[show((0:Nat):Int)=0 from rfl]at h
 rw[h,M00]
 unfold I3
 by_cases hr:inR 1 3 r=true
 ·have:IntKind.i64.wrap (0-r) = -r:=by
   simp only[inR,Bool.and_eq_true,decide_eq_true_eq]at hr
   rw[w64 (by omega) (by omega)];omega
  rw[this,hr]
  cases E02 (-r) r w w.length 0<;>simp[t7]<;>omega
 ·simp only[Bool.not_eq_true]at hr
  rw[hr]
  cases E02 (IntKind.i64.wrap (0-r)) r w w.length 0<;>simp[t7]
theorem g0l(r x:Int)(b:inR 1 3 r=true):f01 r x=some (!(x == 0)&&inR (-r) r x):=by
 have a:IntKind.i64.wrap (0-r) = -r:=by
  simp only[inR,Bool.and_eq_true,decide_eq_true_eq]at b
  rw[w64 (by omega) (by omega)];omega
 unfold f01
 rw[a,U7]
 by_cases h0:x=0
 ·simp[h0,chk]
 ·simp[h0,chk]
theorem y0a(a x:Int):V8 a x=some (!(a == 0) && !(a == -9223372036854775808)&&(x == IntKind.i64.wrap (0-a))):=by
 unfold V8
 by_cases h0:a=0
 ·simp[h0]
 ·by_cases h1:a = -9223372036854775808
  ·simp[h1]
  ·simp only[h0,h1,decide_false,Bool.not_false,cond_true,Option.some.injEq]
   have b:(a == 0)=false:=by simpa using h0
   have c:(a == -9223372036854775808)=false:=by simpa using h1
   rw[b,c]
   rfl
theorem i06(r:Int)(w:List Int)(hr:inR 1 3 r=true)(hl:w.length<=140737488355328):∀(d k fuel:Nat),k+d=w.length->d<fuel ->
  (∀ i,i<k->V04 (-r) r w i=false) ->
  l8 w r fuel (k:Int)=some (bif E02 (-r) r w d k then .inr ()else .inl false)
 |d,k,0,hk,hf,hp=>by omega
 |0,k,fuel+1,hk,hf,hp=>by
  rw[l8.eq_2,if_neg (by simp;omega)]
  simp[E02]
 |d+1,k,fuel+1,hk,hf,hp=>by
  have hkl:k<w.length:=by omega
  have hx:=d5 hkl
  generalize w[k]=x at hx
  have next:=λ(hb:V04 (-r) r w k=false)=>i06 r w hr hl d (k+1) fuel (by omega) (by omega) (λi hi=>by
   by_cases e:i=k
   ·subst e;exact hb
   ·exact hp i (by omega))
  rw[l8.eq_2,if_pos (by simp;omega)]
  rw[V1 hx,oB,g0l r x hr,C2 hkl (by omega:w.length<=9223372036854775807)]
  have hbad:V04 (-r) r w k=(x == 0 || !inR (-r) r x || (decide (0<k)&&match w[k-1]? with
   |none=>true
   |some y=>x == IntKind.i64.wrap (0-y))):=by unfold V04;rw[hx]
  simp only[E02]
  by_cases h0:x=0
  ·simp[h0,chk,hbad]
  have b0:(x == 0)=false:=by simpa using h0
  cases hin:inR (-r) r x with
  |false=>simp[b0,hin,chk,hbad]
  |true =>
   by_cases hk0:k=0
   ·have hb:V04 (-r) r w k=false:=by rw[hbad];simp[h0,hin,hk0]
    rw[next hb,hb]
    have ek:decide ((k:Int)>0)=false:=by simp;omega
    simp only[b0,ek,Z2,L4,Bool.not_true,Bool.not_false,Bool.and_true,Bool.false_and,Bool.or_self,Bool.true_and,cond_true,cond_false,oB,Bool.or_false,Bool.and_false,Bool.false_eq_true,if_false,cond_true,cond_false]
   ·have hy:=d5 (show k-1<w.length by omega)
    have hpy:=hp (k-1) (by omega)
    generalize w[k-1]=y at hy
    have hy0:y≠0/\y ≠ -9223372036854775808:=by
     unfold V04 at hpy
     rw[hy]at hpy
     simp only[Bool.or_eq_false_iff,Bool.not_eq_false']at hpy
     have h1:=hpy.1.2
     simp only[inR,Bool.and_eq_true,decide_eq_true_eq]at h1 hr
     exact⟨by simpa using hpy.1.1,by omega⟩
    have b2:(y == 0)=false:=by simpa using hy0.1
    have b3:(y == -9223372036854775808)=false:=by simpa using hy0.2
    have hpr:IntKind.i64.wrap ((k:Int)-1)=((k-1:Nat):Int):=n0e (by omega) (by omega)
    have ek:decide ((k:Int)>0)=true:=by simp;omega
    have bk:decide (0<k)=true:=by simp;omega
    simp only[b0,ek,hpr,V1 hy,y0a,b2,b3,Z2,L4,Bool.not_true,Bool.not_false,Bool.and_true,Bool.false_and,Bool.or_self,Bool.true_and,cond_true,cond_false,oB,Bool.or_false,Bool.and_false,Bool.false_or]
    cases b1:(x == IntKind.i64.wrap (0-y))with
    |true =>
     have hb:V04 (-r) r w k=true:=by rw[hbad,hy,bk,b0,hin];exact b1
     simp only[hb,if_true,Bool.not_true,Bool.false_and,Bool.false_eq_true,if_false,cond_true,cond_false]
    |false =>
     have hb:V04 (-r) r w k=false:=by rw[hbad,hy,bk,b0,hin];exact b1
     simp only[hb,next hb,Bool.false_eq_true,if_false,Bool.not_false,Bool.true_and]
theorem Q06(r:Int)(w:List Int)(b:w.length<=140737488355328):A00 r w=some (I3 r w):=by
 unfold A00
 rw[U7]
 unfold I3
 cases hr:inR 1 3 r with
 |false=>simp
 |true =>
  by_cases h24:w.length<=24
  ·have h:=i06 r w hr b w.length 0 Q0 (by omega) (j1 b) (λi c=>by omega)
   rw[show((0:Nat):Int)=0 from rfl]at h
   have a : ¬ (24:Int)<(w.length:Int):=by omega
   simp only[oB,h,a]
   cases E02 (-r) r w w.length 0<;>simp[t7,h24]
  ·have a:(24:Int)<(w.length:Int):=by omega
   simp[h24,a]
def tot:List (List Int)->Nat
 | []=>0
 |w::r=>w.length+tot r
theorem K1{a:Type}{xs:List a}{k:Nat}{x:a}(h:xs[k]?=some x):xs.drop k=x::xs.drop (k+1):=by
 obtain⟨b,rfl⟩:=List.getElem?_eq_some_iff.1 h
 exact List.drop_eq_getElem_cons b
theorem I1{a:Type}{xs:List a}{k:Nat}(h:k=xs.length):xs.drop k = []:=by rw[h];exact List.drop_length
theorem l03(b:List (List Int))(i:b.length<=140737488355328):∀(d k fuel a:Nat),k+d=b.length->d<fuel->a+tot (b.drop k)<=9223372036854775807 ->
  Z3 b fuel (a:Int) (k:Int)=some ((a+tot (b.drop k):Nat):Int)
 |d,k,0,a,g,hf,c=>by omega
 |0,k,fuel+1,a,g,hf,c=>by
  rw[Z3.eq_2,if_neg (by simp;omega),I1 (by omega)]
  rfl
 |d+1,k,fuel+1,a,g,hf,c=>by
  have h:k<b.length:=by omega
  have f:=d5 h
  generalize b[k]=x at f
  rw[K1 f]at c ⊢
  simp only[tot]at c ⊢
  rw[Z3.eq_2,if_pos (by simp;omega),V1 f,oB,C2 h (by omega:b.length<=9223372036854775807),
   show IntKind.i64.wrap ((a:Int)+((x.length:Nat):Int))=((a+x.length:Nat):Int) by rw[w64 (by omega) (by omega)];omega,
   l03 b i d (k+1) fuel (a+x.length) (by omega) (by omega) (by omega)]
  rw[Nat.add_assoc]
theorem t05(a:List (List Int))(b:a.length<=140737488355328)(c:tot a<=9223372036854775807):B8 a=some ((tot a:Nat):Int):=by
 unfold B8
 have h:=l03 a b a.length 0 Q0 0 (by omega) (j1 b) (by simpa using c)
 rw[show((0:Nat):Int)=0 from rfl]at h
 rw[h]
 simp
theorem N02(b:List (List Int)):∀(fuel:Nat) (a k:Int),d6 b fuel a k=Z3 b fuel a k
 |0,a,k=>rfl
 |fuel+1,a,k=>by
  rw[d6.eq_2,Z3.eq_2]
  simp only[N02 b fuel]
theorem z0a(a:List (List Int))(b:a.length<=140737488355328)(c:tot a<=9223372036854775807):K9 a=some ((tot a:Nat):Int):=by
 rw[←t05 a b c]
 unfold K9 B8
 rw[N02]
def W04(r:Int):List (List Int)->Bool
 | []=>true
 |w::l=>I3 r w&&W04 r l
def N2(r:Int)(a:List (List Int)):Bool:=inR 1 3 r&&decide (a.length<=6)&&W04 r a&&decide (tot a<40)
theorem o0e{r:Int}:∀ {a:List (List Int)},W04 r a=true->tot a<=24*a.length
 | [],_=>by simp[tot]
 |w::l,h=>by
  simp only[W04,Bool.and_eq_true]at h
  have b:=h.1
  simp only[I3,Bool.and_eq_true,decide_eq_true_eq]at b
  have:=o0e h.2
  simp only[tot,List.length_cons]
  omega
def S3(a:List (List Int)):Prop:=∀ w∈a,w.length<=140737488355328
theorem X04(r:Int)(a:List (List Int))(i:a.length<=140737488355328)(g:S3 a):∀(d k fuel:Nat),k+d=a.length->d<fuel ->
  R6 a r fuel (k:Int)=some (bif W04 r (a.drop k)then .inr ()else .inl false)
 |d,k,0,c,hf=>by omega
 |0,k,fuel+1,c,hf=>by
  rw[R6.eq_2,if_neg (by simp;omega),I1 (by omega)]
  rfl
 |d+1,k,fuel+1,c,hf=>by
  have f:k<a.length:=by omega
  have b:=d5 f
  have h:=g _ (List.mem_of_getElem? b)
  generalize a[k]=x at b h
  rw[K1 b,R6.eq_2,if_pos (by simp;omega),V1 b,oB,P06 r x h,oB,C2 f (by omega:a.length<=9223372036854775807),
   X04 r a i g d (k+1) fuel (by omega) (by omega)]
  simp only[W04]
  cases I3 r x<;>simp
theorem S07(r:Int)(a:List (List Int))(d:a.length<=140737488355328)(f:S3 a):e00 r a=some (N2 r a):=by
 unfold e00
 have h:=X04 r a d f a.length 0 Q0 (by omega) (j1 d)
 rw[show((0:Nat):Int)=0 from rfl,List.drop_zero]at h
 rw[h,oB]
 unfold N2
 cases ha:W04 r a with
 |false=>simp[t7]
 |true =>
  rw[cond_true,S0,M00,oB]
  have:=o0e ha
  cases hr:inR 1 3 r with
  |false=>simp[chk,grd,K0]
  |true =>
   by_cases h6:a.length<=6
   ·rw[t05 a d (by omega)]
    have b:decide (((a.length:Nat):Int)<=6)=true:=by simp;omega
    have c:decide (a.length<=6)=true:=by simpa using h6
    rw[b,c,cond_true,Z2,oB,F0 (by constructor<;>omega)]
    simp
    omega
   ·have b:decide (((a.length:Nat):Int)<=6)=false:=by simp;omega
    have c:decide (a.length<=6)=false:=by simpa using h6
    rw[b,c]
    simp[chk,grd,K0]
theorem Y04(r:Int)(a:List (List Int))(i:a.length<=140737488355328)(g:S3 a):∀(d k fuel:Nat),k+d=a.length->d<fuel ->
  S6 a r fuel (k:Int)=some (bif W04 r (a.drop k)then .inr ()else .inl false)
 |d,k,0,c,hf=>by omega
 |0,k,fuel+1,c,hf=>by
  rw[S6.eq_2,if_neg (by simp;omega),I1 (by omega)]
  rfl
 |d+1,k,fuel+1,c,hf=>by
  have f:k<a.length:=by omega
  have b:=d5 f
  have h:=g _ (List.mem_of_getElem? b)
  generalize a[k]=x at b h
  rw[K1 b,S6.eq_2,if_pos (by simp;omega),V1 b,oB,Q06 r x h,oB,C2 f (by omega:a.length<=9223372036854775807),
   Y04 r a i g d (k+1) fuel (by omega) (by omega)]
  simp only[W04]
  cases I3 r x<;>simp
theorem T07(r:Int)(a:List (List Int))(d:a.length<=140737488355328)(f:S3 a):f00 r a=some (N2 r a):=by
 unfold f00
 rw[U7,oB]
 unfold N2
 cases hr:inR 1 3 r with
 |false=>simp
 |true =>
  by_cases h6:a.length<=6
  ·have b:decide (((a.length:Nat):Int)>6)=false:=by simp;omega
   have c:decide (a.length<=6)=true:=by simpa using h6
   have h:=Y04 r a d f a.length 0 Q0 (by omega) (j1 d)
   rw[show((0:Nat):Int)=0 from rfl,List.drop_zero]at h
   rw[b,c,h,oB]
   cases ha:W04 r a with
   |false=>simp[t7]
   |true =>
    have:=o0e ha
    simp only[cond_true,S0,z0a a d (by omega),oB,F0 (show K0 ((tot a:Nat):Int) by constructor<;>omega)]
    simp
    omega
  ·have b:decide (((a.length:Nat):Int)>6)=true:=by simp;omega
   have c:decide (a.length<=6)=false:=by simpa using h6
   rw[b,c]
   simp
theorem K0b{b a:Int}{w:List Int}:∀ {d k:Nat},E02 b a w d k=true->∀ i,k<=i->i<k+d->V04 b a w i=false
 |0,k,h,i,c,f=>by omega
 |d+1,k,h,i,c,f=>by
  simp only[E02,Bool.and_eq_true,Bool.not_eq_true']at h
  by_cases e:i=k
  ·subst e;exact h.1
  ·exact K0b h.2 i (by omega) (by omega)
theorem A0j{r:Int}{w:List Int}(h:I3 r w=true){i:Nat}{x:Int}(d:w[i]?=some x):(1<=r/\r<=3)/\w.length<=24/\x≠0 /\ -r<=x/\x<=r:=by
 simp only[I3,Bool.and_eq_true,decide_eq_true_eq]at h
 have c:=h.1.1
 simp only[inR,Bool.and_eq_true,decide_eq_true_eq]at c
 have a:=K0b h.2 i (Nat.zero_le _) (by have:=(List.getElem?_eq_some_iff.1 d).1;omega)
 unfold V04 at a
 rw[d]at a
 simp only[Bool.or_eq_false_iff,Bool.not_eq_false']at a
 have b:=a.1.2
 simp only[inR,Bool.and_eq_true,decide_eq_true_eq]at b
 exact⟨c,h.1.2,by simpa using a.1.1,b⟩
def K05(r a:Int)(e:J0):Bool:=inR 0 a e.1&&inR 0 a e.2.2&&inR 1 r e.2.1
def p0e(e f:J0):Int:=P0 e f
theorem q0e(e f:J0):p0e e f=if N5 e.1 f.1≠0 then N5 e.1 f.1 else if N5 e.2.1 f.2.1≠0 then N5 e.2.1 f.2.1 else N5 e.2.2 f.2.2:=rfl
theorem R06(a b:Int):(a<b/\N5 a b = -1)∨(a>b/\N5 a b=1)∨(a=b/\N5 a b=0):=by
 unfold N5
 split
 ·omega
 ·split<;>omega
theorem p0d(e f:J0):K0 (p0e e f):=by
 rw[q0e]
 split
 ·exact s05 _ _
 ·split<;>exact s05 _ _
theorem n0p(g:j0)(e:J0):x02 g e=some (K05 g.1 (IntKind.i64.wrap (g.2.1-1)) e):=by
 obtain⟨r,n,es⟩:=g
 obtain⟨a,l,b⟩:=e
 unfold x02 K05
 simp only[M00,oB]
 cases inR 0 (IntKind.i64.wrap (n-1)) a with
 |false=>rfl
 |true =>
  cases inR 0 (IntKind.i64.wrap (n-1)) b with
  |false=>rfl
  |true=>simp[chk]
theorem S0c(g:j0)(e:J0):M8 g e=some (K05 g.1 (IntKind.i64.wrap (g.2.1-1)) e):=by
 obtain⟨r,n,es⟩:=g
 obtain⟨a,l,b⟩:=e
 unfold M8 s6 K05
 simp only[U7,oB]
 cases inR 0 (IntKind.i64.wrap (n-1)) a with
 |false=>rfl
 |true =>
  cases inR 0 (IntKind.i64.wrap (n-1)) b with
  |false=>rfl
  |true=>simp[chk]
theorem F02(e f:J0):c8 e f=some (p0e e f):=by
 obtain⟨a,l,b⟩:=e
 obtain⟨i,k,j⟩:=f
 unfold c8
 rw[show Q0=(Q0-4)+1+1+1+1 from rfl]
 have q:IntKind.i64.wrap (0+1)=1:=by decide
 have s:IntKind.i64.wrap (1+1)=2:=by decide
 have t:IntKind.i64.wrap (2+1)=3:=by decide
 have p:∀ x d z:Int,gi [x,d,z] 0=some x:=λ_ _ _=>rfl
 have g1:∀ x d z:Int,gi [x,d,z] 1=some d:=λ_ _ _=>rfl
 have g2:∀ x d z:Int,gi [x,d,z] 2=some z:=λ_ _ _=>rfl
 have d0:decide ((0:Int)<3)=true:=rfl
 have m:decide ((1:Int)<3)=true:=rfl
 have n:decide ((2:Int)<3)=true:=rfl
 have o:decide ((3:Int)<3)=false:=rfl
 simp only[j7.eq_2,q,s,t,p,g1,g2,d0,m,n,o,if_true,oB,Bool.false_eq_true,if_false]
 rw[q0e]
 simp only
 rcases R06 a i with⟨h,e⟩|⟨h,e⟩|⟨h,e⟩
 ·simp[e,h,t7]
 ·have : ¬ a<i:=by omega
  simp[e,h,this,t7]
 ·subst h
  rcases R06 l k with⟨h,c⟩|⟨h,c⟩|⟨h,c⟩
  ·simp[e,c,h,t7]
  ·have : ¬ l<k:=by omega
   simp[e,c,h,this,t7]
  ·subst h
   rcases R06 b j with⟨h,g⟩|⟨h,g⟩|⟨h,g⟩
   ·simp[e,c,g,h,t7]
   ·have : ¬ b<j:=by omega
    simp[e,c,g,h,this,t7]
   ·subst h
    simp[e,c,g,t7]
theorem M0n(a b:Int):K3 a b=some (N5 a b):=by
 unfold K3 N5
 by_cases h:a<b
 ·simp[h]
 ·by_cases h2:a>b<;>simp[h,h2]
theorem Z04(e f:J0):j9 e f=some (p0e e f):=by
 obtain⟨a,l,b⟩:=e
 obtain⟨c,d,g⟩:=f
 rw[q0e]
 unfold j9
 simp only[M0n,oB,F0 (s05 _ _)]
 by_cases h1:N5 a c=0
 ·by_cases h2:N5 l d=0
  ·simp[h1,h2]
  ·simp[h1,h2]
 ·simp[h1]
def o0p(r a:Int)(es:List J0)(k:Nat):Bool:=match es[k]? with
 |none=>true
 |some e => !K05 r a e || (decide (0<k)&&match es[k-1]? with
  |none=>true
  |some f=>decide (p0e f e ≥ 0))
def okE(r a:Int)(es:List J0):Nat->Nat->Bool
 |0,_=>true
 |d+1,k => !o0p r a es k&&okE r a es d (k+1)
def O0(g:j0):Bool:=okE g.1 (IntKind.i64.wrap (g.2.1-1)) g.2.2 g.2.2.length 0&&inR 1 3 g.1&&inR 1 40 g.2.1&&decide (g.2.2.length<=120)
theorem A0a{r a:Int}{es:List J0}{k:Nat}{e:J0}(b:es[k]?=some e):o0p r a es k=(!K05 r a e || (decide (0<k)&&match es[k-1]? with
  |none=>true
  |some f=>decide (p0e f e ≥ 0))):=by unfold o0p;rw[b]
theorem u05(r n:Int)(es:List J0)(q:es.length<=140737488355328):∀(d k fuel:Nat),k+d=es.length->d<fuel ->
  D7 es r n fuel (k:Int)=some (bif okE r (IntKind.i64.wrap (n-1)) es d k then .inr ()else .inl false)
 |d,k,0,l,hf=>by omega
 |0,k,fuel+1,l,hf=>by
  rw[D7.eq_2,if_neg (by simp;omega)]
  simp[okE]
 |d+1,k,fuel+1,l,hf=>by
  have m:k<es.length:=by omega
  have a:=d5 m
  generalize es[k]=e at a
  obtain⟨h,i,j⟩:=e
  have next:=u05 r n es q d (k+1) fuel (by omega) (by omega)
  rw[D7.eq_2,if_pos (by simp;omega),V1 a,oB]
  simp only[n0p,oB,C2 m (by omega:es.length<=9223372036854775807),next,okE,A0a a]
  generalize IntKind.i64.wrap (n-1)=hi
  cases hin:K05 r hi (h,i,j)with
  |false=>simp[chk,grd,K0]
  |true =>
   by_cases hk0:k=0
   ·have c:decide ((k:Int)>0)=false:=by simp;omega
    have b:decide (0<k)=false:=by simp;omega
    simp only[c,b,L4,Bool.not_true,Bool.not_false,Bool.and_true,Bool.false_and,Bool.or_self,Bool.true_and,cond_true,cond_false,oB,Bool.or_false,Bool.false_eq_true,if_false,F0 (show K0 0 by decide)]
   ·have g:=d5 (show k-1<es.length by omega)
    generalize es[k-1]=f at g
    obtain⟨o,p,f2⟩:=f
    have s:IntKind.i64.wrap ((k:Int)-1)=((k-1:Nat):Int):=n0e (by omega) (by omega)
    have c:decide ((k:Int)>0)=true:=by simp;omega
    have b:decide (0<k)=true:=by simp;omega
    simp only[c,b,s,g,V1 a,V1 g,Z2,Bool.not_true,Bool.not_false,Bool.and_true,Bool.false_and,Bool.or_self,Bool.true_and,cond_true,cond_false,oB,Bool.or_false,Bool.false_or,F02,F0 (p0d _ _)]
    cases decide (p0e (o,p,f2) (h,i,j) ≥ 0)<;>rfl
theorem G8(g:j0)(a:g.2.2.length<=140737488355328):l5 g=some (O0 g):=by
 obtain⟨r,n,es⟩:=g
 unfold l5 O0
 simp only at a ⊢
 have h:=u05 r n es a es.length 0 Q0 (by omega) (j1 a)
 rw[show((0:Nat):Int)=0 from rfl]at h
 rw[h,oB]
 cases okE r (IntKind.i64.wrap (n-1)) es es.length 0 with
 |false=>simp[t7]
 |true =>
  rw[cond_true,S0,M00,M00,oB]
  cases inR 1 3 r with
  |false=>simp[chk]
  |true =>
   simp only[Z2,oB,cond_true,Bool.true_and]
   cases inR 1 40 n with
   |false=>simp
   |true=>simp;omega
theorem v05(r n:Int)(es:List J0)(q:es.length<=140737488355328):∀(d k fuel:Nat),k+d=es.length->d<fuel ->
  E7 es r n fuel (k:Int)=some (bif okE r (IntKind.i64.wrap (n-1)) es d k then .inr ()else .inl false)
 |d,k,0,l,hf=>by omega
 |0,k,fuel+1,l,hf=>by
  rw[E7.eq_2,if_neg (by simp;omega)]
  simp[okE]
 |d+1,k,fuel+1,l,hf=>by
  have m:k<es.length:=by omega
  have a:=d5 m
  generalize es[k]=e at a
  obtain⟨h,i,j⟩:=e
  have next:=v05 r n es q d (k+1) fuel (by omega) (by omega)
  rw[E7.eq_2,if_pos (by simp;omega),V1 a,oB]
  simp only[S0c,oB,C2 m (by omega:es.length<=9223372036854775807),next,okE,A0a a]
  generalize IntKind.i64.wrap (n-1)=hi
  cases hin:K05 r hi (h,i,j)with
  |false=>simp[chk,grd,K0]
  |true =>
   by_cases hk0:k=0
   ·have c:decide ((k:Int)>0)=false:=by simp;omega
    have b:decide (0<k)=false:=by simp;omega
    simp only[c,b,L4,Bool.not_true,Bool.not_false,Bool.and_true,Bool.false_and,Bool.or_self,Bool.true_and,cond_true,cond_false,oB,Bool.or_false,Bool.false_eq_true,if_false,F0 (show K0 0 by decide)]
   ·have g:=d5 (show k-1<es.length by omega)
    generalize es[k-1]=f at g
    obtain⟨o,p,f2⟩:=f
    have s:IntKind.i64.wrap ((k:Int)-1)=((k-1:Nat):Int):=n0e (by omega) (by omega)
    have c:decide ((k:Int)>0)=true:=by simp;omega
    have b:decide (0<k)=true:=by simp;omega
    simp only[c,b,s,g,V1 a,V1 g,Z2,Bool.not_true,Bool.not_false,Bool.and_true,Bool.false_and,Bool.or_self,Bool.true_and,cond_true,cond_false,oB,Bool.or_false,Bool.false_or,Z04,F0 (p0d _ _)]
    cases decide (p0e (o,p,f2) (h,i,j) ≥ 0)<;>rfl
theorem x01(g:j0)(c:g.2.2.length<=140737488355328):T7 g=some (O0 g):=by
 obtain⟨r,n,es⟩:=g
 unfold T7 O0
 simp only at c ⊢
 rw[U7,U7,oB]
 cases hr:inR 1 3 r with
 |false=>simp[chk]
 |true =>
  simp only[Bool.not_true,Bool.not_false,Z2,oB,cond_false]
  cases hn:inR 1 40 n with
  |false=>simp
  |true =>
   by_cases h120:es.length<=120
   ·have h:=v05 r n es c es.length 0 Q0 (by omega) (j1 c)
    rw[show((0:Nat):Int)=0 from rfl]at h
    have a:decide (((es.length:Nat):Int)>120)=false:=by simp;omega
    have b:decide (es.length<=120)=true:=by simpa using h120
    simp only[a,b,Bool.not_true,cond_false,Bool.false_eq_true,if_false,h,oB]
    cases okE r (IntKind.i64.wrap (n-1)) es es.length 0<;>rfl
   ·have a:decide (((es.length:Nat):Int)>120)=true:=by simp;omega
    have b:decide (es.length<=120)=false:=by simpa using h120
    simp only[a,b,Bool.not_true,cond_false,if_true,Bool.and_false]
theorem h0l{r a:Int}{es:List J0}:∀ {d k:Nat},okE r a es d k=true->∀ i,k<=i->i<k+d->o0p r a es i=false
 |0,k,h,i,b,c=>by omega
 |d+1,k,h,i,b,c=>by
  simp only[okE,Bool.and_eq_true,Bool.not_eq_true']at h
  by_cases e:i=k
  ·subst e;exact h.1
  ·exact h0l h.2 i (by omega) (by omega)
theorem r0e{n:Nat}(h:n<=9223372036854775807):n<Q0:=by unfold Q0;omega
def goI(x:Int):List Int->Bool×List Int
 | []=>(false,[])
 |y::l=>if x<y then(true,x::y::l)else if y=x then(true,y::l)else((goI x l).1,y::(goI x l).2)
theorem r0m(x:Int):∀ l,H01 N5 x l=bif(goI x l).1 then(goI x l).2 else(goI x l).2 ++ [x]
 | []=>rfl
 |y::l=>by
  have a:=r0m x l
  unfold H01 goI
  rcases R06 x y with⟨h,e⟩|⟨h,e⟩|⟨h,e⟩
  ·rw[e,if_pos (by omega),if_pos h];rfl
  ·rw[e,if_neg (by omega),if_neg (by omega),if_neg (by omega),if_neg (by omega),a]
   cases (goI x l).1<;>rfl
  ·rw[e,if_neg (by omega),if_pos rfl,if_neg (by omega),if_pos h.symm];rfl
theorem s0e(l:List Int)(w:Int)(i:l.length<=1099511627776):∀(d k fuel:Nat) (acc:List Int),k+d=l.length->d<fuel->acc.length<=k+1 ->
  O4 l w fuel true (k:Int) acc=some (true,acc++l.drop k)
 |d,k,0,acc,f,hf,b=>by omega
 |0,k,fuel+1,acc,f,hf,b=>by
  rw[O4.eq_2,if_neg (by simp;omega),I1 (by omega),List.append_nil]
 |d+1,k,fuel+1,acc,f,hf,b=>by
  have g:k<l.length:=by omega
  have a:=d5 g
  generalize l[k]=x at a
  have j:=s0e l w i d (k+1) fuel (acc ++ [x]) (by omega) (by omega) (by simp;omega)
  rw[O4.eq_2,if_pos (by simp;omega),V1 a,oB]
  have h:∀ c:Bool,(bif c then(!true)else false)=false:=λc=>by cases c<;>rfl
  simp only[h,Bool.false_eq_true,if_false,oB,C2 g (show l.length<=9223372036854775807 by omega),j,F0 (show(acc.length + [x].length)*8<=140737488355328 by simp;omega)]
  rw[K1 a]
  split<;>simp
theorem r0g(l:List Int)(w:Int)(b:l.length<=1099511627776):∀(d k fuel:Nat) (acc:List Int),k+d=l.length->d<fuel->acc.length=k ->
  O4 l w fuel false (k:Int) acc=some ((goI w (l.drop k)).1,acc++(goI w (l.drop k)).2)
 |d,k,0,acc,h,hf,g=>by omega
 |0,k,fuel+1,acc,h,hf,g=>by
  rw[O4.eq_2,if_neg (by simp;omega),I1 (by omega)]
  simp[goI]
 |d+1,k,fuel+1,acc,h,hf,g=>by
  have a:k<l.length:=by omega
  have f:=d5 a
  generalize l[k]=x at f
  have m:=r0g l w b d (k+1) fuel (acc ++ [x]) (by omega) (by omega) (by simp;omega)
  have n:=s0e l w b d (k+1) fuel (acc ++ [x]) (by omega) (by omega) (by simp;omega)
  have o:=s0e l w b d (k+1) fuel (acc ++ [w] ++ [x]) (by omega) (by omega) (by simp;omega)
  rw[O4.eq_2,if_pos (by simp;omega),V1 f,oB,K1 f]
  unfold goI
  have i:∀ c:Bool,(bif c then(!true)else false)=false:=λc=>by cases c<;>rfl
  have j:∀ c:Bool,(bif c then(!false)else false)=c:=λc=>by cases c<;>rfl
  by_cases h0:x=w
  ·rw[if_pos (by simpa using h0),oB,i,if_neg (by simp),oB,F0 (by simp;omega),oB,C2 a (by omega),n,if_neg (by omega),if_pos h0]
   simp
  ·rw[if_neg (by simpa using h0),oB,j]
   by_cases h1:w<x
   ·rw[if_pos (by simpa using h1),F0 (by simp;omega),oB,oB,F0 (by simp;omega),oB,C2 a (by omega),o,if_pos h1]
    simp
   ·rw[if_neg (by simpa using h1),oB,F0 (by simp;omega),oB,C2 a (by omega),m,if_neg h1,if_neg h0]
    simp
theorem B0a(l:List Int)(w:Int)(a:l.length<=1099511627776):D8 l w=some (H01 N5 w l):=by
 unfold D8
 have h:=r0g l w a l.length 0 Q0 [] (by omega) (j1 (by omega)) rfl
 rw[show((0:Nat):Int)=0 from rfl,List.drop_zero,List.nil_append]at h
 rw[h,oB,r0m]
 have b:∀ l:List Int,(goI w l).2.length<=l.length+1:=λl=>by
  induction l with
  |nil=>simp[goI]
  |cons d l c =>
   unfold goI
   split
   ·simp
   ·split
    ·simp
    ·simp only[List.length_cons];omega
 have:=b l
 cases (goI w l).1 with
 |true=>rfl
 |false =>
  simp only[Bool.not_false,if_true,cond_false]
  rw[F0 (by simp;omega),oB]
def s0g(v x:Int)(e:J0):List Int :=
 if 0<x/\e.2.1=x/\e.1=v then [e.2.2]else if x<0/\e.2.1 = -x/\e.2.2=v then [e.1]else []
def O9(v x:Int):List J0->List Int
 | []=>[]
 |e::es=>s0g v x e++O9 v x es
theorem N0n(v x:Int)(e:J0):(s0g v x e).length<=1:=by unfold s0g;split<;>(try split)<;>simp
theorem t0e(v x:Int):∀ es,(O9 v x es).length<=es.length
 | []=>by simp[O9]
 |e::es=>by
  have a:=N0n v x e
  have b:=t0e v x es
  simp only[O9,List.length_append,List.length_cons]
  omega
def t6(x:Int):Prop:=K0 x/\x ≠ -9223372036854775808
theorem C0a(es:List J0)(v x:Int)(f:t6 x)(t:es.length<=1099511627776):∀(d k fuel:Nat) (acc:List Int),k+d=es.length->d<fuel->acc.length<=k ->
  W4 es x v fuel (k:Int) acc=some (acc++O9 v x (es.drop k))
 |d,k,0,acc,p,hf,o=>by omega
 |0,k,fuel+1,acc,p,hf,o=>by
  rw[W4.eq_2,if_neg (by simp;omega),I1 (by omega)]
  simp[O9]
 |d+1,k,fuel+1,acc,p,hf,o=>by
  have q:k<es.length:=by omega
  have m:=d5 q
  generalize es[k]=e at m
  obtain⟨a,l,b⟩:=e
  have n:=λs h=>C0a es v x f t d (k+1) fuel s (by omega) (by omega) h
  have u:decide (x = -9223372036854775808)=false:=by simp;exact f.2
  rw[W4.eq_2,if_pos (by simp;omega),V1 m,oB,K1 m]
  simp only[O9,s0g,D0c f.1 f.2,u,Bool.not_false,C2 q (show es.length<=9223372036854775807 by omega)]
  by_cases c:0<x/\l=x/\a=v
  ·obtain⟨c,rfl,rfl⟩:=c
   rw[if_pos (by simp[c]),if_pos ⟨c,rfl,rfl⟩,F0 (by simp;omega),oB,n _ (by simp;omega)]
   simp
  ·rw[if_neg c,if_neg (by simp only[Bool.cond_eq_ite];simp;intro g i j;exact c ⟨g,i,j⟩)]
   by_cases c2:x<0/\l = -x/\b=v
   ·rw[if_pos c2,if_pos (by simp[c2.1,c2.2.1,c2.2.2]),F0 (by simp;omega),oB,n _ (by simp;omega)]
    simp
   ·rw[if_neg c2,if_neg (by simp only[Bool.cond_eq_ite];simp;intro g i j;exact c2 ⟨g,i,j⟩),n _ (by omega)]
    simp
theorem j06(w:Int):∀ l:List Int,(H01 N5 w l).length<=l.length+1
 | []=>by simp[H01]
 |y::l=>by
  have:=j06 w l
  unfold H01
  split
  ·simp
  ·split
   ·simp
   ·simp only[List.length_cons];omega
theorem D0a(es:List J0)(v x:Int)(m:t6 x)(s:es.length<=1099511627776):∀(d k fuel:Nat) (u:List Int),k+d=es.length->d<fuel->u.length<=k ->
  E4 es x v fuel u (k:Int)=some (K6 N5 u (O9 v x (es.drop k)))
 |d,k,0,u,p,hf,o=>by omega
 |0,k,fuel+1,u,p,hf,o=>by
  rw[E4.eq_2,if_neg (by simp;omega),I1 (by omega)]
  rfl
 |d+1,k,fuel+1,u,p,hf,o=>by
  have q:k<es.length:=by omega
  have j:=d5 q
  generalize es[k]=e at j
  obtain⟨a,l,b⟩:=e
  have n:=λw h=>D0a es v x m s d (k+1) fuel w (by omega) (by omega) h
  rw[E4.eq_2,if_pos (by simp;omega),V1 j,oB,K1 j]
  simp only[O9,s0g,D0c m.1 m.2,C2 q (show es.length<=9223372036854775807 by omega)]
  by_cases c:0<x/\l=x/\a=v
  ·obtain⟨c,rfl,rfl⟩:=c
   have t:decide (l<0)=false:=by simp;omega
   have:=j06 b u
   rw[if_pos (by simp[c]),if_pos ⟨c,rfl,rfl⟩,B0a u b (by omega),oB,t,if_neg (by simp),n _ (by omega)]
   rfl
  ·rw[if_neg c,if_neg (by simp only[Bool.cond_eq_ite];simp;intro f g i;exact c ⟨f,g,i⟩)]
   by_cases c2:x<0/\l = -x/\b=v
   ·have:=j06 a u
    rw[if_pos c2,if_pos (by simp[c2.1,c2.2.1,c2.2.2]),B0a u a (by omega),oB,n _ (by omega)]
    rfl
   ·rw[if_neg c2,if_neg (by simp only[Bool.cond_eq_ite];simp;intro f g i;exact c2 ⟨f,g,i⟩),n _ (by omega)]
    rfl
def C02(g:j0)(v x:Int):List Int:=K6 N5 [] (O9 v x g.2.2)
theorem g0r(x y:Int):eqI x y=true↔x=y:=by simp[eqI]
theorem B0j(g:j0)(v x:Int)(b:t6 x)(a:g.2.2.length<=1099511627776):J00 g v x=some (C02 g v x):=by
 obtain⟨r,n,es⟩:=g
 unfold J00 C02
 have h:=D0a es v x b a es.length 0 Q0 [] (by omega) (r0e (by simp only at a;omega)) (by simp)
 rw[show((0:Nat):Int)=0 from rfl,List.drop_zero]at h
 simp only[h,oB]
theorem C0j(g:j0)(v x:Int)(b:t6 x)(a:g.2.2.length<=1099511627776):K00 g v x=some (C02 g v x):=by
 obtain⟨r,n,es⟩:=g
 unfold K00 C02
 have h:=C0a es v x b a es.length 0 Q0 [] (by omega) (r0e (by simp only at a;omega)) (by simp)
 rw[show((0:Nat):Int)=0 from rfl,List.drop_zero,List.nil_append]at h
 have c:=t0e v x es
 simp only at a
 simp only[h,oB,F0 (show(O9 v x es).length<4611686018427387904 by omega)]
 rw[←z0j L8 g0r (O9 v x es) (O9 v x es) λ_=>Iff.rfl]
 rfl
def C1(g:j0)(v x:Int):Int:=match C02 g v x with
 | [] => -1
 |a::_=>a
theorem i0l(g:j0)(v x:Int)(c:t6 x)(b:g.2.2.length<=1099511627776):o00 g v x=some (C1 g v x):=by
 have h:=B0j g v x c b
 obtain⟨r,n,es⟩:=g
 unfold o00 C1
 simp only[h,oB]
 cases C02 (r,n,es) v x with
 |nil=>rfl
 |cons a l=>rfl
theorem j0l(g:j0)(v x:Int)(c:t6 x)(b:g.2.2.length<=1099511627776):p00 g v x=some (C1 g v x):=by
 have h:=C0j g v x c b
 obtain⟨r,n,es⟩:=g
 unfold p00 C1
 simp only[h,oB]
 cases C02 (r,n,es) v x with
 |nil=>rfl
 |cons a l=>rfl
theorem t0g{g:j0}{v x y:Int}(h:y∈C02 g v x):y∈O9 v x g.2.2:=by
 rcases(D4 L8 y _ []).1 h with h|h
 ·cases h
 ·exact h
theorem i6{v x f:Int}:∀ {es:List J0},f∈O9 v x es↔∃ e∈es,(0<x/\e.2.1=x/\e.1=v/\f=e.2.2)∨(x<0/\e.2.1 = -x/\e.2.2=v/\f=e.1)
 | []=>by simp[O9]
 |e::es=>by
  simp only[O9,List.mem_append,i6 (es:=es),List.mem_cons,exists_eq_or_imp]
  refine or_congr ?_ Iff.rfl
  unfold s0g
  split
  ·rename_i h
   simp only[List.mem_singleton]
   constructor
   ·rintro rfl;exact .inl ⟨h.1,h.2.1,h.2.2,rfl⟩
   ·rintro(⟨_,_,_,a⟩|⟨g,_⟩)
    ·exact a
    ·omega
  ·rename_i h
   split
   ·rename_i b
    simp only[List.mem_singleton]
    constructor
    ·rintro rfl;exact .inr ⟨b.1,b.2.1,b.2.2,rfl⟩
    ·rintro(⟨g,_⟩|⟨_,_,_,a⟩)
     ·omega
     ·exact a
   ·rename_i b
    constructor
    ·intro h;cases h
    ·rintro(⟨c,a,d,_⟩|⟨c,a,d,_⟩)
     ·exact absurd ⟨c,a,d⟩ h
     ·exact absurd ⟨c,a,d⟩ b
def inG(g:j0):Prop:=∀ e∈g.2.2,(0<=e.1/\e.1<g.2.1)/\(0<=e.2.2/\e.2.2<g.2.1)/\1<=e.2.1/\e.2.1<=g.1
theorem B3{g:j0}(h:O0 g=true):inG g/\(1<=g.1/\g.1<=3)/\(1<=g.2.1/\g.2.1<=40)/\g.2.2.length<=120:=by
 obtain⟨r,n,es⟩:=g
 simp only[O0,inR,Bool.and_eq_true,decide_eq_true_eq]at h
 obtain⟨⟨⟨m,o⟩,p⟩,q⟩:=h
 refine⟨λe s=>?_,o,p,q⟩
 obtain⟨i,b⟩:=List.getElem?_of_mem s
 have a:=h0l m i (Nat.zero_le _) (by have:=(List.getElem?_eq_some_iff.1 b).1;simp only at this;omega)
 rw[A0a b]at a
 simp only[Bool.or_eq_false_iff,Bool.not_eq_false',K05,inR,Bool.and_eq_true,decide_eq_true_eq]at a
 obtain⟨⟨⟨⟨c,d⟩,f,j⟩,k,l⟩,_⟩:=a
 rw[w64 (by omega) (by omega)]at d j
 simp only
 exact⟨⟨c,by omega⟩,⟨f,by omega⟩,k,l⟩
theorem S06{g:j0}(d:inG g)(v x:Int):C1 g v x = -1∨(0<=C1 g v x/\C1 g v x<g.2.1):=by
 unfold C1
 cases hs:C02 g v x with
 |nil=>exact .inl rfl
 |cons a l =>
  right
  have b:a∈C02 g v x:=by rw[hs];exact mS
  obtain⟨e,c,h⟩:=i6.1 (t0g b)
  have:=d e c
  rcases h with⟨_,_,_,rfl⟩|⟨_,_,_,rfl⟩
  ·exact this.2.1
  ·exact this.1
theorem s0m{g:j0}(a:inG g)(b:g.2.1<=40)(v x:Int):K0 (C1 g v x):=by
 rcases S06 a v x with h|h
 ·rw[h];decide
 ·constructor<;>omega
def a05(a b:J0):Bool:=decide (a.2.1=b.2.1)&&(decide (a.1=b.1) || decide (a.2.2=b.2.2))
theorem L0b(a b:J0):a05 a b=a05 b a:=by
 unfold a05
 have h:∀ x y:Int,decide (x=y)=decide (y=x):=λx y=>decide_eq_decide.2 ⟨Eq.symm,Eq.symm⟩
 rw[h a.2.1,h a.1,h a.2.2]
def noC(a:J0):List J0->Bool
 | []=>true
 |b::l => !a05 a b&&noC a l
def d09:List J0->Bool
 | []=>true
 |a::l=>noC a l&&d09 l
theorem O0h(a:J0):∀ l,noC a l=true↔∀ b∈l,a05 a b=false
 | []=>by simp[noC]
 |b::l=>by simp[noC,O0h a l]
theorem M0b:∀ l,d09 l=true↔l.Pairwise λa b=>a05 a b=false
 | []=>by simp[d09]
 |a::l=>by simp[d09,M0b l,O0h,List.pairwise_cons]
def u0e:List J0->List J0->Bool
 |_,[]=>true
 |b,a::l=>noC a b&&u0e (b ++ [a]) l
theorem u0g:∀(l g:List J0),u0e g l=true↔l.Pairwise (λa b=>a05 a b=false)/\∀ a∈l,∀ b∈g,a05 a b=false
 | [],g=>by simp[u0e]
 |a::l,g=>by
  simp only[u0e,Bool.and_eq_true,O0h,u0g l,List.pairwise_cons]
  constructor
  ·rintro⟨h,i,f⟩
   refine⟨⟨λb c=>by rw[L0b];exact f b c a (by simp),i⟩,λx d b c=>?_⟩
   rcases List.mem_cons.1 d with rfl|d
   ·exact h b c
   ·exact f x d b (by simp[c])
  ·rintro⟨⟨h,i⟩,f⟩
   refine⟨λb c=>f a mS b c,i,λx d b c=>?_⟩
   rcases List.mem_append.1 c with c|c
   ·exact f x (mC _ d) b c
   ·rw[List.mem_singleton.1 c,L0b];exact h x d
theorem O0n(l:List J0):u0e [] l=d09 l:=by
 rw[Bool.eq_iff_iff,u0g,M0b]
 simp
def Z0(g:j0):Bool:=O0 g&&d09 g.2.2
theorem S0r(a b f c d g:Int):(bif decide (b=d)then(bif decide (a=c)then true else decide (f=g))else false)=a05 (a,b,f) (c,d,g):=by
 unfold a05
 cases decide (b=d)<;>cases decide (a=c)<;>rfl
theorem E0a(l:List J0)(a:J0)(o:l.length<=140737488355328):∀(d k fuel:Nat),k+d=l.length->d<fuel ->
  U6 l a.2.1 a.1 a.2.2 fuel (k:Int)=some (bif noC a (l.drop k)then .inr ()else .inl false)
 |d,k,0,h,hf=>by omega
 |0,k,fuel+1,h,hf=>by
  rw[U6.eq_2,if_neg (by simp;omega),I1 (by omega)]
  rfl
 |d+1,k,fuel+1,h,hf=>by
  have i:k<l.length:=by omega
  have b:=d5 i
  generalize l[k]=x at b
  obtain⟨c,f,g⟩:=a
  obtain⟨j,m,n⟩:=x
  rw[U6.eq_2,if_pos (by simp;omega),V1 b,oB,K1 b]
  simp only[S0r,noC]
  cases hc:a05 (c,f,g) (j,m,n)with
  |true=>rfl
  |false =>
   rw[if_neg (by simp),C2 i (by omega),E0a l (c,f,g) o d (k+1) fuel (by omega) (by omega)]
   simp
theorem v03{a:Type}{xs:List a}{k:Nat}(h:k<=xs.length):W03 xs (k:Int) (xs.length:Int)=some (xs.drop k):=by
 unfold W03
 rw[if_pos ⟨by omega,by omega,by omega⟩]
 simp
theorem F0a(l:List J0)(i:l.length<=140737488355328):∀(d k fuel:Nat),k+d=l.length->d<fuel ->
  V6 l fuel (k:Int)=some (bif d09 (l.drop k)then .inr ()else .inl false)
 |d,k,0,b,hf=>by omega
 |0,k,fuel+1,b,hf=>by
  rw[V6.eq_2,if_neg (by simp;omega),I1 (by omega)]
  rfl
 |d+1,k,fuel+1,b,hf=>by
  have c:k<l.length:=by omega
  have a:=d5 c
  generalize l[k]=x at a
  have h0:=E0a (l.drop (k+1)) x (by simp;omega) (l.drop (k+1)).length 0 Q0 (by omega) (j1 (by simp;omega))
  rw[show((0:Nat):Int)=0 from rfl,List.drop_zero]at h0
  obtain⟨f,g,h⟩:=x
  rw[V6.eq_2,if_pos (by simp;omega),V1 a,oB,K1 a]
  simp only[C2 c (show l.length<=9223372036854775807 by omega),v03 (show k+1<=l.length by omega),oB]
  simp only at h0
  rw[h0,oB]
  simp only[d09]
  cases noC (f,g,h) (l.drop (k+1))with
  |false=>rfl
  |true =>
   simp only[cond_true,D0f,Bool.true_and]
   exact F0a l i d (k+1) fuel (by omega) (by omega)
theorem b05(g:j0)(a:g.2.2.length<=140737488355328):i9 g=some (Z0 g):=by
 have b:=x01 g a
 obtain⟨r,n,es⟩:=g
 unfold i9 Z0
 simp only[b,oB]
 cases O0 (r,n,es)with
 |false=>rfl
 |true =>
  have h:=F0a es a es.length 0 Q0 (by omega) (j1 a)
  rw[show((0:Nat):Int)=0 from rfl,List.drop_zero]at h
  rw[if_neg (by simp),h,oB]
  cases d09 es<;>rfl
theorem G0a(l:List J0)(s:l.length<=140737488355328){i:Nat}{a:J0}(b:l[i]?=some a):∀(d k fuel:Nat),k+d=i->d<fuel ->
  T6 (i:Int) l fuel (k:Int)=some (bif noC a ((l.take i).drop k)then .inr ()else .inl false)
 |d,k,0,f,hf=>by omega
 |0,k,fuel+1,f,hf=>by
  have:=(List.getElem?_eq_some_iff.1 b).1
  rw[T6.eq_2,if_neg (by simp;omega),I1 (by simp;omega)]
  rfl
 |d+1,k,fuel+1,f,hf=>by
  have u:=(List.getElem?_eq_some_iff.1 b).1
  have g:k<l.length:=by omega
  have c:=d5 g
  have h:(l.take i)[k]?=some l[k]:=by rw[List.getElem?_take,if_pos (by omega)];exact c
  have t:=G0a l s b d (k+1) fuel (by omega) (by omega)
  generalize l[k]=x at c h
  obtain⟨j,m,n⟩:=a
  obtain⟨o,p,q⟩:=x
  rw[T6.eq_2,if_pos (by simp;omega),V1 b,oB,K1 h]
  simp only[V1 c,oB,S0r,noC]
  cases hc:a05 (j,m,n) (o,p,q)with
  |true=>rfl
  |false =>
   rw[if_neg (by simp),C2 g (by omega),t]
   simp
theorem T0r{a:Type}{xs:List a}{k:Nat}{x:a}(h:xs[k]?=some x):xs.take (k+1)=xs.take k ++ [x]:=by
 obtain⟨b,rfl⟩:=List.getElem?_eq_some_iff.1 h
 exact List.take_succ_eq_append_getElem b
theorem H0a(r n:Int)(l:List J0)(f:O0 (r,n,l)=true)(b:l.length<=140737488355328):∀(d k fuel:Nat),k+d=l.length->d<fuel ->
  s5 l r n fuel (k:Int)=some (bif u0e (l.take k) (l.drop k)then .inr ()else .inl false)
 |d,k,0,c,hf=>by omega
 |0,k,fuel+1,c,hf=>by
  have e:decide ((k:Int)<(l.length:Int))=false:=by simp;omega
  rw[s5.eq_2,e,L4,oB,if_neg (by simp),I1 (by omega)]
  rfl
 |d+1,k,fuel+1,c,hf=>by
  have g:k<l.length:=by omega
  have a:=d5 g
  generalize l[k]=x at a
  have h0:=G0a l b a k 0 Q0 (by omega) (j1 (by omega))
  rw[show((0:Nat):Int)=0 from rfl,List.drop_zero]at h0
  have e:decide ((k:Int)<(l.length:Int))=true:=by simp;omega
  rw[s5.eq_2,e,Z2,G8 (r,n,l) b,oB,f,if_pos (show(bif true then true else false)=true from rfl),h0,oB,K1 a]
  simp only[u0e]
  cases noC x (l.take k)with
  |false=>rfl
  |true =>
   simp only[cond_true,D0f,Bool.true_and]
   rw[C2 g (by omega),←T0r a]
   exact H0a r n l f b d (k+1) fuel (by omega) (by omega)
theorem U07(g:j0)(a:g.2.2.length<=140737488355328):g00 g=some (Z0 g):=by
 have b:=G8 g a
 obtain⟨r,n,es⟩:=g
 unfold g00 Z0
 simp only[b,oB]
 cases hg:O0 (r,n,es)with
 |false =>
  have c:s5 es r n Q0 0=some (.inr ()):=by
   rw[show Q0=(Q0-1)+1 from rfl,s5.eq_2]
   by_cases e:decide ((0:Int)<(es.length:Int))=true
   ·rw[e,Z2,b,oB,hg,if_neg (by simp)]
   ·rw[Bool.not_eq_true]at e
    rw[e,L4,oB,if_neg (by simp)]
  rw[c]
  rfl
 |true =>
  have h:=H0a r n es hg a es.length 0 Q0 (by omega) (j1 a)
  rw[show((0:Nat):Int)=0 from rfl,List.drop_zero,List.take_zero,O0n]at h
  rw[h,oB]
  cases d09 es<;>rfl
def E0c(g:j0):Int->List Int->Int×Nat
 |v,[]=>(v,0)
 |v,x::w=>if C1 g v x<0 then(v,0)else((E0c g (C1 g v x) w).1,(E0c g (C1 g v x) w).2+1)
theorem j4{g:j0}(h:Z0 g=true):inG g/\(1<=g.1/\g.1<=3)/\(1<=g.2.1/\g.2.1<=40)/\g.2.2.length<=120:=by
 unfold Z0 at h
 simp only[Bool.and_eq_true]at h
 exact B3 h.1
def T0c(v:Int)(e:J0):Nat:=(if e.1=v then 1 else 0)+(if e.2.2=v then 1 else 0)
def X03(v:Int):List J0->Nat
 | []=>0
 |e::r=>T0c v e+X03 v r
theorem h0r(v:Int)(e:J0):T0c v e<=2:=by unfold T0c;split<;>split<;>omega
theorem P0h(v:Int):∀ l,X03 v l<=2*l.length
 | []=>by simp[X03]
 |e::r=>by have:=h0r v e;have:=P0h v r;simp only[X03,List.length_cons];omega
theorem v0e(es:List J0)(v:Int)(o:es.length<=1099511627776):∀(d k fuel acc:Nat),k+d=es.length->d<fuel->acc<=2*k ->
  P3 es v fuel (acc:Int) (k:Int)=some ((acc+X03 v (es.drop k):Nat):Int)
 |d,k,0,acc,j,hf,i=>by omega
 |0,k,fuel+1,acc,j,hf,i=>by
  rw[P3.eq_2,if_neg (by simp;omega),I1 (by omega)];rfl
 |d+1,k,fuel+1,acc,j,hf,i=>by
  have m:k<es.length:=by omega
  have f:=d5 m
  generalize es[k]=e at f
  obtain⟨a,l,b⟩:=e
  have c:=λn h=>v0e es v o d (k+1) fuel n (by omega) (by omega) h
  have g:IntKind.i64.wrap ((acc:Int)+1)=((acc+1:Nat):Int):=by rw[w64 (by omega) (by omega)];rfl
  have p:IntKind.i64.wrap (((acc+1:Nat):Int)+1)=((acc+2:Nat):Int):=by rw[w64 (by omega) (by omega)];rfl
  rw[P3.eq_2,if_pos (by simp;omega),V1 f,K1 f]
  simp only[oB,X03,T0c,C2 m (show es.length<=9223372036854775807 by omega)]
  by_cases c1:a=v
  ·rw[if_pos (by simpa using c1),if_pos c1]
   by_cases c2:b=v
   ·rw[if_pos (by simpa using c2),if_pos c2,g,p,c _ (by omega)];congr 2;omega
   ·rw[if_neg (by simpa using c2),if_neg c2,g,c _ (by omega)];congr 2;omega
  ·rw[if_neg (by simpa using c1),if_neg c1]
   by_cases c2:b=v
   ·rw[if_pos (by simpa using c2),if_pos c2,g,c _ (by omega)];congr 2;omega
   ·rw[if_neg (by simpa using c2),if_neg c2,c _ (by omega)];congr 2;omega
theorem w0e(es:List J0)(v:Int):∀(fuel:Nat) (x y:Int),w5 es v fuel x y=P3 es v fuel x y
 |0,x,y=>rfl
 |fuel+1,x,y=>by
  rw[w5.eq_2,P3.eq_2]
  simp only[w0e es v fuel]
  by_cases c:(decide (y<((es.length:Nat):Int)))=true
  ·rw[if_pos c,if_pos c]
   cases hg:gi es y with
   |none=>rfl
   |some e=>simp only[oB]
  ·rw[if_neg c,if_neg c]
theorem v0g(g:j0)(v:Int)(a:g.2.2.length<=1099511627776):i00 g v=some ((X03 v g.2.2:Nat):Int):=by
 obtain⟨r,n,es⟩:=g
 unfold i00
 have h:=v0e es v a es.length 0 Q0 0 (by omega) (j1 (by simp only at a;omega)) (Nat.zero_le _)
 rw[show((0:Nat):Int)=0 from rfl,List.drop_zero,Nat.zero_add]at h
 simp only[h,oB]
theorem P0n(g:j0)(v:Int)(a:g.2.2.length<=1099511627776):g01 g v=some ((X03 v g.2.2:Nat):Int):=by
 have h:=v0g g v a
 obtain⟨r,n,es⟩:=g
 unfold g01
 unfold i00 at h
 simp only[w0e]at h ⊢
 exact h
def D0j(g h:j0):Bool:=decide (g=h)
theorem Q0h(x y:J0):eqE x y=true↔x=y:=by simp[eqE]
theorem F0c(a b:List J0)(m:a.length=b.length)(l:a.length<=9223372036854775807):∀(d k fuel:Nat),k+d=a.length->d<fuel ->
  T1 a b fuel (k:Int)=some (if a.drop k=b.drop k then .inr ()else .inl false)
 |d,k,0,i,hf=>by omega
 |0,k,fuel+1,i,hf=>by
  rw[T1.eq_2,if_neg (by simp;omega),I1 (by omega),I1 (by omega)];rfl
 |d+1,k,fuel+1,i,hf=>by
  have j:k<a.length:=by omega
  have n:k<b.length:=by omega
  have f:=d5 j
  have g:=d5 n
  generalize a[k]=x at f
  generalize b[k]=y at g
  have p:=F0c a b m l d (k+1) fuel (by omega) (by omega)
  rw[T1.eq_2,if_pos (by simp;omega),V1 f,V1 g,K1 f,K1 g]
  simp only[oB,C2 j l,p]
  by_cases c:x=y
  ·subst c
   rw[if_neg (by simp[eqE])]
   simp
  ·have o:eqE x y=false:=Bool.eq_false_iff.2 λh=>c ((Q0h x y).1 h)
   rw[if_pos (show(!eqE x y)=true by rw[o];rfl),if_neg (by simp[c])]
theorem k0l(a b:List J0)(d:a.length<=9223372036854775807):R3 a b=some (decide (a=b)):=by
 unfold R3
 by_cases hab:a.length=b.length
 ·have h:=F0c a b hab d a.length 0 Q0 (by omega) (by unfold Q0;omega)
  rw[if_neg (by simp;omega),show(0:Int)=((0:Nat):Int) from rfl,h,List.drop_zero,List.drop_zero]
  by_cases c:a=b
  ·rw[if_pos c];simp[t7,c]
  ·rw[if_neg c];simp[t7,c]
 ·rw[if_pos (by simp;omega)]
  congr 1
  symm
  simp
  intro h;exact hab (by rw[h])
theorem Q0n(g h:j0)(a:g.2.2.length<=9223372036854775807):N9 g h=some (D0j g h):=by
 obtain⟨r,n,es⟩:=g
 obtain⟨c,b,es'⟩:=h
 unfold N9 D0j
 simp only[Prod.mk.injEq]
 by_cases c1:r=c<;>by_cases c2:n=b<;>simp[c1,c2,Z2,L4,k0l es es' a]
theorem w0g(a b:List J0)(m:a.length=b.length)(l:a.length<=9223372036854775807):∀(d k fuel:Nat),k+d=a.length->d<fuel ->
  C5 a b fuel (k:Int)=some (if a.drop k=b.drop k then .inr ()else .inl false)
 |d,k,0,i,hf=>by omega
 |0,k,fuel+1,i,hf=>by
  rw[C5.eq_2,if_neg (by simp;omega),I1 (by omega),I1 (by omega)];rfl
 |d+1,k,fuel+1,i,hf=>by
  have j:k<a.length:=by omega
  have n:k<b.length:=by omega
  have f:=d5 j
  have g:=d5 n
  generalize a[k]=x at f
  generalize b[k]=y at g
  have p:=w0g a b m l d (k+1) fuel (by omega) (by omega)
  rw[C5.eq_2,if_pos (by simp;omega),V1 f,V1 g,K1 f,K1 g]
  simp only[oB,C2 j l,p]
  by_cases c:x=y
  ·subst c
   rw[if_neg (by simp[eqE])]
   simp
  ·have o:eqE x y=false:=Bool.eq_false_iff.2 λh=>c ((Q0h x y).1 h)
   rw[if_pos (show(!eqE x y)=true by rw[o];rfl),if_neg (by simp[c])]
theorem R0n(g h:j0)(a:g.2.2.length<=9223372036854775807):L9 g h=some (D0j g h):=by
 obtain⟨r,n,es⟩:=g
 obtain⟨i,f,es'⟩:=h
 unfold L9 D0j
 by_cases c1:r=i
 ·by_cases c2:n=f
  ·by_cases hab:es.length=es'.length
   ·have h:=w0g es es' hab a es.length 0 Q0 (by omega) (by unfold Q0;simp only at a;omega)
    simp only[c1,c2,hab,decide_true,Bool.not_true,cond_false,Prod.mk.injEq,true_and]
    rw[if_neg (by simp),show(0:Int)=((0:Nat):Int) from rfl,h,List.drop_zero,List.drop_zero]
    by_cases c:es=es'
    ·rw[if_pos c];simp[t7,c]
    ·rw[if_neg c];simp[t7,c]
   ·have d : ¬ es=es':=λe=>hab (by rw[e])
    have b:decide (((es.length:Nat):Int)=((es'.length:Nat):Int))=false:=decide_eq_false (by omega)
    simp only[c1,c2,b,decide_true,Bool.not_true,Bool.not_false,cond_false,if_true,Prod.mk.injEq,true_and,d,decide_false]
  ·simp[c1,c2]
 ·simp[c1]
def goE(x:J0):List J0->Bool×List J0
 | []=>(false,[])
 |y::l=>if P0 x y<0 then(true,x::y::l)else if P0 x y=0 then(true,y::l)else((goE x l).1,y::(goE x l).2)
theorem t0m(x:J0):∀ l,H01 P0 x l=bif(goE x l).1 then(goE x l).2 else(goE x l).2 ++ [x]
 | []=>rfl
 |y::l=>by
  have a:=t0m x l
  unfold H01 goE
  by_cases c1:P0 x y<0
  ·rw[if_pos c1,if_pos c1];rfl
  ·rw[if_neg c1,if_neg c1]
   by_cases c2:P0 x y=0
   ·rw[if_pos c2,if_pos c2];rfl
   ·rw[if_neg c2,if_neg c2,a];cases (goE x l).1<;>rfl
theorem N0b(l:List J0)(w0 i j:Int)(n:l.length<=1099511627776):∀(d k fuel:Nat) (acc:List J0),k+d=l.length->d<fuel->acc.length<=k+1 ->
  P4 l w0 i j fuel true (k:Int) acc=some (true,acc++l.drop k)
 |d,k,0,acc,g,hf,f=>by omega
 |0,k,fuel+1,acc,g,hf,f=>by
  rw[P4.eq_2,if_neg (by simp;omega),I1 (by omega),List.append_nil]
 |d+1,k,fuel+1,acc,g,hf,f=>by
  have h:k<l.length:=by omega
  have c:=d5 h
  generalize l[k]=e at c
  obtain⟨a,x,b⟩:=e
  have o:=N0b l w0 i j n d (k+1) fuel (acc ++ [(a,x,b)]) (by omega) (by omega) (by simp;omega)
  rw[P4.eq_2,if_pos (by simp;omega),K1 c]
  simp only[V1 c,oB,F02,F0 (p0d _ _),C2 h (show l.length<=9223372036854775807 by omega),Bool.not_true]
  have m:∀ b:Bool,(bif b then false else false)=false:=λb=>by cases b<;>rfl
  simp only[m,Bool.false_eq_true,if_false]
  rw[F0 (by simp;omega),oB,o]
  simp
theorem x0e(l:List J0)(w0 c f:Int)(h:l.length<=1099511627776):∀(d k fuel:Nat) (acc:List J0),k+d=l.length->d<fuel->acc.length=k ->
  P4 l w0 c f fuel false (k:Int) acc=some ((goE (w0,c,f) (l.drop k)).1,acc++(goE (w0,c,f) (l.drop k)).2)
 |d,k,0,acc,j,hf,i=>by omega
 |0,k,fuel+1,acc,j,hf,i=>by
  rw[P4.eq_2,if_neg (by simp;omega),I1 (by omega)];simp[goE]
 |d+1,k,fuel+1,acc,j,hf,i=>by
  have m:k<l.length:=by omega
  have g:=d5 m
  generalize l[k]=e at g
  obtain⟨a,x,b⟩:=e
  have n:=x0e l w0 c f h d (k+1) fuel (acc ++ [(a,x,b)]) (by omega) (by omega) (by simp;omega)
  have o:=N0b l w0 c f h d (k+1) fuel (acc ++ [(a,x,b)]) (by omega) (by omega) (by simp;omega)
  have p:=N0b l w0 c f h d (k+1) fuel ((acc ++ [(w0,c,f)]) ++ [(a,x,b)]) (by omega) (by omega) (by simp;omega)
  rw[P4.eq_2,if_pos (by simp;omega),K1 g]
  simp only[V1 g,oB,F02,F0 (p0d _ _),C2 m (show l.length<=9223372036854775807 by omega),Bool.not_true,Bool.not_false,goE]
  show _=_
  unfold p0e
  by_cases c1:P0 (w0,c,f) (a,x,b)=0
  ·rw[if_pos (by simpa using c1),if_neg (by simp[c1]),if_neg (by omega),if_pos c1]
   rw[F0 (by simp;omega),oB,o];simp
  ·rw[if_neg (by simpa using c1)]
   by_cases c2:P0 (w0,c,f) (a,x,b)<0
   ·rw[if_pos (by simp[c2]),if_pos c2,F0 (by simp;omega),oB,F0 (by simp;omega),oB,p];simp
   ·rw[if_neg (by simp[c2]),if_neg c2,if_neg c1,F0 (by simp;omega),oB,n];simp
theorem y08(l:List J0)(e:J0)(c:l.length<=1099511627776):E8 l e=some (H01 P0 e l):=by
 obtain⟨w0,a,b⟩:=e
 unfold E8
 have h:=x0e l w0 a b c l.length 0 Q0 [] (by omega) (j1 (by omega)) rfl
 rw[show((0:Nat):Int)=0 from rfl,List.drop_zero,List.nil_append]at h
 simp only[h,oB,t0m]
 have d:∀ l:List J0,(goE (w0,a,b) l).2.length<=l.length+1:=λl=>by
  induction l with
  |nil=>simp[goE]
  |cons g l f =>
   unfold goE
   split
   ·simp
   ·split
    ·simp
    ·simp only[List.length_cons];omega
 have:=d l
 cases (goE (w0,a,b) l).1 with
 |true=>rfl
 |false =>
  simp only[Bool.not_false,if_true,cond_false]
  rw[F0 (by simp;omega),oB]
theorem k06(e:J0):∀ l:List J0,(H01 P0 e l).length<=l.length+1
 | []=>by simp[H01]
 |y::l=>by
  have:=k06 e l
  unfold H01
  split
  ·simp
  ·split
   ·simp
   ·simp only[List.length_cons];omega
theorem y0e(es:List J0)(a:es.length<=1099511627776):C00 es=some (K6 P0 [] es):=by
 unfold C00
 rw[F0 (by simp;omega),oB,F0 (by simp;omega),oB,List.nil_append]
 exact congrArg some (z0j Y3 Q0h es es λ_=>Iff.rfl)
theorem T06(g:j0)(a:g.2.2.length<=1099511627776):r6 g=some g:=by
 obtain⟨r,n,es⟩:=g
 unfold r6
 simp only
 rw[F0 (by simp only[List.length_nil,Nat.zero_add];simp only at a;omega)];rfl
theorem w03(g:j0)(a:g.2.2.length<=1099511627776):O5 g=some g:=by
 obtain⟨r,n,es⟩:=g
 unfold O5
 simp only
 rw[F0 (by simp only[List.length_nil,Nat.zero_add];simp only at a;omega)];rfl
inductive Rch (es:List J0) (v:Int):Int->Prop
 |base:Rch es v v
 |fwd {e:J0}:e∈es->Rch es v e.1->Rch es v e.2.2
 |bwd {e:J0}:e∈es->Rch es v e.2.2->Rch es v e.1
theorem Rch.closed{es:List J0}{v:Int}:∀ e∈es,Rch es v e.1↔Rch es v e.2.2:=λe a=>⟨.fwd a,.bwd a⟩
theorem Rch.sub{es:List J0}{v:Int}{P:Int->Prop}(hv:P v)(a:∀ e∈es,P e.1↔P e.2.2):∀ {x},Rch es v x->P x
 |_,.base=>hv
 |_,.fwd b h=>(a _ b).1 (Rch.sub hv a h)
 |_,.bwd b h=>(a _ b).2 (Rch.sub hv a h)
def C9(S:List Bool)(i:Int):Bool:=S.getD i.toNat false
def stJ(S:List Bool)(e:J0):List Bool:=(S.set e.1.toNat true).set e.2.2.toNat true
def pJ:List J0->Bool->List Bool->Bool×List Bool
 | [],c,S=>(c,S)
 |e::r,c,S=>bif C9 S e.1 == C9 S e.2.2 then pJ r c S else pJ r true (stJ S e)
def cF:List Bool->Nat
 | []=>0
 |b::r=>(bif b then 0 else 1)+cF r
theorem l0l:∀(S:List Bool) (i:Nat),cF (S.set i true)<=cF S
 | [],i=>by simp[cF]
 |b::r,0=>by simp[cF]
 |b::r,i+1=>by have:=l0l r i;simp only[List.set_cons_succ,cF];omega
theorem p0p:∀(S:List Bool) (i:Nat),S[i]?=some false->cF (S.set i true)<cF S
 | [],i,h=>by simp at h
 |b::r,0,h=>by simp at h;subst h;simp[cF]
 |b::r,i+1,h=>by have:=p0p r i (by simpa using h);simp only[List.set_cons_succ,cF];omega
theorem U0r:∀ S:List Bool,cF S<=S.length
 | []=>by simp[cF]
 |b::r=>by have:=U0r r;cases b<;>simp only[cF,List.length_cons,cond_true,cond_false]<;>omega
def inN(n:Nat)(es:List J0):Prop:=∀ e∈es,(0<=e.1/\e.1<(n:Int))/\(0<=e.2.2/\e.2.2<(n:Int))
theorem V07{S:List Bool}{i:Nat}(h:i<S.length)(x:Int):C9 (S.set i true) x=(decide (x.toNat=i) || C9 S x):=by
 unfold C9
 rw[List.getD_eq_getElem?_getD,List.getD_eq_getElem?_getD,List.getElem?_set]
 by_cases c:i=x.toNat
 ·rw[if_pos c,if_pos (by omega)];simp[c]
 ·rw[if_neg c]
  have:decide (x.toNat=i)=false:=by simp;exact λe=>c e.symm
  rw[this];rfl
theorem m0l:∀(es:List J0) (c:Bool) (S:List Bool),(pJ es c S).2.length=S.length
 | [],c,S=>rfl
 |e::r,c,S=>by
  unfold pJ
  cases C9 S e.1 == C9 S e.2.2
  ·simp only[cond_false];rw[m0l r];simp[stJ]
  ·simp only[cond_true];exact m0l r c S
theorem R0h{n:Nat}:∀(es:List J0) (c:Bool) (a:List Bool),a.length=n->inN n es->∀ x,C9 a x=true->C9 (pJ es c a).2 x=true
 | [],c,a,b,d,x,h=>h
 |e::r,c,a,b,d,x,h=>by
  have f:=d e mS
  have g:inN n r:=λe f=>d e (mC _ f)
  unfold pJ
  cases C9 a e.1 == C9 a e.2.2
  ·simp only[cond_false]
   refine R0h r _ _ (by simp[stJ,b]) g x ?_
   rw[stJ,V07 (by rw[List.length_set];omega),V07 (by omega),h];simp
  ·simp only[cond_true];exact R0h r c a b g x h
theorem z0e{n:Nat}{P:Int->Prop}:∀(es:List J0) (c:Bool) (a:List Bool),a.length=n->inN n es->(∀ e∈es,P e.1↔P e.2.2)->(∀ x,0<=x->C9 a x=true->P x)->∀ x,0<=x->C9 (pJ es c a).2 x=true->P x
 | [],c,a,g,i,f,d,x,h0,h=>d x h0 h
 |e::r,c,a,g,i,f,d,x,h0,h=>by
  have b:=i e mS
  have o:inN n r:=λe b=>i e (mC _ b)
  have k:=λe b=>f e (mC _ b)
  have l:=f e mS
  unfold pJ at h
  cases hb:C9 a e.1 == C9 a e.2.2
  ·rw[hb]at h
   refine z0e r true (stJ a e) (by simp[stJ,g]) o k (λj p h=>?_) x h0 h
   rw[stJ,V07 (by rw[List.length_set];omega),V07 (by omega)]at h
   simp only[Bool.or_eq_true,decide_eq_true_eq]at h
   have m:P e.1∨P e.2.2:=by
    cases h1:C9 a e.1
    ·cases h2:C9 a e.2.2
     ·rw[h1,h2]at hb;cases hb
     ·exact .inr (d _ b.2.1 h2)
    ·exact .inl (d _ b.1.1 h1)
   rcases h with h|h|h
   ·have:j=e.2.2:=by omega
    subst this;exact m.elim l.1 id
   ·have:j=e.1:=by omega
    subst this;exact m.elim id l.2
   ·exact d j p h
  ·rw[hb]at h
   exact z0e r c a g o k d x h0 h
theorem n0l{n:Nat}:∀(es:List J0) (c:Bool) (a:List Bool),a.length=n->inN n es->cF (pJ es c a).2<=cF a/\((pJ es c a).1=true->c=true∨cF (pJ es c a).2<cF a)/\((pJ es c a).1=false->c=false/\(pJ es c a).2=a/\∀ e∈es,C9 a e.1=C9 a e.2.2)
 | [],c,a,j,k=>⟨Nat.le_refl _,λh => .inl h,λh=>⟨h,rfl,λe b=>nomatch b⟩⟩
 |e::r,c,a,j,k=>by
  have b:=k e mS
  have p:inN n r:=λe b=>k e (mC _ b)
  unfold pJ
  cases hb:C9 a e.1 == C9 a e.2.2
  ·simp only[cond_false]
   obtain⟨l,m,d⟩:=n0l r true (stJ a e) (by simp[stJ,j]) p
   have t:cF (stJ a e)<cF a:=by
    have g:∀(x:Int),0<=x->x<n->C9 a x=false->a[x.toNat]?=some false:=λx u v i=>by
     have o:x.toNat<a.length:=by omega
     unfold C9 at i
     rw[List.getD_eq_getElem?_getD,List.getElem?_eq_getElem o]at i
     rw[List.getElem?_eq_getElem o];simpa using i
    cases g1:C9 a e.1
    ·have:=p0p a _ (g _ b.1.1 b.1.2 g1)
     have:=l0l (a.set e.1.toNat true) e.2.2.toNat
     unfold stJ;omega
    ·have g2:C9 a e.2.2=false:=by
      cases g2:C9 a e.2.2
      ·rfl
      ·rw[g1,g2]at hb;cases hb
     have g3:(a.set e.1.toNat true)[e.2.2.toNat]?=some false:=by
      rw[List.getElem?_set]
      by_cases q:e.1.toNat=e.2.2.toNat
      ·exfalso
       have:e.1=e.2.2:=by omega
       rw[this,g2]at g1;cases g1
      ·rw[if_neg q];exact g _ b.2.1 b.2.2 g2
     have:=p0p _ _ g3
     have:=l0l a e.1.toNat
     unfold stJ;omega
   refine⟨by omega,λ_ => .inr (by omega),λh=>?_⟩
   have:=(d h).1;cases this
  ·simp only[cond_true]
   obtain⟨l,m,d⟩:=n0l r c a j p
   refine⟨l,m,λh=>⟨(d h).1,(d h).2.1,λs f=>?_⟩⟩
   rcases List.mem_cons.1 f with rfl|f
   ·simpa using hb
   ·exact(d h).2.2 s f
theorem giB{a:List Bool}{n:Nat}(f:a.length=n){x:Int}(h0:0<=x)(d:x<n):gi a x=some (C9 a x):=by
 have c:x.toNat<a.length:=by omega
 have e:x=((x.toNat:Nat):Int):=by omega
 have b:gi a ((x.toNat:Nat):Int)=some (C9 a x):=by
  rw[I0b,List.getElem?_eq_getElem c]
  unfold C9
  rw[List.getD_eq_getElem?_getD,List.getElem?_eq_getElem c];rfl
 rw[←e]at b;exact b
theorem x0g(es:List J0){n:Nat}(q:inN n es)(p:es.length<=9223372036854775807):∀(d k fuel:Nat) (c:Bool) (f:List Bool),f.length=n->k+d=es.length->d<fuel ->
  G4 es fuel c (k:Int) f=some (pJ (es.drop k) c f)
 |d,k,0,c,f,g,m,hf=>by omega
 |0,k,fuel+1,c,f,g,m,hf=>by
  rw[G4.eq_2,if_neg (by simp;omega),I1 (by omega)];rfl
 |d+1,k,fuel+1,c,f,g,m,hf=>by
  have o:k<es.length:=by omega
  have j:=d5 o
  have i:=q _ (List.mem_of_getElem? j)
  generalize es[k]=e at j i
  obtain⟨a,l,b⟩:=e
  have s:=λu t h=>x0g es q p d (k+1) fuel u t h (by omega) (by omega)
  rw[G4.eq_2,if_pos (by simp;omega),K1 j]
  simp only[V1 j,oB,giB g i.1.1 i.1.2,giB g i.2.1 i.2.2,C2 o p,giB (show(f.set a.toNat true).length=n by simp[g]) i.2.1 i.2.2,pJ]
  cases hb:C9 f a == C9 f b
  ·simp only[Bool.not_false,if_true,cond_false]
   exact s _ _ (by simp[g])
  ·simp only[Bool.not_true,Bool.false_eq_true,if_false,cond_true]
   exact s _ _ g
theorem y0g(es:List J0){n:Nat}(f:inN n es)(z:es.length<=9223372036854775806):∀(m fuel:Nat) (a:List Bool),a.length=n->cF a<=m->m+1<fuel ->
  ∃ b,Z4 es fuel true a=some b/\b.length=n/\(∀ x,C9 a x=true->C9 b x=true)/\(∀ e∈es,C9 b e.1=C9 b e.2.2) /\
   ∀ P:Int->Prop,(∀ e∈es,P e.1↔P e.2.2)->(∀ x,0<=x->C9 a x=true->P x)->∀ x,0<=x->C9 b x=true->P x
 |m,0,a,d,C,hf=>by omega
 |m,fuel+1,a,d,C,hf=>by
  have h0:=x0g es f (by omega) es.length 0 Q0 false a d (by omega) (by unfold Q0;omega)
  rw[show((0:Nat):Int)=0 from rfl,List.drop_zero]at h0
  obtain⟨p,i,j⟩:=n0l es false a d f
  have A:=m0l es false a
  rw[Z4.eq_2,if_pos rfl,h0,oB]
  have l:=R0h es false a d f
  have o:=λP=>z0e (P:=P) es false a d f
  generalize pJ es false a=q at *
  obtain⟨c,b⟩:=q
  simp only at p i j A l o ⊢
  cases c with
  |true =>
   rcases i rfl with h|h
   ·cases h
   ·obtain⟨S2,s,t,u,v,w⟩:=y0g es f z (m-1) fuel b (by omega) (by omega) (by omega)
    exact⟨S2,s,t,λx D=>u x (l x D),v,λP k g=>w P k (o P k g)⟩
  |false =>
   obtain⟨_,e,y⟩:=j rfl
   subst e
   obtain _|fuel:=fuel
   ·omega
   ·rw[Z4.eq_2,if_neg (by simp)]
    exact⟨_,rfl,d,λx h=>h,y,λP _ g=>g⟩
theorem E0j(r:Int)(n:Nat)(es:List J0)(p:inN n es)(o:es.length<=9223372036854775806)(t:1<=n)(u:n<=140737488355328):
  ∃ a,l9 (r,(n:Int),es) 0=some a/\a.length=n/\∀ x,0<=x->x<(n:Int)->(C9 a x=true↔Rch es 0 x):=by
 unfold l9
 simp only[Int.toNat_natCast]
 have m:gi (List.replicate n (false:Bool)) 0=some false:=by
  rw[J05 (x:=false)];rw[List.getElem?_replicate,if_pos (by omega)]
 rw[F0 (by omega),oB,m,oB]
 have k:((List.replicate n (false:Bool)).set (0:Int).toNat true).length=n:=by simp
 obtain⟨b,d,f,g,i,j⟩:=y0g es p o n Q0 _ k (by have:=U0r ((List.replicate n (false:Bool)).set (0:Int).toNat true);omega) (by unfold Q0;omega)
 rw[d]
 have c:∀ x,C9 ((List.replicate n (false:Bool)).set (0:Int).toNat true) x=decide (x.toNat=0):=λx=>by
  rw[V07 (by simp;omega)]
  have:C9 (List.replicate n false) x=false:=by
   unfold C9
   rw[List.getD_eq_getElem?_getD,List.getElem?_replicate]
   split<;>rfl
  rw[this];simp
 refine⟨b,rfl,f,λx h0 s=>⟨λh=>?_,λh=>?_⟩⟩
 ·refine j (Rch es 0) Rch.closed (λq v h=>?_) x h0 h
  rw[c]at h
  have:q=0:=by simp at h;omega
  subst this;exact .base
 ·exact Rch.sub (P:=λx=>C9 b x=true) (g 0 (by rw[c];rfl)) (λe l=>by rw[i e l]) h
theorem V0r(l:List Int)(w:Int)(g:l.length<=9223372036854775807):∀(d k fuel:Nat),k+d=l.length->d<fuel ->
  N8 l w fuel (k:Int)=some (if w∈l.drop k then .inl true else .inr ())
 |d,k,0,b,hf=>by omega
 |0,k,fuel+1,b,hf=>by
  rw[N8.eq_2,if_neg (by simp;omega),I1 (by omega)];simp
 |d+1,k,fuel+1,b,hf=>by
  have f:k<l.length:=by omega
  have a:=d5 f
  generalize l[k]=x at a
  have i:=V0r l w g d (k+1) fuel (by omega) (by omega)
  rw[N8.eq_2,if_pos (by simp;omega),K1 a]
  simp only[V1 a,oB,C2 f g,i,List.mem_cons]
  by_cases c:x=w
  ·rw[if_pos (by simpa using c),if_pos (.inl c.symm)]
  ·rw[if_neg (by simpa using c)]
   by_cases c2:w∈l.drop (k+1)
   ·rw[if_pos c2,if_pos (.inr c2)]
   ·rw[if_neg c2,if_neg (λh=>h.elim (λe=>c e.symm) c2)]
theorem q0d(l:List Int)(w:Int)(a:l.length<=9223372036854775807):p9 l w=some (decide (w∈l)):=by
 unfold p9
 have h:=V0r l w a l.length 0 Q0 (by omega) (by unfold Q0;omega)
 rw[show((0:Nat):Int)=0 from rfl,List.drop_zero]at h
 rw[h,oB]
 by_cases c:w∈l
 ·rw[if_pos c];simp[t7,c]
 ·rw[if_neg c];simp[t7,c]
def s1(u:List Int)(e:J0):List Int:=if e.1∈u then H01 N5 e.2.2 u else u
def s2(u:List Int)(e:J0):List Int:=if e.2.2∈u then H01 N5 e.1 u else u
def pS:List J0->List Int->List Int
 | [],u=>u
 |e::r,u=>pS r (s2 (s1 u e) e)
theorem O0b{u:List Int}{e:J0}{x:Int}:x∈s1 u e↔x∈u∨(e.1∈u/\x=e.2.2):=by
 unfold s1
 split
 ·rename_i h;rw[R07 L8];constructor
  ·rintro(a|a)
   ·exact .inr ⟨h,a⟩
   ·exact .inl a
  ·rintro(a|⟨_,a⟩)
   ·exact .inr a
   ·exact .inl a
 ·rename_i h;constructor
  ·exact .inl
  ·rintro(a|⟨a,_⟩)
   ·exact a
   ·exact absurd a h
theorem P0b{u:List Int}{e:J0}{x:Int}:x∈s2 u e↔x∈u∨(e.2.2∈u/\x=e.1):=by
 unfold s2
 split
 ·rename_i h;rw[R07 L8];constructor
  ·rintro(a|a)
   ·exact .inr ⟨h,a⟩
   ·exact .inl a
  ·rintro(a|⟨_,a⟩)
   ·exact .inr a
   ·exact .inl a
 ·rename_i h;constructor
  ·exact .inl
  ·rintro(a|⟨a,_⟩)
   ·exact a
   ·exact absurd a h
theorem q0p(u:List Int)(e:J0):(s1 u e).length<=u.length+1:=by
 unfold s1;split
 ·exact j06 _ _
 ·omega
theorem r0p(u:List Int)(e:J0):(s2 u e).length<=u.length+1:=by
 unfold s2;split
 ·exact j06 _ _
 ·omega
theorem o0l:∀(es:List J0) (u:List Int),(pS es u).length<=u.length+2*es.length
 | [],u=>by simp[pS]
 |e::r,u=>by
  have:=o0l r (s2 (s1 u e) e)
  have:=r0p (s1 u e) e
  have:=q0p u e
  simp only[pS,List.length_cons];omega
theorem U06:∀(es:List J0) (u:List Int) (x:Int),x∈u->x∈pS es u
 | [],u,x,h=>h
 |e::r,u,x,h=>U06 r _ x (P0b.2 (.inl (O0b.2 (.inl h))))
theorem A0e{P:Int->Prop}:∀(es:List J0) (u:List Int),(∀ e∈es,P e.1↔P e.2.2)->(∀ x∈u,P x)->∀ x∈pS es u,P x
 | [],u,b,a=>a
 |e::r,u,b,a=>A0e r _ (λe g=>b e (mC _ g)) λx i=>by
  have f:=b e mS
  have d:∀ c∈s1 u e,P c:=λc j=>by
   rcases O0b.1 j with h|⟨h,rfl⟩
   ·exact a c h
   ·exact f.1 (a _ h)
  rcases P0b.1 i with h|⟨h,rfl⟩
  ·exact d x h
  ·exact f.2 (d _ h)
theorem F0j:∀(es:List J0) (u:List Int) (e:J0),e∈es->e.1∈u∨e.2.2∈u->e.1∈pS es u/\e.2.2∈pS es u
 |c::r,u,e,a,h=>by
  simp only[pS]
  rcases List.mem_cons.1 a with rfl|a
  ·have b:e.2.2∈s1 u e:=by
    rcases h with h|h
    ·exact O0b.2 (.inr ⟨h,rfl⟩)
    ·exact O0b.2 (.inl h)
   exact⟨U06 r _ _ (P0b.2 (.inr ⟨b,rfl⟩)),U06 r _ _ (P0b.2 (.inl b))⟩
  ·exact F0j r _ e a (h.imp (λh=>P0b.2 (.inl (O0b.2 (.inl h)))) λh=>P0b.2 (.inl (O0b.2 (.inl h))))
def act(es:List J0)(u:List Int):Nat:=es.countP λe=>decide (e.1∈u)&&decide (e.2.2∈u)
def clo(es:List J0)(u:List Int):Prop:=∀ e∈es,e.1∈u↔e.2.2∈u
theorem x0s(es:List J0)(u:List Int):act es u<=es.length:=List.countP_le_length
theorem z0g{g:Type}{p q:g->Bool}:∀ {l:List g},(∀ x∈l,p x=true->q x=true)->(∃ x∈l,p x=false/\q x=true)->l.countP p<l.countP q
 | [],_,⟨x,a,_⟩=>nomatch a
 |c::l,h,⟨x,a,d,f⟩=>by
  have i:l.countP p<=l.countP q:=List.countP_mono_left λz b=>h z (mC _ b)
  rcases List.mem_cons.1 a with rfl|a
  ·rw[List.countP_cons_of_neg (by simp[d]),List.countP_cons_of_pos f];omega
  ·have j:=z0g (l:=l) (λz b=>h z (mC _ b)) ⟨x,a,d,f⟩
   cases hp:p c
   ·rw[List.countP_cons_of_neg (by simp[hp])]
    have:l.countP q<=(c::l).countP q:=by rw[List.countP_cons];omega
    omega
   ·rw[List.countP_cons_of_pos hp,List.countP_cons_of_pos (h c mS hp)];omega
theorem I0a{es:List J0}{u:List Int}(h:clo es u)(x:Int):x∈pS es u↔x∈u :=
 ⟨A0e (P:=λx=>x∈u) es u h (λ_ h=>h) x,U06 es u x⟩
theorem s0p{es:List J0}{u:List Int}:clo es (pS es u)∨act es u<act es (pS es u):=by
 by_cases h:clo es u
 ·left
  intro e a
  rw[I0a h,I0a h];exact h e a
 ·right
  have:∃ e∈es,¬ (e.1∈u↔e.2.2∈u):=by
   refine Classical.byContradiction λb=>h λe a=>?_
   exact Classical.byContradiction λd=>b ⟨e,a,d⟩
  obtain⟨e,a,c⟩:=this
  refine z0g (λx g h=>?_) ⟨e,a,?_,?_⟩
  ·simp only[Bool.and_eq_true,decide_eq_true_eq]at h ⊢
   exact⟨U06 _ _ _ h.1,U06 _ _ _ h.2⟩
  ·rw[Bool.eq_false_iff]
   intro h
   simp only[Bool.and_eq_true,decide_eq_true_eq]at h
   exact c ⟨λ_=>h.2,λ_=>h.1⟩
  ·have f:e.1∈u∨e.2.2∈u:=by
    refine Classical.byContradiction λb=>c ⟨λh=>absurd (.inl h) b,λh=>absurd (.inr h) b⟩
   have:=F0j es u e a f
   simp only[Bool.and_eq_true,decide_eq_true_eq];exact this
def itS(es:List J0):Nat->List Int->List Int
 |0,u=>u
 |j+1,u=>itS es j (pS es u)
theorem u0m(es:List J0):∀(j:Nat) (u:List Int),(itS es j u).length<=u.length+j*(2*es.length)
 |0,u=>by simp[itS]
 |j+1,u=>by have:=u0m es j (pS es u);have:=o0l es u;simp only[itS,Nat.add_mul,Nat.one_mul];omega
theorem v0m(es:List J0):∀(j:Nat) (u:List Int),clo es u->clo es (itS es j u)
 |0,u,h=>h
 |j+1,u,h=>v0m es j _ λe a=>by rw[I0a h,I0a h];exact h e a
theorem w0m(es:List J0):∀(j:Nat) (u:List Int),clo es (itS es j u)∨act es u+j<=act es (itS es j u)
 |0,u => .inr (Nat.le_refl _)
 |j+1,u=>by
  rcases s0p (es:=es) (u:=u)with h|h
  ·exact .inl (v0m es j _ h)
  ·rcases w0m es j (pS es u)with a|a
   ·exact .inl a
   ·right;simp only[itS];omega
theorem G0j(es:List J0):∀(j:Nat) (u:List Int) (x:Int),x∈u->x∈itS es j u
 |0,u,x,h=>h
 |j+1,u,x,h=>G0j es j _ x (U06 es u x h)
theorem A0g{P:Int->Prop}(es:List J0)(b:∀ e∈es,P e.1↔P e.2.2):∀(j:Nat) (u:List Int),(∀ x∈u,P x)->∀ x∈itS es j u,P x
 |0,u,a=>a
 |j+1,u,a=>A0g es b j _ (A0e es u b a)
theorem J0a(es:List J0)(v x:Int):x∈itS es (es.length+1) [v]↔Rch es v x:=by
 constructor
 ·exact A0g (P:=Rch es v) es Rch.closed _ _ (λc a=>by simp at a;subst a;exact .base) x
 ·have b:clo es (itS es (es.length+1) [v]):=by
   rcases w0m es (es.length+1) [v]with h|h
   ·exact h
   ·have:=x0s es (itS es (es.length+1) [v]);omega
  exact Rch.sub (P:=λx=>x∈itS es (es.length+1) [v]) (G0j _ _ _ _ (by simp)) b
theorem B0e(es:List J0)(o:es.length<=9223372036854775807):∀(d k fuel:Nat) (u:List Int),k+d=es.length->d<fuel->u.length+2*d<=1099511627776 ->
  O3 es fuel u (k:Int)=some (pS (es.drop k) u)
 |d,k,0,u,m,hf,p=>by omega
 |0,k,fuel+1,u,m,hf,p=>by
  rw[O3.eq_2,if_neg (by simp;omega),I1 (by omega)];rfl
 |d+1,k,fuel+1,u,m,hf,p=>by
  have n:k<es.length:=by omega
  have j:=d5 n
  generalize es[k]=e at j
  obtain⟨a,l,b⟩:=e
  have g:=λq h=>B0e es o d (k+1) fuel q (by omega) (by omega) h
  have g1:=q0p u (a,l,b)
  have g2:=r0p (s1 u (a,l,b)) (a,l,b)
  rw[O3.eq_2,if_pos (by simp;omega),K1 j]
  simp only[V1 j,oB,q0d u _ (by omega),C2 n o,pS]
  by_cases c:a∈u
  ·rw[if_pos (by simpa using c),B0a _ _ (by omega),oB]
   have i:s1 u (a,l,b)=H01 N5 b u:=if_pos c
   rw[i]at g1 g2 ⊢
   rw[q0d _ _ (by omega),oB]
   by_cases c2:b∈H01 N5 b u
   ·rw[if_pos (by simpa using c2),B0a _ _ (by omega),oB]
    have f:s2 (H01 N5 b u) (a,l,b)=H01 N5 a (H01 N5 b u):=if_pos c2
    rw[f]at g2 ⊢
    exact g _ (by omega)
   ·rw[if_neg (by simpa using c2)]
    have f:s2 (H01 N5 b u) (a,l,b)=H01 N5 b u:=if_neg c2
    rw[f]
    exact g _ (by omega)
  ·rw[if_neg (by simpa using c)]
   have i:s1 u (a,l,b)=u:=if_neg c
   rw[i]at g2 ⊢
   by_cases c2:b∈u
   ·rw[if_pos (by simpa using c2),B0a _ _ (by omega),oB]
    have f:s2 u (a,l,b)=H01 N5 a u:=if_pos c2
    rw[f]at g2 ⊢
    exact g _ (by omega)
   ·rw[if_neg (by simpa using c2)]
    have f:s2 u (a,l,b)=u:=if_neg c2
    rw[f]
    exact g _ (by omega)
theorem C0e(es:List J0)(c:es.length<=120):∀(d k fuel:Nat) (u:List Int),k+d=es.length+1->d<fuel->u.length<=1+k*240 ->
  D5 es fuel u (k:Int)=some (itS es d u)
 |d,k,0,u,a,hf,b=>by omega
 |0,k,fuel+1,u,a,hf,b=>by
  rw[D5.eq_2,if_neg (by rw[w64 (by omega) (by omega)];simp;omega)];rfl
 |d+1,k,fuel+1,u,a,hf,b=>by
  have h0:=B0e es (by omega) es.length 0 Q0 u (by omega) (j1 (by omega)) (by omega)
  rw[show((0:Nat):Int)=0 from rfl,List.drop_zero]at h0
  have f:=C0e es c d (k+1) fuel (pS es u) (by omega) (by omega) (by have:=o0l es u;omega)
  rw[D5.eq_2,if_pos (by rw[w64 (by omega) (by omega)];simp;omega),h0,oB,C2 (show k<1000 by omega) (by omega),f]
  rfl
def getI(P:List Int)(v:Int):Int:=P.getD v.toNat (-1)
def a01:List Int->Nat->List Int->List Int
 |A,k,[]=>A
 |A,k,v::r=>a01 (A.set v.toNat (k:Int)) (k+1) r
def plc(n:Nat)(o:List Int):List Int:=a01 (List.replicate n (-1)) 0 o
theorem D0e:∀(o:List Int) (k:Nat) (A:List Int),(a01 A k o).length=A.length
 | [],k,A=>rfl
 |v::r,k,A=>by rw[a01,D0e r];simp
def inV(n:Nat)(o:List Int):Prop:=∀ v∈o,0<=v/\v<(n:Int)
theorem giI{P:List Int}{n:Nat}(d:P.length=n){x:Int}(h0:0<=x)(c:x<n):gi P x=some (getI P x):=by
 have b:x.toNat<P.length:=by omega
 have e:x=((x.toNat:Nat):Int):=by omega
 have a:gi P ((x.toNat:Nat):Int)=some (getI P x):=by
  rw[I0b,List.getElem?_eq_getElem b]
  unfold getI
  rw[List.getD_eq_getElem?_getD,List.getElem?_eq_getElem b];rfl
 rw[←e]at a;exact a
theorem O03{A:List Int}{v x:Int}{a:Int}(h0:0<=v)(b:v.toNat<A.length)(d:0<=x):getI (A.set v.toNat a) x=if x=v then a else getI A x:=by
 unfold getI
 rw[List.getD_eq_getElem?_getD,List.getD_eq_getElem?_getD,List.getElem?_set]
 by_cases c:x=v
 ·rw[if_pos c,if_pos (by rw[c]),if_pos b];rfl
 ·rw[if_neg c,if_neg (by omega)]
theorem K0a{n:Nat}:∀(o:List Int) (k:Nat) (A:List Int),A.length=n->inV n o->(∀ x,0<=x -> -1<=getI A x/\getI A x<(k:Int))->∀ x,0<=x -> -1<=getI (a01 A k o) x/\getI (a01 A k o) x<((k+o.length:Nat):Int)
 | [],k,A,c,a,h,x,b=>h x b
 |v::r,k,A,c,a,h,x,b=>by
  have hv:=a v mS
  have:=K0a r (k+1) (A.set v.toNat (k:Int)) (by simp[c]) (λw f=>a w (mC _ f)) (λg d=>by
   rw[O03 hv.1 (by omega) d]
   have:=h g d
   split<;>omega) x b
  rw[a01,List.length_cons,show k+(r.length+1)=k+1+r.length by omega];exact this
theorem W07(n:Nat)(x:Int):getI (List.replicate n (-1)) x = -1:=by
 unfold getI
 rw[List.getD_eq_getElem?_getD,List.getElem?_replicate]
 split<;>rfl
theorem w04{n:Nat}{o:List Int}(b:inV n o){x:Int}(a:0<=x): -1<=getI (plc n o) x/\getI (plc n o) x<(o.length:Int):=by
 have:=K0a o 0 (List.replicate n (-1)) (by simp) b (λx a=>by rw[W07];omega) x a
 rw[Nat.zero_add]at this;exact this
theorem x0m(n:Nat)(o:List Int):(plc n o).length=n:=by unfold plc;rw[D0e];simp
def pE(P:List Int):List J0->List J0
 | []=>[]
 |e::r=>bif decide (0<=getI P e.1)&&decide (0<=getI P e.2.2)then(getI P e.1,e.2.1,getI P e.2.2)::pE P r else pE P r
theorem S0h(P:List Int):∀ es,(pE P es).length<=es.length
 | []=>by simp[pE]
 |e::r=>by
  have:=S0h P r
  unfold pE
  cases decide (0<=getI P e.1)&&decide (0<=getI P e.2.2)<;>simp only[cond_true,cond_false,List.length_cons]<;>omega
theorem W0r{n:Nat}{o:List Int}(d:inV n o):∀(es:List J0),inN n es->inN o.length (pE (plc n o) es)
 | [],c=>λe a=>nomatch a
 |e::r,c=>by
  have f:=W0r d r λe a=>c e (mC _ a)
  have a:=c e mS
  unfold pE
  cases hb:decide (0<=getI (plc n o) e.1)&&decide (0<=getI (plc n o) e.2.2)
  ·simpa only[cond_false] using f
  ·simp only[cond_true]
   simp only[Bool.and_eq_true,decide_eq_true_eq]at hb
   intro g b
   rcases List.mem_cons.1 b with rfl|b
   ·exact⟨⟨hb.1,(w04 d a.1.1).2⟩,hb.2,(w04 d a.2.1).2⟩
   ·exact f g b
def O8(g:j0)(o:List Int):j0:=(g.1,(o.length:Int),K6 P0 [] (pE (plc g.2.1.toNat o) g.2.2))
theorem O02:∀(r l:List J0),(K6 P0 l r).length<=l.length+r.length
 | [],l=>by simp[K6]
 |e::r,l=>by have:=O02 r (H01 P0 e l);have:=k06 e l;simp only[K6,List.length_cons];omega
theorem y09(g:j0)(o:List Int):(O8 g o).2.2.length<=g.2.2.length:=by
 have:=O02 (pE (plc g.2.1.toNat o) g.2.2) []
 have:=S0h (plc g.2.1.toNat o) g.2.2
 simp only[O8,List.length_nil]at *;omega
theorem B0g{n:Nat}{r:Int}{es:List J0}{o:List Int}(c:inV n o)(b:inN n es):inN o.length (O8 (r,(n:Int),es) o).2.2:=by
 intro e a
 simp only[O8,Int.toNat_natCast]at a
 rcases(D4 Y3 e _ _).1 a with h|h
 ·cases h
 ·exact W0r c es b e h
theorem y0m(n:Nat)(c:n<=140737488355328):∀(d k fuel:Nat),k+d=n->d<fuel ->
  w9 n fuel (k:Int) (List.replicate k (-1)++List.replicate d 0)=some (List.replicate n (-1))
 |d,k,0,a,hf=>by omega
 |0,k,fuel+1,a,hf=>by
  rw[w9.eq_2,if_neg (by simp;omega),show k=n by omega];simp
 |d+1,k,fuel+1,a,hf=>by
  have b:gi (List.replicate k (-1)++List.replicate (d+1) (0:Int)) (k:Int)=some 0:=by
   rw[I0b,List.getElem?_append_right (by simp)];simp
  have f:=y0m n c d (k+1) fuel (by omega) (by omega)
  rw[w9.eq_2,if_pos (by simp;omega),b,oB,C2 (show k<n by omega) (by omega),Int.toNat_natCast]
  have e:(List.replicate k (-1)++List.replicate (d+1) (0:Int)).set k (-1)=List.replicate (k+1) (-1)++List.replicate d 0:=by
   rw[List.set_append_right _ _ (by simp),List.length_replicate,Nat.sub_self,List.replicate_succ,List.set_cons_zero,List.replicate_succ']
   simp
  rw[e,f]
theorem z0m(o:List Int){n:Nat}(i:inV n o)(h:o.length<=9223372036854775807):∀(d k fuel:Nat) (A:List Int),A.length=n->k+d=o.length->d<fuel ->
  t9 o fuel (k:Int) A=some (a01 A k (o.drop k))
 |d,k,0,A,a,f,hf=>by omega
 |0,k,fuel+1,A,a,f,hf=>by
  rw[t9.eq_2,if_neg (by simp;omega),I1 (by omega)];rfl
 |d+1,k,fuel+1,A,a,f,hf=>by
  have g:k<o.length:=by omega
  have b:=d5 g
  have c:=i _ (List.mem_of_getElem? b)
  generalize o[k]=v at b c
  have j:=z0m o i h d (k+1) fuel (A.set v.toNat (k:Int)) (by simp[a]) (by omega) (by omega)
  rw[t9.eq_2,if_pos (by simp;omega),K1 b,V1 b,oB,giI a c.1 c.2,oB,C2 g h,j]
  rfl
theorem A0m(es:List J0){n:Nat}(q:inN n es)(t:es.length<=1099511627776)(P:List Int)(g:P.length=n)(r m:Int):∀(d k fuel:Nat) (acc:List J0),k+d=es.length->d<fuel->acc.length<=k ->
  F8 es P fuel (k:Int) r m acc=some (r,m,acc++pE P (es.drop k))
 |d,k,0,acc,o,hf,j=>by omega
 |0,k,fuel+1,acc,o,hf,j=>by
  rw[F8.eq_2,if_neg (by simp;omega),I1 (by omega)];simp[pE]
 |d+1,k,fuel+1,acc,o,hf,j=>by
  have p:k<es.length:=by omega
  have f:=d5 p
  have c:=q _ (List.mem_of_getElem? f)
  generalize es[k]=e at f c
  obtain⟨a,l,b⟩:=e
  have i:=λs h=>A0m es q t P g r m d (k+1) fuel s (by omega) (by omega) h
  rw[F8.eq_2,if_pos (by simp;omega),K1 f]
  simp only[V1 f,oB,giI g c.1.1 c.1.2,giI g c.2.1 c.2.2,C2 p (show es.length<=9223372036854775807 by omega),pE]
  by_cases c1:0<=getI P a
  ·simp only[show decide (getI P a ≥ 0)=true by simpa using c1,Z2,oB,cond_true,show decide (0<=getI P a)=true by simpa using c1,Bool.true_and]
   by_cases c2:0<=getI P b
   ·rw[if_pos (by simpa using c2),F0 (by simp;omega),oB,i _ (by simp;omega)]
    simp[c2]
   ·rw[if_neg (by simpa using c2),i _ (by omega)]
    simp[c2]
  ·simp only[show decide (getI P a ≥ 0)=false by simpa using c1,L4,oB,cond_false,show decide (0<=getI P a)=false by simpa using c1,Bool.false_and]
   rw[if_neg (by simp),i _ (by omega)]
theorem p0l(r:Int)(n:Nat)(es:List J0)(o:List Int)(d:inN n es)(f:inV n o)(h:n<=1000000)(c:es.length<=1099511627776)(g:o.length<=1099511627776):
  M02 (r,(n:Int),es) o=some (O8 (r,(n:Int),es) o):=by
 unfold M02
 have b:=y0m n (by omega) n 0 Q0 (by omega) (j1 (by omega))
 have a:=z0m o f (by omega) o.length 0 Q0 (List.replicate n (-1)) (by simp) (by omega) (j1 (by omega))
 have h0:=A0m es d c (plc n o) (x0m n o) r ((o.length:Nat):Int) es.length 0 Q0 [] (by omega) (j1 (by omega)) (Nat.le_refl _)
 rw[show((0:Nat):Int)=0 from rfl]at h0 a b
 rw[List.replicate_zero,List.nil_append]at b
 rw[List.drop_zero]at a
 rw[List.drop_zero,List.nil_append]at h0
 simp only[Int.toNat_natCast]
 rw[F0 (by omega),oB,oB,List.length_replicate,F0 (by omega),oB,b,oB,a,oB]
 rw[show a01 (List.replicate n (-1)) 0 o=plc n o from rfl,h0]
 simp only[oB]
 rw[y0e _ (by have:=S0h (plc n o) es;omega),oB]
 rfl
theorem t0p(A:List Int)(i k:Nat):(A.map (·+1)).set i (((k+1:Nat):Int))=(A.set i (k:Int)).map (·+1):=by
 rw[List.map_set];rfl
theorem E0e{A:List Int}{n:Nat}(d:A.length=n){x:Int}(h0:0<=x)(c:x<n):gi (A.map (·+1)) x=some (getI A x+1):=by
 have b:x.toNat<A.length:=by omega
 have e:x=((x.toNat:Nat):Int):=by omega
 have a:gi (A.map (·+1)) ((x.toNat:Nat):Int)=some (getI A x+1):=by
  rw[I0b,List.getElem?_map,List.getElem?_eq_getElem b]
  unfold getI
  rw[List.getD_eq_getElem?_getD,List.getElem?_eq_getElem b];rfl
 rw[←e]at a;exact a
theorem F0e{n:Nat}:∀(o:List Int) (k:Nat) (A:List Int) (x:Int),A.length=n->inV n o->0<=x->x ∉ o->getI (a01 A k o) x=getI A x
 | [],k,A,x,c,a,b,h=>rfl
 |v::r,k,A,x,c,a,b,h=>by
  have hv:=a v mS
  rw[a01,F0e r _ _ x (by simp[c]) (λw f=>a w (mC _ f)) b (λd=>h (mC _ d)),O03 hv.1 (by omega) b,if_neg (λe=>h (by rw[e];exact mS))]
theorem u0p(r:Int)(n:Nat)(es:List J0)(o:List Int)(h:inV n o)(l:o.Nodup)(t:1<=n/\n<=1000000)(s:o.length<=1099511627776):∀(d k fuel:Nat) (A:List Int),A.length=n->(∀ x,0<=x -> -1<=getI A x/\getI A x<=1099511627776)->(∀ x∈o.drop k,getI A x = -1)->k+d=o.length->d<fuel ->
  Q4 o (n:Int) r es fuel (k:Int) (A.map (·+1))=some (.inr ((a01 A k (o.drop k)).map (·+1)))
 |d,k,0,A,f,i,c,j,hf=>by omega
 |0,k,fuel+1,A,f,i,c,j,hf=>by
  rw[Q4.eq_2,if_neg (by simp;omega),I1 (by omega)];rfl
 |d+1,k,fuel+1,A,f,i,c,j,hf=>by
  have m:k<o.length:=by omega
  have a:=d5 m
  have b:=h _ (List.mem_of_getElem? a)
  have g:=K1 a
  generalize o[k]=v at a b g
  have p:(o.drop k).Nodup:=l.sublist (List.drop_sublist _ _)
  rw[g]at p c
  have q:=c v mS
  have w:=u0p r n es o h l t s d (k+1) fuel (A.set v.toNat (k:Int)) (by simp[f]) (λx a=>by
   rw[O03 b.1 (by omega) a];have:=i x a;split<;>omega) (λx a=>by
   have u:=h x (List.mem_of_mem_drop a)
   rw[O03 b.1 (by omega) u.1,if_neg (λe=>(List.nodup_cons.1 p).1 (by rw[←e];exact a))]
   exact c x (mC _ a)) (by omega) (by omega)
  rw[Q4.eq_2,if_pos (by simp;omega),g,V1 a]
  simp only[oB,M00,w64 (show -9223372036854775808<=(n:Int)-1 by omega) (show(n:Int)-1<=9223372036854775807 by omega),inR,show decide (0<=v)=true by simpa using b.1,show decide (v<=(n:Int)-1)=true by simp;omega,Bool.and_self,Bool.not_true,Bool.not_false,Z2,E0e f b.1 b.2,q,cond_false]
  rw[if_neg (by decide),C2 m (by omega),t0p,w]
  rfl
theorem v0p(es:List J0){n:Nat}(s:inN n es)(u:es.length<=1099511627776)(P:List Int)(g:P.length=n)(i:∀ x,0<=x -> -1<=getI P x/\getI P x<=1099511627776)(r m:Int):∀(d k fuel:Nat) (acc:List J0),k+d=es.length->d<fuel->acc.length<=k ->
  V3 es (P.map (·+1)) fuel (k:Int) r m acc=some (r,m,K6 P0 acc (pE P (es.drop k)))
 |d,k,0,acc,p,hf,o=>by omega
 |0,k,fuel+1,acc,p,hf,o=>by
  rw[V3.eq_2,if_neg (by simp;omega),I1 (by omega)];rfl
 |d+1,k,fuel+1,acc,p,hf,o=>by
  have q:k<es.length:=by omega
  have f:=d5 q
  have c:=s _ (List.mem_of_getElem? f)
  generalize es[k]=e at f c
  obtain⟨a,l,b⟩:=e
  have j:=λt h=>v0p es s u P g i r m d (k+1) fuel t (by omega) (by omega) h
  have v:=i a c.1.1
  have w:=i b c.2.1
  rw[V3.eq_2,if_pos (by simp;omega),K1 f]
  simp only[V1 f,oB,E0e g c.1.1 c.1.2,E0e g c.2.1 c.2.2,C2 q (show es.length<=9223372036854775807 by omega),pE]
  by_cases c1:0<=getI P a
  ·simp only[show decide (getI P a+1>0)=true by simp;omega,Z2,oB,cond_true,show decide (0<=getI P a)=true by simpa using c1,Bool.true_and]
   by_cases c2:0<=getI P b
   ·rw[if_pos (by simp;omega),w64 (by omega) (by omega),w64 (by omega) (by omega),show getI P a+1-1=getI P a by omega,show getI P b+1-1=getI P b by omega]
    rw[y08 _ _ (by omega),oB,j _ (by have:=k06 (getI P a,l,getI P b) acc;omega)]
    simp[c2,K6]
   ·rw[if_neg (by simp;omega),j _ (by omega)]
    simp[c2]
  ·simp only[show decide (getI P a+1>0)=false by simp;omega,L4,oB,cond_false,show decide (0<=getI P a)=false by simpa using c1,Bool.false_and]
   rw[if_neg (by simp),j _ (by omega)]
theorem G0e(r:Int)(n:Nat)(es:List J0)(o:List Int)(f:O0 (r,(n:Int),es)=true)(g:inV n o)(l:o.Nodup)(t:1<=o.length)(u:o.length<=n):
  F7 (r,(n:Int),es) o=some (O8 (r,(n:Int),es) o,true):=by
 obtain⟨h,p,q,s⟩:=B3 f
 simp only at p q s
 have m:inN n es:=λe d=>⟨(h e d).1,(h e d).2.1⟩
 have k:=G8 (r,(n:Int),es) (by simp only;omega)
 unfold F7
 have a:=u0p r n es o g l (by omega) (by omega) o.length 0 Q0 (List.replicate n (-1)) (by simp) (λx b=>by rw[W07];omega) (λx b=>W07 n x) (by omega) (j1 (by omega))
 have c:=v0p es m (by omega) (plc n o) (x0m n o) (λx b=>by have:=w04 g b;omega) r ((o.length:Nat):Int) es.length 0 Q0 [] (by omega) (j1 (by omega)) (Nat.le_refl _)
 rw[show((0:Nat):Int)=0 from rfl,List.drop_zero]at c a
 rw[show(List.replicate n (-1:Int)).map (·+1)=List.replicate n 0 by simp]at a
 rw[show a01 (List.replicate n (-1)) 0 o=plc n o from rfl]at a
 have i:decide (((o.length:Nat):Int)=0)=false:=decide_eq_false (by omega)
 have j:decide (((o.length:Nat):Int)>(n:Int))=false:=decide_eq_false (by omega)
 simp only[k,f,oB,Bool.not_true,cond_false,Int.toNat_natCast,i,j]
 rw[if_neg (by simp),F0 (by omega),oB,a]
 simp only[oB,t7,c]
 rfl
theorem Y03:∀(n:Nat) (o:List Int),o.Nodup->inV n o->o.length<=n
 |0,[],_,_=>Nat.le_refl _
 |0,x::r,_,h=>by have:=h x mS;omega
 |n+1,o,c,h=>by
  have d:inV n (o.erase (n:Int)):=λx f=>by
   obtain⟨g,a⟩:=(List.Nodup.mem_erase_iff c).1 f
   have:=h x a;omega
  have b:=Y03 n _ (c.erase _) d
  by_cases a:(n:Int)∈o
  ·rw[List.length_erase_of_mem a]at b;omega
  ·rw[List.erase_of_not_mem a]at b;omega
def b01:Nat->Nat->List Int
 |0,_=>[]
 |d+1,i=>(i:Int) :: -(i:Int)::b01 d (i+1)
theorem L0a:∀ d i,(b01 d i).length=2*d
 |0,i=>rfl
 |d+1,i=>by simp only[b01,List.length_cons,L0a d];omega
theorem T0h:∀(d i:Nat),i+d<=1000->∀ x∈b01 d i,t6 x
 |0,i,h,x,a=>nomatch a
 |d+1,i,h,x,a=>by
  simp only[b01,List.mem_cons]at a
  rcases a with rfl|rfl|a
  ·exact⟨⟨by omega,by omega⟩,by omega⟩
  ·exact⟨⟨by omega,by omega⟩,by omega⟩
  ·exact T0h d (i+1) (by omega) x a
theorem w0p(R:Nat)(c:R<=900):∀(d i fuel:Nat) (acc:List Int),i+d=R+1->d<fuel->acc.length+2*d<=10000 ->
  G7 (R:Int) fuel (i:Int) acc=some (acc++b01 d i)
 |d,i,0,acc,b,hf,a=>by omega
 |0,i,fuel+1,acc,b,hf,a=>by
  rw[G7.eq_2,if_neg (by simp;omega)];simp[b01]
 |d+1,i,fuel+1,acc,b,hf,a=>by
  have f:=w0p R c d (i+1) fuel (acc ++ [(i:Int),-(i:Int)]) (by omega) (by omega) (by simp;omega)
  have g:IntKind.i64.wrap (0-(i:Int)) = -(i:Int):=by rw[w64 (by omega) (by omega)];omega
  rw[G7.eq_2,if_pos (by simp;omega),g,F0 (by simp;omega),oB,C2 (show i<1000 by omega) (by omega),f]
  simp[b01]
theorem x0p(R:Nat)(c:R<=900):∀(d i fuel:Nat) (acc:List Int),i+d=R+1->d<fuel->acc.length+2*d<=10000 ->
  g6 (R:Int) fuel (i:Int) acc=some (acc++b01 d i)
 |d,i,0,acc,b,hf,a=>by omega
 |0,i,fuel+1,acc,b,hf,a=>by
  rw[g6.eq_2,if_neg (by simp;omega)];simp[b01]
 |d+1,i,fuel+1,acc,b,hf,a=>by
  have f:=x0p R c d (i+1) fuel ((acc ++ [(i:Int)]) ++ [-(i:Int)]) (by omega) (by omega) (by simp;omega)
  have g:IntKind.i64.wrap (0-(i:Int)) = -(i:Int):=by rw[w64 (by omega) (by omega)];omega
  rw[g6.eq_2,if_pos (by simp;omega),g,F0 (by simp;omega),oB,F0 (by simp;omega),oB,C2 (show i<1000 by omega) (by omega),f]
  simp[b01]
theorem y0s(R:Nat)(a:R<=900):O01 (R:Int)=some (b01 R 1):=by
 unfold O01
 rw[show(1:Int)=((1:Nat):Int) from rfl,w0p R a R 1 Q0 [] (by omega) (j1 (by omega)) (by simp;omega)];rfl
theorem z0s(R:Nat)(a:R<=900):L00 (R:Int)=some (b01 R 1):=by
 unfold L00
 rw[show(1:Int)=((1:Nat):Int) from rfl,x0p R a R 1 Q0 [] (by omega) (j1 (by omega)) (by simp;omega)];rfl
def z09(u:List Int)(x:Int):List Int:=if 0<=x/\x ∉ u then u ++ [x]else u
def c04(g:j0)(v:Int):List Int->List Int->List Int
 | [],u=>u
 |x::r,u=>c04 g v r (z09 u (C1 g v x))
def E00(g:j0)(a:List Int):Nat->Nat->List Int->List Int
 |0,i,u=>u
 |f+1,i,u=>match u[i]? with
  |some v=>E00 g a f (i+1) (c04 g v a u)
  |none=>u
def gud(n:Nat)(u:List Int):Prop:=u.Nodup/\inV n u
theorem y0p{n:Nat}{u:List Int}{x:Int}(h:gud n u)(j:x = -1∨(0<=x/\x<(n:Int))):gud n (z09 u x):=by
 unfold z09
 split
 ·rename_i g
  refine⟨List.nodup_append.2 ⟨h.1,by simp,λa f b d=>?_⟩,λi c=>?_⟩
  ·simp at d;subst d;exact λe=>g.2 (e▸f)
  ·rcases List.mem_append.1 c with c|c
   ·exact h.2 i c
   ·simp at c;subst c;omega
 ·exact h
theorem H0e(u:List Int)(x:Int):∃ t,z09 u x=u++t:=by
 unfold z09;split
 ·exact⟨_,rfl⟩
 ·exact⟨[],by simp⟩
theorem x03(g:j0)(v:Int):∀(c u:List Int),∃ t,c04 g v c u=u++t
 | [],u=>⟨[],by simp[c04]⟩
 |x::r,u=>by
  obtain⟨d,a⟩:=H0e u (C1 g v x)
  obtain⟨f,b⟩:=x03 g v r (z09 u (C1 g v x))
  exact⟨d++f,by rw[c04,b,a,List.append_assoc]⟩
theorem l06{r:Int}{n:Nat}{es:List J0}(a:inG (r,(n:Int),es))(v:Int):∀(b u:List Int),gud n u->gud n (c04 (r,(n:Int),es) v b u)
 | [],u,h=>h
 |x::l,u,h=>l06 a v l _ (y0p h (S06 a v x))
theorem I0e{r:Int}{n:Nat}{es:List J0}(a:inG (r,(n:Int),es))(b:List Int):∀(f i:Nat) (u:List Int),gud n u->gud n (E00 (r,(n:Int),es) b f i u)
 |0,i,u,h=>h
 |f+1,i,u,h=>by
  unfold E00
  split
  ·exact I0e a b f _ _ (l06 a _ _ _ h)
  ·exact h
theorem J0e(g:j0)(a:List Int):∀(f i:Nat) (u:List Int),u.length<=(E00 g a f i u).length
 |0,i,u=>Nat.le_refl _
 |f+1,i,u=>by
  unfold E00
  split
  ·rename_i v _
   obtain⟨t,e⟩:=x03 g v a u
   have:=J0e g a f (i+1) (c04 g v a u)
   rw[e]at this ⊢;simp only[List.length_append]at this;omega
  ·exact Nat.le_refl _
theorem B0m(r:Int)(n:Nat)(es:List J0)(g:inG (r,(n:Int),es))(A:n<=40)(m:es.length<=1099511627776)(a:List Int)(p:∀ x∈a,t6 x)(z:a.length<=1000000)(i:Nat)(v:Int):∀(d k fuel:Nat) (u:List Int),gud n u->u[i]?=some v->k+d=a.length->d<fuel ->
  Q3 a (i:Int) r (n:Int) es fuel (k:Int) u=some (c04 (r,(n:Int),es) v (a.drop k) u)
 |d,k,0,u,c,b,j,hf=>by omega
 |0,k,fuel+1,u,c,b,j,hf=>by
  rw[Q3.eq_2,if_neg (by simp;omega),I1 (by omega)];rfl
 |d+1,k,fuel+1,u,c,b,j,hf=>by
  have o:k<a.length:=by omega
  have f:=d5 o
  have q:=p _ (List.mem_of_getElem? f)
  have l:=K1 f
  generalize a[k]=x at f q l
  have E:=Y03 n u c.1 c.2
  have C:C1 (r,(n:Int),es) v x = -1∨(0<=C1 (r,(n:Int),es) v x/\C1 (r,(n:Int),es) v x<(n:Int)):=S06 g v x
  have s:=y0p c C
  have w:(z09 u (C1 (r,(n:Int),es) v x))[i]?=some v:=by
   obtain⟨t,e⟩:=H0e u (C1 (r,(n:Int),es) v x)
   rw[e,List.getElem?_append_left (List.getElem?_eq_some_iff.1 b).1];exact b
  have D:=B0m r n es g A m a p z i v d (k+1) fuel _ s w (by omega) (by omega)
  rw[Q3.eq_2,if_pos (by simp;omega),l]
  simp only[V1 b,V1 f,oB,i0l (r,(n:Int),es) v x q m,F0 (s0m g (show(n:Int)<=40 by omega) v x),C2 o (show a.length<=9223372036854775807 by omega),c04]
  rw[←D]
  generalize C1 (r,(n:Int),es) v x=y at *
  unfold z09
  by_cases c1:0<=y
  ·simp only[show decide (y ≥ 0)=true by simpa using c1,Z2,q0d u y (by omega),oB,cond_true]
   by_cases c2:y∈u
   ·rw[if_neg (by simp[c2]),if_neg (by simp[c2])]
   ·rw[if_pos (by simp[c2]),if_pos ⟨c1,c2⟩,F0 (by simp;omega),oB]
  ·simp only[show decide (y ≥ 0)=false by simpa using c1,L4,oB,cond_false]
   rw[if_neg (by simp),if_neg (λh=>c1 h.1)]
theorem C0m(r:Int)(n:Nat)(es:List J0)(d:inG (r,(n:Int),es))(m:n<=40)(h:es.length<=1099511627776)(a:List Int)(l:∀ x∈a,t6 x)(k:a.length<=1000000):∀(f i fuel:Nat) (u:List Int),gud n u->i<=u.length->n+1<=i+f->f<fuel ->
  n5 a r (n:Int) es fuel (i:Int) u=some (E00 (r,(n:Int),es) a f i u)
 |f,i,0,u,b,j,g,hf=>by omega
 |0,i,fuel+1,u,b,j,g,hf=>by have:=Y03 n u b.1 b.2;omega
 |f+1,i,fuel+1,u,b,j,g,hf=>by
  have p:=Y03 n u b.1 b.2
  rw[n5.eq_2,oB,F0 (by omega),oB]
  by_cases hk:i<u.length
  ·have c:=d5 hk
   generalize u[i]=v at c
   have h0:=B0m r n es d m h a l k i v a.length 0 Q0 u b c (by omega) (j1 (by omega))
   rw[show((0:Nat):Int)=0 from rfl,List.drop_zero]at h0
   obtain⟨t,e⟩:=x03 (r,(n:Int),es) v a u
   have o:=C0m r n es d m h a l k f (i+1) fuel _ (l06 d v a u b) (by rw[e,List.length_append];omega) (by omega) (by omega)
   rw[if_pos (by simpa using hk),h0,oB,C2 hk (by omega),o]
   simp only[E00,c]
  ·have c:u[i]?=none:=List.getElem?_eq_none (by omega)
   rw[if_neg (by simpa using hk)]
   simp only[E00,c]
def q00(g:j0):List Int:=E00 g (b01 g.1.toNat 1) (g.2.1.toNat+1) 0 [0]
theorem Q0b{g:j0}(hf:Z0 g=true):gud g.2.1.toNat (q00 g)/\1<=(q00 g).length:=by
 obtain⟨c,d,f,h⟩:=j4 hf
 obtain⟨r,n,es⟩:=g
 simp only at d f h
 obtain⟨a,rfl⟩:∃ a:Nat,n=(a:Int):=⟨n.toNat,by omega⟩
 refine⟨?_,?_⟩
 ·exact I0e c _ _ _ _ ⟨by simp,λx b=>by simp at b;subst b;show(0:Int)<=0/\(0:Int)<(((a:Int).toNat:Nat):Int);omega⟩
 ·exact J0e _ _ _ _ [0]
theorem H0j(g:j0)(hf:Z0 g=true):r8 g=some (q00 g):=by
 obtain⟨c,d,f,h⟩:=j4 hf
 have i:=U07 g (by omega)
 obtain⟨r,n,es⟩:=g
 simp only at d f h
 obtain⟨a,rfl⟩:∃ a:Nat,n=(a:Int):=⟨n.toNat,by omega⟩
 obtain⟨R,rfl⟩:∃ R:Nat,r=(R:Int):=⟨r.toNat,by omega⟩
 unfold r8
 have h0:=C0m (R:Int) a es c (by omega) (by omega) (b01 R 1) (T0h R 1 (by omega)) (by rw[L0a];omega) (a+1) 0 Q0 [0] ⟨by simp,λx b=>by simp at b;subst b;omega⟩ (by simp) (by omega) (j1 (by omega))
 simp only[i,hf,oB,Bool.not_true,z0s R (by omega)]
 rw[show((0:Nat):Int)=0 from rfl]at h0
 rw[if_neg (by simp),h0]
 rfl
theorem i0r{a:List Int}(la:a.length<=1099511627776):o8 a=some a:=by
 unfold o8
 rw[F0 (by simp;omega)];rfl
def c00(W:List (Option (List Int)))(x:Int):Option (List Int):=W.getD x.toNat none
theorem giO{a:List (Option (List Int))}{n:Nat}(f:a.length=n){x:Int}(h0:0<=x)(d:x<n):gi a x=some (c00 a x):=by
 have c:x.toNat<a.length:=by omega
 have e:x=((x.toNat:Nat):Int):=by omega
 have b:gi a ((x.toNat:Nat):Int)=some (c00 a x):=by
  rw[I0b,List.getElem?_eq_getElem c]
  unfold c00
  rw[List.getD_eq_getElem?_getD,List.getElem?_eq_getElem c];rfl
 rw[←e]at b;exact b
theorem h01{A:List (Option (List Int))}{v x:Int}{a:Option (List Int)}(h0:0<=v)(b:v.toNat<A.length)(d:0<=x):c00 (A.set v.toNat a) x=if x=v then a else c00 A x:=by
 unfold c00
 rw[List.getD_eq_getElem?_getD,List.getD_eq_getElem?_getD,List.getElem?_set]
 by_cases c:x=v
 ·rw[if_pos c,if_pos (by rw[c]),if_pos b];rfl
 ·rw[if_neg c,if_neg (by omega)]
structure WOk (n:Nat) (W:List (Option (List Int))) (u:List Int):Prop where
 len:W.length=n
 iff:∀ x,0<=x->x<(n:Int)->((c00 W x).isNone=true↔x ∉ u)
 short:∀ x,((c00 W x).getD []).length<=u.length
theorem D0m(r:Int)(n:Nat)(es:List J0)(m:inG (r,(n:Int),es))(G:n<=40)(s:es.length<=1099511627776)(f:List Int)(w:∀ x∈f,t6 x)(F:f.length<=1000000)(v:Int)(hv:0<=v/\v<(n:Int)):∀(d k fuel:Nat) (b:List (Option (List Int))) (u:List Int),gud n u->WOk n b u->k+d=f.length->d<fuel ->
  ∃ j,i5 f r (n:Int) es v fuel (k:Int) b u=some (j,c04 (r,(n:Int),es) v (f.drop k) u)/\WOk n j (c04 (r,(n:Int),es) v (f.drop k) u)
 |d,k,0,b,u,i,a,p,hf=>by omega
 |0,k,fuel+1,b,u,i,a,p,hf=>by
  rw[i5.eq_2,if_neg (by simp;omega),I1 (by omega)];exact⟨b,rfl,a⟩
 |d+1,k,fuel+1,b,u,i,a,p,hf=>by
  have t:k<f.length:=by omega
  have l:=d5 t
  have C:=w _ (List.mem_of_getElem? l)
  have q:=K1 l
  generalize f[k]=x at l C q
  have J:=Y03 n u i.1 i.2
  have H:C1 (r,(n:Int),es) v x = -1∨(0<=C1 (r,(n:Int),es) v x/\C1 (r,(n:Int),es) v x<(n:Int)):=S06 m v x
  have E:=y0p i H
  have g:=λj h=>D0m r n es m G s f w F v hv d (k+1) fuel j _ E h (by omega) (by omega)
  rw[i5.eq_2,if_pos (by simp;omega),q]
  simp only[V1 l,oB,j0l (r,(n:Int),es) v x C s,F0 (s0m m (show(n:Int)<=40 by omega) v x),C2 t (show f.length<=9223372036854775807 by omega),c04]
  generalize C1 (r,(n:Int),es) v x=y at *
  by_cases c1:0<=y
  ·have o:y<(n:Int):=by omega
   simp only[show decide (y ≥ 0)=true by simpa using c1,Z2,giO a.len c1 o,oB,cond_true]
   by_cases c2:y∈u
   ·have : ¬ ((c00 b y).isNone=true):=λh=>(a.iff y c1 o).1 h c2
    have e:z09 u y=u:=if_neg λh=>h.2 c2
    rw[if_neg this]
    rw[e]at g ⊢
    exact g b a
   ·have:(c00 b y).isNone=true:=(a.iff y c1 o).2 c2
    have e:z09 u y=u ++ [y]:=if_pos ⟨c1,c2⟩
    have A:=a.short v
    rw[if_pos this,giO a.len hv.1 hv.2,oB,i0r (by omega),oB,F0 (by simp;omega),oB,F0 (by simp;omega),oB]
    rw[e]at g ⊢
    refine g _ ⟨by simp[a.len],λz h0 D=>?_,λz=>?_⟩
    ·rw[h01 c1 (by have:=a.len;omega) h0]
     by_cases c:z=y
     ·rw[if_pos c];simp[c]
     ·rw[if_neg c,a.iff z h0 D];simp[c]
    ·by_cases hz:0<=z
     ·rw[h01 c1 (by have:=a.len;omega) hz]
      by_cases c:z=y
      ·rw[if_pos c];simp;exact A
      ·rw[if_neg c];have:=a.short z;simp only[List.length_append];omega
     ·have I:c00 (b.set y.toNat (some ((c00 b v).getD [] ++ [x]))) z=c00 (b.set y.toNat (some ((c00 b v).getD [] ++ [x]))) 0:=by
       unfold c00;rw[show z.toNat=(0:Int).toNat by omega]
      rw[I,h01 c1 (by have:=a.len;omega) (iR 0)]
      by_cases c:(0:Int)=y
      ·rw[if_pos c];simp;exact A
      ·rw[if_neg c];have:=a.short 0;simp only[List.length_append];omega
  ·have e:z09 u y=u:=if_neg λh=>c1 h.1
   simp only[show decide (y ≥ 0)=false by simpa using c1,L4,oB,cond_false]
   rw[if_neg (by simp)]
   rw[e]at g ⊢
   exact g b a
theorem E0m(R n:Nat)(h:R<=900)(es:List J0)(d:inG ((R:Int),(n:Int),es))(m:n<=40)(k:es.length<=1099511627776):∀(f i fuel:Nat) (b:List (Option (List Int))) (u:List Int),gud n u->WOk n b u->i<=u.length->n+1<=i+f->f<fuel ->
  ∃ p,L6 (R:Int) (n:Int) es fuel (i:Int) b u=some (p,E00 ((R:Int),(n:Int),es) (b01 R 1) f i u)
 |f,i,0,b,u,a,g,l,j,hf=>by omega
 |0,i,fuel+1,b,u,a,g,l,j,hf=>by have:=Y03 n u a.1 a.2;omega
 |f+1,i,fuel+1,b,u,a,g,l,j,hf=>by
  have x:=Y03 n u a.1 a.2
  rw[L6.eq_2,oB,F0 (by omega),oB]
  by_cases hk:i<u.length
  ·have c:=d5 hk
   have hv:=a.2 _ (List.mem_of_getElem? c)
   generalize u[i]=v at c hv
   obtain⟨q,h0,o⟩:=D0m (R:Int) n es d m k (b01 R 1) (T0h R 1 (by omega)) (by rw[L0a];omega) v hv (b01 R 1).length 0 Q0 b u a g (by omega) (j1 (by rw[L0a];omega))
   rw[show((0:Nat):Int)=0 from rfl,List.drop_zero]at h0
   rw[List.drop_zero]at o
   obtain⟨t,e⟩:=x03 ((R:Int),(n:Int),es) v (b01 R 1) u
   obtain⟨w,s⟩:=E0m R n h es d m k f (i+1) fuel q _ (l06 d v _ u a) o (by rw[e,List.length_append];omega) (by omega) (by omega)
   rw[if_pos (by simpa using hk),V1 c,oB,y0s R h,oB,h0,oB]
   simp only[C2 hk (show u.length<=9223372036854775807 by omega),s,E00,c]
   exact⟨_,rfl⟩
  ·have c:u[i]?=none:=List.getElem?_eq_none (by omega)
   rw[if_neg (by simpa using hk)]
   simp only[E00,c]
   exact⟨_,rfl⟩
theorem I0j(g:j0)(hf:Z0 g=true):s8 g=some (q00 g):=by
 obtain⟨b,h,i,j⟩:=j4 hf
 have k:=b05 g (by omega)
 obtain⟨r,n,es⟩:=g
 simp only at h i j
 obtain⟨a,rfl⟩:∃ a:Nat,n=(a:Int):=⟨n.toNat,by omega⟩
 obtain⟨R,rfl⟩:∃ R:Nat,r=(R:Int):=⟨r.toNat,by omega⟩
 unfold s8
 have d:∀ x,c00 (List.replicate a (none:Option (List Int))) x=none:=λx=>by
  unfold c00
  rw[List.getD_eq_getElem?_getD,List.getElem?_replicate];split<;>rfl
 have l:WOk a ((List.replicate a (none:Option (List Int))).set (0:Int).toNat (some [])) [0]:=by
  refine⟨by simp,λx h0 b=>?_,λx=>?_⟩
  ·rw[h01 (iR 0) (by simp;omega) h0]
   by_cases c:x=0
   ·rw[if_pos c];simp[c]
   ·rw[if_neg c,d];simp[c]
  ·by_cases hz:0<=x
   ·rw[h01 (iR 0) (by simp;omega) hz]
    split
    ·simp
    ·rw[d];simp
   ·have:c00 ((List.replicate a (none:Option (List Int))).set (0:Int).toNat (some [])) x=c00 ((List.replicate a (none:Option (List Int))).set (0:Int).toNat (some [])) 0:=by
     unfold c00;rw[show x.toNat=(0:Int).toNat by omega]
    rw[this,h01 (iR 0) (by simp;omega) (iR 0),if_pos rfl];simp
 obtain⟨o,h0⟩:=E0m R a (by omega) es b (by omega) (by omega) (a+1) 0 Q0 _ [0] ⟨by simp,λx f=>by simp at f;subst f;omega⟩ l (by simp) (by omega) (j1 (by omega))
 have m:gi (List.replicate a (none:Option (List Int))) 0=some none:=by
  rw[J05 (x:=none)];rw[List.getElem?_replicate,if_pos (by omega)]
 simp only[k,hf,oB,Bool.not_true,E01,Int.toNat_natCast]
 rw[if_neg (by simp),F0 (by omega),oB,m,oB]
 rw[show((0:Nat):Int)=0 from rfl]at h0
 rw[h0]
 rfl
def c03(g:j0):j0:=O8 g (q00 g)
theorem G0c(g:j0)(hf:Z0 g=true):n7 g=some (c03 g):=by
 obtain⟨c,f,h,i⟩:=j4 hf
 have j:=b05 g (by omega)
 have k:=I0j g hf
 obtain⟨b,o⟩:=Q0b hf
 have l:=Y03 _ _ b.1 b.2
 obtain⟨r,n,es⟩:=g
 simp only at f h i
 obtain⟨a,rfl⟩:∃ a:Nat,n=(a:Int):=⟨n.toNat,by omega⟩
 simp only[Int.toNat_natCast]at b l
 have m:=p0l r a es (q00 (r,(a:Int),es)) (λe d=>⟨(c e d).1,(c e d).2.1⟩) b.2 (by omega) (by omega) (by omega)
 unfold n7
 simp only[j,hf,oB,Bool.not_true,k,m]
 rfl
theorem H0c(g:j0)(hf:Z0 g=true):l7 g=some (c03 g):=by
 obtain⟨o,f,i,j⟩:=j4 hf
 have k:O0 g=true:=by
  unfold Z0 at hf;exact(Bool.and_eq_true _ _▸hf).1
 have l:=H0j g hf
 obtain⟨a,c⟩:=Q0b hf
 have d:=Y03 _ _ a.1 a.2
 obtain⟨r,n,es⟩:=g
 simp only at f i j
 obtain⟨b,rfl⟩:∃ b:Nat,n=(b:Int):=⟨n.toNat,by omega⟩
 simp only[Int.toNat_natCast]at a d
 have m:=G0e r b es (q00 (r,(b:Int),es)) k a.2 a.1 c d
 unfold l7
 simp only[oB,l,m]
 rw[if_neg (by simp;intro h;rw[h]at c;simp at c)]
 rfl
def lf(bad:Nat->Bool):Nat->Nat->Option Nat
 |0,v=>none
 |d+1,v=>bif bad v then some v else lf bad d (v+1)
theorem X07{bad:Nat->Bool}:∀(d v k:Nat),lf bad d v=some k->v<=k/\k<v+d
 |0,v,k,h=>by cases h
 |d+1,v,k,h=>by
  unfold lf at h
  cases hb:bad v
  ·rw[hb]at h;have:=X07 d (v+1) k h;omega
  ·rw[hb]at h;cases h;omega
theorem K0e{a b:Nat->Bool}:∀(d v:Nat),(∀ k,v<=k->k<v+d->a k=b k)->lf a d v=lf b d v
 |0,v,h=>rfl
 |d+1,v,h=>by unfold lf;rw[h v (Nat.le_refl _) (by omega),K0e d (v+1) λk c f=>h k (by omega) (by omega)]
def S0n(es:List J0):List Int:=itS es (es.length+1) [0]
def M0a(es:List J0)(v:Nat):Bool:=decide (X03 (v:Int) es<2) || !decide ((v:Int)∈S0n es)
def d00(g:j0):Option Nat:=lf (M0a g.2.2) (g.2.1.toNat-1) 1
theorem q0l(g:j0)(b:O0 g=true):M9 g 0=some (S0n g.2.2)/\(S0n g.2.2).length<=100000:=by
 obtain⟨j,d,f,a⟩:=B3 b
 have i:=G8 g (by omega)
 obtain⟨r,n,es⟩:=g
 simp only at d f a
 unfold M9 S0n
 have c:=C0e es a (es.length+1) 0 Q0 [0] (by omega) (j1 (by omega)) (by simp)
 have h:=u0m es (es.length+1) [0]
 refine⟨?_,?_⟩
 ·rw[show((0:Nat):Int)=0 from rfl]at c
  simp only[i,b,oB,Bool.not_true,Bool.not_false,Z2,M00,inR,w64 (show -9223372036854775808<=n-1 by omega) (show n-1<=9223372036854775807 by omega)]
  rw[if_neg (by simp;omega),c];rfl
 ·have:(es.length+1)*(2*es.length)<=121*240:=Nat.mul_le_mul (by omega) (by omega)
  simp only[List.length_singleton]at h
  simp only
  omega
theorem z0p(r:Int)(n:Nat)(es:List J0)(c:es.length<=1000)(u:List Int)(g:u.length<=100000)(f:n<=40):∀(d v fuel:Nat),v+d=n∨(d=0/\n<=v)->v<=1000->d<fuel ->
  n8 (n:Int) r es u fuel (v:Int)=some (match lf (λv=>decide (X03 (v:Int) es<2) || !decide ((v:Int)∈u)) d v with|some k => .inl (k:Int)|none => .inr ())
 |d,v,0,b,hv,hf=>by omega
 |0,v,fuel+1,b,hv,hf=>by
  rw[n8.eq_2,if_neg (by simp;omega)];rfl
 |d+1,v,fuel+1,b,hv,hf=>by
  have h:=z0p r n es c u g f d (v+1) fuel (by omega) (by omega) (by omega)
  have i:=P0h (v:Int) es
  rw[n8.eq_2,if_pos (by simp;omega),v0g (r,(n:Int),es) _ (by simp only;omega),oB,F0 (c64 (by simp only;omega) (by simp only;omega)),oB,C2 (show v<10000 by omega) (by omega)]
  unfold lf
  by_cases c1:X03 (v:Int) es<2
  ·have a:decide (((X03 (v:Int) es:Nat):Int)<2)=true:=decide_eq_true (by omega)
   simp only[a,Bool.not_true,L4,oB,cond_true,if_true,decide_eq_true c1,Bool.true_or]
  ·have a:decide (((X03 (v:Int) es:Nat):Int)<2)=false:=decide_eq_false (by omega)
   simp only[a,Bool.not_false,Z2,q0d u _ (show u.length<=9223372036854775807 by omega),oB,cond_false,decide_eq_false c1,Bool.false_or]
   by_cases c2:(v:Int)∈u
   ·simp only[decide_eq_true c2,Bool.not_true,Bool.false_eq_true,if_false,cond_false];exact h
   ·simp only[decide_eq_false c2,Bool.not_false,if_true,cond_true]
theorem A0p(g:j0)(d:O0 g=true):w01 g=some (match d00 g with|some k=>(k:Int)|none => -1):=by
 obtain⟨b,c⟩:=q0l g d
 obtain⟨l,f,h,i⟩:=B3 d
 obtain⟨r,n,es⟩:=g
 simp only at f h i b c
 obtain⟨a,rfl⟩:∃ a:Nat,n=(a:Int):=⟨n.toNat,by omega⟩
 unfold w01 d00
 have j:=z0p r a es (by omega) (S0n es) c (by omega) (a-1) 1 Q0 (by omega) (by omega) (j1 (by omega))
 simp only[b,oB,Int.toNat_natCast]
 rw[show(1:Int)=((1:Nat):Int) from rfl,j]
 rw[show(λv:Nat=>decide (X03 (v:Int) es<2) || !decide ((v:Int)∈S0n es))=M0a es from rfl]
 cases lf (M0a es) (a-1) 1<;>rfl
theorem U0h(r:Int)(n:Nat)(es:List J0)(m:es.length<=1000)(a:List Bool)(g:a.length=n)(o:n<=40):∀(d v fuel:Nat),1<=v->v+d=n∨(d=0/\n<=v)->v<=1000->d+1<fuel ->
  F4 (n:Int) r es a fuel 0 (v:Int)=some (match lf (λv=>decide (X03 (v:Int) es<2) || !C9 a (v:Int)) d v with|some k=>(k:Int)|none=>0)
 |d,v,0,f,h,hv,hf=>by omega
 |0,v,fuel+1,f,h,hv,hf=>by
  have e:decide ((v:Int)<(n:Int))=false:=decide_eq_false (by omega)
  rw[F4.eq_2,if_neg (by rw[e];simp)];rfl
 |d+1,v,fuel+1,f,h,hv,hf=>by
  have p:=U0h r n es m a g o d (v+1) fuel (by omega) (by omega) (by omega) (by omega)
  have q:=P0h (v:Int) es
  have e:decide ((v:Int)<(n:Int))=true:=decide_eq_true (by omega)
  have i:∀ w:Int,F4 (n:Int) r es a fuel (v:Int) w=some (v:Int):=λw=>by
   obtain _|fuel:=fuel
   ·omega
   ·have j:decide ((v:Int)=0)=false:=decide_eq_false (by omega)
    have l:∀ b:Bool,(bif b then false else false)=false:=λb=>by cases b<;>rfl
    rw[F4.eq_2,if_neg (by rw[j,l];simp)]
  rw[F4.eq_2,if_pos (by rw[e];rfl),P0n (r,(n:Int),es) _ (by simp only;omega),oB,F0 (c64 (by simp only;omega) (by simp only;omega)),oB,C2 (show v<10000 by omega) (by omega)]
  unfold lf
  by_cases c1:X03 (v:Int) es<2
  ·have c:decide (((X03 (v:Int) es:Nat):Int)<2)=true:=decide_eq_true (by omega)
   simp only[c,Bool.not_true,L4,oB,cond_true,if_true,decide_eq_true c1,Bool.true_or,i]
  ·have c:decide (((X03 (v:Int) es:Nat):Int)<2)=false:=decide_eq_false (by omega)
   simp only[c,Bool.not_false,Z2,giB g (show(0:Int)<=(v:Int) by omega) (show(v:Int)<(n:Int) by omega),oB,cond_false,decide_eq_false c1,Bool.false_or]
   cases hb:C9 a (v:Int)
   ·simp only[Bool.not_false,if_true,cond_true,i]
   ·simp only[Bool.not_true,Bool.false_eq_true,if_false,cond_false];exact p
def wo(g:Nat):Nat->Nat->List Int
 |0,k=>[]
 |d+1,k=>if k=g then wo g d (k+1)else(k:Int)::wo g d (k+1)
theorem V0h(g:Nat):∀(d k:Nat),(wo g d k).length=d-(if k<=g/\g<k+d then 1 else 0)
 |0,k=>by simp[wo]
 |d+1,k=>by
  have a:=V0h g d (k+1)
  unfold wo
  by_cases c:k=g
  ·rw[if_pos c,a,if_neg (by omega),if_pos (by omega)];omega
  ·rw[if_neg c,List.length_cons,a]
   by_cases c2:k+1<=g/\g<k+1+d
   ·rw[if_pos c2,if_pos (by omega)];omega
   ·rw[if_neg c2,if_neg (by omega)];omega
theorem F0m(g n:Nat):∀(d k:Nat),k+d<=n->inV n (wo g d k)
 |0,k,h=>λx a=>nomatch a
 |d+1,k,h=>by
  have b:=F0m g n d (k+1) (by omega)
  unfold wo
  split
  ·exact b
  ·intro x a
   rcases List.mem_cons.1 a with rfl|a
   ·omega
   ·exact b x a
theorem W0h(n g:Nat)(j:n<=1000):∀(d k fuel:Nat) (acc:List Int),k+d=n->d<fuel->acc.length<=k ->
  F5 (n:Int) (g:Int) fuel (k:Int) acc=some (acc++wo g d k)
 |d,k,0,acc,b,hf,a=>by omega
 |0,k,fuel+1,acc,b,hf,a=>by
  rw[F5.eq_2,if_neg (by simp;omega)];simp[wo]
 |d+1,k,fuel+1,acc,b,hf,a=>by
  have f:=λi h=>W0h n g j d (k+1) fuel i (by omega) (by omega) h
  rw[F5.eq_2,if_pos (by simp;omega),C2 (show k<10000 by omega) (by omega)]
  unfold wo
  by_cases c:k=g
  ·have e:decide ((k:Int)=(g:Int))=true:=decide_eq_true (by omega)
   rw[e,if_neg (by simp),if_pos c,f _ (by omega)]
  ·have e:decide ((k:Int)=(g:Int))=false:=decide_eq_false (by omega)
   rw[e,if_pos (show(!false)=true from rfl),if_neg c,F0 (by simp;omega),oB,f _ (by simp;omega)]
   simp
theorem X0h(n:Nat)(g:n<=1000):∀(d k fuel:Nat) (acc:List Int),k+d=n->d<fuel->acc.length=k ->
  ∃ u,j6 (n:Int) fuel (k:Int) acc=some u/\u.length=n
 |d,k,0,acc,b,hf,a=>by omega
 |0,k,fuel+1,acc,b,hf,a=>by
  rw[j6.eq_2,if_neg (by simp;omega)];exact⟨_,rfl,by omega⟩
 |d+1,k,fuel+1,acc,b,hf,a=>by
  obtain⟨u,c,f⟩:=X0h n g d (k+1) fuel (acc ++ [(k:Int)]) (by omega) (by omega) (by simp;omega)
  rw[j6.eq_2,if_pos (by simp;omega),C2 (show k<10000 by omega) (by omega),F0 (by simp;omega),oB,c]
  exact⟨u,rfl,f⟩
theorem P03{a:Type}{xs:List a}{k:Nat}(h:k<=xs.length):W03 xs 0 (k:Int)=some (xs.take k):=by
 unfold W03
 rw[if_pos (by omega)];rfl
theorem G0m:∀(n fuel:Nat) (left:List Int) (r:Int) (es:List J0),1<=n->n<=40->inN n es->es.length<=120->left.length=n->n<fuel ->
  ∃(a:j0) (f:List Int),G5 fuel left r (n:Int) es=some (.inl (a,f))/\a.2.1<=(n:Int)/\(a.2.1=(n:Int)↔lf (M0a es) (n-1) 1=none)
 |n,0,left,r,es,g,i,b,w,x,hf=>by omega
 |n,fuel+1,left,r,es,g,i,b,w,x,hf=>by
  obtain⟨c,s,C,t⟩:=E0j r n es b (by omega) g (by omega)
  have p:=U0h r n es (by omega) c C i (n-1) 1 Q0 (Nat.le_refl _) (by omega) (by omega) (j1 (by omega))
  have u:lf (λv=>decide (X03 (v:Int) es<2) || !C9 c (v:Int)) (n-1) 1=lf (M0a es) (n-1) 1:=K0e _ _ λk F G=>by
   unfold M0a
   have:=t (k:Int) (by omega) (by omega)
   have j:=J0a es 0 (k:Int)
   congr 2
   cases hb:C9 c (k:Int)
   ·symm;exact decide_eq_false λh=>by rw[this.2 (j.1 h)]at hb;cases hb
   ·symm;exact decide_eq_true (j.2 (this.1 hb))
  rw[u]at p
  rw[G5.eq_2,s,oB,show(1:Int)=((1:Nat):Int) from rfl,p,oB]
  cases hlf:lf (M0a es) (n-1) 1 with
  |none =>
   exact⟨(r,(n:Int),es),left,by rw[if_pos (by rfl)],iR _,by simp⟩
  |some k =>
   have E:=X07 _ _ _ hlf
   have q:decide ((k:Int)=0)=false:=decide_eq_false (by omega)
   have l:=F0m k n n 0 (by omega)
   have d:=V0h k n 0
   rw[if_pos (by omega)]at d
   have o:=W0h n k (by omega) n 0 Q0 [] (by omega) (j1 (by omega)) (Nat.le_refl _)
   rw[show((0:Nat):Int)=0 from rfl,List.nil_append]at o
   have y:=p0l r n es (wo k n 0) b l (by omega) (by omega) (by omega)
   have z:=y09 (r,(n:Int),es) (wo k n 0)
   have m:=B0g (r:=r) l b
   have A:IntKind.i64.wrap ((k:Int)+((1:Nat):Int))=((k+1:Nat):Int):=by rw[w64 (by omega) (by omega)];rfl
   obtain⟨a,f,D,H,I⟩:=G0m (n-1) fuel (left.take k++left.drop (k+1)) r (O8 (r,(n:Int),es) (wo k n 0)).2.2 (by omega) (by omega) (by rw[d]at m;exact m) (by simp only at z;omega) (by simp only[List.length_append,List.length_take,List.length_drop];omega) (by omega)
   refine⟨a,f,?_,by omega,?_⟩
   ·simp only[q,Bool.false_eq_true,if_false,o,oB,y]
    rw[show O8 (r,(n:Int),es) (wo k n 0)=(r,((n-1:Nat):Int),(O8 (r,(n:Int),es) (wo k n 0)).2.2) by rw[←d];rfl]
    simp only[A]
    rw[P03 (by omega),oB,v03 (by omega),oB,F0 (by simp only[List.length_take,List.length_drop];omega),oB,D]
   ·constructor
    ·intro h;omega
    ·intro h;cases h
theorem r0l(g:j0)(j:O0 g=true):∃(b:j0) (c:List Int),H7 g=some (b,c)/\(b.2.1=g.2.1↔d00 g=none):=by
 obtain⟨f,l,m,h⟩:=B3 j
 have q:=x01 g (by omega)
 have o:=w03 g (by omega)
 obtain⟨r,n,es⟩:=g
 simp only at l m h
 obtain⟨a,rfl⟩:∃ a:Nat,n=(a:Int):=⟨n.toNat,by omega⟩
 have p:inN a es:=λe i=>⟨(f e i).1,(f e i).2.1⟩
 obtain⟨u,d,k⟩:=X0h a (by omega) a 0 Q0 [] (by omega) (j1 (by omega)) rfl
 obtain⟨b,c,s,v,t⟩:=G0m a Q0 u r es (by omega) (by omega) p h k (j1 (by omega))
 refine⟨b,c,?_,?_⟩
 ·unfold H7
  rw[show((0:Nat):Int)=0 from rfl]at d
  simp only[o,oB,q,j,Bool.not_true,Bool.false_eq_true,if_false,d,s,t7]
 ·simp only[d00,Int.toNat_natCast];exact t
def r00(g:j0):Bool:=Z0 g&&((d00 g).isNone&&D0j (c03 g) g)
theorem w7{g:j0}(h:Z0 g=true):O0 g=true:=by
 unfold Z0 at h;exact(Bool.and_eq_true _ _▸h).1
theorem C0g{g:j0}(hf:Z0 g=true):(c03 g).2.2.length<=120:=by
 have:=y09 g (q00 g)
 have:=(j4 hf).2.2.2
 unfold c03;omega
theorem N0a(g:j0)(l:g.2.2.length<=140737488355328):D00 g=some (r00 g):=by
 have b:=b05 g l
 unfold r00
 by_cases hf:Z0 g=true
 ·obtain⟨f,t,d,a⟩:=r0l g (w7 hf)
  have h:=G0c g hf
  have i:=Q0n (c03 g) g (by have:=C0g hf;omega)
  obtain⟨r,n,es⟩:=g
  obtain⟨u,o,es'⟩:=f
  unfold D00
  simp only at a
  generalize c03 (r,n,es)=C at *
  obtain⟨p,q,s⟩:=C
  simp only[b,hf,oB,Bool.not_true,Bool.false_eq_true,if_false,d,h]
  by_cases c:o=n
  ·have:=a.1 c
   simp only[decide_eq_true c,Z2,oB,i,cond_true,this,Option.isNone_none,Bool.true_and]
  ·have m:(d00 (r,n,es)).isNone=false:=by
    cases hq:d00 (r,n,es)with
    |none=>exact absurd (a.2 hq) c
    |some k=>rfl
   simp only[decide_eq_false c,L4,oB,cond_false,m,Bool.false_and,Bool.and_false]
 ·have j:Z0 g=false:=Bool.eq_false_iff.2 hf
  obtain⟨r,n,es⟩:=g
  unfold D00
  simp only[b,j,oB,Bool.not_false,if_true,Bool.false_and]
theorem Y0h(g:j0)(l:g.2.2.length<=140737488355328):B00 g=some (r00 g):=by
 have a:=U07 g l
 unfold r00
 by_cases hf:Z0 g=true
 ·have h:=A0p g (w7 hf)
  have d:=H0c g hf
  have f:=R0n (c03 g) g (by have:=C0g hf;omega)
  obtain⟨q,s,c,t⟩:=j4 hf
  obtain⟨r,n,es⟩:=g
  unfold B00
  generalize c03 (r,n,es)=C at *
  obtain⟨m,o,p⟩:=C
  simp only[a,hf,oB,Z2,h,cond_true]
  cases hq:d00 (r,n,es)with
  |none =>
   simp only[F0 (show K0 (-1) by decide),oB,show decide ((-1:Int)<0)=true from rfl,Z2,d,f,cond_true,Option.isNone_none,Bool.true_and]
  |some k =>
   have j:=X07 _ _ _ hq
   simp only at c
   simp only at j
   have b:decide ((k:Int)<0)=false:=decide_eq_false (by omega)
   simp only[F0 (show K0 (k:Int) from c64 (by omega) (by omega)),oB,b,L4,cond_false,Option.isNone_some,Bool.false_and,Bool.and_false]
 ·have i:Z0 g=false:=Bool.eq_false_iff.2 hf
  obtain⟨r,n,es⟩:=g
  unfold B00
  simp only[a,i,oB,L4,F0 (show K0 0 by decide),cond_false,Bool.false_and]
theorem J0j{g:Type}{d:g->g->Int}(h:K8 d):∀ {l:List g},(∀ i x c,l[i]?=some x->l[i+1]?=some c->d x c<0)->Asc d l
 | [],_=>List.Pairwise.nil
 | [x],_=>List.pairwise_singleton _ _
 |x::c::l,j=>by
  have m:Asc d (c::l):=J0j h λi a b n o=>j (i+1) a b (by simpa using n) (by simpa using o)
  have k:=j 0 x c rfl rfl
  refine List.pairwise_cons.2 ⟨λz f=>?_,m⟩
  rcases List.mem_cons.1 f with rfl|f
  ·exact k
  ·exact h.trans _ _ _ k ((List.pairwise_cons.1 m).1 z f)
theorem B0p{f:Type}{g:f->f->Int}:∀ {l:List f},Asc g l->∀ {i:Nat} {x c:f},l[i]?=some x->l[i+1]?=some c->g x c<0
 | [],_,i,x,c,b,_=>by simp at b
 |a::l,h,0,x,c,b,d=>by
  simp at b d;subst b
  exact(List.pairwise_cons.1 h).1 c (List.mem_of_getElem? d)
 |a::l,h,i+1,x,c,b,d=>B0p (List.pairwise_cons.1 h).2 (i:=i) (by simpa using b) (by simpa using d)
theorem C0p{r a:Int}{es:List J0}:∀ {d k:Nat},(∀ i,k<=i->i<k+d->o0p r a es i=false)->okE r a es d k=true
 |0,k,h=>rfl
 |d+1,k,h=>by
  simp only[okE,Bool.and_eq_true,Bool.not_eq_true']
  exact⟨h k (Nat.le_refl _) (by omega),C0p λi b c=>h i (by omega) (by omega)⟩
theorem P02(g:j0):O0 g=true↔inG g/\(1<=g.1/\g.1<=3)/\(1<=g.2.1/\g.2.1<=40)/\g.2.2.length<=120/\Asc P0 g.2.2:=by
 constructor
 ·intro h
  obtain⟨m,c,d,k⟩:=B3 h
  refine⟨m,c,d,k,J0j Y3 λi x p a b=>?_⟩
  simp only[O0,Bool.and_eq_true]at h
  have l:=h0l h.1.1.1 (i+1) (Nat.zero_le _) (by have:=(List.getElem?_eq_some_iff.1 b).1;omega)
  rw[A0a b]at l
  simp only[Nat.add_sub_cancel,a,Bool.or_eq_false_iff]at l
  have:=l.2
  simp only[show decide (0<i+1)=true by simp,Bool.true_and,decide_eq_false_iff_not]at this
  have e:p0e x p=P0 x p:=rfl
  omega
 ·rintro⟨m,c,d,k,o⟩
  obtain⟨r,n,es⟩:=g
  simp only at c d k o
  simp only[O0,inR,Bool.and_eq_true,decide_eq_true_eq]
  refine⟨⟨⟨C0p λi _ t=>?_,c⟩,d⟩,k⟩
  have a:=d5 (show i<es.length by omega)
  generalize es[i]=e at a
  rw[A0a a]
  have s:=m e (List.mem_of_getElem? a)
  simp only at s
  simp only[Bool.or_eq_false_iff,Bool.not_eq_false',K05,inR,Bool.and_eq_true,decide_eq_true_eq]
  rw[w64 (by omega) (by omega)]
  refine⟨⟨⟨⟨by omega,by omega⟩,by omega,by omega⟩,by omega,by omega⟩,?_⟩
  cases i with
  |zero=>rfl
  |succ j =>
   have b:=d5 (show j<es.length by omega)
   generalize es[j]=f at b
   have:=B0p o b a
   simp only[Nat.add_sub_cancel,b]
   have q:p0e f e=P0 f e:=rfl
   simp[q];omega
theorem O0a{r:Int}{n:Int}{es:List J0}(d:1<=r/\r<=3)(c:1<=n/\n<=40)(f:es.length<=120)(b:inG (r,n,es)):O0 (r,n,K6 P0 [] es)=true:=by
 refine(P02 _).2 ⟨λe a=>b e ?_,d,c,?_,N01 Y3 _ _ List.Pairwise.nil⟩
 ·rcases(D4 Y3 e es []).1 a with h|h
  ·simp at h
  ·exact h
 ·have:=O02 es []
  simp only[List.length_nil]at this
  simp only;omega
def d04(a b:J0):List (Int×Int) :=
 bif decide (a.2.1=b.2.1)then(bif decide (a.1=b.1)then [(if b.2.2<a.2.2 then b.2.2 else a.2.2,if b.2.2>a.2.2 then b.2.2 else a.2.2)]else [])++(bif decide (a.2.2=b.2.2)then [(if b.1<a.1 then b.1 else a.1,if b.1>a.1 then b.1 else a.1)]else [])else []
def i01(a:J0):List J0->List (Int×Int)
 | []=>[]
 |b::r=>d04 a b++i01 a r
def Y4:List J0->List (Int×Int)
 | []=>[]
 |a::r=>i01 a r++Y4 r
theorem T0n(a b:J0):(d04 a b).length<=2:=by
 unfold d04
 cases decide (a.2.1=b.2.1)<;>cases decide (a.1=b.1)<;>cases decide (a.2.2=b.2.2)<;>simp
theorem R0b(a:J0):∀ l,(i01 a l).length<=2*l.length
 | []=>by simp[i01]
 |b::r=>by have:=T0n a b;have:=R0b a r;simp only[i01,List.length_append,List.length_cons];omega
def mvV(f:Int×Int)(v:Int):Int:=if v=f.2 then f.1 else if v>f.2 then v-1 else v
def mvE(f:Int×Int)(e:J0):J0:=(mvV f e.1,e.2.1,mvV f e.2.2)
def R4(g:j0)(f:Int×Int):j0:=(g.1,g.2.1-1,K6 P0 [] (g.2.2.map (mvE f)))
def okF(g:j0)(f:Int×Int):Prop:=0<=f.1/\f.1<f.2/\f.2<g.2.1
theorem s00{g:j0}{f:Int×Int}(k:O0 g=true)(hf:okF g f):O0 (R4 g f)=true:=by
 obtain⟨l,m,p,n,_⟩:=(P02 g).1 k
 obtain⟨o,f2,f3⟩:=hf
 refine O0a m ⟨by omega,by omega⟩ (by simpa using n) λe i=>?_
 obtain⟨h,j,rfl⟩:=List.mem_map.1 i
 obtain⟨b,c,d⟩:=l h j
 have a:∀ v:Int,0<=v/\v<g.2.1->0<=mvV f v/\mvV f v<g.2.1-1:=λv hv=>by
  unfold mvV;split
  ·omega
  ·split<;>omega
 exact⟨a _ b,a _ c,d⟩
theorem K0j{g:j0}(m:inG g){a:J0}(o:a∈g.2.2):∀ {l:List J0},(∀ b∈l,b∈g.2.2/\a≠b)->∀ f∈i01 a l,okF g f
 | [],_,f,hf=>by simp[i01]at hf
 |b::r,h,f,hf=>by
  rcases List.mem_append.1 (show f∈d04 a b++i01 a r from hf)with hf|hf
  ·have u:=m b (h b mS).1
   have t:=m a o
   have w:=(h b mS).2
   obtain⟨d,p,i⟩:=a
   obtain⟨j,s,k⟩:=b
   simp only at t u
   unfold d04 at hf
   simp only at hf
   by_cases c1:p=s
   ·have n : ¬ (d=j/\i=k):=λ⟨x,c⟩=>w (by rw[x,c1,c])
    simp only[c1,decide_true,cond_true,List.mem_append]at hf
    rcases hf with hf|hf
    ·by_cases c2:d=j
     ·simp only[c2,decide_true,cond_true,List.mem_singleton]at hf
      subst hf
      have:i≠k:=λc=>n ⟨c2,c⟩
      unfold okF
      simp only
      split<;>split<;>omega
     ·simp[c2]at hf
    ·by_cases c2:i=k
     ·simp only[c2,decide_true,cond_true,List.mem_singleton]at hf
      subst hf
      have:d≠j:=λc=>n ⟨c,c2⟩
      unfold okF
      simp only
      split<;>split<;>omega
     ·simp[c2]at hf
   ·simp[c1]at hf
  ·exact K0j m o (λq v=>h q (mC _ v)) f hf
theorem L0j{g:j0}(i:inG g):∀ {l:List J0},(∀ b∈l,b∈g.2.2)->Asc P0 l->∀ f∈Y4 l,okF g f
 | [],_,_,f,hf=>by simp[Y4]at hf
 |a::r,h,d,f,hf=>by
  rcases List.mem_append.1 (show f∈i01 a r++Y4 r from hf)with hf|hf
  ·refine K0j i (h a mS) (λb c=>⟨h b (mC _ c),λe=>?_⟩) f hf
   have:=(List.pairwise_cons.1 d).1 b c
   rw[e,Y3.refl]at this;omega
  ·exact L0j i (λb c=>h b (mC _ c)) (List.pairwise_cons.1 d).2 f hf
theorem P8{g:j0}(a:O0 g=true):∀ f∈Y4 g.2.2,okF g f:=by
 obtain⟨b,_,_,_,c⟩:=(P02 g).1 a
 exact L0j b (λ_ h=>h) c
def a5:Nat->j0->j0×List (Int×Int)
 |0,g=>(g,[])
 |n+1,g=>match Y4 g.2.2 with
  | []=>(g,[])
  |f::_=>((a5 n (R4 g f)).1,f::(a5 n (R4 g f)).2)
def E5(g:j0):j0×List (Int×Int):=bif O0 g then a5 40 g else(g,[])
theorem I0c:∀(n:Nat) {g:j0},O0 g=true->O0 (a5 n g).1=true
 |0,g,h=>h
 |n+1,g,h=>by
  unfold a5
  cases e:Y4 g.2.2 with
  |nil=>exact h
  |cons f l=>exact I0c n (s00 h (P8 h f (by rw[e];exact mS)))
theorem A09:∀(n:Nat) {g:j0},O0 g=true->g.2.1<=(n:Int)+1->Y4 (a5 n g).1.2.2 = []
 |0,g,h,a=>by
  cases e:Y4 g.2.2 with
  |nil=>exact e
  |cons f l =>
   have:=P8 h f (by rw[e];exact mS)
   unfold okF at this
   omega
 |n+1,g,h,a=>by
  unfold a5
  cases e:Y4 g.2.2 with
  |nil=>exact e
  |cons f l=>exact A09 n (s00 h (P8 h f (by rw[e];exact mS))) (by show g.2.1-1<=_;omega)
theorem U0n(a b:J0):d04 a b = []↔a05 a b=false:=by
 unfold d04 a05
 cases decide (a.2.1=b.2.1)<;>cases decide (a.1=b.1)<;>cases decide (a.2.2=b.2.2)<;>simp
theorem D0g(a:J0):∀ l,i01 a l = []↔∀ b∈l,a05 a b=false
 | []=>by simp[i01]
 |b::r=>by
  rw[i01,List.append_eq_nil_iff,U0n,D0g a r]
  simp
theorem S0b:∀ l,Y4 l = []↔l.Pairwise λa b=>a05 a b=false
 | []=>by simp[Y4]
 |a::r=>by rw[Y4,List.append_eq_nil_iff,D0g,S0b r,List.pairwise_cons]
theorem L0e(g:j0):Z0 g=true↔O0 g=true/\Y4 g.2.2 = []:=by
 unfold Z0
 rw[Bool.and_eq_true,M0b,S0b]
theorem P01{g:j0}(h:O0 g=true):Z0 (E5 g).1=true:=by
 have a:=(B3 h).2.2.1
 unfold E5
 rw[h]
 exact(L0e _).2 ⟨I0c 40 h,A09 40 h (by omega)⟩
theorem E0g(l:List J0)(a c f:Int)(t:l.length<=1000):∀(d k fuel:Nat) (acc:List K4),k+d=l.length->d<fuel->acc.length+2*d<=4000000 ->
  p5 l c a f fuel (k:Int) acc=some (acc++i01 (a,c,f) (l.drop k))
 |d,k,0,acc,n,hf,m=>by omega
 |0,k,fuel+1,acc,n,hf,m=>by
  rw[p5.eq_2,if_neg (by simp;omega),I1 (by omega)]
  simp[i01]
 |d+1,k,fuel+1,acc,n,hf,m=>by
  have o:k<l.length:=by omega
  have j:=d5 o
  generalize l[k]=b at j
  obtain⟨p,q,s⟩:=b
  have i:∀ g:List K4,g.length+2*d<=4000000->p5 l c a f fuel ((k+1:Nat):Int) g=some (g++i01 (a,c,f) (l.drop (k+1))):=λg h=>E0g l a c f t d (k+1) fuel g (by omega) (by omega) h
  rw[p5.eq_2,if_pos (by simp;omega),V1 j,oB,C2 o (by omega),K1 j]
  simp only[i01,d04]
  cases decide (c=q)
  ·simp only[Bool.not_false,if_true,cond_false,List.nil_append]
   exact i acc (by omega)
  ·cases decide (a=p)<;>cases decide (f=s)
   all_goals simp only[Bool.not_true,Bool.false_eq_true,if_false,if_true,cond_true,cond_false,List.nil_append,List.append_nil]
   ·exact i acc (by omega)
   ·rw[F0 (by simp;omega),oB,i _ (by simp;omega)];simp
   ·rw[F0 (by simp;omega),oB,i _ (by simp;omega)];simp
   ·rw[F0 (by simp;omega),oB,F0 (by simp;omega),oB,i _ (by simp;omega)];simp
theorem F0g(l:List J0)(n:l.length<=1000):∀(d k fuel:Nat) (acc:List K4),k+d=l.length->d<fuel->acc.length+2000*d<=3000000 ->
  Q8 l fuel (k:Int) acc=some (acc++Y4 (l.drop k))
 |d,k,0,acc,i,hf,h=>by omega
 |0,k,fuel+1,acc,i,hf,h=>by
  rw[Q8.eq_2,if_neg (by simp;omega),I1 (by omega)]
  simp[Y4]
 |d+1,k,fuel+1,acc,i,hf,h=>by
  have j:k<l.length:=by omega
  have a:=d5 j
  generalize l[k]=b at a
  obtain⟨c,f,g⟩:=b
  have h0:=E0g (l.drop (k+1)) c f g (by simp;omega) (l.length-(k+1)) 0 Q0 acc (by simp) (j1 (by omega)) (by omega)
  have m:=R0b (c,f,g) (l.drop (k+1))
  simp only[List.length_drop]at m
  rw[Q8.eq_2,if_pos (by simp;omega),V1 a,oB]
  simp only[C2 j (show l.length<=9223372036854775807 by omega)]
  rw[v03 (by omega),oB,show(0:Int)=((0:Nat):Int) from rfl,h0,oB,F0g l n d (k+1) fuel _ (by omega) (by omega) (by simp only[List.length_append,List.drop_zero,List.length_drop]at m ⊢;omega),K1 a,Y4]
  simp
theorem G0g(l:List J0)(v:l.length<=1000)(i:Nat)(a c f:Int)(p:l[i]?=some (a,c,f)):∀(d k fuel:Nat) (acc:List K4),k+d=l.length->d<fuel->acc.length+2*d<=4000000 ->
  M4 l (i:Int) fuel (k:Int) acc=some (acc++i01 (a,c,f) (l.drop k))
 |d,k,0,acc,o,hf,n=>by omega
 |0,k,fuel+1,acc,o,hf,n=>by
  rw[M4.eq_2,if_neg (by simp;omega),I1 (by omega)]
  simp[i01]
 |d+1,k,fuel+1,acc,o,hf,n=>by
  have q:k<l.length:=by omega
  have m:=d5 q
  generalize l[k]=b at m
  obtain⟨s,t,u⟩:=b
  have j:∀ g:List K4,g.length+2*d<=4000000->M4 l (i:Int) fuel ((k+1:Nat):Int) g=some (g++i01 (a,c,f) (l.drop (k+1))):=λg h=>G0g l v i a c f p d (k+1) fuel g (by omega) (by omega) h
  rw[M4.eq_2,if_pos (by simp;omega),V1 p,oB]
  simp only[]
  rw[V1 m,oB,C2 q (by omega),K1 m]
  simp only[i01,d04]
  cases decide (c=t)
  ·simp only[Bool.false_eq_true,if_false,cond_false,List.nil_append]
   exact j acc (by omega)
  ·cases decide (a=s)<;>cases decide (f=u)
   all_goals simp only[Bool.not_true,Bool.false_eq_true,if_false,if_true,cond_true,cond_false,List.nil_append,List.append_nil]
   ·exact j acc (by omega)
   ·rw[F0 (by simp;omega),oB,j _ (by simp;omega)];simp
   ·rw[F0 (by simp;omega),oB,j _ (by simp;omega)];simp
   ·rw[F0 (by simp;omega),oB,F0 (by simp;omega),oB,j _ (by simp;omega)];simp
theorem H0g(l:List J0)(m:l.length<=1000):∀(d k fuel:Nat) (acc:List K4),k+d=l.length->d<fuel->acc.length+2000*d<=3000000 ->
  I7 l fuel (k:Int) acc=some (acc++Y4 (l.drop k))
 |d,k,0,acc,i,hf,h=>by omega
 |0,k,fuel+1,acc,i,hf,h=>by
  rw[I7.eq_2,if_neg (by simp;omega),I1 (by omega)]
  simp[Y4]
 |d+1,k,fuel+1,acc,i,hf,h=>by
  have j:k<l.length:=by omega
  have a:=d5 j
  generalize l[k]=b at a
  obtain⟨c,f,g⟩:=b
  have h0:=G0g l m k c f g a (l.length-(k+1)) (k+1) Q0 acc (by omega) (j1 (by omega)) (by omega)
  have n:=R0b (c,f,g) (l.drop (k+1))
  simp only[List.length_drop]at n
  rw[I7.eq_2,if_pos (by simp;omega),C2 j (by omega),h0,oB,H0g l m d (k+1) fuel _ (by omega) (by omega) (by simp only[List.length_append,List.length_drop]at n ⊢;omega),K1 a,Y4]
  simp
theorem M0j(g:j0)(a:g.2.2.length<=1000):d03 g=some (Y4 g.2.2):=by
 obtain⟨r,n,es⟩:=g
 unfold d03
 simp only
 rw[show(0:Int)=((0:Nat):Int) from rfl,F0g es a es.length 0 Q0 [] (by omega) (j1 (by simp only at a;omega)) (by simp only at a;simp;omega)]
 rfl
theorem N0j(g:j0)(a:g.2.2.length<=1000):R01 g=some (Y4 g.2.2):=by
 obtain⟨r,n,es⟩:=g
 unfold R01
 simp only
 rw[show(0:Int)=((0:Nat):Int) from rfl,H0g es a es.length 0 Q0 [] (by omega) (j1 (by simp only at a;omega)) (by simp only at a;simp;omega)]
 rfl
def R02(g:j0):K4×Bool:=bif O0 g then(match Y4 g.2.2 with
 | []=>((0,0),false)
 |f::_=>(f,true))else((0,0),false)
theorem U0c(g:j0)(c:g.2.2.length<=140737488355328):E9 g=some (R02 g):=by
 have b:=x01 g c
 have a:=M0j g
 unfold R02
 cases hg:O0 g with
 |false =>
  obtain⟨r,n,es⟩:=g
  unfold E9
  simp only[b,hg,oB];rfl
 |true =>
  have a:=a (by have:=(B3 hg).2.2.2;omega)
  obtain⟨r,n,es⟩:=g
  unfold E9
  simp only[b,hg,a,oB,cond_true]
  simp only at a
  cases Y4 es with
  |nil=>rfl
  |cons f l =>
   rw[if_neg (by simp),if_neg (by simp;omega),J05 rfl]
   rfl
theorem V0c(g:j0)(c:g.2.2.length<=140737488355328):D9 g=some (R02 g):=by
 have b:=G8 g c
 have a:=N0j g
 unfold R02
 cases hg:O0 g with
 |false =>
  obtain⟨r,n,es⟩:=g
  unfold D9
  simp only[b,hg,oB];rfl
 |true =>
  have a:=a (by have:=(B3 hg).2.2.2;omega)
  obtain⟨r,n,es⟩:=g
  unfold D9
  simp only[b,hg,a,oB,cond_true]
  simp only at a
  cases Y4 es with
  |nil=>rfl
  |cons f l =>
   rw[if_neg (by simp),if_neg (by simp;omega),J05 rfl]
   rfl
theorem H0m(v:Int)(f:K4)(hv:0<=v/\v<1000)(hf:0<=f.1/\f.1<f.2):h02 v f=some (mvV f v):=by
 obtain⟨a,b⟩:=f
 simp only at hf
 unfold h02 mvV
 simp only
 by_cases c:v=b
 ·rw[if_pos (by simp[c]),if_neg (by simp;omega),if_pos c]
 ·rw[if_neg (by simp[c]),if_neg c]
  by_cases c2:v>b
  ·rw[if_pos (by simp[c2]),if_pos c2,w64 (by omega) (by omega)]
  ·rw[if_neg (by simp;omega),if_neg c2]
theorem O0j(v:Int)(f:K4)(hv:0<=v/\v<1000):A6 v f=some (mvV f v):=by
 obtain⟨a,b⟩:=f
 unfold A6 mvV
 simp only
 by_cases c:v=b
 ·rw[if_pos (by simp[c]),if_pos c]
 ·rw[if_neg (by simp[c]),if_neg c]
  by_cases c2:v>b
  ·rw[if_pos (by simp[c2]),if_pos c2,w64 (by omega) (by omega)]
  ·rw[if_neg (by simp;omega),if_neg c2]
theorem Z0h{f:K4}{v:Int}(hv:0<=v/\v<1000)(hf:0<=f.1/\f.1<1000):K0 (mvV f v):=by
 unfold mvV
 split
 ·exact⟨by omega,by omega⟩
 ·split
  ·exact⟨by omega,by omega⟩
  ·exact⟨by omega,by omega⟩
theorem P0j(es:List J0)(f:K4)(r n:Int)(q:es.length<=1000)(hv:∀ e∈es,(0<=e.1/\e.1<1000)/\(0<=e.2.2/\e.2.2<1000))(hf:0<=f.1/\f.1<f.2)(p:f.2<1000):∀(d k fuel:Nat) (acc:List J0),k+d=es.length->d<fuel->acc.length<=k ->
  S4 es f.1 f.2 fuel (k:Int) r n acc=some (r,n,K6 P0 acc ((es.drop k).map (mvE f)))
 |d,k,0,acc,l,m,j=>by omega
 |0,k,fuel+1,acc,l,m,j=>by
  rw[S4.eq_2,if_neg (by simp;omega),I1 (by omega)]
  rfl
 |d+1,k,fuel+1,acc,l,m,j=>by
  have c:k<es.length:=by omega
  have g:=d5 c
  have a:=hv _ (List.getElem_mem c)
  generalize es[k]=b at g a
  obtain⟨h,o,i⟩:=b
  simp only at a
  have s:=k06 (mvE f (h,o,i)) acc
  rw[S4.eq_2,if_pos (by simp;omega),V1 g,oB]
  simp only[]
  rw[H0m h (f.1,f.2) a.1 hf,oB,F0 (Z0h a.1 ⟨hf.1,by show f.1<1000;omega⟩),oB,H0m i (f.1,f.2) a.2 hf,oB,F0 (Z0h a.2 ⟨hf.1,by show f.1<1000;omega⟩),oB,
   y08 acc _ (by omega),oB,C2 c (by omega),K1 g,List.map_cons]
  exact P0j es f r n q hv hf p d (k+1) fuel _ (by omega) (by omega) (Nat.le_trans s (by omega))
theorem Q0j{g:j0}{f:K4}(d:O0 g=true)(hf:okF g f):J7 g f=some (R4 g f,true):=by
 obtain⟨k,o,l,m⟩:=B3 d
 have i:=G8 g (by omega)
 obtain⟨c,f2,f3⟩:=hf
 obtain⟨r,n,es⟩:=g
 obtain⟨a,b⟩:=f
 simp only at c f2 f3 l m
 have h:=P0j es (a,b) r (IntKind.i64.wrap (n-1)) (by omega) (λe j=>by
  have:=k e j
  simp only at this
  exact⟨⟨by omega,by omega⟩,by omega,by omega⟩) ⟨c,f2⟩ (by simp only;omega) es.length 0 Q0 [] (by omega) (j1 (by omega)) (Nat.le_refl _)
 unfold J7
 simp only[i,d,oB]
 rw[if_neg (by simp;omega),show(0:Int)=((0:Nat):Int) from rfl,h,w64 (by omega) (by omega)]
 rfl
theorem R0j(es:List J0)(f:K4)(s:es.length<=1000)(hv:∀ e∈es,(0<=e.1/\e.1<1000)/\(0<=e.2.2/\e.2.2<1000))(hf:0<=f.1/\f.1<1000):∀(d k fuel:Nat),k+d=es.length->d<fuel ->
  T4 es f.1 f.2 fuel (k:Int) ((es.take k).map (mvE f)++es.drop k)=some (es.map (mvE f))
 |d,k,0,l,m=>by omega
 |0,k,fuel+1,l,m=>by
  rw[T4.eq_2,if_neg (by simp;omega),I1 (by omega),List.append_nil,List.take_of_length_le (by omega)]
 |d+1,k,fuel+1,l,m=>by
  have g:k<es.length:=by omega
  have c:=d5 g
  have a:=hv _ (List.getElem_mem g)
  generalize es[k]=b at c a
  have n:((es.take k).map (mvE f)).length=k:=by simp;omega
  have q:((es.take k).map (mvE f)++es.drop k)[k]?=some b:=by
   rw[List.getElem?_append_right (by omega),n,K1 c];simp
  have t:∀ h,((es.take k).map (mvE f)++es.drop k).set k h=(es.take k).map (mvE f)++h::es.drop (k+1):=λh=>by
   rw[List.set_append_right _ _ (by omega),n,K1 c];simp
  obtain⟨i,p,j⟩:=b
  simp only at a
  have e:(es.take (k+1)).map (mvE f)++es.drop (k+1)=(es.take k).map (mvE f)++mvE f (i,p,j)::es.drop (k+1):=by
   rw[T0r c];simp
  have o:=R0j es f s hv hf d (k+1) fuel (by omega) (by omega)
  rw[e]at o
  rw[T4.eq_2,if_pos (by simp;omega),V1 q,oB]
  simp only[]
  rw[O0j i (f.1,f.2) a.1,oB,F0 (Z0h a.1 hf),oB,O0j j (f.1,f.2) a.2,oB,F0 (Z0h a.2 hf),oB]
  simp only[oB]
  rw[show((k:Nat):Int).toNat=k from Int.toNat_natCast k,t,C2 g (by omega)]
  exact o
theorem S0j{g:j0}{f:K4}(d:O0 g=true)(hf:okF g f):K7 g f=some (R4 g f,true):=by
 obtain⟨l,p,m,o⟩:=B3 d
 have i:=x01 g (by omega)
 have j:=w03 g (by omega)
 obtain⟨c,f2,f3⟩:=hf
 obtain⟨r,n,es⟩:=g
 obtain⟨a,b⟩:=f
 simp only at c f2 f3 m o
 have h:=R0j es (a,b) (by omega) (λe k=>by
  have:=l e k
  simp only at this
  exact⟨⟨by omega,by omega⟩,by omega,by omega⟩) ⟨c,by simp only;omega⟩ es.length 0 Q0 (by omega) (j1 (by omega))
 simp only[List.take_zero,List.map_nil,List.nil_append,List.drop_zero]at h
 unfold K7
 simp only[i,j,d,oB]
 rw[if_neg (by simp;omega),show(0:Int)=((0:Nat):Int) from rfl,h,oB,y0e _ (by simp;omega),oB,w64 (by omega) (by omega)]
 rfl
def V01(g:j0):j0×K4×Bool:=bif O0 g then(match Y4 g.2.2 with
 | []=>(g,(0,0),false)
 |f::_=>(R4 g f,f,true))else(g,(0,0),false)
theorem Y07(g:j0)(j:g.2.2.length<=1099511627776):m01 g=some (V01 g):=by
 have c:=V0c g (by omega)
 have d:=T06 g j
 have i:∀ f,O0 g=true->okF g f->J7 g f=some (R4 g f,true):=λf a b=>Q0j a b
 have h:O0 g=true->∀ f∈Y4 g.2.2,okF g f:=P8
 unfold R02 at c
 unfold V01
 obtain⟨r,n,es⟩:=g
 unfold m01
 simp only[c,oB]
 cases hg:O0 (r,n,es)with
 |false=>simp only[cond_false,Bool.not_false,if_true,d,oB]
 |true =>
  simp only[cond_true]
  simp only at h
  cases e:Y4 es with
  |nil=>simp only[Bool.not_false,if_true,d,oB]
  |cons f l =>
   simp only[Bool.not_true,Bool.false_eq_true,if_false,i f hg (h hg f (by rw[e];exact mS)),oB]
theorem Z07(g:j0)(j:g.2.2.length<=1099511627776):q01 g=some (V01 g):=by
 have c:=U0c g (by omega)
 have d:=w03 g j
 have i:∀ f,O0 g=true->okF g f->K7 g f=some (R4 g f,true):=λf a b=>S0j a b
 have h:O0 g=true->∀ f∈Y4 g.2.2,okF g f:=P8
 unfold R02 at c
 unfold V01
 obtain⟨r,n,es⟩:=g
 unfold q01
 simp only[c,oB]
 cases hg:O0 (r,n,es)with
 |false=>simp only[cond_false,Bool.not_false,if_true,d,oB]
 |true =>
  simp only[cond_true]
  simp only at h
  cases e:Y4 es with
  |nil=>simp only[Bool.not_false,if_true,d,oB]
  |cons f l =>
   simp only[Bool.not_true,Bool.false_eq_true,if_false,i f hg (h hg f (by rw[e];exact mS)),oB]
def A0s:(j0×J8) ⊕ (Int×Int×E1×(List K4))->Option (j0×J8):=λX=>t7 X (λS=>match S with
 |(a,b,c,e)=>some ((a,b,c),e))
theorem M0e:∀(d k fuel:Nat) (g:j0) (acc:List K4),k+d=40->d<fuel->O0 g=true->acc.length=k ->
  (w6 fuel (k:Int) g.1 g.2.1 g.2.2 acc).bind A0s=some ((a5 d g).1,acc++(a5 d g).2)
 |d,k,0,g,acc,h,hf,a,c=>by omega
 |0,k,fuel+1,g,acc,h,hf,a,c=>by
  rw[w6.eq_2,if_neg (by simp;omega)]
  simp[A0s,t7,a5]
 |d+1,k,fuel+1,g,acc,h,hf,a,c=>by
  have b:=Y07 g (by have:=(B3 a).2.2.2;omega)
  have i:=P8 a
  unfold V01 at b
  rw[a]at b
  simp only[cond_true]at b
  rw[w6.eq_2,if_pos (by simp;omega),show(g.1,g.2.1,g.2.2)=g from rfl,b]
  unfold a5
  cases e:Y4 g.2.2 with
  |nil=>simp[A0s,t7]
  |cons f l =>
   have j:=M0e d (k+1) fuel (R4 g f) (acc ++ [f]) (by omega) (by omega) (s00 a (i f (by rw[e];exact mS))) (by simp[c])
   simp only[oB,Bool.not_true,Bool.false_eq_true,if_false]
   rw[F0 (by simp;omega),oB,C2 (show k<1000 by omega) (by omega)]
   refine j.trans ?_
   simp
theorem E0f(g:j0)(b:g.2.2.length<=1099511627776):S01 g=some (E5 g):=by
 have a:=Y07 g b
 have c:=T06 g b
 have d:=M0e 40 0 Q0 g [] rfl (j1 (by omega))
 unfold E5
 obtain⟨r,n,es⟩:=g
 unfold S01
 simp only[c,oB]
 cases hg:O0 (r,n,es)with
 |false =>
  unfold V01 at a
  rw[hg]at a
  simp only[cond_false]at a
  rw[show Q0=(Q0-1)+1 from rfl,w6.eq_2,if_pos (by simp),a]
  rfl
 |true=>exact d hg rfl
theorem N0e:∀(d fuel:Nat) (g:j0) (acc:List K4),d<fuel->O0 g=true->Y4 (a5 d g).1.2.2 = []->acc.length+d<=1000 ->
  L7 fuel g.1 g.2.1 g.2.2 acc=some (.inl ((a5 d g).1,acc++(a5 d g).2))
 |d,0,g,acc,hf,a,c,j=>by omega
 |d,fuel+1,g,acc,hf,a,c,j=>by
  have b:=Z07 g (by have:=(B3 a).2.2.2;omega)
  have i:=P8 a
  unfold V01 at b
  rw[a]at b
  simp only[cond_true]at b
  rw[L7.eq_2,show(g.1,g.2.1,g.2.2)=g from rfl,b]
  cases e:Y4 g.2.2 with
  |nil =>
   have h:a5 d g=(g,[]):=by
    cases d with
    |zero=>rfl
    |succ d=>unfold a5;rw[e]
   rw[h]
   simp
  |cons f l =>
   cases d with
   |zero=>exact absurd e (by rw[show Y4 g.2.2 = [] from c];simp)
   |succ d =>
    have h:a5 (d+1) g=((a5 d (R4 g f)).1,f::(a5 d (R4 g f)).2):=by
     show(match Y4 g.2.2 with | []=>(g,[])|f::_=>((a5 d (R4 g f)).1,f::(a5 d (R4 g f)).2))=_
     rw[e]
    rw[h]at c ⊢
    have k:=N0e d fuel (R4 g f) (acc ++ [f]) (by omega) (s00 a (i f (by rw[e];exact mS))) c (by simp;omega)
    simp only[oB,Bool.not_true,Bool.false_eq_true,if_false]
    rw[F0 (by simp;omega),oB]
    refine k.trans ?_
    simp
theorem F0f(g:j0)(c:g.2.2.length<=1099511627776):U01 g=some (E5 g):=by
 have b:=Z07 g c
 have d:=w03 g c
 have f:=N0e 40 Q0 g [] (j1 (by omega))
 have i:O0 g=true->Y4 (a5 40 g).1.2.2 = []:=λa=>A09 40 a (by have:=(B3 a).2.2.1;omega)
 unfold E5
 obtain⟨r,n,es⟩:=g
 unfold U01
 simp only[d,oB]
 cases a:O0 (r,n,es)with
 |false =>
  unfold V01 at b
  rw[a]at b
  simp only[cond_false]at b
  rw[show Q0=(Q0-1)+1 from rfl,L7.eq_2,b]
  rfl
 |true =>
  have h:=f a (i a) (by simp)
  simp only at h
  rw[h]
  rfl
theorem m06{g:j0}(h:O0 g=true):Asc P0 g.2.2:=((P02 g).1 h).2.2.2.2
def stp(u x v:Int):J0:=if x<0 then(v,-x,u)else(u,x,v)
def p8(v:Int):List Int->Int->Int->List J0
 | [],_,_=>[]
 | [x],u,_=>[stp u x v]
 |x::y::r,u,n=>stp u x n::p8 v (y::r) n (n+1)
theorem x04(v:Int):∀(w:List Int) (u n:Int),(p8 v w u n).length=w.length
 | [],_,_=>rfl
 | [x],_,_=>rfl
 |x::y::r,u,n=>by simp only[p8,List.length_cons,x04 v (y::r)]
theorem D0p(u x v:Int)(a:t6 x):Q02 u x v=some (stp u x v):=by
 unfold Q02 stp
 by_cases c:x<0
 ·rw[if_pos (by simp[c]),if_pos c,D0c a.1 a.2]
 ·rw[if_neg (by simp;omega),if_neg c]
theorem a0i(w:List Int)(v:Int)(r:Int)(f:∀ x∈w,t6 x)(m:w.length<=1000):∀(d k fuel:Nat) (u n:Int) (es:List J0),k+d=w.length->d<fuel->0<=n->n<=1000+k->es.length<=1000+k ->
  B6 w v fuel u (k:Int) r n es=some (r,n+((d-1:Nat):Int),es++p8 v (w.drop k) u n)
 |d,k,0,u,n,es,l,hf,h0,i,j=>by omega
 |0,k,fuel+1,u,n,es,l,hf,h0,i,j=>by
  rw[B6.eq_2,if_neg (by simp;omega),I1 (by omega)]
  simp[p8]
 |d+1,k,fuel+1,u,n,es,l,hf,h0,i,j=>by
  have a:k<w.length:=by omega
  have g:=d5 a
  have b:=f _ (List.getElem_mem a)
  generalize w[k]=x at g b
  rw[B6.eq_2,if_pos (by simp;omega),V1 g,oB,n0e (by omega) (by omega),K1 g]
  by_cases c:k+1<w.length
  ·rw[if_pos (by simp;omega),D0p u x n b,oB]
   have o:=d5 c
   generalize w[k+1]=y at o
   have h:=a0i w v r f m d (k+1) fuel n (n+1) (es ++ [stp u x n]) (by omega) (by omega) (by omega) (by omega) (by simp;omega)
   simp only[]
   rw[F0 (by simp;omega),oB,C2 a (by omega),w64 (show(-9223372036854775808:Int)<=n+1 by omega) (by omega)]
   refine h.trans ?_
   rw[K1 o]
   simp only[p8,List.append_assoc,List.singleton_append]
   congr 3
   omega
  ·have p:d=0:=by omega
   subst p
   rw[if_neg (by simp;omega),D0p u x v b,oB]
   have h:=a0i w v r f m 0 (k+1) fuel v n (es ++ [stp u x v]) (by omega) (by omega) h0 (by omega) (by simp;omega)
   simp only[]
   rw[F0 (by simp;omega),oB,C2 a (by omega)]
   refine h.trans ?_
   rw[I1 (show k+1=w.length by omega)]
   simp[p8]
theorem b0i(w:List Int)(v:Int)(r:Int)(h:∀ x∈w,t6 x/\x≠0)(o:w.length<=1000):∀(d k fuel:Nat) (u n:Int) (es:List J0),k+d=w.length->d<fuel->0<=n->n<=1000+k->es.length<=1000+k ->
  o5 w v fuel u (k:Int) r n es=some (r,n+((d-1:Nat):Int),K6 P0 es (p8 v (w.drop k) u n))
 |d,k,0,u,n,es,m,hf,h0,j,l=>by omega
 |0,k,fuel+1,u,n,es,m,hf,h0,j,l=>by
  rw[o5.eq_2,if_neg (by simp;omega),I1 (by omega)]
  simp[p8,K6]
 |d+1,k,fuel+1,u,n,es,m,hf,h0,j,l=>by
  have f:k<w.length:=by omega
  have g:=d5 f
  have b:=h _ (List.getElem_mem f)
  generalize w[k]=x at g b
  have p:∀ e,(H01 P0 e es).length<=1000+(k+1):=λe=>by have:=k06 e es;omega
  rw[o5.eq_2,if_pos (by simp;omega),K1 g]
  by_cases c:k+1<w.length
  ·have i:=d5 c
   generalize w[k+1]=y at i
   have a:=b0i w v r h o d (k+1) fuel n (n+1) (H01 P0 (stp u x n) es) (by omega) (by omega) (by omega) (by omega) (p _)
   rw[K1 i]at a
   rw[C2 f (by omega),if_pos (by simp;omega),V1 g,oB,w64 (show(-9223372036854775808:Int)<=n+1 by omega) (by omega),K1 i]
   have fin:some (r,n+1+((d-1:Nat):Int),K6 P0 (H01 P0 (stp u x n) es) (p8 v (y::w.drop (k+1+1)) n (n+1)))=some (r,n+((d+1-1:Nat):Int),K6 P0 es (p8 v (x::y::w.drop (k+1+1)) u n)):=by
    simp only[p8,K6]
    congr 3
    omega
   by_cases c2:x>0
   ·have e:stp u x n=(u,x,n):=by unfold stp;rw[if_neg (by omega)]
    rw[if_pos (by simp[c2])]
    simp only[oB]
    rw[y08 es _ (by omega),oB,←e]
    exact a.trans fin
   ·have e:stp u x n=(n,-x,u):=by unfold stp;rw[if_pos (by omega)]
    rw[if_neg (by simp;omega)]
    simp only[oB]
    rw[D0c b.1.1 b.1.2,y08 es _ (by omega),oB,←e]
    exact a.trans fin
  ·have q:d=0:=by omega
   subst q
   have a:=b0i w v r h o 0 (k+1) fuel v n (H01 P0 (stp u x v) es) (by omega) (by omega) h0 (by omega) (p _)
   rw[I1 (show k+1=w.length by omega)]at a ⊢
   rw[C2 f (by omega),if_neg (by simp;omega),V1 g,oB]
   have fin:some (r,n+((0-1:Nat):Int),K6 P0 (H01 P0 (stp u x v) es) (p8 v [] v n))=some (r,n+((0+1-1:Nat):Int),K6 P0 es (p8 v [x] u n)):=by
    simp[p8,K6]
   by_cases c2:x>0
   ·have e:stp u x v=(u,x,v):=by unfold stp;rw[if_neg (by omega)]
    rw[if_pos (by simp[c2])]
    simp only[oB]
    rw[y08 es _ (by omega),oB,←e]
    exact a.trans fin
   ·have e:stp u x v=(v,-x,u):=by unfold stp;rw[if_pos (by omega)]
    rw[if_neg (by simp;omega)]
    simp only[oB]
    rw[D0c b.1.1 b.1.2,y08 es _ (by omega),oB,←e]
    exact a.trans fin
theorem s0l{es p:List J0}(a:Asc P0 es):K6 P0 [] (es++p)=K6 P0 es p :=
 k0e Y3 (N01 Y3 _ _ .nil) (N01 Y3 _ _ a) λx=>by
  rw[D4 Y3,D4 Y3];simp
def O1(g:j0)(u:Int)(w:List Int)(v:Int):j0×Bool :=
 bif !w.isEmpty&&decide (g.2.1+(w.length:Int)-1<=40)&&decide (g.2.2.length+w.length<=120)then((g.1,g.2.1+((w.length-1:Nat):Int),K6 P0 g.2.2 (p8 v w u g.2.1)),true)else(g,false)
theorem i02{r:Int}{w:List Int}(h:I3 r w=true):w.length<=24/\∀ x∈w,t6 x/\x≠0 /\ -r<=x/\x<=r:=by
 have a:=h
 simp only[I3,Bool.and_eq_true,decide_eq_true_eq]at a
 refine⟨a.1.2,λx c=>?_⟩
 obtain⟨i,b⟩:=List.getElem?_of_mem c
 have:=A0j h b
 exact⟨⟨⟨by omega,by omega⟩,by omega⟩,this.2.2⟩
theorem G0f{g:j0}{u v:Int}{w:List Int}(d:O0 g=true)(i:0<=u/\u<g.2.1)(hv:0<=v/\v<g.2.1)(j:I3 g.1 w=true):Q01 g u w v=some (O1 g u w v):=by
 obtain⟨y,z,p,q⟩:=B3 d
 obtain⟨wl,k⟩:=i02 j
 have l:=G8 g (by omega)
 have m:=T06 g (by omega)
 have b:=P06 g.1 w (by omega)
 obtain⟨r,n,es⟩:=g
 simp only at p q i hv b
 have o:IntKind.i64.wrap (n-1)=n-1:=w64 (by omega) (by omega)
 have f:∀ x:Int,0<=x/\x<n->inR 0 (n-1) x=true:=λx a=>by simp[inR];omega
 have h:=b0i w v r (λx a=>⟨(k x a).1,(k x a).2.1⟩) (by omega) w.length 0 Q0 u n es (by omega) (j1 (by omega)) (by omega) (by omega) (by omega)
 unfold Q01 O1
 simp only[l,m,d,oB,Bool.not_true,Bool.not_false,Z2,cond_false,o,M00,f u i,f v hv,b,j]
 rw[w64 (show(-9223372036854775808:Int)<=n+((w.length:Nat):Int) by omega) (by omega),w64 (show(-9223372036854775808:Int)<=n+((w.length:Nat):Int)-1 by omega) (by omega),w64 (show(-9223372036854775808:Int)<=((es.length:Nat):Int)+((w.length:Nat):Int) by omega) (by omega)]
 by_cases c:(w≠[]/\n+(w.length:Int)-1<=40)/\es.length+w.length<=120
 ·have t:w.length≠0:=by simpa using c.1.1
  rw[if_neg (by simp only[Bool.not_eq_true];simp[c.1.1];omega),show(0:Int)=((0:Nat):Int) from rfl,h,oB]
  rw[show(!w.isEmpty&&decide (n+(w.length:Int)-1<=40)&&decide (es.length+w.length<=120))=true by simp[c.1.1,c.1.2,c.2]]
  rfl
 ·rw[show(!w.isEmpty&&decide (n+(w.length:Int)-1<=40)&&decide (es.length+w.length<=120))=false by
   rw[←Bool.not_eq_true];simpa using c]
  rw[if_pos ?_]
  ·rfl
  ·by_cases d1:w = []
   ·simp[d1]
   ·by_cases d2:n+(w.length:Int)-1<=40
    ·have s : ¬ es.length+w.length<=120:=λh=>c ⟨⟨d1,d2⟩,h⟩
     have:decide (((es.length:Nat):Int)+((w.length:Nat):Int)>120)=true:=by simp;omega
     rw[this];simp
    ·have:decide (n+((w.length:Nat):Int)-1>40)=true:=by simp;omega
     rw[this];simp
theorem X0r{g:j0}(a:O0 g=true){u:Int}(b:0<=u/\u<g.2.1):s6 g u=some true:=by
 obtain⟨d,f,c,h⟩:=B3 a
 obtain⟨r,n,es⟩:=g
 simp only at c b
 unfold s6
 simp only[U7]
 rw[w64 (by omega) (by omega)]
 simp[inR];omega
theorem H0f{g:j0}{u v:Int}{w:List Int}(a:O0 g=true)(f:0<=u/\u<g.2.1)(hv:0<=v/\v<g.2.1)(i:I3 g.1 w=true):T01 g u w v=some (O1 g u w v):=by
 obtain⟨z,A,p,q⟩:=B3 a
 obtain⟨wl,s⟩:=i02 i
 have j:=x01 g (by omega)
 have k:=w03 g (by omega)
 have b:=Q06 g.1 w (by omega)
 have l:=X0r a f
 have m:=X0r a hv
 have d:=m06 a
 obtain⟨r,n,es⟩:=g
 simp only at p q f hv b d
 have h:=a0i w v r (λx o=>(s x o).1) (by omega) w.length 0 Q0 u n es (by omega) (j1 (by omega)) (by omega) (by omega) (by omega)
 have y:=x04 v w u n
 unfold T01 O1
 simp only[j,k,a,oB,Bool.not_true,Bool.not_false,Z2,cond_false,l,m]
 rw[w64 (show(-9223372036854775808:Int)<=n+((w.length:Nat):Int) by omega) (by omega),w64 (show(-9223372036854775808:Int)<=n+((w.length:Nat):Int)-1 by omega) (by omega),w64 (show(-9223372036854775808:Int)<=((es.length:Nat):Int)+((w.length:Nat):Int) by omega) (by omega)]
 by_cases d1:w = []
 ·subst d1
  simp[chk]
 rw[show decide (((w.length:Nat):Int)=0)=false by simp[d1],show(!false)=true from rfl,Z2,b,oB,i]
 by_cases c:n+(w.length:Int)-1<=40/\es.length+w.length<=120
 ·rw[if_neg (by simp only[Bool.not_eq_true];simp;omega),show(0:Int)=((0:Nat):Int) from rfl,h,oB]
  rw[show(!w.isEmpty&&decide (n+(w.length:Int)-1<=40)&&decide (es.length+w.length<=120))=true by simp[d1,c.1,c.2]]
  simp only[List.drop_zero,cond_true]
  rw[y0e _ (by simp;omega),s0l d]
  rfl
 ·rw[show(!w.isEmpty&&decide (n+(w.length:Int)-1<=40)&&decide (es.length+w.length<=120))=false by
   rw[←Bool.not_eq_true];simp only[Bool.and_eq_true,decide_eq_true_eq,Bool.not_eq_true'];omega]
  rw[if_pos ?_]
  ·rfl
  ·by_cases d2:n+(w.length:Int)-1<=40
   ·have t : ¬ es.length+w.length<=120:=λh=>c ⟨d2,h⟩
    have:decide (((es.length:Nat):Int)+((w.length:Nat):Int)>120)=true:=by simp;omega
    rw[this];simp
   ·have:decide (n+((w.length:Nat):Int)-1>40)=true:=by simp;omega
    rw[this];simp
theorem T0j:∀(d i:Nat) (x:Int),x∈b01 d i->∃ j:Nat,i<=j/\j<i+d/\(x=(j:Int)∨x = -(j:Int))
 |0,i,x,h=>by simp[b01]at h
 |d+1,i,x,h=>by
  simp only[b01,List.mem_cons]at h
  rcases h with rfl|rfl|h
  ·exact⟨i,Nat.le_refl _,by omega,.inl rfl⟩
  ·exact⟨i,Nat.le_refl _,by omega,.inr rfl⟩
  ·obtain⟨j,b,c,a⟩:=T0j d (i+1) x h
   exact⟨j,by omega,by omega,a⟩
def ng(x:Int):Int:=IntKind.i64.wrap (0-x)
def inv(w:List Int):List Int:=(w.map ng).reverse
theorem e03(w:List Int):(inv w).length=w.length:=by simp[inv]
def d08(w:List Int):Prop:=∀ x∈w,K0 x
theorem H0p{w:List Int}{k:Nat}{x:Int}(a:w[k]?=some x):inv (w.drop k)=inv (w.drop (k+1)) ++ [ng x]:=by
 rw[K1 a]
 simp[inv]
theorem Q03(w:List Int)(c:w.length<=17592186044416):∀(k fuel:Nat),k<=w.length->k<fuel ->
  J4 w fuel ((k:Int)-1) (inv (w.drop k))=some (inv w)
 |k,0,b,hf=>by omega
 |0,fuel+1,b,hf=>by
  rw[J4.eq_2,if_neg (by simp)]
  rfl
 |k+1,fuel+1,b,hf=>by
  have a:=d5 (show k<w.length by omega)
  have next:=Q03 w c k fuel (by omega) (by omega)
  generalize w[k]=x at a
  rw[H0p a]at next
  have d:=e03 (w.drop (k+1))
  rw[List.length_drop]at d
  rw[show(((k+1:Nat):Int)-1)=(k:Int) by omega,J4.eq_2,if_pos (by simp),V1 a,oB,F0 (by simp only[List.length_singleton];omega),oB,
   w64 (by omega) (by omega)]
  exact next
theorem R00(w:List Int)(a:w.length<=17592186044416):Y5 w=some (inv w):=by
 unfold Y5
 have h:=Q03 w a w.length Q0 (Nat.le_refl _) (j1 (by omega))
 rw[List.drop_length]at h
 rw[w64 (by omega) (by omega),show([]:D0)=inv [] from rfl,h]
 rfl
theorem f03(w:List Int):∀(fuel:Nat) (k:Int) (u:List Int),M6 w fuel k u=J4 w fuel k u
 |0,k,u=>rfl
 |fuel+1,k,u=>by
  rw[M6.eq_2,J4.eq_2]
  simp only[f03 w fuel]
theorem S00(w:List Int)(a:w.length<=17592186044416):V4 w=some (inv w):=by
 rw[←R00 w a]
 unfold V4 Y5
 rw[F0 (by omega),oB,f03]
 rfl
def e05(l x:Int):Bool := !(l == 0) && !(l == -9223372036854775808)&&(x == ng l)
def Q6(s:List Int)(x:Int):List Int:=match s with
 | []=>[x]
 |l::t=>bif e05 l x then t else x::l::t
def y02(s w:List Int):List Int:=w.foldl Q6 s
def Red:List Int->Bool
 | []=>true
 | [_]=>true
 |x::l::t => !e05 l x&&Red (l::t)
theorem d0k{x:Int}{t:List Int}(h:Red (x::t)=true):Red t=true:=by
 cases t with
 |nil=>rfl
 |cons l t=>simp only[Red,Bool.and_eq_true]at h;exact h.2
theorem X0n{s:List Int}(x:Int)(h:Red s=true):Red (Q6 s x)=true:=by
 cases s with
 |nil=>rfl
 |cons l t =>
  simp only[Q6]
  cases hc:e05 l x with
  |true=>exact d0k h
  |false=>simp only[cond_false,Red,hc,h];rfl
theorem V0e:∀(w s:List Int),Red s=true->Red (y02 s w)=true
 | [],s,h=>h
 |x::w,s,h=>V0e w (Q6 s x) (X0n x h)
theorem P0a(s a b:List Int):y02 s (a++b)=y02 (y02 s a) b:=List.foldl_append
theorem M0g:∀(s:List Int),Red s=true->y02 [] s.reverse=s
 | [],h=>rfl
 |x::t,h=>by
  rw[List.reverse_cons,P0a,M0g t (d0k h)]
  show Q6 t x=_
  cases t with
  |nil=>rfl
  |cons l t =>
   simp only[Red,Bool.and_eq_true,Bool.not_eq_true']at h
   simp only[Q6,h.1,cond_false]
theorem U0b(s:List Int)(x:Int):(Q6 s x).length<=s.length+1:=by
 cases s with
 |nil=>simp[Q6]
 |cons l t =>
  simp only[Q6]
  cases e05 l x<;>simp<;>omega
theorem Q0a:∀(w s:List Int),(y02 s w).length<=s.length+w.length
 | [],s=>by simp[y02]
 |x::w,s=>by
  have:=Q0a w (Q6 s x)
  have:=U0b s x
  simp only[y02,List.foldl_cons,List.length_cons]at *
  omega
theorem I0p{s:List Int}{x:Int}(h:d08 s)(c:K0 x):d08 (Q6 s x):=by
 cases s with
 |nil=>intro b a;simp[Q6]at a;subst a;exact c
 |cons l t =>
  simp only[Q6]
  cases e05 l x with
  |true=>exact λb a=>h b (mC _ a)
  |false =>
   intro b a
   rcases List.mem_cons.1 a with rfl|a
   ·exact c
   ·exact h b a
theorem Y0n{l x:Int}(b:K0 l)(c:K0 x):(!(x == 0)&&(l == ng x) && !(l == x))=e05 l x:=by
 unfold e05 ng
 have e:∀ {z:Int},K0 z->IntKind.i64.wrap (0-z)=if z = -9223372036854775808 then -9223372036854775808 else -z:=λ{z} a=>by
  split
  ·rename_i h;subst h;decide
  ·rw[w64 (by have:=a.1;have:=a.2;omega) (by have:=a.1;have:=a.2;omega)];omega
 rw[e b,e c]
 have d:=b.1
 have f:=b.2
 have g:=c.1
 have i:=c.2
 rw[Bool.eq_iff_iff]
 simp only[Bool.and_eq_true,Bool.not_eq_true',beq_iff_eq,beq_eq_false_iff_ne,ne_eq]
 split<;>split<;>omega
theorem W0e{l:Int}{t:List Int}:(l::t).reverse[t.length]?=some l:=by
 rw[List.reverse_cons,List.getElem?_append_right (by simp)]
 simp
theorem N0g(l:Int)(t:List Int):(l::t).reverse.take t.length=t.reverse:=by
 rw[List.reverse_cons,List.take_append_of_le_length (by simp),List.take_of_length_le (by simp)]
theorem S02(w:List Int)(hw:d08 w)(hl:w.length<=17592186044416):∀(d k fuel:Nat) (s:List Int),k+d=w.length->d<fuel->d08 s->s.length<=k ->
  W3 w fuel (k:Int) s.reverse=some (y02 s (w.drop k)).reverse
 |d,k,0,s,hk,hf,hs,hsl=>by omega
 |0,k,fuel+1,s,hk,hf,hs,hsl=>by
  rw[W3.eq_2,if_neg (by simp;omega),I1 (by omega)]
  rfl
 |d+1,k,fuel+1,s,hk,hf,hs,hsl=>by
  have hkl:k<w.length:=by omega
  have hx:=d5 hkl
  have hx64:=hw _ (List.mem_of_getElem? hx)
  generalize w[k]=x at hx hx64
  have next:=S02 w hw hl d (k+1) fuel (Q6 s x) (by omega) (by omega) (I0p hs hx64) (by have:=U0b s x;omega)
  rw[K1 hx]
  show _=some (y02 (Q6 s x) (w.drop (k+1))).reverse
  rw[←next,W3.eq_2,if_pos (by simp;omega),oB,F0 (by rw[List.length_reverse];omega),oB]
  rw[C2 hkl (by omega:w.length<=9223372036854775807)]
  have e0:decide (x=0)=(x == 0):=by rw[Bool.eq_iff_iff];simp
  cases s with
  |nil =>
   have hz:decide ((((([]:List Int).reverse).length:Nat):Int)>0)=false:=rfl
   simp only[hz,L4,oB,cond_false,Bool.false_eq_true,if_false,V1 hx]
   rw[F0 (by simp)]
   rfl
  |cons l t =>
   have hl64:=hs l mS
   have hp:decide ((((l::t).reverse.length:Nat):Int)>0)=true:=by simp
   have hpr:IntKind.i64.wrap ((((l::t).reverse.length:Nat):Int)-1)=((t.length:Nat):Int):=by
    rw[n0e (by simp) (by simp only[List.length_reverse,List.length_cons]at *;omega)];simp
   have hc:=Y0n hl64 hx64
   have e1:decide (l=IntKind.i64.wrap (0-x))=(l == ng x):=by rw[Bool.eq_iff_iff];simp[ng]
   have e2:decide (l=x)=(l == x):=by rw[Bool.eq_iff_iff];simp
   have hpush:(grd (((l::t).reverse.length + [x].length)*8<=140737488355328))=some ():=F0 (by simp only[List.length_cons]at hsl;simp only[List.length_reverse,List.length_cons,List.length_nil];omega)
   simp only[hp,hpr,Z2,oB,cond_true,V1 hx,V1 W0e,e0,Q6]
   cases h0:(x == 0)with
   |true =>
    rw[h0]at hc
    simp only[Bool.not_true,Bool.false_and]at hc
    simp only[←hc,Bool.not_true,L4,cond_false,oB,Bool.false_eq_true,if_false,hpush]
    exact congrArg _ (List.reverse_cons ..).symm
   |false =>
    rw[h0]at hc
    simp only[Bool.not_false,Bool.true_and]at hc
    simp only[Bool.not_false,Z2,cond_true,oB,e1]
    cases h1:(l == ng x)with
    |false =>
     rw[h1]at hc
     simp only[Bool.false_and]at hc
     simp only[←hc,L4,cond_false,oB,Bool.false_eq_true,if_false,hpush]
     exact congrArg _ (List.reverse_cons ..).symm
    |true =>
     rw[h1]at hc
     simp only[Bool.true_and]at hc
     simp only[Z2,cond_true,oB,e2]
     cases h2:(l == x)with
     |true =>
      rw[h2]at hc
      simp only[Bool.not_true]at hc
      simp only[←hc,Bool.not_true,Bool.false_eq_true,if_false,cond_false,oB,hpush]
      exact congrArg _ (List.reverse_cons ..).symm
     |false =>
      rw[h2]at hc
      simp only[Bool.not_false]at hc
      simp only[←hc,Bool.not_false,if_true,cond_true]
      rw[F0 (by simp only[List.length_reverse,List.length_cons]at *;omega),oB,Int.toNat_natCast,N0g]
theorem I08(w:List Int)(b:d08 w)(a:w.length<=17592186044416):R8 w=some (y02 [] w).reverse:=by
 unfold R8
 have h:=S02 w b a w.length 0 Q0 [] (by omega) (j1 (by omega)) (λx c=>by cases c) (by simp)
 rw[show((0:Nat):Int)=0 from rfl,List.drop_zero,List.reverse_nil]at h
 rw[h,oB,F0 (by have:=Q0a w [];simp only[List.length_reverse,List.length_nil]at *;omega),oB,List.nil_append]
theorem F09(a b:List UInt8):(⟨a.toArray⟩:ByteArray)++⟨b.toArray⟩=⟨(a++b).toArray⟩:=by
 apply ByteArray.ext
 rw[ByteArray.data_append]
 simp
theorem U5(a:List UInt8):(⟨a.toArray⟩:ByteArray).size=a.length:=by simp[ByteArray.size]
end Go.Proofs.YtohcdjhocpakkaaGreat
