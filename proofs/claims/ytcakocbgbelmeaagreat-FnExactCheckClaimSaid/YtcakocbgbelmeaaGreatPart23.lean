/- Texts of the claim, joined: Plain laws: words and presentations, as the spec and the cod and others. -/
import Derived.Test.YtcakocbgbelmeaaGreatPart18
import Derived.Test.YtcakocbgbelmeaaGreatH33
import Derived.Test.YtcakocbgbelmeaaGreatH36
import Derived.Test.YtcakocbgbelmeaaGreatPart17
namespace Go.Proofs.YtcakocbgbelmeaaGreat
open Go.H
set_option linter.unusedVariables false
set_option linter.unusedSimpArgs false
theorem Y0{n:Nat}(h:n≤140737488355328):n<S0:=by unfold S0;omega
theorem D0{p:Prop}[Decidable p](h:p):grd p=some ():=by unfold grd;rw[if_pos h]
theorem C1{α:Type}(o:Option α)(d:α):chk true o d=o:=rfl
theorem H1{α:Type}(o:Option α)(d:α):chk false o d=some d:=rfl
theorem j2{α:Type}{xs:List α}{k:Nat}{x:α}(h:xs[k]?=some x):gi xs (k:Int)=some x:=by rw[y0b];exact h
theorem B0h{α:Type}{xs:List α}{x:α}(h:xs[0]?=some x):gi xs 0=some x:=j2 (k:=0) h
theorem m0a{x:Int}(h:M0 x)(h2:x ≠ -9223372036854775808):IntKind.i64.wrap (0-x) = -x:=by rw[w64 (by have:=h.1;have:=h.2;omega) (by have:=h.1;have:=h.2;omega)];omega
theorem e0e{n:Nat}(h:0<n)(hm:n≤9223372036854775807):IntKind.i64.wrap ((n:Int)-1)=((n-1:Nat):Int):=by rw[w64 (by omega) (by omega)];omega
theorem p5{α:Type}{xs:List α}{k:Nat}(h:k<xs.length):xs[k]?=some xs[k]:=List.getElem?_eq_getElem h
def inR(lo hi x:Int):Bool:=decide (lo≤x)&&decide (x≤hi)
def d04(lo hi:Int)(w:List Int)(i:Nat):Bool :=
 match w[i]? with
 |none=>true
 |some x=>x == 0 || !inR lo hi x || (decide (0<i)&&match w[i-1]? with
  |none=>true
  |some y=>x == IntKind.i64.wrap (0-y))
def B02(lo hi:Int)(w:List Int):Nat→Nat→Bool
 |0,_=>true
 |d+1,k => !d04 lo hi w k&&B02 lo hi w d (k+1)
def I2(r:Int)(w:List Int):Bool:=inR 1 3 r&&decide (w.length≤24)&&B02 (-r) r w w.length 0
theorem v01(a b c:Int):D3 a b c=some (inR b c a):=by
 unfold D3 inR
 by_cases h:b≤a<;>simp[h]
theorem q02(a b c:Int):K5 a b c=some (inR b c a):=v01 a b c
theorem c06(r:Int)(w:List Int)(hl:w.length≤140737488355328):∀(d k fuel:Nat),k+d=w.length→d<fuel →
  d8 w r fuel (k:Int)=some (bif B02 (IntKind.i64.wrap (0-r)) r w d k then .inr ()else .inl false)
 |d,k,0,hk,hf=>by omega
 |0,k,fuel+1,hk,hf=>by
  rw[d8.eq_2,if_neg (by simp;omega)]
  simp[B02]
 |d+1,k,fuel+1,hk,hf=>by
  have hkl:k<w.length:=by omega
  have hx:=p5 hkl
  generalize w[k]=x at hx
  have next:=c06 r w hl d (k+1) fuel (by omega) (by omega)
  rw[d8.eq_2,if_pos (by simp;omega)]
  generalize IntKind.i64.wrap (0-r)=lo at next ⊢
  simp only[j2 hx,oB,v01,V1 hkl (by omega:w.length≤9223372036854775807),next]
  have hbad:d04 lo r w k=(x == 0 || !inR lo r x || (decide (0<k)&&match w[k-1]? with
   |none=>true
   |some y=>x == IntKind.i64.wrap (0-y))):=by unfold d04;rw[hx]
  simp only[B02,hbad]
  by_cases h0:x=0
  ·simp[h0,chk]
  have e0:decide (x=0)=false:=by simpa using h0
  have b0:(x == 0)=false:=by simpa using h0
  cases hin:inR lo r x with
  |false=>simp[e0,b0,hin,chk]
  |true =>
   by_cases hk0:k=0
   ·have ek:decide ((k:Int)>0)=false:=by simp;omega
    have bk:decide (0<k)=false:=by simp;omega
    simp only[e0,b0,hin,ek,bk,C1,H1,Bool.not_true,Bool.not_false,Bool.and_true,Bool.false_and,Bool.or_self,Bool.true_and,cond_true,cond_false,oB,Bool.or_false,Bool.and_false,Bool.false_eq_true,if_false,cond_true,cond_false]
   ·have hy:=p5 (show k-1<w.length by omega)
    generalize w[k-1]=y at hy
    have hpr:IntKind.i64.wrap ((k:Int)-1)=((k-1:Nat):Int):=e0e (by omega) (by omega)
    have ek:decide ((k:Int)>0)=true:=by simp;omega
    have bk:decide (0<k)=true:=by simp;omega
    simp only[e0,b0,hin,ek,bk,hpr,hy,j2 hx,j2 hy,C1,H1,Bool.not_true,Bool.not_false,Bool.and_true,Bool.false_and,Bool.or_self,Bool.true_and,cond_true,cond_false,oB,Bool.or_false,Bool.and_false,Bool.false_or]
    by_cases hxy:x=IntKind.i64.wrap (0-y)
    ·have e1:decide (x=IntKind.i64.wrap (0-y))=true:=by simpa using hxy
     have b1:(x == IntKind.i64.wrap (0-y))=true:=by simpa using hxy
     simp only[e1,b1,if_true,Bool.not_true,Bool.false_and,Bool.false_eq_true,if_false,cond_true,cond_false]
    ·have e1:decide (x=IntKind.i64.wrap (0-y))=false:=by simpa using hxy
     have b1:(x == IntKind.i64.wrap (0-y))=false:=by simpa using hxy
     simp only[e1,b1,Bool.false_eq_true,if_false,Bool.not_false,Bool.true_and]
theorem m04(r:Int)(w:List Int)(hl:w.length≤140737488355328):B9 r w=some (I2 r w):=by
 unfold B9
 have h:=c06 r w hl w.length 0 S0 (by omega) (Y0 hl)
 rw[show((0:Nat):Int)=0 from rfl]at h
 rw[h,v01]
 unfold I2
 by_cases hr:inR 1 3 r=true
 ·have:IntKind.i64.wrap (0-r) = -r:=by
   simp only[inR,Bool.and_eq_true,decide_eq_true_eq]at hr
   rw[w64 (by omega) (by omega)];omega
  rw[this,hr]
  cases B02 (-r) r w w.length 0<;>simp[Z7]<;>omega
 ·simp only[Bool.not_eq_true]at hr
  rw[hr]
  cases B02 (IntKind.i64.wrap (0-r)) r w w.length 0<;>simp[Z7]
theorem z0k(r x:Int)(hr:inR 1 3 r=true):X00 r x=some (!(x == 0)&&inR (-r) r x):=by
 have hn:IntKind.i64.wrap (0-r) = -r:=by
  simp only[inR,Bool.and_eq_true,decide_eq_true_eq]at hr
  rw[w64 (by omega) (by omega)];omega
 unfold X00
 rw[hn,q02]
 by_cases h0:x=0
 ·simp[h0,chk]
 ·simp[h0,chk]
theorem n0a(y x:Int):a9 y x=some (!(y == 0) && !(y == -9223372036854775808)&&(x == IntKind.i64.wrap (0-y))):=by
 unfold a9
 by_cases h0:y=0
 ·simp[h0]
 ·by_cases h1:y = -9223372036854775808
  ·simp[h1]
  ·simp only[h0,h1,decide_false,Bool.not_false,cond_true,Option.some.injEq]
   have b2:(y == 0)=false:=by simpa using h0
   have b3:(y == -9223372036854775808)=false:=by simpa using h1
   rw[b2,b3]
   rfl
theorem d06(r:Int)(w:List Int)(hr:inR 1 3 r=true)(hl:w.length≤140737488355328):∀(d k fuel:Nat),k+d=w.length→d<fuel →
  (∀ i,i<k→d04 (-r) r w i=false) →
  f8 w r fuel (k:Int)=some (bif B02 (-r) r w d k then .inr ()else .inl false)
 |d,k,0,hk,hf,hp=>by omega
 |0,k,fuel+1,hk,hf,hp=>by
  rw[f8.eq_2,if_neg (by simp;omega)]
  simp[B02]
 |d+1,k,fuel+1,hk,hf,hp=>by
  have hkl:k<w.length:=by omega
  have hx:=p5 hkl
  generalize w[k]=x at hx
  have next:=fun(hb:d04 (-r) r w k=false)=>d06 r w hr hl d (k+1) fuel (by omega) (by omega) (fun i hi=>by
   by_cases e:i=k
   ·subst e;exact hb
   ·exact hp i (by omega))
  rw[f8.eq_2,if_pos (by simp;omega)]
  rw[j2 hx,oB,z0k r x hr,V1 hkl (by omega:w.length≤9223372036854775807)]
  have hbad:d04 (-r) r w k=(x == 0 || !inR (-r) r x || (decide (0<k)&&match w[k-1]? with
   |none=>true
   |some y=>x == IntKind.i64.wrap (0-y))):=by unfold d04;rw[hx]
  simp only[B02]
  by_cases h0:x=0
  ·simp[h0,chk,hbad]
  have b0:(x == 0)=false:=by simpa using h0
  cases hin:inR (-r) r x with
  |false=>simp[b0,hin,chk,hbad]
  |true =>
   by_cases hk0:k=0
   ·have hb:d04 (-r) r w k=false:=by rw[hbad];simp[h0,hin,hk0]
    rw[next hb,hb]
    have ek:decide ((k:Int)>0)=false:=by simp;omega
    simp only[b0,ek,C1,H1,Bool.not_true,Bool.not_false,Bool.and_true,Bool.false_and,Bool.or_self,Bool.true_and,cond_true,cond_false,oB,Bool.or_false,Bool.and_false,Bool.false_eq_true,if_false,cond_true,cond_false]
   ·have hy:=p5 (show k-1<w.length by omega)
    have hpy:=hp (k-1) (by omega)
    generalize w[k-1]=y at hy
    have hy0:y≠0∧y ≠ -9223372036854775808:=by
     unfold d04 at hpy
     rw[hy]at hpy
     simp only[Bool.or_eq_false_iff,Bool.not_eq_false']at hpy
     have h1:=hpy.1.2
     simp only[inR,Bool.and_eq_true,decide_eq_true_eq]at h1 hr
     exact⟨by simpa using hpy.1.1,by omega⟩
    have b2:(y == 0)=false:=by simpa using hy0.1
    have b3:(y == -9223372036854775808)=false:=by simpa using hy0.2
    have hpr:IntKind.i64.wrap ((k:Int)-1)=((k-1:Nat):Int):=e0e (by omega) (by omega)
    have ek:decide ((k:Int)>0)=true:=by simp;omega
    have bk:decide (0<k)=true:=by simp;omega
    simp only[b0,ek,hpr,j2 hy,n0a,b2,b3,C1,H1,Bool.not_true,Bool.not_false,Bool.and_true,Bool.false_and,Bool.or_self,Bool.true_and,cond_true,cond_false,oB,Bool.or_false,Bool.and_false,Bool.false_or]
    cases b1:(x == IntKind.i64.wrap (0-y))with
    |true =>
     have hb:d04 (-r) r w k=true:=by rw[hbad,hy,bk,b0,hin];exact b1
     simp only[hb,if_true,Bool.not_true,Bool.false_and,Bool.false_eq_true,if_false,cond_true,cond_false]
    |false =>
     have hb:d04 (-r) r w k=false:=by rw[hbad,hy,bk,b0,hin];exact b1
     simp only[hb,next hb,Bool.false_eq_true,if_false,Bool.not_false,Bool.true_and]
theorem n04(r:Int)(w:List Int)(hl:w.length≤140737488355328):C9 r w=some (I2 r w):=by
 unfold C9
 rw[q02]
 unfold I2
 cases hr:inR 1 3 r with
 |false=>simp
 |true =>
  by_cases h24:w.length≤24
  ·have h:=d06 r w hr hl w.length 0 S0 (by omega) (Y0 hl) (fun i hi=>by omega)
   rw[show((0:Nat):Int)=0 from rfl]at h
   have h24' : ¬ (24:Int)<(w.length:Int):=by omega
   simp only[oB,h,h24']
   cases B02 (-r) r w w.length 0<;>simp[Z7,h24]
  ·have h24':(24:Int)<(w.length:Int):=by omega
   simp[h24,h24']
def tot:List (List Int)→Nat
 | []=>0
 |w::r=>w.length+tot r
theorem J1{α:Type}{xs:List α}{k:Nat}{x:α}(h:xs[k]?=some x):xs.drop k=x::xs.drop (k+1):=by
 obtain⟨hk,rfl⟩:=List.getElem?_eq_some_iff.1 h
 exact List.drop_eq_getElem_cons hk
theorem E1{α:Type}{xs:List α}{k:Nat}(h:k=xs.length):xs.drop k = []:=by rw[h];exact List.drop_length
theorem l03(ws:List (List Int))(hl:ws.length≤140737488355328):∀(d k fuel a:Nat),k+d=ws.length→d<fuel→a+tot (ws.drop k)≤9223372036854775807 →
  J3 ws fuel (a:Int) (k:Int)=some ((a+tot (ws.drop k):Nat):Int)
 |d,k,0,a,hk,hf,ht=>by omega
 |0,k,fuel+1,a,hk,hf,ht=>by
  rw[J3.eq_2,if_neg (by simp;omega),E1 (by omega)]
  rfl
 |d+1,k,fuel+1,a,hk,hf,ht=>by
  have hkl:k<ws.length:=by omega
  have hx:=p5 hkl
  generalize ws[k]=x at hx
  rw[J1 hx]at ht ⊢
  simp only[tot]at ht ⊢
  rw[J3.eq_2,if_pos (by simp;omega),j2 hx,oB,V1 hkl (by omega:ws.length≤9223372036854775807),
   show IntKind.i64.wrap ((a:Int)+((x.length:Nat):Int))=((a+x.length:Nat):Int) by rw[w64 (by omega) (by omega)];omega,
   l03 ws hl d (k+1) fuel (a+x.length) (by omega) (by omega) (by omega)]
  rw[Nat.add_assoc]
theorem o05(ws:List (List Int))(hl:ws.length≤140737488355328)(ht:tot ws≤9223372036854775807):z8 ws=some ((tot ws:Nat):Int):=by
 unfold z8
 have h:=l03 ws hl ws.length 0 S0 0 (by omega) (Y0 hl) (by simpa using ht)
 rw[show((0:Nat):Int)=0 from rfl]at h
 rw[h]
 simp
theorem I02(ws:List (List Int)):∀(fuel:Nat) (a k:Int),Y5 ws fuel a k=J3 ws fuel a k
 |0,a,k=>rfl
 |fuel+1,a,k=>by
  rw[Y5.eq_2,J3.eq_2]
  simp only[I02 ws fuel]
theorem o0a(ws:List (List Int))(hl:ws.length≤140737488355328)(ht:tot ws≤9223372036854775807):Q9 ws=some ((tot ws:Nat):Int):=by
 rw[←o05 ws hl ht]
 unfold Q9 z8
 rw[I02]
def K0c(r:Int):List (List Int)→Bool
 | []=>true
 |w::l=>I2 r w&&K0c r l
def R5(r:Int)(ws:List (List Int)):Bool:=inR 1 3 r&&decide (ws.length≤6)&&K0c r ws&&decide (tot ws<40)
theorem f0e{r:Int}:∀ {ws:List (List Int)},K0c r ws=true→tot ws≤24*ws.length
 | [],_=>by simp[tot]
 |w::l,h=>by
  simp only[K0c,Bool.and_eq_true]at h
  have h1:=h.1
  simp only[I2,Bool.and_eq_true,decide_eq_true_eq]at h1
  have:=f0e h.2
  simp only[tot,List.length_cons]
  omega
def P7(ws:List (List Int)):Prop:=∀ w∈ws,w.length≤140737488355328
theorem K04(r:Int)(ws:List (List Int))(hl:ws.length≤140737488355328)(hs:P7 ws):∀(d k fuel:Nat),k+d=ws.length→d<fuel →
  I6 ws r fuel (k:Int)=some (bif K0c r (ws.drop k)then .inr ()else .inl false)
 |d,k,0,hk,hf=>by omega
 |0,k,fuel+1,hk,hf=>by
  rw[I6.eq_2,if_neg (by simp;omega),E1 (by omega)]
  rfl
 |d+1,k,fuel+1,hk,hf=>by
  have hkl:k<ws.length:=by omega
  have hx:=p5 hkl
  have hsx:=hs _ (List.mem_of_getElem? hx)
  generalize ws[k]=x at hx hsx
  rw[J1 hx,I6.eq_2,if_pos (by simp;omega),j2 hx,oB,m04 r x hsx,oB,V1 hkl (by omega:ws.length≤9223372036854775807),
   K04 r ws hl hs d (k+1) fuel (by omega) (by omega)]
  simp only[K0c]
  cases I2 r x<;>simp
theorem E07(r:Int)(ws:List (List Int))(hl:ws.length≤140737488355328)(hs:P7 ws):Y9 r ws=some (R5 r ws):=by
 unfold Y9
 have h:=K04 r ws hl hs ws.length 0 S0 (by omega) (Y0 hl)
 rw[show((0:Nat):Int)=0 from rfl,List.drop_zero]at h
 rw[h,oB]
 unfold R5
 cases ha:K0c r ws with
 |false=>simp[Z7]
 |true =>
  rw[cond_true,T0,v01,oB]
  have:=f0e ha
  cases hr:inR 1 3 r with
  |false=>simp[chk,grd,M0]
  |true =>
   by_cases h6:ws.length≤6
   ·rw[o05 ws hl (by omega)]
    have h6':decide (((ws.length:Nat):Int)≤6)=true:=by simp;omega
    have h6'':decide (ws.length≤6)=true:=by simpa using h6
    rw[h6',h6'',cond_true,C1,oB,D0 (by constructor<;>omega)]
    simp
    omega
   ·have h6':decide (((ws.length:Nat):Int)≤6)=false:=by simp;omega
    have h6'':decide (ws.length≤6)=false:=by simpa using h6
    rw[h6',h6'']
    simp[chk,grd,M0]
theorem L04(r:Int)(ws:List (List Int))(hl:ws.length≤140737488355328)(hs:P7 ws):∀(d k fuel:Nat),k+d=ws.length→d<fuel →
  J6 ws r fuel (k:Int)=some (bif K0c r (ws.drop k)then .inr ()else .inl false)
 |d,k,0,hk,hf=>by omega
 |0,k,fuel+1,hk,hf=>by
  rw[J6.eq_2,if_neg (by simp;omega),E1 (by omega)]
  rfl
 |d+1,k,fuel+1,hk,hf=>by
  have hkl:k<ws.length:=by omega
  have hx:=p5 hkl
  have hsx:=hs _ (List.mem_of_getElem? hx)
  generalize ws[k]=x at hx hsx
  rw[J1 hx,J6.eq_2,if_pos (by simp;omega),j2 hx,oB,n04 r x hsx,oB,V1 hkl (by omega:ws.length≤9223372036854775807),
   L04 r ws hl hs d (k+1) fuel (by omega) (by omega)]
  simp only[K0c]
  cases I2 r x<;>simp
theorem F07(r:Int)(ws:List (List Int))(hl:ws.length≤140737488355328)(hs:P7 ws):Z9 r ws=some (R5 r ws):=by
 unfold Z9
 rw[q02,oB]
 unfold R5
 cases hr:inR 1 3 r with
 |false=>simp
 |true =>
  by_cases h6:ws.length≤6
  ·have h6':decide (((ws.length:Nat):Int)>6)=false:=by simp;omega
   have h6'':decide (ws.length≤6)=true:=by simpa using h6
   have h:=L04 r ws hl hs ws.length 0 S0 (by omega) (Y0 hl)
   rw[show((0:Nat):Int)=0 from rfl,List.drop_zero]at h
   rw[h6',h6'',h,oB]
   cases ha:K0c r ws with
   |false=>simp[Z7]
   |true =>
    have:=f0e ha
    simp only[cond_true,T0,o0a ws hl (by omega),oB,D0 (show M0 ((tot ws:Nat):Int) by constructor<;>omega)]
    simp
    omega
  ·have h6':decide (((ws.length:Nat):Int)>6)=true:=by simp;omega
   have h6'':decide (ws.length≤6)=false:=by simpa using h6
   rw[h6',h6'']
   simp
theorem r08{lo hi:Int}{w:List Int}:∀ {d k:Nat},B02 lo hi w d k=true→∀ i,k≤i→i<k+d→d04 lo hi w i=false
 |0,k,h,i,h1,h2=>by omega
 |d+1,k,h,i,h1,h2=>by
  simp only[B02,Bool.and_eq_true,Bool.not_eq_true']at h
  by_cases e:i=k
  ·subst e;exact h.1
  ·exact r08 h.2 i (by omega) (by omega)
theorem c0j{r:Int}{w:List Int}(h:I2 r w=true){i:Nat}{x:Int}(hx:w[i]?=some x):(1≤r∧r≤3)∧w.length≤24∧x≠0 ∧ -r≤x∧x≤r:=by
 simp only[I2,Bool.and_eq_true,decide_eq_true_eq]at h
 have hr:=h.1.1
 simp only[inR,Bool.and_eq_true,decide_eq_true_eq]at hr
 have hb:=r08 h.2 i (Nat.zero_le _) (by have:=(List.getElem?_eq_some_iff.1 hx).1;omega)
 unfold d04 at hb
 rw[hx]at hb
 simp only[Bool.or_eq_false_iff,Bool.not_eq_false']at hb
 have h1:=hb.1.2
 simp only[inR,Bool.and_eq_true,decide_eq_true_eq]at h1
 exact⟨hr,h.1.2,by simpa using hb.1.1,h1⟩
def B05(r hi:Int)(e:H0):Bool:=inR 0 hi e.1&&inR 0 hi e.2.2&&inR 1 r e.2.1
def g0e(e f:H0):Int:=O0 e f
theorem h0e(e f:H0):g0e e f=if Z8 e.1 f.1≠0 then Z8 e.1 f.1 else if Z8 e.2.1 f.2.1≠0 then Z8 e.2.1 f.2.1 else Z8 e.2.2 f.2.2:=rfl
theorem K06(a b:Int):(a<b∧Z8 a b = -1)∨(a>b∧Z8 a b=1)∨(a=b∧Z8 a b=0):=by
 unfold Z8
 split
 ·omega
 ·split<;>omega
theorem n0d(e f:H0):M0 (g0e e f):=by
 rw[h0e]
 split
 ·exact A0h _ _
 ·split<;>exact A0h _ _
theorem s0o(g:j0)(e:H0):p02 g e=some (B05 g.1 (IntKind.i64.wrap (g.2.1-1)) e):=by
 obtain⟨r,n,es⟩:=g
 obtain⟨a,l,b⟩:=e
 unfold p02 B05
 simp only[v01,oB]
 cases inR 0 (IntKind.i64.wrap (n-1)) a with
 |false=>rfl
 |true =>
  cases inR 0 (IntKind.i64.wrap (n-1)) b with
  |false=>rfl
  |true=>simp[chk]
theorem L0c(g:j0)(e:H0):O8 g e=some (B05 g.1 (IntKind.i64.wrap (g.2.1-1)) e):=by
 obtain⟨r,n,es⟩:=g
 obtain⟨a,l,b⟩:=e
 unfold O8 T3 B05
 simp only[q02,oB]
 cases inR 0 (IntKind.i64.wrap (n-1)) a with
 |false=>rfl
 |true =>
  cases inR 0 (IntKind.i64.wrap (n-1)) b with
  |false=>rfl
  |true=>simp[chk]
theorem C02(e f:H0):V7 e f=some (g0e e f):=by
 obtain⟨a,l,b⟩:=e
 obtain⟨a',l',b'⟩:=f
 unfold V7
 rw[show S0=(S0-4)+1+1+1+1 from rfl]
 have w1:IntKind.i64.wrap (0+1)=1:=by decide
 have w2:IntKind.i64.wrap (1+1)=2:=by decide
 have w3:IntKind.i64.wrap (2+1)=3:=by decide
 have g0:∀ x y z:Int,gi [x,y,z] 0=some x:=fun _ _ _=>rfl
 have g1:∀ x y z:Int,gi [x,y,z] 1=some y:=fun _ _ _=>rfl
 have g2:∀ x y z:Int,gi [x,y,z] 2=some z:=fun _ _ _=>rfl
 have d0:decide ((0:Int)<3)=true:=rfl
 have d1:decide ((1:Int)<3)=true:=rfl
 have d2:decide ((2:Int)<3)=true:=rfl
 have d3:decide ((3:Int)<3)=false:=rfl
 simp only[V6.eq_2,w1,w2,w3,g0,g1,g2,d0,d1,d2,d3,if_true,oB,Bool.false_eq_true,if_false]
 rw[h0e]
 simp only
 rcases K06 a a' with⟨h,e⟩|⟨h,e⟩|⟨h,e⟩
 ·simp[e,h,Z7]
 ·have : ¬ a<a':=by omega
  simp[e,h,this,Z7]
 ·subst h
  rcases K06 l l' with⟨h,e2⟩|⟨h,e2⟩|⟨h,e2⟩
  ·simp[e,e2,h,Z7]
  ·have : ¬ l<l':=by omega
   simp[e,e2,h,this,Z7]
  ·subst h
   rcases K06 b b' with⟨h,e3⟩|⟨h,e3⟩|⟨h,e3⟩
   ·simp[e,e2,e3,h,Z7]
   ·have : ¬ b<b':=by omega
    simp[e,e2,e3,h,this,Z7]
   ·subst h
    simp[e,e2,e3,Z7]
theorem N0m(a b:Int):o7 a b=some (Z8 a b):=by
 unfold o7 Z8
 by_cases h:a<b
 ·simp[h]
 ·by_cases h2:a>b<;>simp[h,h2]
theorem M04(e f:H0):o9 e f=some (g0e e f):=by
 obtain⟨a,l,b⟩:=e
 obtain⟨a',l',b'⟩:=f
 rw[h0e]
 unfold o9
 simp only[N0m,oB,D0 (A0h _ _)]
 by_cases h1:Z8 a a'=0
 ·by_cases h2:Z8 l l'=0
  ·simp[h1,h2]
  ·simp[h1,h2]
 ·simp[h1]
def t0o(r hi:Int)(es:List H0)(k:Nat):Bool:=match es[k]? with
 |none=>true
 |some e => !B05 r hi e || (decide (0<k)&&match es[k-1]? with
  |none=>true
  |some f=>decide (g0e f e ≥ 0))
def okE(r hi:Int)(es:List H0):Nat→Nat→Bool
 |0,_=>true
 |d+1,k => !t0o r hi es k&&okE r hi es d (k+1)
def Q0(g:j0):Bool:=okE g.1 (IntKind.i64.wrap (g.2.1-1)) g.2.2 g.2.2.length 0&&inR 1 3 g.1&&inR 1 40 g.2.1&&decide (g.2.2.length≤120)
theorem p0a{r hi:Int}{es:List H0}{k:Nat}{e:H0}(hx:es[k]?=some e):t0o r hi es k=(!B05 r hi e || (decide (0<k)&&match es[k-1]? with
  |none=>true
  |some f=>decide (g0e f e ≥ 0))):=by unfold t0o;rw[hx]
theorem p05(r n:Int)(es:List H0)(hl:es.length≤140737488355328):∀(d k fuel:Nat),k+d=es.length→d<fuel →
  r7 es r n fuel (k:Int)=some (bif okE r (IntKind.i64.wrap (n-1)) es d k then .inr ()else .inl false)
 |d,k,0,hk,hf=>by omega
 |0,k,fuel+1,hk,hf=>by
  rw[r7.eq_2,if_neg (by simp;omega)]
  simp[okE]
 |d+1,k,fuel+1,hk,hf=>by
  have hkl:k<es.length:=by omega
  have hx:=p5 hkl
  generalize es[k]=e at hx
  obtain⟨e0,e1,e2⟩:=e
  have next:=p05 r n es hl d (k+1) fuel (by omega) (by omega)
  rw[r7.eq_2,if_pos (by simp;omega),j2 hx,oB]
  simp only[s0o,oB,V1 hkl (by omega:es.length≤9223372036854775807),next,okE,p0a hx]
  generalize IntKind.i64.wrap (n-1)=hi
  cases hin:B05 r hi (e0,e1,e2)with
  |false=>simp[chk,grd,M0]
  |true =>
   by_cases hk0:k=0
   ·have ek:decide ((k:Int)>0)=false:=by simp;omega
    have bk:decide (0<k)=false:=by simp;omega
    simp only[ek,bk,H1,Bool.not_true,Bool.not_false,Bool.and_true,Bool.false_and,Bool.or_self,Bool.true_and,cond_true,cond_false,oB,Bool.or_false,Bool.false_eq_true,if_false,D0 (show M0 0 by decide)]
   ·have hy:=p5 (show k-1<es.length by omega)
    generalize es[k-1]=f at hy
    obtain⟨f0,f1,f2⟩:=f
    have hpr:IntKind.i64.wrap ((k:Int)-1)=((k-1:Nat):Int):=e0e (by omega) (by omega)
    have ek:decide ((k:Int)>0)=true:=by simp;omega
    have bk:decide (0<k)=true:=by simp;omega
    simp only[ek,bk,hpr,hy,j2 hx,j2 hy,C1,Bool.not_true,Bool.not_false,Bool.and_true,Bool.false_and,Bool.or_self,Bool.true_and,cond_true,cond_false,oB,Bool.or_false,Bool.false_or,C02,D0 (n0d _ _)]
    cases decide (g0e (f0,f1,f2) (e0,e1,e2) ≥ 0)<;>rfl
theorem L7(g:j0)(hl:g.2.2.length≤140737488355328):Y3 g=some (Q0 g):=by
 obtain⟨r,n,es⟩:=g
 unfold Y3 Q0
 simp only at hl ⊢
 have h:=p05 r n es hl es.length 0 S0 (by omega) (Y0 hl)
 rw[show((0:Nat):Int)=0 from rfl]at h
 rw[h,oB]
 cases okE r (IntKind.i64.wrap (n-1)) es es.length 0 with
 |false=>simp[Z7]
 |true =>
  rw[cond_true,T0,v01,v01,oB]
  cases inR 1 3 r with
  |false=>simp[chk]
  |true =>
   simp only[C1,oB,cond_true,Bool.true_and]
   cases inR 1 40 n with
   |false=>simp
   |true=>simp;omega
theorem q05(r n:Int)(es:List H0)(hl:es.length≤140737488355328):∀(d k fuel:Nat),k+d=es.length→d<fuel →
  t7 es r n fuel (k:Int)=some (bif okE r (IntKind.i64.wrap (n-1)) es d k then .inr ()else .inl false)
 |d,k,0,hk,hf=>by omega
 |0,k,fuel+1,hk,hf=>by
  rw[t7.eq_2,if_neg (by simp;omega)]
  simp[okE]
 |d+1,k,fuel+1,hk,hf=>by
  have hkl:k<es.length:=by omega
  have hx:=p5 hkl
  generalize es[k]=e at hx
  obtain⟨e0,e1,e2⟩:=e
  have next:=q05 r n es hl d (k+1) fuel (by omega) (by omega)
  rw[t7.eq_2,if_pos (by simp;omega),j2 hx,oB]
  simp only[L0c,oB,V1 hkl (by omega:es.length≤9223372036854775807),next,okE,p0a hx]
  generalize IntKind.i64.wrap (n-1)=hi
  cases hin:B05 r hi (e0,e1,e2)with
  |false=>simp[chk,grd,M0]
  |true =>
   by_cases hk0:k=0
   ·have ek:decide ((k:Int)>0)=false:=by simp;omega
    have bk:decide (0<k)=false:=by simp;omega
    simp only[ek,bk,H1,Bool.not_true,Bool.not_false,Bool.and_true,Bool.false_and,Bool.or_self,Bool.true_and,cond_true,cond_false,oB,Bool.or_false,Bool.false_eq_true,if_false,D0 (show M0 0 by decide)]
   ·have hy:=p5 (show k-1<es.length by omega)
    generalize es[k-1]=f at hy
    obtain⟨f0,f1,f2⟩:=f
    have hpr:IntKind.i64.wrap ((k:Int)-1)=((k-1:Nat):Int):=e0e (by omega) (by omega)
    have ek:decide ((k:Int)>0)=true:=by simp;omega
    have bk:decide (0<k)=true:=by simp;omega
    simp only[ek,bk,hpr,hy,j2 hx,j2 hy,C1,Bool.not_true,Bool.not_false,Bool.and_true,Bool.false_and,Bool.or_self,Bool.true_and,cond_true,cond_false,oB,Bool.or_false,Bool.false_or,M04,D0 (n0d _ _)]
    cases decide (g0e (f0,f1,f2) (e0,e1,e2) ≥ 0)<;>rfl
theorem z00(g:j0)(hl:g.2.2.length≤140737488355328):g7 g=some (Q0 g):=by
 obtain⟨r,n,es⟩:=g
 unfold g7 Q0
 simp only at hl ⊢
 rw[q02,q02,oB]
 cases hr:inR 1 3 r with
 |false=>simp[chk]
 |true =>
  simp only[Bool.not_true,Bool.not_false,C1,oB,cond_false]
  cases hn:inR 1 40 n with
  |false=>simp
  |true =>
   by_cases h120:es.length≤120
   ·have h:=q05 r n es hl es.length 0 S0 (by omega) (Y0 hl)
    rw[show((0:Nat):Int)=0 from rfl]at h
    have e1:decide (((es.length:Nat):Int)>120)=false:=by simp;omega
    have e2:decide (es.length≤120)=true:=by simpa using h120
    simp only[e1,e2,Bool.not_true,cond_false,Bool.false_eq_true,if_false,h,oB]
    cases okE r (IntKind.i64.wrap (n-1)) es es.length 0<;>rfl
   ·have e1:decide (((es.length:Nat):Int)>120)=true:=by simp;omega
    have e2:decide (es.length≤120)=false:=by simpa using h120
    simp only[e1,e2,Bool.not_true,cond_false,if_true,Bool.and_false]
theorem A0k{r hi:Int}{es:List H0}:∀ {d k:Nat},okE r hi es d k=true→∀ i,k≤i→i<k+d→t0o r hi es i=false
 |0,k,h,i,h1,h2=>by omega
 |d+1,k,h,i,h1,h2=>by
  simp only[okE,Bool.and_eq_true,Bool.not_eq_true']at h
  by_cases e:i=k
  ·subst e;exact h.1
  ·exact A0k h.2 i (by omega) (by omega)
theorem i0e{n:Nat}(h:n≤9223372036854775807):n<S0:=by unfold S0;omega
def goI(x:Int):List Int→Bool×List Int
 | []=>(false,[])
 |y::l=>if x<y then(true,x::y::l)else if y=x then(true,y::l)else((goI x l).1,y::(goI x l).2)
theorem F0l(x:Int):∀ l,k00 Z8 x l=bif(goI x l).1 then(goI x l).2 else(goI x l).2 ++ [x]
 | []=>rfl
 |y::l=>by
  have ih:=F0l x l
  unfold k00 goI
  rcases K06 x y with⟨h,e⟩|⟨h,e⟩|⟨h,e⟩
  ·rw[e,if_pos (by omega),if_pos h];rfl
  ·rw[e,if_neg (by omega),if_neg (by omega),if_neg (by omega),if_neg (by omega),ih]
   cases (goI x l).1<;>rfl
  ·rw[e,if_neg (by omega),if_pos rfl,if_neg (by omega),if_pos h.symm];rfl
theorem j0e(l:List Int)(w:Int)(hl:l.length≤1099511627776):∀(d k fuel:Nat) (acc:List Int),k+d=l.length→d<fuel→acc.length≤k+1 →
  Z3 l w fuel true (k:Int) acc=some (true,acc++l.drop k)
 |d,k,0,acc,hd,hf,ha=>by omega
 |0,k,fuel+1,acc,hd,hf,ha=>by
  rw[Z3.eq_2,if_neg (by simp;omega),E1 (by omega),List.append_nil]
 |d+1,k,fuel+1,acc,hd,hf,ha=>by
  have hk:k<l.length:=by omega
  have hx:=p5 hk
  generalize l[k]=x at hx
  have ih:=j0e l w hl d (k+1) fuel (acc ++ [x]) (by omega) (by omega) (by simp;omega)
  rw[Z3.eq_2,if_pos (by simp;omega),j2 hx,oB]
  have hb:∀ c:Bool,(bif c then(!true)else false)=false:=fun c=>by cases c<;>rfl
  simp only[hb,Bool.false_eq_true,if_false,oB,V1 hk (show l.length≤9223372036854775807 by omega),ih,D0 (show(acc.length + [x].length)*8≤140737488355328 by simp;omega)]
  rw[J1 hx]
  split<;>simp
theorem c0g(l:List Int)(w:Int)(hl:l.length≤1099511627776):∀(d k fuel:Nat) (acc:List Int),k+d=l.length→d<fuel→acc.length=k →
  Z3 l w fuel false (k:Int) acc=some ((goI w (l.drop k)).1,acc++(goI w (l.drop k)).2)
 |d,k,0,acc,hd,hf,ha=>by omega
 |0,k,fuel+1,acc,hd,hf,ha=>by
  rw[Z3.eq_2,if_neg (by simp;omega),E1 (by omega)]
  simp[goI]
 |d+1,k,fuel+1,acc,hd,hf,ha=>by
  have hk:k<l.length:=by omega
  have hx:=p5 hk
  generalize l[k]=x at hx
  have ih:=c0g l w hl d (k+1) fuel (acc ++ [x]) (by omega) (by omega) (by simp;omega)
  have on1:=j0e l w hl d (k+1) fuel (acc ++ [x]) (by omega) (by omega) (by simp;omega)
  have on2:=j0e l w hl d (k+1) fuel (acc ++ [w] ++ [x]) (by omega) (by omega) (by simp;omega)
  rw[Z3.eq_2,if_pos (by simp;omega),j2 hx,oB,J1 hx]
  unfold goI
  have hb:∀ c:Bool,(bif c then(!true)else false)=false:=fun c=>by cases c<;>rfl
  have hb2:∀ c:Bool,(bif c then(!false)else false)=c:=fun c=>by cases c<;>rfl
  by_cases h0:x=w
  ·rw[if_pos (by simpa using h0),oB,hb,if_neg (by simp),oB,D0 (by simp;omega),oB,V1 hk (by omega),on1,if_neg (by omega),if_pos h0]
   simp
  ·rw[if_neg (by simpa using h0),oB,hb2]
   by_cases h1:w<x
   ·rw[if_pos (by simpa using h1),D0 (by simp;omega),oB,oB,D0 (by simp;omega),oB,V1 hk (by omega),on2,if_pos h1]
    simp
   ·rw[if_neg (by simpa using h1),oB,D0 (by simp;omega),oB,V1 hk (by omega),ih,if_neg h1,if_neg h0]
    simp
theorem q0a(l:List Int)(w:Int)(hl:l.length≤1099511627776):H8 l w=some (k00 Z8 w l):=by
 unfold H8
 have h:=c0g l w hl l.length 0 S0 [] (by omega) (Y0 (by omega)) rfl
 rw[show((0:Nat):Int)=0 from rfl,List.drop_zero,List.nil_append]at h
 rw[h,oB,F0l]
 have hlen:∀ l:List Int,(goI w l).2.length≤l.length+1:=fun l=>by
  induction l with
  |nil=>simp[goI]
  |cons y l ih =>
   unfold goI
   split
   ·simp
   ·split
    ·simp
    ·simp only[List.length_cons];omega
 have:=hlen l
 cases (goI w l).1 with
 |true=>rfl
 |false =>
  simp only[Bool.not_false,if_true,cond_false]
  rw[D0 (by simp;omega),oB]
def d0g(v x:Int)(e:H0):List Int :=
 if 0<x∧e.2.1=x∧e.1=v then [e.2.2]else if x<0∧e.2.1 = -x∧e.2.2=v then [e.1]else []
def S9(v x:Int):List H0→List Int
 | []=>[]
 |e::es=>d0g v x e++S9 v x es
theorem O0m(v x:Int)(e:H0):(d0g v x e).length≤1:=by unfold d0g;split<;>(try split)<;>simp
theorem k0e(v x:Int):∀ es,(S9 v x es).length≤es.length
 | []=>by simp[S9]
 |e::es=>by
  have h1:=O0m v x e
  have h2:=k0e v x es
  simp only[S9,List.length_append,List.length_cons]
  omega
def j4(x:Int):Prop:=M0 x∧x ≠ -9223372036854775808
theorem r0a(es:List H0)(v x:Int)(hx:j4 x)(hl:es.length≤1099511627776):∀(d k fuel:Nat) (acc:List Int),k+d=es.length→d<fuel→acc.length≤k →
  C4 es x v fuel (k:Int) acc=some (acc++S9 v x (es.drop k))
 |d,k,0,acc,hd,hf,ha=>by omega
 |0,k,fuel+1,acc,hd,hf,ha=>by
  rw[C4.eq_2,if_neg (by simp;omega),E1 (by omega)]
  simp[S9]
 |d+1,k,fuel+1,acc,hd,hf,ha=>by
  have hk:k<es.length:=by omega
  have he:=p5 hk
  generalize es[k]=e at he
  obtain⟨a,l,b⟩:=e
  have ih:=fun acc' h=>r0a es v x hx hl d (k+1) fuel acc' (by omega) (by omega) h
  have hn:decide (x = -9223372036854775808)=false:=by simp;exact hx.2
  rw[C4.eq_2,if_pos (by simp;omega),j2 he,oB,J1 he]
  simp only[S9,d0g,m0a hx.1 hx.2,hn,Bool.not_false,V1 hk (show es.length≤9223372036854775807 by omega)]
  by_cases c1:0<x∧l=x∧a=v
  ·obtain⟨c1,rfl,rfl⟩:=c1
   rw[if_pos (by simp[c1]),if_pos ⟨c1,rfl,rfl⟩,D0 (by simp;omega),oB,ih _ (by simp;omega)]
   simp
  ·rw[if_neg c1,if_neg (by simp only[Bool.cond_eq_ite];simp;intro h1 h2 h3;exact c1 ⟨h1,h2,h3⟩)]
   by_cases c2:x<0∧l = -x∧b=v
   ·rw[if_pos c2,if_pos (by simp[c2.1,c2.2.1,c2.2.2]),D0 (by simp;omega),oB,ih _ (by simp;omega)]
    simp
   ·rw[if_neg c2,if_neg (by simp only[Bool.cond_eq_ite];simp;intro h1 h2 h3;exact c2 ⟨h1,h2,h3⟩),ih _ (by omega)]
    simp
theorem e06(w:Int):∀ l:List Int,(k00 Z8 w l).length≤l.length+1
 | []=>by simp[k00]
 |y::l=>by
  have:=e06 w l
  unfold k00
  split
  ·simp
  ·split
   ·simp
   ·simp only[List.length_cons];omega
theorem s0a(es:List H0)(v x:Int)(hx:j4 x)(hl:es.length≤1099511627776):∀(d k fuel:Nat) (u:List Int),k+d=es.length→d<fuel→u.length≤k →
  L3 es x v fuel u (k:Int)=some (o5 Z8 u (S9 v x (es.drop k)))
 |d,k,0,u,hd,hf,ha=>by omega
 |0,k,fuel+1,u,hd,hf,ha=>by
  rw[L3.eq_2,if_neg (by simp;omega),E1 (by omega)]
  rfl
 |d+1,k,fuel+1,u,hd,hf,ha=>by
  have hk:k<es.length:=by omega
  have he:=p5 hk
  generalize es[k]=e at he
  obtain⟨a,l,b⟩:=e
  have ih:=fun u' h=>s0a es v x hx hl d (k+1) fuel u' (by omega) (by omega) h
  rw[L3.eq_2,if_pos (by simp;omega),j2 he,oB,J1 he]
  simp only[S9,d0g,m0a hx.1 hx.2,V1 hk (show es.length≤9223372036854775807 by omega)]
  by_cases c1:0<x∧l=x∧a=v
  ·obtain⟨c1,rfl,rfl⟩:=c1
   have hno:decide (l<0)=false:=by simp;omega
   have:=e06 b u
   rw[if_pos (by simp[c1]),if_pos ⟨c1,rfl,rfl⟩,q0a u b (by omega),oB,hno,if_neg (by simp),ih _ (by omega)]
   rfl
  ·rw[if_neg c1,if_neg (by simp only[Bool.cond_eq_ite];simp;intro h1 h2 h3;exact c1 ⟨h1,h2,h3⟩)]
   by_cases c2:x<0∧l = -x∧b=v
   ·have:=e06 a u
    rw[if_pos c2,if_pos (by simp[c2.1,c2.2.1,c2.2.2]),q0a u a (by omega),oB,ih _ (by omega)]
    rfl
   ·rw[if_neg c2,if_neg (by simp only[Bool.cond_eq_ite];simp;intro h1 h2 h3;exact c2 ⟨h1,h2,h3⟩),ih _ (by omega)]
    rfl
def u02(g:j0)(v x:Int):List Int:=o5 Z8 [] (S9 v x g.2.2)
theorem N0p(x y:Int):eqI x y=true↔x=y:=by simp[eqI]
theorem d0j(g:j0)(v x:Int)(hx:j4 x)(hl:g.2.2.length≤1099511627776):B00 g v x=some (u02 g v x):=by
 obtain⟨r,n,es⟩:=g
 unfold B00 u02
 have h:=s0a es v x hx hl es.length 0 S0 [] (by omega) (i0e (by simp only at hl;omega)) (by simp)
 rw[show((0:Nat):Int)=0 from rfl,List.drop_zero]at h
 simp only[h,oB]
theorem e0j(g:j0)(v x:Int)(hx:j4 x)(hl:g.2.2.length≤1099511627776):C00 g v x=some (u02 g v x):=by
 obtain⟨r,n,es⟩:=g
 unfold C00 u02
 have h:=r0a es v x hx hl es.length 0 S0 [] (by omega) (i0e (by simp only at hl;omega)) (by simp)
 rw[show((0:Nat):Int)=0 from rfl,List.drop_zero,List.nil_append]at h
 have hlen:=k0e v x es
 simp only at hl
 simp only[h,oB,D0 (show(S9 v x es).length<4611686018427387904 by omega)]
 rw[←b0j o02 N0p (S9 v x es) (S9 v x es) fun _=>Iff.rfl]
 rfl
def U0(g:j0)(v x:Int):Int:=match u02 g v x with
 | [] => -1
 |a::_=>a
theorem t03(g:j0)(v x:Int)(hx:j4 x)(hl:g.2.2.length≤1099511627776):d5 g v x=some (U0 g v x):=by
 have h:=d0j g v x hx hl
 obtain⟨r,n,es⟩:=g
 unfold d5 U0
 simp only[h,oB]
 cases u02 (r,n,es) v x with
 |nil=>rfl
 |cons a l=>rfl
theorem N04(g:j0)(v x:Int)(hx:j4 x)(hl:g.2.2.length≤1099511627776):M6 g v x=some (U0 g v x):=by
 have h:=e0j g v x hx hl
 obtain⟨r,n,es⟩:=g
 unfold M6 U0
 simp only[h,oB]
 cases u02 (r,n,es) v x with
 |nil=>rfl
 |cons a l=>rfl
theorem e0g{g:j0}{v x y:Int}(h:y∈u02 g v x):y∈S9 v x g.2.2:=by
 rcases(j9 o02 y _ []).1 h with h|h
 ·cases h
 ·exact h
theorem Q7{v x y:Int}:∀ {es:List H0},y∈S9 v x es↔∃ e∈es,(0<x∧e.2.1=x∧e.1=v∧y=e.2.2)∨(x<0∧e.2.1 = -x∧e.2.2=v∧y=e.1)
 | []=>by simp[S9]
 |e::es=>by
  simp only[S9,List.mem_append,Q7 (es:=es),List.mem_cons,exists_eq_or_imp]
  refine or_congr ?_ Iff.rfl
  unfold d0g
  split
  ·rename_i h
   simp only[List.mem_singleton]
   constructor
   ·rintro rfl;exact .inl ⟨h.1,h.2.1,h.2.2,rfl⟩
   ·rintro(⟨_,_,_,h4⟩|⟨h1,_⟩)
    ·exact h4
    ·omega
  ·rename_i h
   split
   ·rename_i h2
    simp only[List.mem_singleton]
    constructor
    ·rintro rfl;exact .inr ⟨h2.1,h2.2.1,h2.2.2,rfl⟩
    ·rintro(⟨h1,_⟩|⟨_,_,_,h4⟩)
     ·omega
     ·exact h4
   ·rename_i h2
    constructor
    ·intro h;cases h
    ·rintro(⟨h3,h4,h5,_⟩|⟨h3,h4,h5,_⟩)
     ·exact absurd ⟨h3,h4,h5⟩ h
     ·exact absurd ⟨h3,h4,h5⟩ h2
def inG(g:j0):Prop:=∀ e∈g.2.2,(0≤e.1∧e.1<g.2.1)∧(0≤e.2.2∧e.2.2<g.2.1)∧1≤e.2.1∧e.2.1≤g.1
theorem A2{g:j0}(h:Q0 g=true):inG g∧(1≤g.1∧g.1≤3)∧(1≤g.2.1∧g.2.1≤40)∧g.2.2.length≤120:=by
 obtain⟨r,n,es⟩:=g
 simp only[Q0,inR,Bool.and_eq_true,decide_eq_true_eq]at h
 obtain⟨⟨⟨h1,h2⟩,h3⟩,h4⟩:=h
 refine⟨fun e he=>?_,h2,h3,h4⟩
 obtain⟨i,hi⟩:=List.getElem?_of_mem he
 have hb:=A0k h1 i (Nat.zero_le _) (by have:=(List.getElem?_eq_some_iff.1 hi).1;simp only at this;omega)
 rw[p0a hi]at hb
 simp only[Bool.or_eq_false_iff,Bool.not_eq_false',B05,inR,Bool.and_eq_true,decide_eq_true_eq]at hb
 obtain⟨⟨⟨⟨b1,b2⟩,b3,b4⟩,b5,b6⟩,_⟩:=hb
 rw[w64 (by omega) (by omega)]at b2 b4
 simp only
 exact⟨⟨b1,by omega⟩,⟨b3,by omega⟩,b5,b6⟩
theorem Y02{g:j0}(hg:inG g)(v x:Int):U0 g v x = -1∨(0≤U0 g v x∧U0 g v x<g.2.1):=by
 unfold U0
 cases hs:u02 g v x with
 |nil=>exact .inl rfl
 |cons a l =>
  right
  have ha:a∈u02 g v x:=by rw[hs];exact mS
  obtain⟨e,he,h⟩:=Q7.1 (e0g ha)
  have:=hg e he
  rcases h with⟨_,_,_,rfl⟩|⟨_,_,_,rfl⟩
  ·exact this.2.1
  ·exact this.1
theorem v02{g:j0}(hg:inG g)(hn:g.2.1≤40)(v x:Int):M0 (U0 g v x):=by
 rcases Y02 hg v x with h|h
 ·rw[h];decide
 ·constructor<;>omega
def O04(a b:H0):Bool:=decide (a.2.1=b.2.1)&&(decide (a.1=b.1) || decide (a.2.2=b.2.2))
theorem C0b(a b:H0):O04 a b=O04 b a:=by
 unfold O04
 have h:∀ x y:Int,decide (x=y)=decide (y=x):=fun x y=>decide_eq_decide.2 ⟨Eq.symm,Eq.symm⟩
 rw[h a.2.1,h a.1,h a.2.2]
def noC(a:H0):List H0→Bool
 | []=>true
 |b::l => !O04 a b&&noC a l
def S08:List H0→Bool
 | []=>true
 |a::l=>noC a l&&S08 l
theorem C0h(a:H0):∀ l,noC a l=true↔∀ b∈l,O04 a b=false
 | []=>by simp[noC]
 |b::l=>by simp[noC,C0h a l]
theorem D0b:∀ l,S08 l=true↔l.Pairwise fun a b=>O04 a b=false
 | []=>by simp[S08]
 |a::l=>by simp[S08,D0b l,C0h,List.pairwise_cons]
def l0e:List H0→List H0→Bool
 |_,[]=>true
 |pre,a::l=>noC a pre&&l0e (pre ++ [a]) l
theorem f0g:∀(l pre:List H0),l0e pre l=true↔l.Pairwise (fun a b=>O04 a b=false)∧∀ a∈l,∀ b∈pre,O04 a b=false
 | [],pre=>by simp[l0e]
 |a::l,pre=>by
  simp only[l0e,Bool.and_eq_true,C0h,f0g l,List.pairwise_cons]
  constructor
  ·rintro⟨h2,h3,h4⟩
   refine⟨⟨fun b hb=>by rw[C0b];exact h4 b hb a (by simp),h3⟩,fun x hx b hb=>?_⟩
   rcases List.mem_cons.1 hx with rfl|hx
   ·exact h2 b hb
   ·exact h4 x hx b (by simp[hb])
  ·rintro⟨⟨h2,h3⟩,h4⟩
   refine⟨fun b hb=>h4 a mS b hb,h3,fun x hx b hb=>?_⟩
   rcases List.mem_append.1 hb with hb|hb
   ·exact h4 x (mC _ hx) b hb
   ·rw[List.mem_singleton.1 hb,C0b];exact h2 x hx
theorem P0m(l:List H0):l0e [] l=S08 l:=by
 rw[Bool.eq_iff_iff,f0g,D0b]
 simp
def K0(g:j0):Bool:=Q0 g&&S08 g.2.2
theorem h0q(a0 a1 a2 b0 b1 b2:Int):(bif decide (a1=b1)then(bif decide (a0=b0)then true else decide (a2=b2))else false)=O04 (a0,a1,a2) (b0,b1,b2):=by
 unfold O04
 cases decide (a1=b1)<;>cases decide (a0=b0)<;>rfl
theorem t0a(l:List H0)(a:H0)(hl:l.length≤140737488355328):∀(d k fuel:Nat),k+d=l.length→d<fuel →
  N6 l a.2.1 a.1 a.2.2 fuel (k:Int)=some (bif noC a (l.drop k)then .inr ()else .inl false)
 |d,k,0,hd,hf=>by omega
 |0,k,fuel+1,hd,hf=>by
  rw[N6.eq_2,if_neg (by simp;omega),E1 (by omega)]
  rfl
 |d+1,k,fuel+1,hd,hf=>by
  have hk:k<l.length:=by omega
  have hx:=p5 hk
  generalize l[k]=x at hx
  obtain⟨a0,a1,a2⟩:=a
  obtain⟨b0,b1,b2⟩:=x
  rw[N6.eq_2,if_pos (by simp;omega),j2 hx,oB,J1 hx]
  simp only[h0q,noC]
  cases hc:O04 (a0,a1,a2) (b0,b1,b2)with
  |true=>rfl
  |false =>
   rw[if_neg (by simp),V1 hk (by omega),t0a l (a0,a1,a2) hl d (k+1) fuel (by omega) (by omega)]
   simp
theorem D02{α:Type}{xs:List α}{k:Nat}(h:k≤xs.length):Y04 xs (k:Int) (xs.length:Int)=some (xs.drop k):=by
 unfold Y04
 rw[if_pos ⟨by omega,by omega,by omega⟩]
 simp
theorem u0a(l:List H0)(hl:l.length≤140737488355328):∀(d k fuel:Nat),k+d=l.length→d<fuel →
  O6 l fuel (k:Int)=some (bif S08 (l.drop k)then .inr ()else .inl false)
 |d,k,0,hd,hf=>by omega
 |0,k,fuel+1,hd,hf=>by
  rw[O6.eq_2,if_neg (by simp;omega),E1 (by omega)]
  rfl
 |d+1,k,fuel+1,hd,hf=>by
  have hk:k<l.length:=by omega
  have hx:=p5 hk
  generalize l[k]=x at hx
  have h0:=t0a (l.drop (k+1)) x (by simp;omega) (l.drop (k+1)).length 0 S0 (by omega) (Y0 (by simp;omega))
  rw[show((0:Nat):Int)=0 from rfl,List.drop_zero]at h0
  obtain⟨a0,a1,a2⟩:=x
  rw[O6.eq_2,if_pos (by simp;omega),j2 hx,oB,J1 hx]
  simp only[V1 hk (show l.length≤9223372036854775807 by omega),D02 (show k+1≤l.length by omega),oB]
  simp only at h0
  rw[h0,oB]
  simp only[S08]
  cases noC (a0,a1,a2) (l.drop (k+1))with
  |false=>rfl
  |true =>
   simp only[cond_true,J0m,Bool.true_and]
   exact u0a l hl d (k+1) fuel (by omega) (by omega)
theorem R8(g:j0)(hl:g.2.2.length≤140737488355328):r6 g=some (K0 g):=by
 have hG:=z00 g hl
 obtain⟨r,n,es⟩:=g
 unfold r6 K0
 simp only[hG,oB]
 cases Q0 (r,n,es)with
 |false=>rfl
 |true =>
  have h:=u0a es hl es.length 0 S0 (by omega) (Y0 hl)
  rw[show((0:Nat):Int)=0 from rfl,List.drop_zero]at h
  rw[if_neg (by simp),h,oB]
  cases S08 es<;>rfl
theorem v0a(l:List H0)(hl:l.length≤140737488355328){i:Nat}{a:H0}(ha:l[i]?=some a):∀(d k fuel:Nat),k+d=i→d<fuel →
  K6 (i:Int) l fuel (k:Int)=some (bif noC a ((l.take i).drop k)then .inr ()else .inl false)
 |d,k,0,hd,hf=>by omega
 |0,k,fuel+1,hd,hf=>by
  have:=(List.getElem?_eq_some_iff.1 ha).1
  rw[K6.eq_2,if_neg (by simp;omega),E1 (by simp;omega)]
  rfl
 |d+1,k,fuel+1,hd,hf=>by
  have hi:=(List.getElem?_eq_some_iff.1 ha).1
  have hk:k<l.length:=by omega
  have hx:=p5 hk
  have hx2:(l.take i)[k]?=some l[k]:=by rw[List.getElem?_take,if_pos (by omega)];exact hx
  have ih:=v0a l hl ha d (k+1) fuel (by omega) (by omega)
  generalize l[k]=x at hx hx2
  obtain⟨a0,a1,a2⟩:=a
  obtain⟨b0,b1,b2⟩:=x
  rw[K6.eq_2,if_pos (by simp;omega),j2 ha,oB,J1 hx2]
  simp only[j2 hx,oB,h0q,noC]
  cases hc:O04 (a0,a1,a2) (b0,b1,b2)with
  |true=>rfl
  |false =>
   rw[if_neg (by simp),V1 hk (by omega),ih]
   simp
theorem G0l{α:Type}{xs:List α}{k:Nat}{x:α}(h:xs[k]?=some x):xs.take (k+1)=xs.take k ++ [x]:=by
 obtain⟨hk,rfl⟩:=List.getElem?_eq_some_iff.1 h
 exact List.take_succ_eq_append_getElem hk
theorem w0a(r n:Int)(l:List H0)(hg:Q0 (r,n,l)=true)(hl:l.length≤140737488355328):∀(d k fuel:Nat),k+d=l.length→d<fuel →
  i5 l r n fuel (k:Int)=some (bif l0e (l.take k) (l.drop k)then .inr ()else .inl false)
 |d,k,0,hd,hf=>by omega
 |0,k,fuel+1,hd,hf=>by
  have e:decide ((k:Int)<(l.length:Int))=false:=by simp;omega
  rw[i5.eq_2,e,H1,oB,if_neg (by simp),E1 (by omega)]
  rfl
 |d+1,k,fuel+1,hd,hf=>by
  have hk:k<l.length:=by omega
  have hx:=p5 hk
  generalize l[k]=x at hx
  have h0:=v0a l hl hx k 0 S0 (by omega) (Y0 (by omega))
  rw[show((0:Nat):Int)=0 from rfl,List.drop_zero]at h0
  have e:decide ((k:Int)<(l.length:Int))=true:=by simp;omega
  rw[i5.eq_2,e,C1,L7 (r,n,l) hl,oB,hg,if_pos (show(bif true then true else false)=true from rfl),h0,oB,J1 hx]
  simp only[l0e]
  cases noC x (l.take k)with
  |false=>rfl
  |true =>
   simp only[cond_true,J0m,Bool.true_and]
   rw[V1 hk (by omega),←G0l hx]
   exact w0a r n l hg hl d (k+1) fuel (by omega) (by omega)
theorem I5(g:j0)(hl:g.2.2.length≤140737488355328):K3 g=some (K0 g):=by
 have hG:=L7 g hl
 obtain⟨r,n,es⟩:=g
 unfold K3 K0
 simp only[hG,oB]
 cases hg:Q0 (r,n,es)with
 |false =>
  have h1:i5 es r n S0 0=some (.inr ()):=by
   rw[show S0=(S0-1)+1 from rfl,i5.eq_2]
   by_cases e:decide ((0:Int)<(es.length:Int))=true
   ·rw[e,C1,hG,oB,hg,if_neg (by simp)]
   ·rw[Bool.not_eq_true]at e
    rw[e,H1,oB,if_neg (by simp)]
  rw[h1]
  rfl
 |true =>
  have h:=w0a r n es hg hl es.length 0 S0 (by omega) (Y0 hl)
  rw[show((0:Nat):Int)=0 from rfl,List.drop_zero,List.take_zero,P0m]at h
  rw[h,oB]
  cases S08 es<;>rfl
def C2(g:j0):Int→List Int→Int×Nat
 |v,[]=>(v,0)
 |v,x::w=>if U0 g v x<0 then(v,0)else((C2 g (U0 g v x) w).1,(C2 g (U0 g v x) w).2+1)
theorem P04(g:j0):∀(w:List Int) (v:Int),(C2 g v w).2≤w.length
 | [],v=>by simp[C2]
 |x::w,v=>by
  have:=P04 g w (U0 g v x)
  unfold C2
  split
  ·simp
  ·simp only[List.length_cons];omega
theorem G07{g:j0}(hg:inG g)(hn:g.2.1≤40):∀(w:List Int) (v:Int),M0 v→M0 (C2 g v w).1
 | [],v,h=>h
 |x::w,v,h=>by
  unfold C2
  split
  ·exact h
  ·exact G07 hg hn w _ (v02 hg hn v x)
def O0p(q:Int×Nat)(n:Nat)(k:Nat):(Int×Int) ⊕ Int:=bif decide (q.2<n)then .inl (q.1,((k+q.2:Nat):Int))else .inr q.1
theorem v0c(r n:Int)(es:List H0)(hg:inG (r,n,es))(hn:n≤40)(hes:es.length≤1099511627776)(w:List Int)(hw:∀ x∈w,j4 x)(hl:w.length≤140737488355328):∀(d k fuel:Nat) (v:Int),k+d=w.length→d<fuel →
  O5 w r n es fuel v (k:Int)=some (O0p (C2 (r,n,es) v (w.drop k)) d k)
 |d,k,0,v,hd,hf=>by omega
 |0,k,fuel+1,v,hd,hf=>by
  rw[O5.eq_2,if_neg (by simp;omega),E1 (by omega)]
  rfl
 |d+1,k,fuel+1,v,hd,hf=>by
  have hk:k<w.length:=by omega
  have hx:=p5 hk
  have hxm:=hw _ (List.getElem_mem hk)
  generalize w[k]=x at hx hxm
  rw[O5.eq_2,if_pos (by simp;omega),j2 hx,oB,N04 (r,n,es) v x hxm hes,oB,D0 (v02 hg hn v x),oB,J1 hx]
  unfold C2
  by_cases h:U0 (r,n,es) v x<0
  ·rw[if_pos (by simpa using h),if_pos h]
   simp[O0p]
  ·rw[if_neg (by simpa using h),if_neg h,V1 hk (by omega),v0c r n es hg hn hes w hw hl d (k+1) fuel _ (by omega) (by omega)]
   unfold O0p
   simp only[Nat.add_lt_add_iff_right]
   congr 2
   simp only[Nat.add_assoc,Nat.add_comm 1]
theorem u0o(g:j0)(hg:inG g)(hn:g.2.1≤40)(hes:g.2.2.length≤1099511627776)(v:Int)(w:List Int)(hw:∀ x∈w,j4 x)(hl:w.length≤140737488355328):b9 g v w=some ((C2 g v w).1,(((C2 g v w).2:Nat):Int)):=by
 obtain⟨r,n,es⟩:=g
 unfold b9
 have h:=v0c r n es hg hn hes w hw hl w.length 0 S0 v (by omega) (Y0 hl)
 rw[show((0:Nat):Int)=0 from rfl,List.drop_zero]at h
 have hle:=P04 (r,n,es) w v
 simp only[h,oB,O0p]
 by_cases hc:(C2 (r,n,es) v w).2<w.length
 ·simp[hc,Z7]
 ·have:(C2 (r,n,es) v w).2=w.length:=by omega
  simp[this,Z7]
theorem w0c(r n:Int)(es:List H0)(hg:inG (r,n,es))(hn:n≤40)(hes:es.length≤1099511627776)(w:List Int)(hw:∀ x∈w,j4 x)(hl:w.length≤140737488355328):∀(d k fuel:Nat) (v:Int),k+d=w.length→d<fuel →
  L6 w r n es fuel v (k:Int)=some (bif decide ((C2 (r,n,es) v (w.drop k)).2<d)then .inl (-1,false)else .inr (C2 (r,n,es) v (w.drop k)).1)
 |d,k,0,v,hd,hf=>by omega
 |0,k,fuel+1,v,hd,hf=>by
  rw[L6.eq_2,if_neg (by simp;omega),E1 (by omega)]
  rfl
 |d+1,k,fuel+1,v,hd,hf=>by
  have hk:k<w.length:=by omega
  have hx:=p5 hk
  have hxm:=hw _ (List.getElem_mem hk)
  generalize w[k]=x at hx hxm
  rw[L6.eq_2,if_pos (by simp;omega),j2 hx,oB,t03 (r,n,es) v x hxm hes,oB,D0 (v02 hg hn v x),oB,J1 hx]
  unfold C2
  by_cases h:U0 (r,n,es) v x<0
  ·rw[if_pos (by simpa using h),if_pos h]
   simp
  ·rw[if_neg (by simpa using h),if_neg h,V1 hk (by omega),w0c r n es hg hn hes w hw hl d (k+1) fuel _ (by omega) (by omega)]
   simp only[Nat.add_lt_add_iff_right]
theorem v0o(g:j0)(hf:K0 g=true)(v:Int)(hv:0≤v∧v<g.2.1)(w:List Int)(hw:∀ x∈w,j4 x)(hl:w.length≤140737488355328):
  a00 g v w=some (bif decide ((C2 g v w).2<w.length)then(-1,false)else((C2 g v w).1,true)):=by
 have hgr:Q0 g=true:=by unfold K0 at hf;simp only[Bool.and_eq_true]at hf;exact hf.1
 obtain⟨hg,_,hn,hes⟩:=A2 hgr
 have hF:=I5 g (by omega)
 obtain⟨r,n,es⟩:=g
 simp only at hv hn hes
 unfold a00
 have h:=w0c r n es hg hn.2 (by omega) w hw hl w.length 0 S0 v (by omega) (Y0 hl)
 rw[show((0:Nat):Int)=0 from rfl,List.drop_zero]at h
 have hr:inR 0 (n-1) v=true:=by simp only[inR,Bool.and_eq_true,decide_eq_true_eq];omega
 simp only[hF,hf,oB,Bool.not_true,Bool.not_false,C1,v01,w64 (show -9223372036854775808≤n-1 by omega) (show n-1≤9223372036854775807 by omega),hr,cond_false,Bool.false_eq_true,if_false,h]
 cases decide ((C2 (r,n,es) v w).2<w.length)<;>rfl
theorem j1{g:j0}(h:K0 g=true):inG g∧(1≤g.1∧g.1≤3)∧(1≤g.2.1∧g.2.1≤40)∧g.2.2.length≤120:=by
 unfold K0 at h
 simp only[Bool.and_eq_true]at h
 exact A2 h.1
def w0o(v:Int)(e:H0):Nat:=(if e.1=v then 1 else 0)+(if e.2.2=v then 1 else 0)
def Z02(v:Int):List H0→Nat
 | []=>0
 |e::r=>w0o v e+Z02 v r
theorem P0p(v:Int)(e:H0):w0o v e≤2:=by unfold w0o;split<;>split<;>omega
theorem D0h(v:Int):∀ l,Z02 v l≤2*l.length
 | []=>by simp[Z02]
 |e::r=>by have:=P0p v e;have:=D0h v r;simp only[Z02,List.length_cons];omega
theorem m0e(es:List H0)(v:Int)(hl:es.length≤1099511627776):∀(d k fuel acc:Nat),k+d=es.length→d<fuel→acc≤2*k →
  l3 es v fuel (acc:Int) (k:Int)=some ((acc+Z02 v (es.drop k):Nat):Int)
 |d,k,0,acc,hd,hf,ha=>by omega
 |0,k,fuel+1,acc,hd,hf,ha=>by
  rw[l3.eq_2,if_neg (by simp;omega),E1 (by omega)];rfl
 |d+1,k,fuel+1,acc,hd,hf,ha=>by
  have hk:k<es.length:=by omega
  have he:=p5 hk
  generalize es[k]=e at he
  obtain⟨a,l,b⟩:=e
  have ih:=fun acc' h=>m0e es v hl d (k+1) fuel acc' (by omega) (by omega) h
  have w1:IntKind.i64.wrap ((acc:Int)+1)=((acc+1:Nat):Int):=by rw[w64 (by omega) (by omega)];rfl
  have w2:IntKind.i64.wrap (((acc+1:Nat):Int)+1)=((acc+2:Nat):Int):=by rw[w64 (by omega) (by omega)];rfl
  rw[l3.eq_2,if_pos (by simp;omega),j2 he,J1 he]
  simp only[oB,Z02,w0o,V1 hk (show es.length≤9223372036854775807 by omega)]
  by_cases c1:a=v
  ·rw[if_pos (by simpa using c1),if_pos c1]
   by_cases c2:b=v
   ·rw[if_pos (by simpa using c2),if_pos c2,w1,w2,ih _ (by omega)];congr 2;omega
   ·rw[if_neg (by simpa using c2),if_neg c2,w1,ih _ (by omega)];congr 2;omega
  ·rw[if_neg (by simpa using c1),if_neg c1]
   by_cases c2:b=v
   ·rw[if_pos (by simpa using c2),if_pos c2,w1,ih _ (by omega)];congr 2;omega
   ·rw[if_neg (by simpa using c2),if_neg c2,ih _ (by omega)];congr 2;omega
theorem n0e(es:List H0)(v:Int):∀(fuel:Nat) (x y:Int),j5 es v fuel x y=l3 es v fuel x y
 |0,x,y=>rfl
 |fuel+1,x,y=>by
  rw[j5.eq_2,l3.eq_2]
  simp only[n0e es v fuel]
  by_cases c:(decide (y<((es.length:Nat):Int)))=true
  ·rw[if_pos c,if_pos c]
   cases hg:gi es y with
   |none=>rfl
   |some e=>simp only[oB]
  ·rw[if_neg c,if_neg c]
theorem g0g(g:j0)(v:Int)(hl:g.2.2.length≤1099511627776):b00 g v=some ((Z02 v g.2.2:Nat):Int):=by
 obtain⟨r,n,es⟩:=g
 unfold b00
 have h:=m0e es v hl es.length 0 S0 0 (by omega) (Y0 (by simp only at hl;omega)) (Nat.zero_le _)
 rw[show((0:Nat):Int)=0 from rfl,List.drop_zero,Nat.zero_add]at h
 simp only[h,oB]
theorem Q0m(g:j0)(v:Int)(hl:g.2.2.length≤1099511627776):Y00 g v=some ((Z02 v g.2.2:Nat):Int):=by
 have h:=g0g g v hl
 obtain⟨r,n,es⟩:=g
 unfold Y00
 unfold b00 at h
 simp only[n0e]at h ⊢
 exact h
def o0e(g h:j0):Bool:=decide (g=h)
theorem o0d(x y:H0):eqE x y=true↔x=y:=by simp[eqE]
theorem x0c(a b:List H0)(hab:a.length=b.length)(hl:a.length≤9223372036854775807):∀(d k fuel:Nat),k+d=a.length→d<fuel →
  G1 a b fuel (k:Int)=some (if a.drop k=b.drop k then .inr ()else .inl false)
 |d,k,0,hd,hf=>by omega
 |0,k,fuel+1,hd,hf=>by
  rw[G1.eq_2,if_neg (by simp;omega),E1 (by omega),E1 (by omega)];rfl
 |d+1,k,fuel+1,hd,hf=>by
  have hk:k<a.length:=by omega
  have hk2:k<b.length:=by omega
  have ha:=p5 hk
  have hb:=p5 hk2
  generalize a[k]=x at ha
  generalize b[k]=y at hb
  have ih:=x0c a b hab hl d (k+1) fuel (by omega) (by omega)
  rw[G1.eq_2,if_pos (by simp;omega),j2 ha,j2 hb,J1 ha,J1 hb]
  simp only[oB,V1 hk hl,ih]
  by_cases c:x=y
  ·subst c
   rw[if_neg (by simp[eqE])]
   simp
  ·have hne:eqE x y=false:=Bool.eq_false_iff.2 fun h=>c ((o0d x y).1 h)
   rw[if_pos (show(!eqE x y)=true by rw[hne];rfl),if_neg (by simp[c])]
theorem p0e(a b:List H0)(hl:a.length≤9223372036854775807):L2 a b=some (decide (a=b)):=by
 unfold L2
 by_cases hab:a.length=b.length
 ·have h:=x0c a b hab hl a.length 0 S0 (by omega) (by unfold S0;omega)
  rw[if_neg (by simp;omega),show(0:Int)=((0:Nat):Int) from rfl,h,List.drop_zero,List.drop_zero]
  by_cases c:a=b
  ·rw[if_pos c];simp[Z7,c]
  ·rw[if_neg c];simp[Z7,c]
 ·rw[if_pos (by simp;omega)]
  congr 1
  symm
  simp
  intro h;exact hab (by rw[h])
theorem i0g(g h:j0)(hl:g.2.2.length≤9223372036854775807):B8 g h=some (o0e g h):=by
 obtain⟨r,n,es⟩:=g
 obtain⟨r',n',es'⟩:=h
 unfold B8 o0e
 simp only[Prod.mk.injEq]
 by_cases c1:r=r'<;>by_cases c2:n=n'<;>simp[c1,c2,C1,H1,p0e es es' hl]
theorem j0g(a b:List H0):∀(fuel:Nat) (k:Int),Z5 a b fuel k=G1 a b fuel k
 |0,k=>rfl
 |fuel+1,k=>by
  rw[Z5.eq_2,G1.eq_2]
  simp only[j0g a b fuel]
theorem k0g(g h:j0)(hl:g.2.2.length≤9223372036854775807):A8 g h=some (o0e g h):=by
 have hS:=p0e g.2.2 h.2.2 hl
 obtain⟨r,n,es⟩:=g
 obtain⟨r',n',es'⟩:=h
 unfold A8 o0e
 unfold L2 at hS
 simp only[j0g,Prod.mk.injEq]at hS ⊢
 by_cases c1:r=r'
 ·by_cases c2:n=n'
  ·simp only[c1,c2,decide_true,Bool.not_true,cond_false,true_and]
   rw[←hS]
  ·simp[c1,c2]
 ·simp[c1]
def goE(x:H0):List H0→Bool×List H0
 | []=>(false,[])
 |y::l=>if O0 x y<0 then(true,x::y::l)else if O0 x y=0 then(true,y::l)else((goE x l).1,y::(goE x l).2)
theorem H0l(x:H0):∀ l,k00 O0 x l=bif(goE x l).1 then(goE x l).2 else(goE x l).2 ++ [x]
 | []=>rfl
 |y::l=>by
  have ih:=H0l x l
  unfold k00 goE
  by_cases c1:O0 x y<0
  ·rw[if_pos c1,if_pos c1];rfl
  ·rw[if_neg c1,if_neg c1]
   by_cases c2:O0 x y=0
   ·rw[if_pos c2,if_pos c2];rfl
   ·rw[if_neg c2,if_neg c2,ih];cases (goE x l).1<;>rfl
theorem E0b(l:List H0)(w0 w1 w2:Int)(hl:l.length≤1099511627776):∀(d k fuel:Nat) (acc:List H0),k+d=l.length→d<fuel→acc.length≤k+1 →
  d4 l w0 w1 w2 fuel true (k:Int) acc=some (true,acc++l.drop k)
 |d,k,0,acc,hd,hf,ha=>by omega
 |0,k,fuel+1,acc,hd,hf,ha=>by
  rw[d4.eq_2,if_neg (by simp;omega),E1 (by omega),List.append_nil]
 |d+1,k,fuel+1,acc,hd,hf,ha=>by
  have hk:k<l.length:=by omega
  have he:=p5 hk
  generalize l[k]=e at he
  obtain⟨a,x,b⟩:=e
  have ih:=E0b l w0 w1 w2 hl d (k+1) fuel (acc ++ [(a,x,b)]) (by omega) (by omega) (by simp;omega)
  rw[d4.eq_2,if_pos (by simp;omega),J1 he]
  simp only[j2 he,oB,C02,D0 (n0d _ _),V1 hk (show l.length≤9223372036854775807 by omega),Bool.not_true]
  have hb:∀ b:Bool,(bif b then false else false)=false:=fun b=>by cases b<;>rfl
  simp only[hb,Bool.false_eq_true,if_false]
  rw[D0 (by simp;omega),oB,ih]
  simp
theorem q0e(l:List H0)(w0 w1 w2:Int)(hl:l.length≤1099511627776):∀(d k fuel:Nat) (acc:List H0),k+d=l.length→d<fuel→acc.length=k →
  d4 l w0 w1 w2 fuel false (k:Int) acc=some ((goE (w0,w1,w2) (l.drop k)).1,acc++(goE (w0,w1,w2) (l.drop k)).2)
 |d,k,0,acc,hd,hf,ha=>by omega
 |0,k,fuel+1,acc,hd,hf,ha=>by
  rw[d4.eq_2,if_neg (by simp;omega),E1 (by omega)];simp[goE]
 |d+1,k,fuel+1,acc,hd,hf,ha=>by
  have hk:k<l.length:=by omega
  have he:=p5 hk
  generalize l[k]=e at he
  obtain⟨a,x,b⟩:=e
  have ih:=q0e l w0 w1 w2 hl d (k+1) fuel (acc ++ [(a,x,b)]) (by omega) (by omega) (by simp;omega)
  have on1:=E0b l w0 w1 w2 hl d (k+1) fuel (acc ++ [(a,x,b)]) (by omega) (by omega) (by simp;omega)
  have on2:=E0b l w0 w1 w2 hl d (k+1) fuel ((acc ++ [(w0,w1,w2)]) ++ [(a,x,b)]) (by omega) (by omega) (by simp;omega)
  rw[d4.eq_2,if_pos (by simp;omega),J1 he]
  simp only[j2 he,oB,C02,D0 (n0d _ _),V1 hk (show l.length≤9223372036854775807 by omega),Bool.not_true,Bool.not_false,goE]
  show _=_
  unfold g0e
  by_cases c1:O0 (w0,w1,w2) (a,x,b)=0
  ·rw[if_pos (by simpa using c1),if_neg (by simp[c1]),if_neg (by omega),if_pos c1]
   rw[D0 (by simp;omega),oB,on1];simp
  ·rw[if_neg (by simpa using c1)]
   by_cases c2:O0 (w0,w1,w2) (a,x,b)<0
   ·rw[if_pos (by simp[c2]),if_pos c2,D0 (by simp;omega),oB,D0 (by simp;omega),oB,on2];simp
   ·rw[if_neg (by simp[c2]),if_neg c2,if_neg c1,D0 (by simp;omega),oB,ih];simp
theorem r05(l:List H0)(e:H0)(hl:l.length≤1099511627776):l7 l e=some (k00 O0 e l):=by
 obtain⟨w0,w1,w2⟩:=e
 unfold l7
 have h:=q0e l w0 w1 w2 hl l.length 0 S0 [] (by omega) (Y0 (by omega)) rfl
 rw[show((0:Nat):Int)=0 from rfl,List.drop_zero,List.nil_append]at h
 simp only[h,oB,H0l]
 have hlen:∀ l:List H0,(goE (w0,w1,w2) l).2.length≤l.length+1:=fun l=>by
  induction l with
  |nil=>simp[goE]
  |cons y l ih =>
   unfold goE
   split
   ·simp
   ·split
    ·simp
    ·simp only[List.length_cons];omega
 have:=hlen l
 cases (goE (w0,w1,w2) l).1 with
 |true=>rfl
 |false =>
  simp only[Bool.not_false,if_true,cond_false]
  rw[D0 (by simp;omega),oB]
theorem f06(e:H0):∀ l:List H0,(k00 O0 e l).length≤l.length+1
 | []=>by simp[k00]
 |y::l=>by
  have:=f06 e l
  unfold k00
  split
  ·simp
  ·split
   ·simp
   ·simp only[List.length_cons];omega
theorem x0a(es:List H0)(hl:es.length≤1099511627776):D9 es=some (o5 O0 [] es):=by
 unfold D9
 rw[D0 (by simp;omega),oB,D0 (by simp;omega),oB,List.nil_append]
 exact congrArg some (b0j E6 o0d es es fun _=>Iff.rfl)
theorem K01(g:j0)(hl:g.2.2.length≤1099511627776):D4 g=some g:=by
 obtain⟨r,n,es⟩:=g
 unfold D4
 simp only
 rw[D0 (by simp only[List.length_nil,Nat.zero_add];simp only at hl;omega)];rfl
theorem T00(g:j0)(hl:g.2.2.length≤1099511627776):U3 g=some g:=by
 obtain⟨r,n,es⟩:=g
 unfold U3
 simp only
 rw[D0 (by simp only[List.length_nil,Nat.zero_add];simp only at hl;omega)];rfl
inductive Rch (es:List H0) (v:Int):Int→Prop
 |base:Rch es v v
 |fwd {e:H0}:e∈es→Rch es v e.1→Rch es v e.2.2
 |bwd {e:H0}:e∈es→Rch es v e.2.2→Rch es v e.1
theorem Rch.closed{es:List H0}{v:Int}:∀ e∈es,Rch es v e.1↔Rch es v e.2.2:=fun e he=>⟨.fwd he,.bwd he⟩
theorem Rch.sub{es:List H0}{v:Int}{P:Int→Prop}(hv:P v)(hc:∀ e∈es,P e.1↔P e.2.2):∀ {x},Rch es v x→P x
 |_,.base=>hv
 |_,.fwd he h=>(hc _ he).1 (Rch.sub hv hc h)
 |_,.bwd he h=>(hc _ he).2 (Rch.sub hv hc h)
def H9(S:List Bool)(i:Int):Bool:=S.getD i.toNat false
def stJ(S:List Bool)(e:H0):List Bool:=(S.set e.1.toNat true).set e.2.2.toNat true
def pJ:List H0→Bool→List Bool→Bool×List Bool
 | [],c,S=>(c,S)
 |e::r,c,S=>bif H9 S e.1 == H9 S e.2.2 then pJ r c S else pJ r true (stJ S e)
def cF:List Bool→Nat
 | []=>0
 |b::r=>(bif b then 0 else 1)+cF r
theorem B0k:∀(S:List Bool) (i:Nat),cF (S.set i true)≤cF S
 | [],i=>by simp[cF]
 |b::r,0=>by simp[cF]
 |b::r,i+1=>by have:=B0k r i;simp only[List.set_cons_succ,cF];omega
theorem x0o:∀(S:List Bool) (i:Nat),S[i]?=some false→cF (S.set i true)<cF S
 | [],i,h=>by simp at h
 |b::r,0,h=>by simp at h;subst h;simp[cF]
 |b::r,i+1,h=>by have:=x0o r i (by simpa using h);simp only[List.set_cons_succ,cF];omega
theorem i0q:∀ S:List Bool,cF S≤S.length
 | []=>by simp[cF]
 |b::r=>by have:=i0q r;cases b<;>simp only[cF,List.length_cons,cond_true,cond_false]<;>omega
def inN(n:Nat)(es:List H0):Prop:=∀ e∈es,(0≤e.1∧e.1<(n:Int))∧(0≤e.2.2∧e.2.2<(n:Int))
theorem H07{S:List Bool}{i:Nat}(h:i<S.length)(x:Int):H9 (S.set i true) x=(decide (x.toNat=i) || H9 S x):=by
 unfold H9
 rw[List.getD_eq_getElem?_getD,List.getD_eq_getElem?_getD,List.getElem?_set]
 by_cases c:i=x.toNat
 ·rw[if_pos c,if_pos (by omega)];simp[c]
 ·rw[if_neg c]
  have:decide (x.toNat=i)=false:=by simp;exact fun e=>c e.symm
  rw[this];rfl
theorem C0k:∀(es:List H0) (c:Bool) (S:List Bool),(pJ es c S).2.length=S.length
 | [],c,S=>rfl
 |e::r,c,S=>by
  unfold pJ
  cases H9 S e.1 == H9 S e.2.2
  ·simp only[cond_false];rw[C0k r];simp[stJ]
  ·simp only[cond_true];exact C0k r c S
theorem E0h{n:Nat}:∀(es:List H0) (c:Bool) (S:List Bool),S.length=n→inN n es→∀ x,H9 S x=true→H9 (pJ es c S).2 x=true
 | [],c,S,hl,hn,x,h=>h
 |e::r,c,S,hl,hn,x,h=>by
  have he:=hn e mS
  have hr:inN n r:=fun e he=>hn e (mC _ he)
  unfold pJ
  cases H9 S e.1 == H9 S e.2.2
  ·simp only[cond_false]
   refine E0h r _ _ (by simp[stJ,hl]) hr x ?_
   rw[stJ,H07 (by rw[List.length_set];omega),H07 (by omega),h];simp
  ·simp only[cond_true];exact E0h r c S hl hr x h
theorem r0e{n:Nat}{P:Int→Prop}:∀(es:List H0) (c:Bool) (S:List Bool),S.length=n→inN n es→(∀ e∈es,P e.1↔P e.2.2)→(∀ x,0≤x→H9 S x=true→P x)→∀ x,0≤x→H9 (pJ es c S).2 x=true→P x
 | [],c,S,hl,hn,hc,hs,x,h0,h=>hs x h0 h
 |e::r,c,S,hl,hn,hc,hs,x,h0,h=>by
  have he:=hn e mS
  have hr:inN n r:=fun e he=>hn e (mC _ he)
  have hc':=fun e he=>hc e (mC _ he)
  have hce:=hc e mS
  unfold pJ at h
  cases hb:H9 S e.1 == H9 S e.2.2
  ·rw[hb]at h
   refine r0e r true (stJ S e) (by simp[stJ,hl]) hr hc' (fun y hy h=>?_) x h0 h
   rw[stJ,H07 (by rw[List.length_set];omega),H07 (by omega)]at h
   simp only[Bool.or_eq_true,decide_eq_true_eq]at h
   have hor:P e.1∨P e.2.2:=by
    cases h1:H9 S e.1
    ·cases h2:H9 S e.2.2
     ·rw[h1,h2]at hb;cases hb
     ·exact .inr (hs _ he.2.1 h2)
    ·exact .inl (hs _ he.1.1 h1)
   rcases h with h|h|h
   ·have:y=e.2.2:=by omega
    subst this;exact hor.elim hce.1 id
   ·have:y=e.1:=by omega
    subst this;exact hor.elim id hce.2
   ·exact hs y hy h
  ·rw[hb]at h
   exact r0e r c S hl hr hc' hs x h0 h
theorem D0k{n:Nat}:∀(es:List H0) (c:Bool) (S:List Bool),S.length=n→inN n es→cF (pJ es c S).2≤cF S∧((pJ es c S).1=true→c=true∨cF (pJ es c S).2<cF S)∧((pJ es c S).1=false→c=false∧(pJ es c S).2=S∧∀ e∈es,H9 S e.1=H9 S e.2.2)
 | [],c,S,hl,hn=>⟨Nat.le_refl _,fun h => .inl h,fun h=>⟨h,rfl,fun e he=>nomatch he⟩⟩
 |e::r,c,S,hl,hn=>by
  have he:=hn e mS
  have hr:inN n r:=fun e he=>hn e (mC _ he)
  unfold pJ
  cases hb:H9 S e.1 == H9 S e.2.2
  ·simp only[cond_false]
   obtain⟨h1,h2,h3⟩:=D0k r true (stJ S e) (by simp[stJ,hl]) hr
   have hlt:cF (stJ S e)<cF S:=by
    have g:∀(x:Int),0≤x→x<n→H9 S x=false→S[x.toNat]?=some false:=fun x hx hx2 hg=>by
     have hk:x.toNat<S.length:=by omega
     unfold H9 at hg
     rw[List.getD_eq_getElem?_getD,List.getElem?_eq_getElem hk]at hg
     rw[List.getElem?_eq_getElem hk];simpa using hg
    cases g1:H9 S e.1
    ·have:=x0o S _ (g _ he.1.1 he.1.2 g1)
     have:=B0k (S.set e.1.toNat true) e.2.2.toNat
     unfold stJ;omega
    ·have g2:H9 S e.2.2=false:=by
      cases g2:H9 S e.2.2
      ·rfl
      ·rw[g1,g2]at hb;cases hb
     have g3:(S.set e.1.toNat true)[e.2.2.toNat]?=some false:=by
      rw[List.getElem?_set]
      by_cases q:e.1.toNat=e.2.2.toNat
      ·exfalso
       have:e.1=e.2.2:=by omega
       rw[this,g2]at g1;cases g1
      ·rw[if_neg q];exact g _ he.2.1 he.2.2 g2
     have:=x0o _ _ g3
     have:=B0k S e.1.toNat
     unfold stJ;omega
   refine⟨by omega,fun _ => .inr (by omega),fun h=>?_⟩
   have:=(h3 h).1;cases this
  ·simp only[cond_true]
   obtain⟨h1,h2,h3⟩:=D0k r c S hl hr
   refine⟨h1,h2,fun h=>⟨(h3 h).1,(h3 h).2.1,fun e' he'=>?_⟩⟩
   rcases List.mem_cons.1 he' with rfl|he'
   ·simpa using hb
   ·exact(h3 h).2.2 e' he'
theorem giB{S:List Bool}{n:Nat}(hl:S.length=n){x:Int}(h0:0≤x)(h1:x<n):gi S x=some (H9 S x):=by
 have hk:x.toNat<S.length:=by omega
 have e:x=((x.toNat:Nat):Int):=by omega
 have h2:gi S ((x.toNat:Nat):Int)=some (H9 S x):=by
  rw[y0b,List.getElem?_eq_getElem hk]
  unfold H9
  rw[List.getD_eq_getElem?_getD,List.getElem?_eq_getElem hk];rfl
 rw[←e]at h2;exact h2
theorem l0g(es:List H0){n:Nat}(hn:inN n es)(hl:es.length≤9223372036854775807):∀(d k fuel:Nat) (c:Bool) (S:List Bool),S.length=n→k+d=es.length→d<fuel →
  O3 es fuel c (k:Int) S=some (pJ (es.drop k) c S)
 |d,k,0,c,S,hS,hd,hf=>by omega
 |0,k,fuel+1,c,S,hS,hd,hf=>by
  rw[O3.eq_2,if_neg (by simp;omega),E1 (by omega)];rfl
 |d+1,k,fuel+1,c,S,hS,hd,hf=>by
  have hk:k<es.length:=by omega
  have he:=p5 hk
  have hin:=hn _ (List.mem_of_getElem? he)
  generalize es[k]=e at he hin
  obtain⟨a,l,b⟩:=e
  have ih:=fun c' S' h=>l0g es hn hl d (k+1) fuel c' S' h (by omega) (by omega)
  rw[O3.eq_2,if_pos (by simp;omega),J1 he]
  simp only[j2 he,oB,giB hS hin.1.1 hin.1.2,giB hS hin.2.1 hin.2.2,V1 hk hl,giB (show(S.set a.toNat true).length=n by simp[hS]) hin.2.1 hin.2.2,pJ]
  cases hb:H9 S a == H9 S b
  ·simp only[Bool.not_false,if_true,cond_false]
   exact ih _ _ (by simp[hS])
  ·simp only[Bool.not_true,Bool.false_eq_true,if_false,cond_true]
   exact ih _ _ hS
theorem m0g(es:List H0){n:Nat}(hn:inN n es)(hl:es.length≤9223372036854775806):∀(m fuel:Nat) (S:List Bool),S.length=n→cF S≤m→m+1<fuel →
  ∃ S',L4 es fuel true S=some S'∧S'.length=n∧(∀ x,H9 S x=true→H9 S' x=true)∧(∀ e∈es,H9 S' e.1=H9 S' e.2.2) ∧
   ∀ P:Int→Prop,(∀ e∈es,P e.1↔P e.2.2)→(∀ x,0≤x→H9 S x=true→P x)→∀ x,0≤x→H9 S' x=true→P x
 |m,0,S,hS,hm,hf=>by omega
 |m,fuel+1,S,hS,hm,hf=>by
  have h0:=l0g es hn (by omega) es.length 0 S0 false S hS (by omega) (by unfold S0;omega)
  rw[show((0:Nat):Int)=0 from rfl,List.drop_zero]at h0
  obtain⟨c1,c2,c3⟩:=D0k es false S hS hn
  have hlen:=C0k es false S
  rw[L4.eq_2,if_pos rfl,h0,oB]
  have hmono:=E0h es false S hS hn
  have hsnd:=fun P=>r0e (P:=P) es false S hS hn
  generalize pJ es false S=q at *
  obtain⟨c,S'⟩:=q
  simp only at c1 c2 c3 hlen hmono hsnd ⊢
  cases c with
  |true =>
   rcases c2 rfl with h|h
   ·cases h
   ·obtain⟨S2,e1,e2,e3,e4,e5⟩:=m0g es hn hl (m-1) fuel S' (by omega) (by omega) (by omega)
    exact⟨S2,e1,e2,fun x hx=>e3 x (hmono x hx),e4,fun P hc hs=>e5 P hc (hsnd P hc hs)⟩
  |false =>
   obtain⟨_,e,hall⟩:=c3 rfl
   subst e
   obtain _|fuel:=fuel
   ·omega
   ·rw[L4.eq_2,if_neg (by simp)]
    exact⟨_,rfl,hS,fun x h=>h,hall,fun P _ hs=>hs⟩
theorem f0j(r:Int)(n:Nat)(es:List H0)(hn:inN n es)(hl:es.length≤9223372036854775806)(hn2:1≤n)(hn3:n≤140737488355328):
  ∃ S,p9 (r,(n:Int),es) 0=some S∧S.length=n∧∀ x,0≤x→x<(n:Int)→(H9 S x=true↔Rch es 0 x):=by
 unfold p9
 simp only[Int.toNat_natCast]
 have hg:gi (List.replicate n (false:Bool)) 0=some false:=by
  rw[B0h (x:=false)];rw[List.getElem?_replicate,if_pos (by omega)]
 rw[D0 (by omega),oB,hg,oB]
 have hS:((List.replicate n (false:Bool)).set (0:Int).toNat true).length=n:=by simp
 obtain⟨S',e1,e2,e3,e4,e5⟩:=m0g es hn hl n S0 _ hS (by have:=i0q ((List.replicate n (false:Bool)).set (0:Int).toNat true);omega) (by unfold S0;omega)
 rw[e1]
 have hb:∀ x,H9 ((List.replicate n (false:Bool)).set (0:Int).toNat true) x=decide (x.toNat=0):=fun x=>by
  rw[H07 (by simp;omega)]
  have:H9 (List.replicate n false) x=false:=by
   unfold H9
   rw[List.getD_eq_getElem?_getD,List.getElem?_replicate]
   split<;>rfl
  rw[this];simp
 refine⟨S',rfl,e2,fun x h0 h1=>⟨fun h=>?_,fun h=>?_⟩⟩
 ·refine e5 (Rch es 0) Rch.closed (fun y hy h=>?_) x h0 h
  rw[hb]at h
  have:y=0:=by simp at h;omega
  subst this;exact .base
 ·exact Rch.sub (P:=fun x=>H9 S' x=true) (e3 0 (by rw[hb];rfl)) (fun e he=>by rw[e4 e he]) h
theorem j0q(l:List Int)(w:Int)(hl:l.length≤9223372036854775807):∀(d k fuel:Nat),k+d=l.length→d<fuel →
  P8 l w fuel (k:Int)=some (if w∈l.drop k then .inl true else .inr ())
 |d,k,0,hd,hf=>by omega
 |0,k,fuel+1,hd,hf=>by
  rw[P8.eq_2,if_neg (by simp;omega),E1 (by omega)];simp
 |d+1,k,fuel+1,hd,hf=>by
  have hk:k<l.length:=by omega
  have hx:=p5 hk
  generalize l[k]=x at hx
  have ih:=j0q l w hl d (k+1) fuel (by omega) (by omega)
  rw[P8.eq_2,if_pos (by simp;omega),J1 hx]
  simp only[j2 hx,oB,V1 hk hl,ih,List.mem_cons]
  by_cases c:x=w
  ·rw[if_pos (by simpa using c),if_pos (.inl c.symm)]
  ·rw[if_neg (by simpa using c)]
   by_cases c2:w∈l.drop (k+1)
   ·rw[if_pos c2,if_pos (.inr c2)]
   ·rw[if_neg c2,if_neg (fun h=>h.elim (fun e=>c e.symm) c2)]
theorem s08(l:List Int)(w:Int)(hl:l.length≤9223372036854775807):I8 l w=some (decide (w∈l)):=by
 unfold I8
 have h:=j0q l w hl l.length 0 S0 (by omega) (by unfold S0;omega)
 rw[show((0:Nat):Int)=0 from rfl,List.drop_zero]at h
 rw[h,oB]
 by_cases c:w∈l
 ·rw[if_pos c];simp[Z7,c]
 ·rw[if_neg c];simp[Z7,c]
def s1(u:List Int)(e:H0):List Int:=if e.1∈u then k00 Z8 e.2.2 u else u
def s2(u:List Int)(e:H0):List Int:=if e.2.2∈u then k00 Z8 e.1 u else u
def pS:List H0→List Int→List Int
 | [],u=>u
 |e::r,u=>pS r (s2 (s1 u e) e)
theorem F0b{u:List Int}{e:H0}{x:Int}:x∈s1 u e↔x∈u∨(e.1∈u∧x=e.2.2):=by
 unfold s1
 split
 ·rename_i h;rw[D07 o02];constructor
  ·rintro(h1|h1)
   ·exact .inr ⟨h,h1⟩
   ·exact .inl h1
  ·rintro(h1|⟨_,h1⟩)
   ·exact .inr h1
   ·exact .inl h1
 ·rename_i h;constructor
  ·exact .inl
  ·rintro(h1|⟨h1,_⟩)
   ·exact h1
   ·exact absurd h1 h
theorem G0b{u:List Int}{e:H0}{x:Int}:x∈s2 u e↔x∈u∨(e.2.2∈u∧x=e.1):=by
 unfold s2
 split
 ·rename_i h;rw[D07 o02];constructor
  ·rintro(h1|h1)
   ·exact .inr ⟨h,h1⟩
   ·exact .inl h1
  ·rintro(h1|⟨_,h1⟩)
   ·exact .inr h1
   ·exact .inl h1
 ·rename_i h;constructor
  ·exact .inl
  ·rintro(h1|⟨h1,_⟩)
   ·exact h1
   ·exact absurd h1 h
theorem y0o(u:List Int)(e:H0):(s1 u e).length≤u.length+1:=by
 unfold s1;split
 ·exact e06 _ _
 ·omega
theorem z0o(u:List Int)(e:H0):(s2 u e).length≤u.length+1:=by
 unfold s2;split
 ·exact e06 _ _
 ·omega
theorem E0k:∀(es:List H0) (u:List Int),(pS es u).length≤u.length+2*es.length
 | [],u=>by simp[pS]
 |e::r,u=>by
  have:=E0k r (s2 (s1 u e) e)
  have:=z0o (s1 u e) e
  have:=y0o u e
  simp only[pS,List.length_cons];omega
theorem L06:∀(es:List H0) (u:List Int) (x:Int),x∈u→x∈pS es u
 | [],u,x,h=>h
 |e::r,u,x,h=>L06 r _ x (G0b.2 (.inl (F0b.2 (.inl h))))
theorem s0e{P:Int→Prop}:∀(es:List H0) (u:List Int),(∀ e∈es,P e.1↔P e.2.2)→(∀ x∈u,P x)→∀ x∈pS es u,P x
 | [],u,hc,hs=>hs
 |e::r,u,hc,hs=>s0e r _ (fun e he=>hc e (mC _ he)) fun x hx=>by
  have hce:=hc e mS
  have h1:∀ y∈s1 u e,P y:=fun y hy=>by
   rcases F0b.1 hy with h|⟨h,rfl⟩
   ·exact hs y h
   ·exact hce.1 (hs _ h)
  rcases G0b.1 hx with h|⟨h,rfl⟩
  ·exact h1 x h
  ·exact hce.2 (h1 _ h)
theorem g0j:∀(es:List H0) (u:List Int) (e:H0),e∈es→e.1∈u∨e.2.2∈u→e.1∈pS es u∧e.2.2∈pS es u
 |e'::r,u,e,he,h=>by
  simp only[pS]
  rcases List.mem_cons.1 he with rfl|he
  ·have h2:e.2.2∈s1 u e:=by
    rcases h with h|h
    ·exact F0b.2 (.inr ⟨h,rfl⟩)
    ·exact F0b.2 (.inl h)
   exact⟨L06 r _ _ (G0b.2 (.inr ⟨h2,rfl⟩)),L06 r _ _ (G0b.2 (.inl h2))⟩
  ·exact g0j r _ e he (h.imp (fun h=>G0b.2 (.inl (F0b.2 (.inl h)))) fun h=>G0b.2 (.inl (F0b.2 (.inl h))))
def act(es:List H0)(u:List Int):Nat:=es.countP fun e=>decide (e.1∈u)&&decide (e.2.2∈u)
def clo(es:List H0)(u:List Int):Prop:=∀ e∈es,e.1∈u↔e.2.2∈u
theorem L0q(es:List H0)(u:List Int):act es u≤es.length:=List.countP_le_length
theorem n0g{α:Type}{p q:α→Bool}:∀ {l:List α},(∀ x∈l,p x=true→q x=true)→(∃ x∈l,p x=false∧q x=true)→l.countP p<l.countP q
 | [],_,⟨x,hx,_⟩=>nomatch hx
 |y::l,h,⟨x,hx,h1,h2⟩=>by
  have hle:l.countP p≤l.countP q:=List.countP_mono_left fun z hz=>h z (mC _ hz)
  rcases List.mem_cons.1 hx with rfl|hx
  ·rw[List.countP_cons_of_neg (by simp[h1]),List.countP_cons_of_pos h2];omega
  ·have ih:=n0g (l:=l) (fun z hz=>h z (mC _ hz)) ⟨x,hx,h1,h2⟩
   cases hp:p y
   ·rw[List.countP_cons_of_neg (by simp[hp])]
    have:l.countP q≤(y::l).countP q:=by rw[List.countP_cons];omega
    omega
   ·rw[List.countP_cons_of_pos hp,List.countP_cons_of_pos (h y mS hp)];omega
theorem y0a{es:List H0}{u:List Int}(h:clo es u)(x:Int):x∈pS es u↔x∈u :=
 ⟨s0e (P:=fun x=>x∈u) es u h (fun _ h=>h) x,L06 es u x⟩
theorem A0o{es:List H0}{u:List Int}:clo es (pS es u)∨act es u<act es (pS es u):=by
 by_cases h:clo es u
 ·left
  intro e he
  rw[y0a h,y0a h];exact h e he
 ·right
  have:∃ e∈es,¬ (e.1∈u↔e.2.2∈u):=by
   refine Classical.byContradiction fun hn=>h fun e he=>?_
   exact Classical.byContradiction fun h2=>hn ⟨e,he,h2⟩
  obtain⟨e,he,hne⟩:=this
  refine n0g (fun x hx h=>?_) ⟨e,he,?_,?_⟩
  ·simp only[Bool.and_eq_true,decide_eq_true_eq]at h ⊢
   exact⟨L06 _ _ _ h.1,L06 _ _ _ h.2⟩
  ·rw[Bool.eq_false_iff]
   intro h
   simp only[Bool.and_eq_true,decide_eq_true_eq]at h
   exact hne ⟨fun _=>h.2,fun _=>h.1⟩
  ·have ht:e.1∈u∨e.2.2∈u:=by
    refine Classical.byContradiction fun hn=>hne ⟨fun h=>absurd (.inl h) hn,fun h=>absurd (.inr h) hn⟩
   have:=g0j es u e he ht
   simp only[Bool.and_eq_true,decide_eq_true_eq];exact this
def itS(es:List H0):Nat→List Int→List Int
 |0,u=>u
 |j+1,u=>itS es j (pS es u)
theorem I0l(es:List H0):∀(j:Nat) (u:List Int),(itS es j u).length≤u.length+j*(2*es.length)
 |0,u=>by simp[itS]
 |j+1,u=>by have:=I0l es j (pS es u);have:=E0k es u;simp only[itS,Nat.add_mul,Nat.one_mul];omega
theorem J0l(es:List H0):∀(j:Nat) (u:List Int),clo es u→clo es (itS es j u)
 |0,u,h=>h
 |j+1,u,h=>J0l es j _ fun e he=>by rw[y0a h,y0a h];exact h e he
theorem K0l(es:List H0):∀(j:Nat) (u:List Int),clo es (itS es j u)∨act es u+j≤act es (itS es j u)
 |0,u => .inr (Nat.le_refl _)
 |j+1,u=>by
  rcases A0o (es:=es) (u:=u)with h|h
  ·exact .inl (J0l es j _ h)
  ·rcases K0l es j (pS es u)with h2|h2
   ·exact .inl h2
   ·right;simp only[itS];omega
theorem h0j(es:List H0):∀(j:Nat) (u:List Int) (x:Int),x∈u→x∈itS es j u
 |0,u,x,h=>h
 |j+1,u,x,h=>h0j es j _ x (L06 es u x h)
theorem o0g{P:Int→Prop}(es:List H0)(hc:∀ e∈es,P e.1↔P e.2.2):∀(j:Nat) (u:List Int),(∀ x∈u,P x)→∀ x∈itS es j u,P x
 |0,u,hs=>hs
 |j+1,u,hs=>o0g es hc j _ (s0e es u hc hs)
theorem z0a(es:List H0)(v x:Int):x∈itS es (es.length+1) [v]↔Rch es v x:=by
 constructor
 ·exact o0g (P:=Rch es v) es Rch.closed _ _ (fun y hy=>by simp at hy;subst hy;exact .base) x
 ·have hc:clo es (itS es (es.length+1) [v]):=by
   rcases K0l es (es.length+1) [v]with h|h
   ·exact h
   ·have:=L0q es (itS es (es.length+1) [v]);omega
  exact Rch.sub (P:=fun x=>x∈itS es (es.length+1) [v]) (h0j _ _ _ _ (by simp)) hc
theorem t0e(es:List H0)(hl:es.length≤9223372036854775807):∀(d k fuel:Nat) (u:List Int),k+d=es.length→d<fuel→u.length+2*d≤1099511627776 →
  j3 es fuel u (k:Int)=some (pS (es.drop k) u)
 |d,k,0,u,hd,hf,hu=>by omega
 |0,k,fuel+1,u,hd,hf,hu=>by
  rw[j3.eq_2,if_neg (by simp;omega),E1 (by omega)];rfl
 |d+1,k,fuel+1,u,hd,hf,hu=>by
  have hk:k<es.length:=by omega
  have he:=p5 hk
  generalize es[k]=e at he
  obtain⟨a,l,b⟩:=e
  have ih:=fun u' h=>t0e es hl d (k+1) fuel u' (by omega) (by omega) h
  have g1:=y0o u (a,l,b)
  have g2:=z0o (s1 u (a,l,b)) (a,l,b)
  rw[j3.eq_2,if_pos (by simp;omega),J1 he]
  simp only[j2 he,oB,s08 u _ (by omega),V1 hk hl,pS]
  by_cases c:a∈u
  ·rw[if_pos (by simpa using c),q0a _ _ (by omega),oB]
   have e1:s1 u (a,l,b)=k00 Z8 b u:=if_pos c
   rw[e1]at g1 g2 ⊢
   rw[s08 _ _ (by omega),oB]
   by_cases c2:b∈k00 Z8 b u
   ·rw[if_pos (by simpa using c2),q0a _ _ (by omega),oB]
    have e2:s2 (k00 Z8 b u) (a,l,b)=k00 Z8 a (k00 Z8 b u):=if_pos c2
    rw[e2]at g2 ⊢
    exact ih _ (by omega)
   ·rw[if_neg (by simpa using c2)]
    have e2:s2 (k00 Z8 b u) (a,l,b)=k00 Z8 b u:=if_neg c2
    rw[e2]
    exact ih _ (by omega)
  ·rw[if_neg (by simpa using c)]
   have e1:s1 u (a,l,b)=u:=if_neg c
   rw[e1]at g2 ⊢
   by_cases c2:b∈u
   ·rw[if_pos (by simpa using c2),q0a _ _ (by omega),oB]
    have e2:s2 u (a,l,b)=k00 Z8 a u:=if_pos c2
    rw[e2]at g2 ⊢
    exact ih _ (by omega)
   ·rw[if_neg (by simpa using c2)]
    have e2:s2 u (a,l,b)=u:=if_neg c2
    rw[e2]
    exact ih _ (by omega)
theorem u0e(es:List H0)(hl:es.length≤120):∀(d k fuel:Nat) (u:List Int),k+d=es.length+1→d<fuel→u.length≤1+k*240 →
  s5 es fuel u (k:Int)=some (itS es d u)
 |d,k,0,u,hd,hf,hu=>by omega
 |0,k,fuel+1,u,hd,hf,hu=>by
  rw[s5.eq_2,if_neg (by rw[w64 (by omega) (by omega)];simp;omega)];rfl
 |d+1,k,fuel+1,u,hd,hf,hu=>by
  have h0:=t0e es (by omega) es.length 0 S0 u (by omega) (Y0 (by omega)) (by omega)
  rw[show((0:Nat):Int)=0 from rfl,List.drop_zero]at h0
  have ih:=u0e es hl d (k+1) fuel (pS es u) (by omega) (by omega) (by have:=E0k es u;omega)
  rw[s5.eq_2,if_pos (by rw[w64 (by omega) (by omega)];simp;omega),h0,oB,V1 (show k<1000 by omega) (by omega),ih]
  rfl
def getI(P:List Int)(v:Int):Int:=P.getD v.toNat (-1)
def U00:List Int→Nat→List Int→List Int
 |A,k,[]=>A
 |A,k,v::r=>U00 (A.set v.toNat (k:Int)) (k+1) r
def plc(n:Nat)(o:List Int):List Int:=U00 (List.replicate n (-1)) 0 o
theorem v0e:∀(o:List Int) (k:Nat) (A:List Int),(U00 A k o).length=A.length
 | [],k,A=>rfl
 |v::r,k,A=>by rw[U00,v0e r];simp
def inV(n:Nat)(o:List Int):Prop:=∀ v∈o,0≤v∧v<(n:Int)
theorem giI{P:List Int}{n:Nat}(hl:P.length=n){x:Int}(h0:0≤x)(h1:x<n):gi P x=some (getI P x):=by
 have hk:x.toNat<P.length:=by omega
 have e:x=((x.toNat:Nat):Int):=by omega
 have h2:gi P ((x.toNat:Nat):Int)=some (getI P x):=by
  rw[y0b,List.getElem?_eq_getElem hk]
  unfold getI
  rw[List.getD_eq_getElem?_getD,List.getElem?_eq_getElem hk];rfl
 rw[←e]at h2;exact h2
theorem R03{A:List Int}{v x:Int}{y:Int}(h0:0≤v)(h1:v.toNat<A.length)(hx:0≤x):getI (A.set v.toNat y) x=if x=v then y else getI A x:=by
 unfold getI
 rw[List.getD_eq_getElem?_getD,List.getD_eq_getElem?_getD,List.getElem?_set]
 by_cases c:x=v
 ·rw[if_pos c,if_pos (by rw[c]),if_pos h1];rfl
 ·rw[if_neg c,if_neg (by omega)]
theorem A0a{n:Nat}:∀(o:List Int) (k:Nat) (A:List Int),A.length=n→inV n o→(∀ x,0≤x → -1≤getI A x∧getI A x<(k:Int))→∀ x,0≤x → -1≤getI (U00 A k o) x∧getI (U00 A k o) x<((k+o.length:Nat):Int)
 | [],k,A,hA,ho,h,x,hx=>h x hx
 |v::r,k,A,hA,ho,h,x,hx=>by
  have hv:=ho v mS
  have:=A0a r (k+1) (A.set v.toNat (k:Int)) (by simp[hA]) (fun w hw=>ho w (mC _ hw)) (fun y hy=>by
   rw[R03 hv.1 (by omega) hy]
   have:=h y hy
   split<;>omega) x hx
  rw[U00,List.length_cons,show k+(r.length+1)=k+1+r.length by omega];exact this
theorem I07(n:Nat)(x:Int):getI (List.replicate n (-1)) x = -1:=by
 unfold getI
 rw[List.getD_eq_getElem?_getD,List.getElem?_replicate]
 split<;>rfl
theorem g06{n:Nat}{o:List Int}(ho:inV n o){x:Int}(hx:0≤x): -1≤getI (plc n o) x∧getI (plc n o) x<(o.length:Int):=by
 have:=A0a o 0 (List.replicate n (-1)) (by simp) ho (fun x hx=>by rw[I07];omega) x hx
 rw[Nat.zero_add]at this;exact this
theorem L0l(n:Nat)(o:List Int):(plc n o).length=n:=by unfold plc;rw[v0e];simp
def pE(P:List Int):List H0→List H0
 | []=>[]
 |e::r=>bif decide (0≤getI P e.1)&&decide (0≤getI P e.2.2)then(getI P e.1,e.2.1,getI P e.2.2)::pE P r else pE P r
theorem F0h(P:List Int):∀ es,(pE P es).length≤es.length
 | []=>by simp[pE]
 |e::r=>by
  have:=F0h P r
  unfold pE
  cases decide (0≤getI P e.1)&&decide (0≤getI P e.2.2)<;>simp only[cond_true,cond_false,List.length_cons]<;>omega
theorem k0q{n:Nat}{o:List Int}(ho:inV n o):∀(es:List H0),inN n es→inN o.length (pE (plc n o) es)
 | [],hn=>fun e he=>nomatch he
 |e::r,hn=>by
  have hr:=k0q ho r fun e he=>hn e (mC _ he)
  have he:=hn e mS
  unfold pE
  cases hb:decide (0≤getI (plc n o) e.1)&&decide (0≤getI (plc n o) e.2.2)
  ·simpa only[cond_false] using hr
  ·simp only[cond_true]
   simp only[Bool.and_eq_true,decide_eq_true_eq]at hb
   intro e' he'
   rcases List.mem_cons.1 he' with rfl|he'
   ·exact⟨⟨hb.1,(g06 ho he.1.1).2⟩,hb.2,(g06 ho he.2.1).2⟩
   ·exact hr e' he'
def n8(g:j0)(o:List Int):j0:=(g.1,(o.length:Int),o5 O0 [] (pE (plc g.2.1.toNat o) g.2.2))
theorem L01:∀(r l:List H0),(o5 O0 l r).length≤l.length+r.length
 | [],l=>by simp[o5]
 |e::r,l=>by have:=L01 r (k00 O0 e l);have:=f06 e l;simp only[o5,List.length_cons];omega
theorem v09(g:j0)(o:List Int):(n8 g o).2.2.length≤g.2.2.length:=by
 have:=L01 (pE (plc g.2.1.toNat o) g.2.2) []
 have:=F0h (plc g.2.1.toNat o) g.2.2
 simp only[n8,List.length_nil]at *;omega
theorem p0g{n:Nat}{r:Int}{es:List H0}{o:List Int}(ho:inV n o)(hn:inN n es):inN o.length (n8 (r,(n:Int),es) o).2.2:=by
 intro e he
 simp only[n8,Int.toNat_natCast]at he
 rcases(j9 E6 e _ _).1 he with h|h
 ·cases h
 ·exact k0q ho es hn e h
theorem M0l(n:Nat)(hn:n≤140737488355328):∀(d k fuel:Nat),k+d=n→d<fuel →
  F9 n fuel (k:Int) (List.replicate k (-1)++List.replicate d 0)=some (List.replicate n (-1))
 |d,k,0,hd,hf=>by omega
 |0,k,fuel+1,hd,hf=>by
  rw[F9.eq_2,if_neg (by simp;omega),show k=n by omega];simp
 |d+1,k,fuel+1,hd,hf=>by
  have hg:gi (List.replicate k (-1)++List.replicate (d+1) (0:Int)) (k:Int)=some 0:=by
   rw[y0b,List.getElem?_append_right (by simp)];simp
  have ih:=M0l n hn d (k+1) fuel (by omega) (by omega)
  rw[F9.eq_2,if_pos (by simp;omega),hg,oB,V1 (show k<n by omega) (by omega),Int.toNat_natCast]
  have e:(List.replicate k (-1)++List.replicate (d+1) (0:Int)).set k (-1)=List.replicate (k+1) (-1)++List.replicate d 0:=by
   rw[List.set_append_right _ _ (by simp),List.length_replicate,Nat.sub_self,List.replicate_succ,List.set_cons_zero,List.replicate_succ']
   simp
  rw[e,ih]
theorem N0l(o:List Int){n:Nat}(ho:inV n o)(hl:o.length≤9223372036854775807):∀(d k fuel:Nat) (A:List Int),A.length=n→k+d=o.length→d<fuel →
  E9 o fuel (k:Int) A=some (U00 A k (o.drop k))
 |d,k,0,A,hA,hd,hf=>by omega
 |0,k,fuel+1,A,hA,hd,hf=>by
  rw[E9.eq_2,if_neg (by simp;omega),E1 (by omega)];rfl
 |d+1,k,fuel+1,A,hA,hd,hf=>by
  have hk:k<o.length:=by omega
  have hx:=p5 hk
  have hin:=ho _ (List.mem_of_getElem? hx)
  generalize o[k]=v at hx hin
  have ih:=N0l o ho hl d (k+1) fuel (A.set v.toNat (k:Int)) (by simp[hA]) (by omega) (by omega)
  rw[E9.eq_2,if_pos (by simp;omega),J1 hx,j2 hx,oB,giI hA hin.1 hin.2,oB,V1 hk hl,ih]
  rfl
theorem O0l(es:List H0){n:Nat}(hn:inN n es)(hl:es.length≤1099511627776)(P:List Int)(hP:P.length=n)(r m:Int):∀(d k fuel:Nat) (acc:List H0),k+d=es.length→d<fuel→acc.length≤k →
  J8 es P fuel (k:Int) r m acc=some (r,m,acc++pE P (es.drop k))
 |d,k,0,acc,hd,hf,ha=>by omega
 |0,k,fuel+1,acc,hd,hf,ha=>by
  rw[J8.eq_2,if_neg (by simp;omega),E1 (by omega)];simp[pE]
 |d+1,k,fuel+1,acc,hd,hf,ha=>by
  have hk:k<es.length:=by omega
  have he:=p5 hk
  have hin:=hn _ (List.mem_of_getElem? he)
  generalize es[k]=e at he hin
  obtain⟨a,l,b⟩:=e
  have ih:=fun acc' h=>O0l es hn hl P hP r m d (k+1) fuel acc' (by omega) (by omega) h
  rw[J8.eq_2,if_pos (by simp;omega),J1 he]
  simp only[j2 he,oB,giI hP hin.1.1 hin.1.2,giI hP hin.2.1 hin.2.2,V1 hk (show es.length≤9223372036854775807 by omega),pE]
  by_cases c1:0≤getI P a
  ·simp only[show decide (getI P a ≥ 0)=true by simpa using c1,C1,oB,cond_true,show decide (0≤getI P a)=true by simpa using c1,Bool.true_and]
   by_cases c2:0≤getI P b
   ·rw[if_pos (by simpa using c2),D0 (by simp;omega),oB,ih _ (by simp;omega)]
    simp[c2]
   ·rw[if_neg (by simpa using c2),ih _ (by omega)]
    simp[c2]
  ·simp only[show decide (getI P a ≥ 0)=false by simpa using c1,H1,oB,cond_false,show decide (0≤getI P a)=false by simpa using c1,Bool.false_and]
   rw[if_neg (by simp),ih _ (by omega)]
theorem G0h(r:Int)(n:Nat)(es:List H0)(o:List Int)(hn:inN n es)(ho:inV n o)(hn2:n≤1000000)(hl:es.length≤1099511627776)(hl2:o.length≤1099511627776):
  J01 (r,(n:Int),es) o=some (n8 (r,(n:Int),es) o):=by
 unfold J01
 have h2:=M0l n (by omega) n 0 S0 (by omega) (Y0 (by omega))
 have h1:=N0l o ho (by omega) o.length 0 S0 (List.replicate n (-1)) (by simp) (by omega) (Y0 (by omega))
 have h0:=O0l es hn hl (plc n o) (L0l n o) r ((o.length:Nat):Int) es.length 0 S0 [] (by omega) (Y0 (by omega)) (Nat.le_refl _)
 rw[show((0:Nat):Int)=0 from rfl]at h0 h1 h2
 rw[List.replicate_zero,List.nil_append]at h2
 rw[List.drop_zero]at h1
 rw[List.drop_zero,List.nil_append]at h0
 simp only[Int.toNat_natCast]
 rw[D0 (by omega),oB,oB,List.length_replicate,D0 (by omega),oB,h2,oB,h1,oB]
 rw[show U00 (List.replicate n (-1)) 0 o=plc n o from rfl,h0]
 simp only[oB]
 rw[x0a _ (by have:=F0h (plc n o) es;omega),oB]
 rfl
theorem B0o(A:List Int)(i k:Nat):(A.map (·+1)).set i (((k+1:Nat):Int))=(A.set i (k:Int)).map (·+1):=by
 rw[List.map_set];rfl
theorem w0e{A:List Int}{n:Nat}(hA:A.length=n){x:Int}(h0:0≤x)(h1:x<n):gi (A.map (·+1)) x=some (getI A x+1):=by
 have hk:x.toNat<A.length:=by omega
 have e:x=((x.toNat:Nat):Int):=by omega
 have h2:gi (A.map (·+1)) ((x.toNat:Nat):Int)=some (getI A x+1):=by
  rw[y0b,List.getElem?_map,List.getElem?_eq_getElem hk]
  unfold getI
  rw[List.getD_eq_getElem?_getD,List.getElem?_eq_getElem hk];rfl
 rw[←e]at h2;exact h2
theorem x0e{n:Nat}:∀(o:List Int) (k:Nat) (A:List Int) (x:Int),A.length=n→inV n o→0≤x→x ∉ o→getI (U00 A k o) x=getI A x
 | [],k,A,x,hA,ho,hx,h=>rfl
 |v::r,k,A,x,hA,ho,hx,h=>by
  have hv:=ho v mS
  rw[U00,x0e r _ _ x (by simp[hA]) (fun w hw=>ho w (mC _ hw)) hx (fun hm=>h (mC _ hm)),R03 hv.1 (by omega) hx,if_neg (fun e=>h (by rw[e];exact mS))]
theorem C0o(r:Int)(n:Nat)(es:List H0)(o:List Int)(ho:inV n o)(hd':o.Nodup)(hn2:1≤n∧n≤1000000)(hl:o.length≤1099511627776):∀(d k fuel:Nat) (A:List Int),A.length=n→(∀ x,0≤x → -1≤getI A x∧getI A x≤1099511627776)→(∀ x∈o.drop k,getI A x = -1)→k+d=o.length→d<fuel →
  i4 o (n:Int) r es fuel (k:Int) (A.map (·+1))=some (.inr ((U00 A k (o.drop k)).map (·+1)))
 |d,k,0,A,hA,hr,hm,hd,hf=>by omega
 |0,k,fuel+1,A,hA,hr,hm,hd,hf=>by
  rw[i4.eq_2,if_neg (by simp;omega),E1 (by omega)];rfl
 |d+1,k,fuel+1,A,hA,hr,hm,hd,hf=>by
  have hk:k<o.length:=by omega
  have hx:=p5 hk
  have hin:=ho _ (List.mem_of_getElem? hx)
  have hdr:=J1 hx
  generalize o[k]=v at hx hin hdr
  have hnd:(o.drop k).Nodup:=hd'.sublist (List.drop_sublist _ _)
  rw[hdr]at hnd hm
  have hA0:=hm v mS
  have ih:=C0o r n es o ho hd' hn2 hl d (k+1) fuel (A.set v.toNat (k:Int)) (by simp[hA]) (fun x hx=>by
   rw[R03 hin.1 (by omega) hx];have:=hr x hx;split<;>omega) (fun x hx=>by
   have hx0:=ho x (List.mem_of_mem_drop hx)
   rw[R03 hin.1 (by omega) hx0.1,if_neg (fun e=>(List.nodup_cons.1 hnd).1 (by rw[←e];exact hx))]
   exact hm x (mC _ hx)) (by omega) (by omega)
  rw[i4.eq_2,if_pos (by simp;omega),hdr,j2 hx]
  simp only[oB,v01,w64 (show -9223372036854775808≤(n:Int)-1 by omega) (show(n:Int)-1≤9223372036854775807 by omega),inR,show decide (0≤v)=true by simpa using hin.1,show decide (v≤(n:Int)-1)=true by simp;omega,Bool.and_self,Bool.not_true,Bool.not_false,C1,w0e hA hin.1 hin.2,hA0,cond_false]
  rw[if_neg (by decide),V1 hk (by omega),B0o,ih]
  rfl
theorem D0o(es:List H0){n:Nat}(hn:inN n es)(hl:es.length≤1099511627776)(P:List Int)(hP:P.length=n)(hr:∀ x,0≤x → -1≤getI P x∧getI P x≤1099511627776)(r m:Int):∀(d k fuel:Nat) (acc:List H0),k+d=es.length→d<fuel→acc.length≤k →
  G3 es (P.map (·+1)) fuel (k:Int) r m acc=some (r,m,o5 O0 acc (pE P (es.drop k)))
 |d,k,0,acc,hd,hf,ha=>by omega
 |0,k,fuel+1,acc,hd,hf,ha=>by
  rw[G3.eq_2,if_neg (by simp;omega),E1 (by omega)];rfl
 |d+1,k,fuel+1,acc,hd,hf,ha=>by
  have hk:k<es.length:=by omega
  have he:=p5 hk
  have hin:=hn _ (List.mem_of_getElem? he)
  generalize es[k]=e at he hin
  obtain⟨a,l,b⟩:=e
  have ih:=fun acc' h=>D0o es hn hl P hP hr r m d (k+1) fuel acc' (by omega) (by omega) h
  have ra:=hr a hin.1.1
  have rb:=hr b hin.2.1
  rw[G3.eq_2,if_pos (by simp;omega),J1 he]
  simp only[j2 he,oB,w0e hP hin.1.1 hin.1.2,w0e hP hin.2.1 hin.2.2,V1 hk (show es.length≤9223372036854775807 by omega),pE]
  by_cases c1:0≤getI P a
  ·simp only[show decide (getI P a+1>0)=true by simp;omega,C1,oB,cond_true,show decide (0≤getI P a)=true by simpa using c1,Bool.true_and]
   by_cases c2:0≤getI P b
   ·rw[if_pos (by simp;omega),w64 (by omega) (by omega),w64 (by omega) (by omega),show getI P a+1-1=getI P a by omega,show getI P b+1-1=getI P b by omega]
    rw[r05 _ _ (by omega),oB,ih _ (by have:=f06 (getI P a,l,getI P b) acc;omega)]
    simp[c2,o5]
   ·rw[if_neg (by simp;omega),ih _ (by omega)]
    simp[c2]
  ·simp only[show decide (getI P a+1>0)=false by simp;omega,H1,oB,cond_false,show decide (0≤getI P a)=false by simpa using c1,Bool.false_and]
   rw[if_neg (by simp),ih _ (by omega)]
theorem w09(r:Int)(n:Nat)(es:List H0)(o:List Int)(hg:Q0 (r,(n:Int),es)=true)(ho:inV n o)(hd:o.Nodup)(h1:1≤o.length)(h2:o.length≤n):
  d6 (r,(n:Int),es) o=some (n8 (r,(n:Int),es) o,true):=by
 obtain⟨q1,q2,q3,q4⟩:=A2 hg
 simp only at q2 q3 q4
 have hn:inN n es:=fun e he=>⟨(q1 e he).1,(q1 e he).2.1⟩
 have hG:=L7 (r,(n:Int),es) (by simp only;omega)
 unfold d6
 have e1:=C0o r n es o ho hd (by omega) (by omega) o.length 0 S0 (List.replicate n (-1)) (by simp) (fun x hx=>by rw[I07];omega) (fun x hx=>I07 n x) (by omega) (Y0 (by omega))
 have e0:=D0o es hn (by omega) (plc n o) (L0l n o) (fun x hx=>by have:=g06 ho hx;omega) r ((o.length:Nat):Int) es.length 0 S0 [] (by omega) (Y0 (by omega)) (Nat.le_refl _)
 rw[show((0:Nat):Int)=0 from rfl,List.drop_zero]at e0 e1
 rw[show(List.replicate n (-1:Int)).map (·+1)=List.replicate n 0 by simp]at e1
 rw[show U00 (List.replicate n (-1)) 0 o=plc n o from rfl]at e1
 have c1:decide (((o.length:Nat):Int)=0)=false:=decide_eq_false (by omega)
 have c2:decide (((o.length:Nat):Int)>(n:Int))=false:=decide_eq_false (by omega)
 simp only[hG,hg,oB,Bool.not_true,cond_false,Int.toNat_natCast,c1,c2]
 rw[if_neg (by simp),D0 (by omega),oB,e1]
 simp only[oB,Z7,e0]
 rfl
theorem l9:∀(n:Nat) (o:List Int),o.Nodup→inV n o→o.length≤n
 |0,[],_,_=>Nat.le_refl _
 |0,x::r,_,h=>by have:=h x mS;omega
 |n+1,o,hd,h=>by
  have h1:inV n (o.erase (n:Int)):=fun x hx=>by
   obtain⟨hne,hm⟩:=(List.Nodup.mem_erase_iff hd).1 hx
   have:=h x hm;omega
  have h2:=l9 n _ (hd.erase _) h1
  by_cases hm:(n:Int)∈o
  ·rw[List.length_erase_of_mem hm]at h2;omega
  ·rw[List.erase_of_not_mem hm]at h2;omega
def F5:Nat→Nat→List Int
 |0,_=>[]
 |d+1,i=>(i:Int) :: -(i:Int)::F5 d (i+1)
theorem D00:∀ d i,(F5 d i).length=2*d
 |0,i=>rfl
 |d+1,i=>by simp only[F5,List.length_cons,D00 d];omega
theorem H0h:∀(d i:Nat),i+d≤1000→∀ x∈F5 d i,j4 x
 |0,i,h,x,hx=>nomatch hx
 |d+1,i,h,x,hx=>by
  simp only[F5,List.mem_cons]at hx
  rcases hx with rfl|rfl|hx
  ·exact⟨⟨by omega,by omega⟩,by omega⟩
  ·exact⟨⟨by omega,by omega⟩,by omega⟩
  ·exact H0h d (i+1) (by omega) x hx
theorem E0o(R:Nat)(hR:R≤900):∀(d i fuel:Nat) (acc:List Int),i+d=R+1→d<fuel→acc.length+2*d≤10000 →
  w7 (R:Int) fuel (i:Int) acc=some (acc++F5 d i)
 |d,i,0,acc,hd,hf,ha=>by omega
 |0,i,fuel+1,acc,hd,hf,ha=>by
  rw[w7.eq_2,if_neg (by simp;omega)];simp[F5]
 |d+1,i,fuel+1,acc,hd,hf,ha=>by
  have ih:=E0o R hR d (i+1) fuel (acc ++ [(i:Int),-(i:Int)]) (by omega) (by omega) (by simp;omega)
  have w1:IntKind.i64.wrap (0-(i:Int)) = -(i:Int):=by rw[w64 (by omega) (by omega)];omega
  rw[w7.eq_2,if_pos (by simp;omega),w1,D0 (by simp;omega),oB,V1 (show i<1000 by omega) (by omega),ih]
  simp[F5]
theorem F0o(R:Nat)(hR:R≤900):∀(d i fuel:Nat) (acc:List Int),i+d=R+1→d<fuel→acc.length+2*d≤10000 →
  g6 (R:Int) fuel (i:Int) acc=some (acc++F5 d i)
 |d,i,0,acc,hd,hf,ha=>by omega
 |0,i,fuel+1,acc,hd,hf,ha=>by
  rw[g6.eq_2,if_neg (by simp;omega)];simp[F5]
 |d+1,i,fuel+1,acc,hd,hf,ha=>by
  have ih:=F0o R hR d (i+1) fuel ((acc ++ [(i:Int)]) ++ [-(i:Int)]) (by omega) (by omega) (by simp;omega)
  have w1:IntKind.i64.wrap (0-(i:Int)) = -(i:Int):=by rw[w64 (by omega) (by omega)];omega
  rw[g6.eq_2,if_pos (by simp;omega),w1,D0 (by simp;omega),oB,D0 (by simp;omega),oB,V1 (show i<1000 by omega) (by omega),ih]
  simp[F5]
theorem F0k(R:Nat)(hR:R≤900):Q8 (R:Int)=some (F5 R 1):=by
 unfold Q8
 rw[show(1:Int)=((1:Nat):Int) from rfl,E0o R hR R 1 S0 [] (by omega) (Y0 (by omega)) (by simp;omega)];rfl
theorem I0h(R:Nat)(hR:R≤900):w6 (R:Int)=some (F5 R 1):=by
 unfold w6
 rw[show(1:Int)=((1:Nat):Int) from rfl,F0o R hR R 1 S0 [] (by omega) (Y0 (by omega)) (by simp;omega)];rfl
def b07(u:List Int)(x:Int):List Int:=if 0≤x∧x ∉ u then u ++ [x]else u
def r02(g:j0)(v:Int):List Int→List Int→List Int
 | [],u=>u
 |x::r,u=>r02 g v r (b07 u (U0 g v x))
def S8(g:j0)(ls:List Int):Nat→Nat→List Int→List Int
 |0,i,u=>u
 |f+1,i,u=>match u[i]? with
  |some v=>S8 g ls f (i+1) (r02 g v ls u)
  |none=>u
def gud(n:Nat)(u:List Int):Prop:=u.Nodup∧inV n u
theorem P0l{n:Nat}{u:List Int}{x:Int}(h:gud n u)(hx:x = -1∨(0≤x∧x<(n:Int))):gud n (b07 u x):=by
 unfold b07
 split
 ·rename_i hc
  refine⟨List.nodup_append.2 ⟨h.1,by simp,fun a ha b hb=>?_⟩,fun y hy=>?_⟩
  ·simp at hb;subst hb;exact fun e=>hc.2 (e▸ha)
  ·rcases List.mem_append.1 hy with hy|hy
   ·exact h.2 y hy
   ·simp at hy;subst hy;omega
 ·exact h
theorem y0e(u:List Int)(x:Int):∃ t,b07 u x=u++t:=by
 unfold b07;split
 ·exact⟨_,rfl⟩
 ·exact⟨[],by simp⟩
theorem J02(g:j0)(v:Int):∀(ls u:List Int),∃ t,r02 g v ls u=u++t
 | [],u=>⟨[],by simp[r02]⟩
 |x::r,u=>by
  obtain⟨t1,e1⟩:=y0e u (U0 g v x)
  obtain⟨t2,e2⟩:=J02 g v r (b07 u (U0 g v x))
  exact⟨t1++t2,by rw[r02,e2,e1,List.append_assoc]⟩
theorem s04{r:Int}{n:Nat}{es:List H0}(hg:inG (r,(n:Int),es))(v:Int):∀(ls u:List Int),gud n u→gud n (r02 (r,(n:Int),es) v ls u)
 | [],u,h=>h
 |x::l,u,h=>s04 hg v l _ (P0l h (Y02 hg v x))
theorem z0e{r:Int}{n:Nat}{es:List H0}(hg:inG (r,(n:Int),es))(ls:List Int):∀(f i:Nat) (u:List Int),gud n u→gud n (S8 (r,(n:Int),es) ls f i u)
 |0,i,u,h=>h
 |f+1,i,u,h=>by
  unfold S8
  split
  ·exact z0e hg ls f _ _ (s04 hg _ _ _ h)
  ·exact h
theorem A0e(g:j0)(ls:List Int):∀(f i:Nat) (u:List Int),u.length≤(S8 g ls f i u).length
 |0,i,u=>Nat.le_refl _
 |f+1,i,u=>by
  unfold S8
  split
  ·rename_i v _
   obtain⟨t,e⟩:=J02 g v ls u
   have:=A0e g ls f (i+1) (r02 g v ls u)
   rw[e]at this ⊢;simp only[List.length_append]at this;omega
  ·exact Nat.le_refl _
theorem Q0l(r:Int)(n:Nat)(es:List H0)(hg:inG (r,(n:Int),es))(hn:n≤40)(hes:es.length≤1099511627776)(ls:List Int)(hls:∀ x∈ls,j4 x)(hl:ls.length≤1000000)(i:Nat)(v:Int):∀(d k fuel:Nat) (u:List Int),gud n u→u[i]?=some v→k+d=ls.length→d<fuel →
  A3 ls (i:Int) r (n:Int) es fuel (k:Int) u=some (r02 (r,(n:Int),es) v (ls.drop k) u)
 |d,k,0,u,hu,hi,hd,hf=>by omega
 |0,k,fuel+1,u,hu,hi,hd,hf=>by
  rw[A3.eq_2,if_neg (by simp;omega),E1 (by omega)];rfl
 |d+1,k,fuel+1,u,hu,hi,hd,hf=>by
  have hk:k<ls.length:=by omega
  have hx:=p5 hk
  have hxm:=hls _ (List.mem_of_getElem? hx)
  have hdr:=J1 hx
  generalize ls[k]=x at hx hxm hdr
  have hlen:=l9 n u hu.1 hu.2
  have hnx:U0 (r,(n:Int),es) v x = -1∨(0≤U0 (r,(n:Int),es) v x∧U0 (r,(n:Int),es) v x<(n:Int)):=Y02 hg v x
  have hg2:=P0l hu hnx
  have hi2:(b07 u (U0 (r,(n:Int),es) v x))[i]?=some v:=by
   obtain⟨t,e⟩:=y0e u (U0 (r,(n:Int),es) v x)
   rw[e,List.getElem?_append_left (List.getElem?_eq_some_iff.1 hi).1];exact hi
  have ih:=Q0l r n es hg hn hes ls hls hl i v d (k+1) fuel _ hg2 hi2 (by omega) (by omega)
  rw[A3.eq_2,if_pos (by simp;omega),hdr]
  simp only[j2 hi,j2 hx,oB,t03 (r,(n:Int),es) v x hxm hes,D0 (v02 hg (show(n:Int)≤40 by omega) v x),V1 hk (show ls.length≤9223372036854775807 by omega),r02]
  rw[←ih]
  generalize U0 (r,(n:Int),es) v x=y at *
  unfold b07
  by_cases c1:0≤y
  ·simp only[show decide (y ≥ 0)=true by simpa using c1,C1,s08 u y (by omega),oB,cond_true]
   by_cases c2:y∈u
   ·rw[if_neg (by simp[c2]),if_neg (by simp[c2])]
   ·rw[if_pos (by simp[c2]),if_pos ⟨c1,c2⟩,D0 (by simp;omega),oB]
  ·simp only[show decide (y ≥ 0)=false by simpa using c1,H1,oB,cond_false]
   rw[if_neg (by simp),if_neg (fun h=>c1 h.1)]
theorem R0l(r:Int)(n:Nat)(es:List H0)(hg:inG (r,(n:Int),es))(hn:n≤40)(hes:es.length≤1099511627776)(ls:List Int)(hls:∀ x∈ls,j4 x)(hl:ls.length≤1000000):∀(f i fuel:Nat) (u:List Int),gud n u→i≤u.length→n+1≤i+f→f<fuel →
  Y4 ls r (n:Int) es fuel (i:Int) u=some (S8 (r,(n:Int),es) ls f i u)
 |f,i,0,u,hu,hi,hd,hf=>by omega
 |0,i,fuel+1,u,hu,hi,hd,hf=>by have:=l9 n u hu.1 hu.2;omega
 |f+1,i,fuel+1,u,hu,hi,hd,hf=>by
  have hlen:=l9 n u hu.1 hu.2
  rw[Y4.eq_2,oB,D0 (by omega),oB]
  by_cases hk:i<u.length
  ·have hx:=p5 hk
   generalize u[i]=v at hx
   have h0:=Q0l r n es hg hn hes ls hls hl i v ls.length 0 S0 u hu hx (by omega) (Y0 (by omega))
   rw[show((0:Nat):Int)=0 from rfl,List.drop_zero]at h0
   obtain⟨t,e⟩:=J02 (r,(n:Int),es) v ls u
   have ih:=R0l r n es hg hn hes ls hls hl f (i+1) fuel _ (s04 hg v ls u hu) (by rw[e,List.length_append];omega) (by omega) (by omega)
   rw[if_pos (by simpa using hk),h0,oB,V1 hk (by omega),ih]
   simp only[S8,hx]
  ·have hx:u[i]?=none:=List.getElem?_eq_none (by omega)
   rw[if_neg (by simpa using hk)]
   simp only[S8,hx]
def T5(g:j0):List Int:=S8 g (F5 g.1.toNat 1) (g.2.1.toNat+1) 0 [0]
theorem t08{g:j0}(hf:K0 g=true):gud g.2.1.toNat (T5 g)∧1≤(T5 g).length:=by
 obtain⟨h1,h2,h3,h4⟩:=j1 hf
 obtain⟨r,n,es⟩:=g
 simp only at h2 h3 h4
 obtain⟨N,rfl⟩:∃ N:Nat,n=(N:Int):=⟨n.toNat,by omega⟩
 refine⟨?_,?_⟩
 ·exact z0e h1 _ _ _ _ ⟨by simp,fun x hx=>by simp at hx;subst hx;show(0:Int)≤0∧(0:Int)<(((N:Int).toNat:Nat):Int);omega⟩
 ·exact A0e _ _ _ _ [0]
theorem i0j(g:j0)(hf:K0 g=true):p8 g=some (T5 g):=by
 obtain⟨h1,h2,h3,h4⟩:=j1 hf
 have hF:=I5 g (by omega)
 obtain⟨r,n,es⟩:=g
 simp only at h2 h3 h4
 obtain⟨N,rfl⟩:∃ N:Nat,n=(N:Int):=⟨n.toNat,by omega⟩
 obtain⟨R,rfl⟩:∃ R:Nat,r=(R:Int):=⟨r.toNat,by omega⟩
 unfold p8
 have h0:=R0l (R:Int) N es h1 (by omega) (by omega) (F5 R 1) (H0h R 1 (by omega)) (by rw[D00];omega) (N+1) 0 S0 [0] ⟨by simp,fun x hx=>by simp at hx;subst hx;omega⟩ (by simp) (by omega) (Y0 (by omega))
 simp only[hF,hf,oB,Bool.not_true,I0h R (by omega)]
 rw[show((0:Nat):Int)=0 from rfl]at h0
 rw[if_neg (by simp),h0]
 rfl
theorem S0l{a:List Int}(la:a.length≤1099511627776):Z00 a=some a:=by
 unfold Z00
 rw[D0 (by simp;omega)];rfl
def F6(W:List (Option (List Int)))(x:Int):Option (List Int):=W.getD x.toNat none
theorem giO{W:List (Option (List Int))}{n:Nat}(hl:W.length=n){x:Int}(h0:0≤x)(h1:x<n):gi W x=some (F6 W x):=by
 have hk:x.toNat<W.length:=by omega
 have e:x=((x.toNat:Nat):Int):=by omega
 have h2:gi W ((x.toNat:Nat):Int)=some (F6 W x):=by
  rw[y0b,List.getElem?_eq_getElem hk]
  unfold F6
  rw[List.getD_eq_getElem?_getD,List.getElem?_eq_getElem hk];rfl
 rw[←e]at h2;exact h2
theorem E00{A:List (Option (List Int))}{v x:Int}{y:Option (List Int)}(h0:0≤v)(h1:v.toNat<A.length)(hx:0≤x):F6 (A.set v.toNat y) x=if x=v then y else F6 A x:=by
 unfold F6
 rw[List.getD_eq_getElem?_getD,List.getD_eq_getElem?_getD,List.getElem?_set]
 by_cases c:x=v
 ·rw[if_pos c,if_pos (by rw[c]),if_pos h1];rfl
 ·rw[if_neg c,if_neg (by omega)]
structure WOk (n:Nat) (W:List (Option (List Int))) (u:List Int):Prop where
 len:W.length=n
 iff:∀ x,0≤x→x<(n:Int)→((F6 W x).isNone=true↔x ∉ u)
 short:∀ x,((F6 W x).getD []).length≤u.length
theorem T0l(r:Int)(n:Nat)(es:List H0)(hg:inG (r,(n:Int),es))(hn:n≤40)(hes:es.length≤1099511627776)(ls:List Int)(hls:∀ x∈ls,j4 x)(hl:ls.length≤1000000)(v:Int)(hv:0≤v∧v<(n:Int)):∀(d k fuel:Nat) (W:List (Option (List Int))) (u:List Int),gud n u→WOk n W u→k+d=ls.length→d<fuel →
  ∃ W',V2 ls r (n:Int) es v fuel (k:Int) W u=some (W',r02 (r,(n:Int),es) v (ls.drop k) u)∧WOk n W' (r02 (r,(n:Int),es) v (ls.drop k) u)
 |d,k,0,W,u,hu,hw,hd,hf=>by omega
 |0,k,fuel+1,W,u,hu,hw,hd,hf=>by
  rw[V2.eq_2,if_neg (by simp;omega),E1 (by omega)];exact⟨W,rfl,hw⟩
 |d+1,k,fuel+1,W,u,hu,hw,hd,hf=>by
  have hk:k<ls.length:=by omega
  have hx:=p5 hk
  have hxm:=hls _ (List.mem_of_getElem? hx)
  have hdr:=J1 hx
  generalize ls[k]=x at hx hxm hdr
  have hlen:=l9 n u hu.1 hu.2
  have hnx:U0 (r,(n:Int),es) v x = -1∨(0≤U0 (r,(n:Int),es) v x∧U0 (r,(n:Int),es) v x<(n:Int)):=Y02 hg v x
  have hg2:=P0l hu hnx
  have ih:=fun W' h=>T0l r n es hg hn hes ls hls hl v hv d (k+1) fuel W' _ hg2 h (by omega) (by omega)
  rw[V2.eq_2,if_pos (by simp;omega),hdr]
  simp only[j2 hx,oB,N04 (r,(n:Int),es) v x hxm hes,D0 (v02 hg (show(n:Int)≤40 by omega) v x),V1 hk (show ls.length≤9223372036854775807 by omega),r02]
  generalize U0 (r,(n:Int),es) v x=y at *
  by_cases c1:0≤y
  ·have hy:y<(n:Int):=by omega
   simp only[show decide (y ≥ 0)=true by simpa using c1,C1,giO hw.len c1 hy,oB,cond_true]
   by_cases c2:y∈u
   ·have : ¬ ((F6 W y).isNone=true):=fun h=>(hw.iff y c1 hy).1 h c2
    have e:b07 u y=u:=if_neg fun h=>h.2 c2
    rw[if_neg this]
    rw[e]at ih ⊢
    exact ih W hw
   ·have:(F6 W y).isNone=true:=(hw.iff y c1 hy).2 c2
    have e:b07 u y=u ++ [y]:=if_pos ⟨c1,c2⟩
    have hs:=hw.short v
    rw[if_pos this,giO hw.len hv.1 hv.2,oB,S0l (by omega),oB,D0 (by simp;omega),oB,D0 (by simp;omega),oB]
    rw[e]at ih ⊢
    refine ih _ ⟨by simp[hw.len],fun z h0 h1=>?_,fun z=>?_⟩
    ·rw[E00 c1 (by have:=hw.len;omega) h0]
     by_cases c:z=y
     ·rw[if_pos c];simp[c]
     ·rw[if_neg c,hw.iff z h0 h1];simp[c]
    ·by_cases hz:0≤z
     ·rw[E00 c1 (by have:=hw.len;omega) hz]
      by_cases c:z=y
      ·rw[if_pos c];simp;exact hs
      ·rw[if_neg c];have:=hw.short z;simp only[List.length_append];omega
     ·have hz0:F6 (W.set y.toNat (some ((F6 W v).getD [] ++ [x]))) z=F6 (W.set y.toNat (some ((F6 W v).getD [] ++ [x]))) 0:=by
       unfold F6;rw[show z.toNat=(0:Int).toNat by omega]
      rw[hz0,E00 c1 (by have:=hw.len;omega) (iR 0)]
      by_cases c:(0:Int)=y
      ·rw[if_pos c];simp;exact hs
      ·rw[if_neg c];have:=hw.short 0;simp only[List.length_append];omega
  ·have e:b07 u y=u:=if_neg fun h=>c1 h.1
   simp only[show decide (y ≥ 0)=false by simpa using c1,H1,oB,cond_false]
   rw[if_neg (by simp)]
   rw[e]at ih ⊢
   exact ih W hw
theorem U0l(R n:Nat)(hR:R≤900)(es:List H0)(hg:inG ((R:Int),(n:Int),es))(hn:n≤40)(hes:es.length≤1099511627776):∀(f i fuel:Nat) (W:List (Option (List Int))) (u:List Int),gud n u→WOk n W u→i≤u.length→n+1≤i+f→f<fuel →
  ∃ W',R4 (R:Int) (n:Int) es fuel (i:Int) W u=some (W',S8 ((R:Int),(n:Int),es) (F5 R 1) f i u)
 |f,i,0,W,u,hu,hw,hi,hd,hf=>by omega
 |0,i,fuel+1,W,u,hu,hw,hi,hd,hf=>by have:=l9 n u hu.1 hu.2;omega
 |f+1,i,fuel+1,W,u,hu,hw,hi,hd,hf=>by
  have hlen:=l9 n u hu.1 hu.2
  rw[R4.eq_2,oB,D0 (by omega),oB]
  by_cases hk:i<u.length
  ·have hx:=p5 hk
   have hv:=hu.2 _ (List.mem_of_getElem? hx)
   generalize u[i]=v at hx hv
   obtain⟨W1,h0,hw1⟩:=T0l (R:Int) n es hg hn hes (F5 R 1) (H0h R 1 (by omega)) (by rw[D00];omega) v hv (F5 R 1).length 0 S0 W u hu hw (by omega) (Y0 (by rw[D00];omega))
   rw[show((0:Nat):Int)=0 from rfl,List.drop_zero]at h0
   rw[List.drop_zero]at hw1
   obtain⟨t,e⟩:=J02 ((R:Int),(n:Int),es) v (F5 R 1) u
   obtain⟨W2,ih⟩:=U0l R n hR es hg hn hes f (i+1) fuel W1 _ (s04 hg v _ u hu) hw1 (by rw[e,List.length_append];omega) (by omega) (by omega)
   rw[if_pos (by simpa using hk),j2 hx,oB,F0k R hR,oB,h0,oB]
   simp only[V1 hk (show u.length≤9223372036854775807 by omega),ih,S8,hx]
   exact⟨_,rfl⟩
  ·have hx:u[i]?=none:=List.getElem?_eq_none (by omega)
   rw[if_neg (by simpa using hk)]
   simp only[S8,hx]
   exact⟨_,rfl⟩
theorem j0j(g:j0)(hf:K0 g=true):r8 g=some (T5 g):=by
 obtain⟨h1,h2,h3,h4⟩:=j1 hf
 have hF:=R8 g (by omega)
 obtain⟨r,n,es⟩:=g
 simp only at h2 h3 h4
 obtain⟨N,rfl⟩:∃ N:Nat,n=(N:Int):=⟨n.toNat,by omega⟩
 obtain⟨R,rfl⟩:∃ R:Nat,r=(R:Int):=⟨r.toNat,by omega⟩
 unfold r8
 have hrep:∀ x,F6 (List.replicate N (none:Option (List Int))) x=none:=fun x=>by
  unfold F6
  rw[List.getD_eq_getElem?_getD,List.getElem?_replicate];split<;>rfl
 have hW:WOk N ((List.replicate N (none:Option (List Int))).set (0:Int).toNat (some [])) [0]:=by
  refine⟨by simp,fun x h0 h1=>?_,fun x=>?_⟩
  ·rw[E00 (iR 0) (by simp;omega) h0]
   by_cases c:x=0
   ·rw[if_pos c];simp[c]
   ·rw[if_neg c,hrep];simp[c]
  ·by_cases hz:0≤x
   ·rw[E00 (iR 0) (by simp;omega) hz]
    split
    ·simp
    ·rw[hrep];simp
   ·have:F6 ((List.replicate N (none:Option (List Int))).set (0:Int).toNat (some [])) x=F6 ((List.replicate N (none:Option (List Int))).set (0:Int).toNat (some [])) 0:=by
     unfold F6;rw[show x.toNat=(0:Int).toNat by omega]
    rw[this,E00 (iR 0) (by simp;omega) (iR 0),if_pos rfl];simp
 obtain⟨W',h0⟩:=U0l R N (by omega) es h1 (by omega) (by omega) (N+1) 0 S0 _ [0] ⟨by simp,fun x hx=>by simp at hx;subst hx;omega⟩ hW (by simp) (by omega) (Y0 (by omega))
 have hg0:gi (List.replicate N (none:Option (List Int))) 0=some none:=by
  rw[B0h (x:=none)];rw[List.getElem?_replicate,if_pos (by omega)]
 simp only[hF,hf,oB,Bool.not_true,P6,Int.toNat_natCast]
 rw[if_neg (by simp),D0 (by omega),oB,hg0,oB]
 rw[show((0:Nat):Int)=0 from rfl]at h0
 rw[h0]
 rfl
def Y2(g:j0):j0:=n8 g (T5 g)
theorem J07(g:j0)(hf:K0 g=true):Y6 g=some (Y2 g):=by
 obtain⟨h1,h2,h3,h4⟩:=j1 hf
 have hF:=R8 g (by omega)
 have hO:=j0j g hf
 obtain⟨ho,ho1⟩:=t08 hf
 have hle:=l9 _ _ ho.1 ho.2
 obtain⟨r,n,es⟩:=g
 simp only at h2 h3 h4
 obtain⟨N,rfl⟩:∃ N:Nat,n=(N:Int):=⟨n.toNat,by omega⟩
 simp only[Int.toNat_natCast]at ho hle
 have hp:=G0h r N es (T5 (r,(N:Int),es)) (fun e he=>⟨(h1 e he).1,(h1 e he).2.1⟩) ho.2 (by omega) (by omega) (by omega)
 unfold Y6
 simp only[hF,hf,oB,Bool.not_true,hO,hp]
 rfl
theorem K07(g:j0)(hf:K0 g=true):W6 g=some (Y2 g):=by
 obtain⟨h1,h2,h3,h4⟩:=j1 hf
 have hG:Q0 g=true:=by
  unfold K0 at hf;exact(Bool.and_eq_true _ _▸hf).1
 have hO:=i0j g hf
 obtain⟨ho,ho1⟩:=t08 hf
 have hle:=l9 _ _ ho.1 ho.2
 obtain⟨r,n,es⟩:=g
 simp only at h2 h3 h4
 obtain⟨N,rfl⟩:∃ N:Nat,n=(N:Int):=⟨n.toNat,by omega⟩
 simp only[Int.toNat_natCast]at ho hle
 have hp:=w09 r N es (T5 (r,(N:Int),es)) hG ho.2 ho.1 ho1 hle
 unfold W6
 simp only[oB,hO,hp]
 rw[if_neg (by simp;intro h;rw[h]at ho1;simp at ho1)]
 rfl
def lf(bad:Nat→Bool):Nat→Nat→Option Nat
 |0,v=>none
 |d+1,v=>bif bad v then some v else lf bad d (v+1)
theorem L07{bad:Nat→Bool}:∀(d v k:Nat),lf bad d v=some k→v≤k∧k<v+d
 |0,v,k,h=>by cases h
 |d+1,v,k,h=>by
  unfold lf at h
  cases hb:bad v
  ·rw[hb]at h;have:=L07 d (v+1) k h;omega
  ·rw[hb]at h;cases h;omega
theorem B0e{b1 b2:Nat→Bool}:∀(d v:Nat),(∀ k,v≤k→k<v+d→b1 k=b2 k)→lf b1 d v=lf b2 d v
 |0,v,h=>rfl
 |d+1,v,h=>by unfold lf;rw[h v (Nat.le_refl _) (by omega),B0e d (v+1) fun k h1 h2=>h k (by omega) (by omega)]
def R0m(es:List H0):List Int:=itS es (es.length+1) [0]
def H0b(es:List H0)(v:Nat):Bool:=decide (Z02 (v:Int) es<2) || !decide ((v:Int)∈R0m es)
def A9(g:j0):Option Nat:=lf (H0b g.2.2) (g.2.1.toNat-1) 1
theorem G0k(g:j0)(hg:Q0 g=true):R9 g 0=some (R0m g.2.2)∧(R0m g.2.2).length≤100000:=by
 obtain⟨h1,h2,h3,h4⟩:=A2 hg
 have hq:=L7 g (by omega)
 obtain⟨r,n,es⟩:=g
 simp only at h2 h3 h4
 unfold R9 R0m
 have hl:=u0e es h4 (es.length+1) 0 S0 [0] (by omega) (Y0 (by omega)) (by simp)
 have hlen:=I0l es (es.length+1) [0]
 refine⟨?_,?_⟩
 ·rw[show((0:Nat):Int)=0 from rfl]at hl
  simp only[hq,hg,oB,Bool.not_true,Bool.not_false,C1,v01,inR,w64 (show -9223372036854775808≤n-1 by omega) (show n-1≤9223372036854775807 by omega)]
  rw[if_neg (by simp;omega),hl];rfl
 ·have:(es.length+1)*(2*es.length)≤121*240:=Nat.mul_le_mul (by omega) (by omega)
  simp only[List.length_singleton]at hlen
  simp only
  omega
theorem G0o(r:Int)(n:Nat)(es:List H0)(hes:es.length≤1000)(u:List Int)(hu:u.length≤100000)(hn:n≤40):∀(d v fuel:Nat),v+d=n∨(d=0∧n≤v)→v≤1000→d<fuel →
  g8 (n:Int) r es u fuel (v:Int)=some (match lf (fun v=>decide (Z02 (v:Int) es<2) || !decide ((v:Int)∈u)) d v with|some k => .inl (k:Int)|none => .inr ())
 |d,v,0,hd,hv,hf=>by omega
 |0,v,fuel+1,hd,hv,hf=>by
  rw[g8.eq_2,if_neg (by simp;omega)];rfl
 |d+1,v,fuel+1,hd,hv,hf=>by
  have ih:=G0o r n es hes u hu hn d (v+1) fuel (by omega) (by omega) (by omega)
  have hdeg:=D0h (v:Int) es
  rw[g8.eq_2,if_pos (by simp;omega),g0g (r,(n:Int),es) _ (by simp only;omega),oB,D0 (c64 (by simp only;omega) (by simp only;omega)),oB,V1 (show v<10000 by omega) (by omega)]
  unfold lf
  by_cases c1:Z02 (v:Int) es<2
  ·have e1:decide (((Z02 (v:Int) es:Nat):Int)<2)=true:=decide_eq_true (by omega)
   simp only[e1,Bool.not_true,H1,oB,cond_true,if_true,decide_eq_true c1,Bool.true_or]
  ·have e1:decide (((Z02 (v:Int) es:Nat):Int)<2)=false:=decide_eq_false (by omega)
   simp only[e1,Bool.not_false,C1,s08 u _ (show u.length≤9223372036854775807 by omega),oB,cond_false,decide_eq_false c1,Bool.false_or]
   by_cases c2:(v:Int)∈u
   ·simp only[decide_eq_true c2,Bool.not_true,Bool.false_eq_true,if_false,cond_false];exact ih
   ·simp only[decide_eq_false c2,Bool.not_false,if_true,cond_true]
theorem H0o(g:j0)(hg:Q0 g=true):o01 g=some (match A9 g with|some k=>(k:Int)|none => -1):=by
 obtain⟨e1,e2⟩:=G0k g hg
 obtain⟨h1,h2,h3,h4⟩:=A2 hg
 obtain⟨r,n,es⟩:=g
 simp only at h2 h3 h4 e1 e2
 obtain⟨N,rfl⟩:∃ N:Nat,n=(N:Int):=⟨n.toNat,by omega⟩
 unfold o01 A9
 have hl:=G0o r N es (by omega) (R0m es) e2 (by omega) (N-1) 1 S0 (by omega) (by omega) (Y0 (by omega))
 simp only[e1,oB,Int.toNat_natCast]
 rw[show(1:Int)=((1:Nat):Int) from rfl,hl]
 rw[show(fun v:Nat=>decide (Z02 (v:Int) es<2) || !decide ((v:Int)∈R0m es))=H0b es from rfl]
 cases lf (H0b es) (N-1) 1<;>rfl
theorem J0h(r:Int)(n:Nat)(es:List H0)(hes:es.length≤1000)(S:List Bool)(hS:S.length=n)(hn:n≤40):∀(d v fuel:Nat),1≤v→v+d=n∨(d=0∧n≤v)→v≤1000→d+1<fuel →
  M3 (n:Int) r es S fuel 0 (v:Int)=some (match lf (fun v=>decide (Z02 (v:Int) es<2) || !H9 S (v:Int)) d v with|some k=>(k:Int)|none=>0)
 |d,v,0,h1,hd,hv,hf=>by omega
 |0,v,fuel+1,h1,hd,hv,hf=>by
  have e:decide ((v:Int)<(n:Int))=false:=decide_eq_false (by omega)
  rw[M3.eq_2,if_neg (by rw[e];simp)];rfl
 |d+1,v,fuel+1,h1,hd,hv,hf=>by
  have ih:=J0h r n es hes S hS hn d (v+1) fuel (by omega) (by omega) (by omega) (by omega)
  have hdeg:=D0h (v:Int) es
  have e:decide ((v:Int)<(n:Int))=true:=decide_eq_true (by omega)
  have hfin:∀ w:Int,M3 (n:Int) r es S fuel (v:Int) w=some (v:Int):=fun w=>by
   obtain _|fuel:=fuel
   ·omega
   ·have e2:decide ((v:Int)=0)=false:=decide_eq_false (by omega)
    have e3:∀ b:Bool,(bif b then false else false)=false:=fun b=>by cases b<;>rfl
    rw[M3.eq_2,if_neg (by rw[e2,e3];simp)]
  rw[M3.eq_2,if_pos (by rw[e];rfl),Q0m (r,(n:Int),es) _ (by simp only;omega),oB,D0 (c64 (by simp only;omega) (by simp only;omega)),oB,V1 (show v<10000 by omega) (by omega)]
  unfold lf
  by_cases c1:Z02 (v:Int) es<2
  ·have e1:decide (((Z02 (v:Int) es:Nat):Int)<2)=true:=decide_eq_true (by omega)
   simp only[e1,Bool.not_true,H1,oB,cond_true,if_true,decide_eq_true c1,Bool.true_or,hfin]
  ·have e1:decide (((Z02 (v:Int) es:Nat):Int)<2)=false:=decide_eq_false (by omega)
   simp only[e1,Bool.not_false,C1,giB hS (show(0:Int)≤(v:Int) by omega) (show(v:Int)<(n:Int) by omega),oB,cond_false,decide_eq_false c1,Bool.false_or]
   cases hb:H9 S (v:Int)
   ·simp only[Bool.not_false,if_true,cond_true,hfin]
   ·simp only[Bool.not_true,Bool.false_eq_true,if_false,cond_false];exact ih
def wo(g:Nat):Nat→Nat→List Int
 |0,k=>[]
 |d+1,k=>if k=g then wo g d (k+1)else(k:Int)::wo g d (k+1)
theorem C0e(g:Nat):∀(d k:Nat),(wo g d k).length=d-(if k≤g∧g<k+d then 1 else 0)
 |0,k=>by simp[wo]
 |d+1,k=>by
  have ih:=C0e g d (k+1)
  unfold wo
  by_cases c:k=g
  ·rw[if_pos c,ih,if_neg (by omega),if_pos (by omega)];omega
  ·rw[if_neg c,List.length_cons,ih]
   by_cases c2:k+1≤g∧g<k+1+d
   ·rw[if_pos c2,if_pos (by omega)];omega
   ·rw[if_neg c2,if_neg (by omega)];omega
theorem k0j(g n:Nat):∀(d k:Nat),k+d≤n→inV n (wo g d k)
 |0,k,h=>fun x hx=>nomatch hx
 |d+1,k,h=>by
  have ih:=k0j g n d (k+1) (by omega)
  unfold wo
  split
  ·exact ih
  ·intro x hx
   rcases List.mem_cons.1 hx with rfl|hx
   ·omega
   ·exact ih x hx
theorem K0h(n g:Nat)(hn:n≤1000):∀(d k fuel:Nat) (acc:List Int),k+d=n→d<fuel→acc.length≤k →
  C5 (n:Int) (g:Int) fuel (k:Int) acc=some (acc++wo g d k)
 |d,k,0,acc,hd,hf,ha=>by omega
 |0,k,fuel+1,acc,hd,hf,ha=>by
  rw[C5.eq_2,if_neg (by simp;omega)];simp[wo]
 |d+1,k,fuel+1,acc,hd,hf,ha=>by
  have ih:=fun acc' h=>K0h n g hn d (k+1) fuel acc' (by omega) (by omega) h
  rw[C5.eq_2,if_pos (by simp;omega),V1 (show k<10000 by omega) (by omega)]
  unfold wo
  by_cases c:k=g
  ·have e:decide ((k:Int)=(g:Int))=true:=decide_eq_true (by omega)
   rw[e,if_neg (by simp),if_pos c,ih _ (by omega)]
  ·have e:decide ((k:Int)=(g:Int))=false:=decide_eq_false (by omega)
   rw[e,if_pos (show(!false)=true from rfl),if_neg c,D0 (by simp;omega),oB,ih _ (by simp;omega)]
   simp
theorem L0h(n:Nat)(hn:n≤1000):∀(d k fuel:Nat) (acc:List Int),k+d=n→d<fuel→acc.length=k →
  ∃ u,i6 (n:Int) fuel (k:Int) acc=some u∧u.length=n
 |d,k,0,acc,hd,hf,ha=>by omega
 |0,k,fuel+1,acc,hd,hf,ha=>by
  rw[i6.eq_2,if_neg (by simp;omega)];exact⟨_,rfl,by omega⟩
 |d+1,k,fuel+1,acc,hd,hf,ha=>by
  obtain⟨u,e1,e2⟩:=L0h n hn d (k+1) fuel (acc ++ [(k:Int)]) (by omega) (by omega) (by simp;omega)
  rw[i6.eq_2,if_pos (by simp;omega),V1 (show k<10000 by omega) (by omega),D0 (by simp;omega),oB,e1]
  exact⟨u,rfl,e2⟩
theorem M07{α:Type}{xs:List α}{k:Nat}(h:k≤xs.length):Y04 xs 0 (k:Int)=some (xs.take k):=by
 unfold Y04
 rw[if_pos (by omega)];rfl
theorem V0l:∀(n fuel:Nat) (left:List Int) (r:Int) (es:List H0),1≤n→n≤40→inN n es→es.length≤120→left.length=n→n<fuel →
  ∃(g':j0) (l':List Int),D5 fuel left r (n:Int) es=some (.inl (g',l'))∧g'.2.1≤(n:Int)∧(g'.2.1=(n:Int)↔lf (H0b es) (n-1) 1=none)
 |n,0,left,r,es,h1,h2,hn,hes,hl,hf=>by omega
 |n,fuel+1,left,r,es,h1,h2,hn,hes,hl,hf=>by
  obtain⟨S,eS,lS,hS⟩:=f0j r n es hn (by omega) h1 (by omega)
  have ht1:=J0h r n es (by omega) S lS h2 (n-1) 1 S0 (Nat.le_refl _) (by omega) (by omega) (Y0 (by omega))
  have hcg:lf (fun v=>decide (Z02 (v:Int) es<2) || !H9 S (v:Int)) (n-1) 1=lf (H0b es) (n-1) 1:=B0e _ _ fun k k1 k2=>by
   unfold H0b
   have:=hS (k:Int) (by omega) (by omega)
   have h3:=z0a es 0 (k:Int)
   congr 2
   cases hb:H9 S (k:Int)
   ·symm;exact decide_eq_false fun h=>by rw[this.2 (h3.1 h)]at hb;cases hb
   ·symm;exact decide_eq_true (h3.2 (this.1 hb))
  rw[hcg]at ht1
  rw[D5.eq_2,eS,oB,show(1:Int)=((1:Nat):Int) from rfl,ht1,oB]
  cases hlf:lf (H0b es) (n-1) 1 with
  |none =>
   exact⟨(r,(n:Int),es),left,by rw[if_pos (by rfl)],iR _,by simp⟩
  |some k =>
   have hk:=L07 _ _ _ hlf
   have e0:decide ((k:Int)=0)=false:=decide_eq_false (by omega)
   have ho:=k0j k n n 0 (by omega)
   have hlen:=C0e k n 0
   rw[if_pos (by omega)]at hlen
   have ht0:=K0h n k (by omega) n 0 S0 [] (by omega) (Y0 (by omega)) (Nat.le_refl _)
   rw[show((0:Nat):Int)=0 from rfl,List.nil_append]at ht0
   have hp:=G0h r n es (wo k n 0) hn ho (by omega) (by omega) (by omega)
   have hpl:=v09 (r,(n:Int),es) (wo k n 0)
   have hpi:=p0g (r:=r) ho hn
   have hw:IntKind.i64.wrap ((k:Int)+((1:Nat):Int))=((k+1:Nat):Int):=by rw[w64 (by omega) (by omega)];rfl
   obtain⟨g',l',q1,q2,q3⟩:=V0l (n-1) fuel (left.take k++left.drop (k+1)) r (n8 (r,(n:Int),es) (wo k n 0)).2.2 (by omega) (by omega) (by rw[hlen]at hpi;exact hpi) (by simp only at hpl;omega) (by simp only[List.length_append,List.length_take,List.length_drop];omega) (by omega)
   refine⟨g',l',?_,by omega,?_⟩
   ·simp only[e0,Bool.false_eq_true,if_false,ht0,oB,hp]
    rw[show n8 (r,(n:Int),es) (wo k n 0)=(r,((n-1:Nat):Int),(n8 (r,(n:Int),es) (wo k n 0)).2.2) by rw[←hlen];rfl]
    simp only[hw]
    rw[M07 (by omega),oB,D02 (by omega),oB,D0 (by simp only[List.length_take,List.length_drop];omega),oB,q1]
   ·constructor
    ·intro h;omega
    ·intro h;cases h
theorem H0k(g:j0)(hg:Q0 g=true):∃(g':j0) (l':List Int),z7 g=some (g',l')∧(g'.2.1=g.2.1↔A9 g=none):=by
 obtain⟨h1,h2,h3,h4⟩:=A2 hg
 have hq:=z00 g (by omega)
 have hc:=T00 g (by omega)
 obtain⟨r,n,es⟩:=g
 simp only at h2 h3 h4
 obtain⟨N,rfl⟩:∃ N:Nat,n=(N:Int):=⟨n.toNat,by omega⟩
 have hn:inN N es:=fun e he=>⟨(h1 e he).1,(h1 e he).2.1⟩
 obtain⟨u,e1,e2⟩:=L0h N (by omega) N 0 S0 [] (by omega) (Y0 (by omega)) rfl
 obtain⟨g',l',q1,q2,q3⟩:=V0l N S0 u r es (by omega) (by omega) hn h4 e2 (Y0 (by omega))
 refine⟨g',l',?_,?_⟩
 ·unfold z7
  rw[show((0:Nat):Int)=0 from rfl]at e1
  simp only[hc,oB,hq,hg,Bool.not_true,Bool.false_eq_true,if_false,e1,q1,Z7]
 ·simp only[A9,Int.toNat_natCast];exact q3
def N1(g:j0):Bool:=K0 g&&((A9 g).isNone&&o0e (Y2 g) g)
theorem P3{g:j0}(h:K0 g=true):Q0 g=true:=by
 unfold K0 at h;exact(Bool.and_eq_true _ _▸h).1
theorem q0g{g:j0}(hf:K0 g=true):(Y2 g).2.2.length≤120:=by
 have:=v09 g (T5 g)
 have:=(j1 hf).2.2.2
 unfold Y2;omega
theorem l00(g:j0)(hl:g.2.2.length≤140737488355328):L5 g=some (N1 g):=by
 have hF:=R8 g hl
 unfold N1
 by_cases hf:K0 g=true
 ·obtain⟨g',l',e1,e2⟩:=H0k g (P3 hf)
  have hC:=J07 g hf
  have hE:=i0g (Y2 g) g (by have:=q0g hf;omega)
  obtain⟨r,n,es⟩:=g
  obtain⟨r',n',es'⟩:=g'
  unfold L5
  simp only at e2
  generalize Y2 (r,n,es)=C at *
  obtain⟨c1,c2,c3⟩:=C
  simp only[hF,hf,oB,Bool.not_true,Bool.false_eq_true,if_false,e1,hC]
  by_cases c:n'=n
  ·have:=e2.1 c
   simp only[decide_eq_true c,C1,oB,hE,cond_true,this,Option.isNone_none,Bool.true_and]
  ·have hne:(A9 (r,n,es)).isNone=false:=by
    cases hq:A9 (r,n,es)with
    |none=>exact absurd (e2.2 hq) c
    |some k=>rfl
   simp only[decide_eq_false c,H1,oB,cond_false,hne,Bool.false_and,Bool.and_false]
 ·have hf':K0 g=false:=Bool.eq_false_iff.2 hf
  obtain⟨r,n,es⟩:=g
  unfold L5
  simp only[hF,hf',oB,Bool.not_false,if_true,Bool.false_and]
theorem M06(g:j0)(hl:g.2.2.length≤140737488355328):y00 g=some (N1 g):=by
 have hF:=I5 g hl
 unfold N1
 by_cases hf:K0 g=true
 ·have hL:=H0o g (P3 hf)
  have hC:=K07 g hf
  have hE:=k0g (Y2 g) g (by have:=q0g hf;omega)
  obtain⟨h1,h2,h3,h4⟩:=j1 hf
  obtain⟨r,n,es⟩:=g
  unfold y00
  generalize Y2 (r,n,es)=C at *
  obtain⟨c1,c2,c3⟩:=C
  simp only[hF,hf,oB,C1,hL,cond_true]
  cases hq:A9 (r,n,es)with
  |none =>
   simp only[D0 (show M0 (-1) by decide),oB,show decide ((-1:Int)<0)=true from rfl,C1,hC,hE,cond_true,Option.isNone_none,Bool.true_and]
  |some k =>
   have hk:=L07 _ _ _ hq
   simp only at h3
   simp only at hk
   have e0:decide ((k:Int)<0)=false:=decide_eq_false (by omega)
   simp only[D0 (show M0 (k:Int) from c64 (by omega) (by omega)),oB,e0,H1,cond_false,Option.isNone_some,Bool.false_and,Bool.and_false]
 ·have hf':K0 g=false:=Bool.eq_false_iff.2 hf
  obtain⟨r,n,es⟩:=g
  unfold y00
  simp only[hF,hf',oB,H1,D0 (show M0 0 by decide),cond_false,Bool.false_and]
theorem l0j{α:Type}{cf:α→α→Int}(h:V9 cf):∀ {l:List α},(∀ i x y,l[i]?=some x→l[i+1]?=some y→cf x y<0)→Asc cf l
 | [],_=>List.Pairwise.nil
 | [x],_=>List.pairwise_singleton _ _
 |x::y::l,hn=>by
  have ih:Asc cf (y::l):=l0j h fun i a b ha hb=>hn (i+1) a b (by simpa using ha) (by simpa using hb)
  have hxy:=hn 0 x y rfl rfl
  refine List.pairwise_cons.2 ⟨fun z hz=>?_,ih⟩
  rcases List.mem_cons.1 hz with rfl|hz
  ·exact hxy
  ·exact h.trans _ _ _ hxy ((List.pairwise_cons.1 ih).1 z hz)
theorem I0o{α:Type}{cf:α→α→Int}:∀ {l:List α},Asc cf l→∀ {i:Nat} {x y:α},l[i]?=some x→l[i+1]?=some y→cf x y<0
 | [],_,i,x,y,hx,_=>by simp at hx
 |a::l,h,0,x,y,hx,hy=>by
  simp at hx hy;subst hx
  exact(List.pairwise_cons.1 h).1 y (List.mem_of_getElem? hy)
 |a::l,h,i+1,x,y,hx,hy=>I0o (List.pairwise_cons.1 h).2 (i:=i) (by simpa using hx) (by simpa using hy)
theorem J0o{r hi:Int}{es:List H0}:∀ {d k:Nat},(∀ i,k≤i→i<k+d→t0o r hi es i=false)→okE r hi es d k=true
 |0,k,h=>rfl
 |d+1,k,h=>by
  simp only[okE,Bool.and_eq_true,Bool.not_eq_true']
  exact⟨h k (Nat.le_refl _) (by omega),J0o fun i h1 h2=>h i (by omega) (by omega)⟩
theorem p01(g:j0):Q0 g=true↔inG g∧(1≤g.1∧g.1≤3)∧(1≤g.2.1∧g.2.1≤40)∧g.2.2.length≤120∧Asc O0 g.2.2:=by
 constructor
 ·intro h
  obtain⟨q1,q2,q3,q4⟩:=A2 h
  refine⟨q1,q2,q3,q4,l0j E6 fun i x y hx hy=>?_⟩
  simp only[Q0,Bool.and_eq_true]at h
  have hb:=A0k h.1.1.1 (i+1) (Nat.zero_le _) (by have:=(List.getElem?_eq_some_iff.1 hy).1;omega)
  rw[p0a hy]at hb
  simp only[Nat.add_sub_cancel,hx,Bool.or_eq_false_iff]at hb
  have:=hb.2
  simp only[show decide (0<i+1)=true by simp,Bool.true_and,decide_eq_false_iff_not]at this
  have e:g0e x y=O0 x y:=rfl
  omega
 ·rintro⟨q1,q2,q3,q4,q5⟩
  obtain⟨r,n,es⟩:=g
  simp only at q2 q3 q4 q5
  simp only[Q0,inR,Bool.and_eq_true,decide_eq_true_eq]
  refine⟨⟨⟨J0o fun i _ hi=>?_,q2⟩,q3⟩,q4⟩
  have hx:=p5 (show i<es.length by omega)
  generalize es[i]=e at hx
  rw[p0a hx]
  have he:=q1 e (List.mem_of_getElem? hx)
  simp only at he
  simp only[Bool.or_eq_false_iff,Bool.not_eq_false',B05,inR,Bool.and_eq_true,decide_eq_true_eq]
  rw[w64 (by omega) (by omega)]
  refine⟨⟨⟨⟨by omega,by omega⟩,by omega,by omega⟩,by omega,by omega⟩,?_⟩
  cases i with
  |zero=>rfl
  |succ j =>
   have hy:=p5 (show j<es.length by omega)
   generalize es[j]=f at hy
   have:=I0o q5 hy hx
   simp only[Nat.add_sub_cancel,hy]
   have e':g0e f e=O0 f e:=rfl
   simp[e'];omega
theorem B0a{r:Int}{n:Int}{es:List H0}(hr:1≤r∧r≤3)(hn:1≤n∧n≤40)(hes:es.length≤120)(hin:inG (r,n,es)):Q0 (r,n,o5 O0 [] es)=true:=by
 refine(p01 _).2 ⟨fun e he=>hin e ?_,hr,hn,?_,A02 E6 _ _ List.Pairwise.nil⟩
 ·rcases(j9 E6 e es []).1 he with h|h
  ·simp at h
  ·exact h
 ·have:=L01 es []
  simp only[List.length_nil]at this
  simp only;omega
def C0a(a b:H0):List (Int×Int) :=
 bif decide (a.2.1=b.2.1)then(bif decide (a.1=b.1)then [(if b.2.2<a.2.2 then b.2.2 else a.2.2,if b.2.2>a.2.2 then b.2.2 else a.2.2)]else [])++(bif decide (a.2.2=b.2.2)then [(if b.1<a.1 then b.1 else a.1,if b.1>a.1 then b.1 else a.1)]else [])else []
def K02(a:H0):List H0→List (Int×Int)
 | []=>[]
 |b::r=>C0a a b++K02 a r
def G8:List H0→List (Int×Int)
 | []=>[]
 |a::r=>K02 a r++G8 r
theorem S0m(a b:H0):(C0a a b).length≤2:=by
 unfold C0a
 cases decide (a.2.1=b.2.1)<;>cases decide (a.1=b.1)<;>cases decide (a.2.2=b.2.2)<;>simp
theorem I0b(a:H0):∀ l,(K02 a l).length≤2*l.length
 | []=>by simp[K02]
 |b::r=>by have:=S0m a b;have:=I0b a r;simp only[K02,List.length_append,List.length_cons];omega
def mvV(f:Int×Int)(v:Int):Int:=if v=f.2 then f.1 else if v>f.2 then v-1 else v
def mvE(f:Int×Int)(e:H0):H0:=(mvV f e.1,e.2.1,mvV f e.2.2)
def x01(g:j0)(f:Int×Int):j0:=(g.1,g.2.1-1,o5 O0 [] (g.2.2.map (mvE f)))
def okF(g:j0)(f:Int×Int):Prop:=0≤f.1∧f.1<f.2∧f.2<g.2.1
theorem s05{g:j0}{f:Int×Int}(hg:Q0 g=true)(hf:okF g f):Q0 (x01 g f)=true:=by
 obtain⟨q1,q2,q3,q4,_⟩:=(p01 g).1 hg
 obtain⟨f1,f2,f3⟩:=hf
 refine B0a q2 ⟨by omega,by omega⟩ (by simpa using q4) fun e he=>?_
 obtain⟨e',he',rfl⟩:=List.mem_map.1 he
 obtain⟨a1,a2,a3⟩:=q1 e' he'
 have hm:∀ v:Int,0≤v∧v<g.2.1→0≤mvV f v∧mvV f v<g.2.1-1:=fun v hv=>by
  unfold mvV;split
  ·omega
  ·split<;>omega
 exact⟨hm _ a1,hm _ a2,a3⟩
theorem m0j{g:j0}(hg:inG g){a:H0}(ha:a∈g.2.2):∀ {l:List H0},(∀ b∈l,b∈g.2.2∧a≠b)→∀ f∈K02 a l,okF g f
 | [],_,f,hf=>by simp[K02]at hf
 |b::r,h,f,hf=>by
  rcases List.mem_append.1 (show f∈C0a a b++K02 a r from hf)with hf|hf
  ·have hb:=hg b (h b mS).1
   have ha':=hg a ha
   have hne:=(h b mS).2
   obtain⟨a0,a1,a2⟩:=a
   obtain⟨b0,b1,b2⟩:=b
   simp only at ha' hb
   unfold C0a at hf
   simp only at hf
   by_cases c1:a1=b1
   ·have d1 : ¬ (a0=b0∧a2=b2):=fun⟨x,y⟩=>hne (by rw[x,c1,y])
    simp only[c1,decide_true,cond_true,List.mem_append]at hf
    rcases hf with hf|hf
    ·by_cases c2:a0=b0
     ·simp only[c2,decide_true,cond_true,List.mem_singleton]at hf
      subst hf
      have:a2≠b2:=fun y=>d1 ⟨c2,y⟩
      unfold okF
      simp only
      split<;>split<;>omega
     ·simp[c2]at hf
    ·by_cases c2:a2=b2
     ·simp only[c2,decide_true,cond_true,List.mem_singleton]at hf
      subst hf
      have:a0≠b0:=fun y=>d1 ⟨y,c2⟩
      unfold okF
      simp only
      split<;>split<;>omega
     ·simp[c2]at hf
   ·simp[c1]at hf
  ·exact m0j hg ha (fun b' hb'=>h b' (mC _ hb')) f hf
theorem n0j{g:j0}(hg:inG g):∀ {l:List H0},(∀ b∈l,b∈g.2.2)→Asc O0 l→∀ f∈G8 l,okF g f
 | [],_,_,f,hf=>by simp[G8]at hf
 |a::r,h,hA,f,hf=>by
  rcases List.mem_append.1 (show f∈K02 a r++G8 r from hf)with hf|hf
  ·refine m0j hg (h a mS) (fun b hb=>⟨h b (mC _ hb),fun e=>?_⟩) f hf
   have:=(List.pairwise_cons.1 hA).1 b hb
   rw[e,E6.refl]at this;omega
  ·exact n0j hg (fun b hb=>h b (mC _ hb)) (List.pairwise_cons.1 hA).2 f hf
theorem Q04{g:j0}(hg:Q0 g=true):∀ f∈G8 g.2.2,okF g f:=by
 obtain⟨q1,_,_,_,q5⟩:=(p01 g).1 hg
 exact n0j q1 (fun _ h=>h) q5
def y01:Nat→j0→j0×List (Int×Int)
 |0,g=>(g,[])
 |n+1,g=>match G8 g.2.2 with
  | []=>(g,[])
  |f::_=>((y01 n (x01 g f)).1,f::(y01 n (x01 g f)).2)
def I9(g:j0):j0×List (Int×Int):=bif Q0 g then y01 40 g else(g,[])
theorem y0c:∀(n:Nat) {g:j0},Q0 g=true→Q0 (y01 n g).1=true
 |0,g,h=>h
 |n+1,g,h=>by
  unfold y01
  cases e:G8 g.2.2 with
  |nil=>exact h
  |cons f l=>exact y0c n (s05 h (Q04 h f (by rw[e];exact mS)))
theorem x09:∀(n:Nat) {g:j0},Q0 g=true→g.2.1≤(n:Int)+1→G8 (y01 n g).1.2.2 = []
 |0,g,h,hn=>by
  cases e:G8 g.2.2 with
  |nil=>exact e
  |cons f l =>
   have:=Q04 h f (by rw[e];exact mS)
   unfold okF at this
   omega
 |n+1,g,h,hn=>by
  unfold y01
  cases e:G8 g.2.2 with
  |nil=>exact e
  |cons f l=>exact x09 n (s05 h (Q04 h f (by rw[e];exact mS))) (by show g.2.1-1≤_;omega)
theorem T0m(a b:H0):C0a a b = []↔O04 a b=false:=by
 unfold C0a O04
 cases decide (a.2.1=b.2.1)<;>cases decide (a.1=b.1)<;>cases decide (a.2.2=b.2.2)<;>simp
theorem r0g(a:H0):∀ l,K02 a l = []↔∀ b∈l,O04 a b=false
 | []=>by simp[K02]
 |b::r=>by
  rw[K02,List.append_eq_nil_iff,T0m,r0g a r]
  simp
theorem J0b:∀ l,G8 l = []↔l.Pairwise fun a b=>O04 a b=false
 | []=>by simp[G8]
 |a::r=>by rw[G8,List.append_eq_nil_iff,r0g,J0b r,List.pairwise_cons]
theorem R04(g:j0):K0 g=true↔Q0 g=true∧G8 g.2.2 = []:=by
 unfold K0
 rw[Bool.and_eq_true,D0b,J0b]
theorem N07{g:j0}(h:Q0 g=true):K0 (I9 g).1=true:=by
 have hg:=(A2 h).2.2.1
 unfold I9
 rw[h]
 exact(R04 _).2 ⟨y0c 40 h,x09 40 h (by omega)⟩
theorem s0g(l:List H0)(a0 a1 a2:Int)(hl:l.length≤1000):∀(d k fuel:Nat) (acc:List K4),k+d=l.length→d<fuel→acc.length+2*d≤4000000 →
  c5 l a1 a0 a2 fuel (k:Int) acc=some (acc++K02 (a0,a1,a2) (l.drop k))
 |d,k,0,acc,hd,hf,ha=>by omega
 |0,k,fuel+1,acc,hd,hf,ha=>by
  rw[c5.eq_2,if_neg (by simp;omega),E1 (by omega)]
  simp[K02]
 |d+1,k,fuel+1,acc,hd,hf,ha=>by
  have hk:k<l.length:=by omega
  have hx:=p5 hk
  generalize l[k]=b at hx
  obtain⟨b0,b1,b2⟩:=b
  have ih:∀ acc':List K4,acc'.length+2*d≤4000000→c5 l a1 a0 a2 fuel ((k+1:Nat):Int) acc'=some (acc'++K02 (a0,a1,a2) (l.drop (k+1))):=fun acc' h=>s0g l a0 a1 a2 hl d (k+1) fuel acc' (by omega) (by omega) h
  rw[c5.eq_2,if_pos (by simp;omega),j2 hx,oB,V1 hk (by omega),J1 hx]
  simp only[K02,C0a]
  cases decide (a1=b1)
  ·simp only[Bool.not_false,if_true,cond_false,List.nil_append]
   exact ih acc (by omega)
  ·cases decide (a0=b0)<;>cases decide (a2=b2)
   all_goals simp only[Bool.not_true,Bool.false_eq_true,if_false,if_true,cond_true,cond_false,List.nil_append,List.append_nil]
   ·exact ih acc (by omega)
   ·rw[D0 (by simp;omega),oB,ih _ (by simp;omega)];simp
   ·rw[D0 (by simp;omega),oB,ih _ (by simp;omega)];simp
   ·rw[D0 (by simp;omega),oB,D0 (by simp;omega),oB,ih _ (by simp;omega)];simp
theorem t0g(l:List H0)(hl:l.length≤1000):∀(d k fuel:Nat) (acc:List K4),k+d=l.length→d<fuel→acc.length+2000*d≤3000000 →
  T8 l fuel (k:Int) acc=some (acc++G8 (l.drop k))
 |d,k,0,acc,hd,hf,ha=>by omega
 |0,k,fuel+1,acc,hd,hf,ha=>by
  rw[T8.eq_2,if_neg (by simp;omega),E1 (by omega)]
  simp[G8]
 |d+1,k,fuel+1,acc,hd,hf,ha=>by
  have hk:k<l.length:=by omega
  have hx:=p5 hk
  generalize l[k]=b at hx
  obtain⟨b0,b1,b2⟩:=b
  have h0:=s0g (l.drop (k+1)) b0 b1 b2 (by simp;omega) (l.length-(k+1)) 0 S0 acc (by simp) (Y0 (by omega)) (by omega)
  have hr:=I0b (b0,b1,b2) (l.drop (k+1))
  simp only[List.length_drop]at hr
  rw[T8.eq_2,if_pos (by simp;omega),j2 hx,oB]
  simp only[V1 hk (show l.length≤9223372036854775807 by omega)]
  rw[D02 (by omega),oB,show(0:Int)=((0:Nat):Int) from rfl,h0,oB,t0g l hl d (k+1) fuel _ (by omega) (by omega) (by simp only[List.length_append,List.drop_zero,List.length_drop]at hr ⊢;omega),J1 hx,G8]
  simp
theorem u0g(l:List H0)(hl:l.length≤1000)(i:Nat)(a0 a1 a2:Int)(hi:l[i]?=some (a0,a1,a2)):∀(d k fuel:Nat) (acc:List K4),k+d=l.length→d<fuel→acc.length+2*d≤4000000 →
  V3 l (i:Int) fuel (k:Int) acc=some (acc++K02 (a0,a1,a2) (l.drop k))
 |d,k,0,acc,hd,hf,ha=>by omega
 |0,k,fuel+1,acc,hd,hf,ha=>by
  rw[V3.eq_2,if_neg (by simp;omega),E1 (by omega)]
  simp[K02]
 |d+1,k,fuel+1,acc,hd,hf,ha=>by
  have hk:k<l.length:=by omega
  have hx:=p5 hk
  generalize l[k]=b at hx
  obtain⟨b0,b1,b2⟩:=b
  have ih:∀ acc':List K4,acc'.length+2*d≤4000000→V3 l (i:Int) fuel ((k+1:Nat):Int) acc'=some (acc'++K02 (a0,a1,a2) (l.drop (k+1))):=fun acc' h=>u0g l hl i a0 a1 a2 hi d (k+1) fuel acc' (by omega) (by omega) h
  rw[V3.eq_2,if_pos (by simp;omega),j2 hi,oB]
  simp only[]
  rw[j2 hx,oB,V1 hk (by omega),J1 hx]
  simp only[K02,C0a]
  cases decide (a1=b1)
  ·simp only[Bool.false_eq_true,if_false,cond_false,List.nil_append]
   exact ih acc (by omega)
  ·cases decide (a0=b0)<;>cases decide (a2=b2)
   all_goals simp only[Bool.not_true,Bool.false_eq_true,if_false,if_true,cond_true,cond_false,List.nil_append,List.append_nil]
   ·exact ih acc (by omega)
   ·rw[D0 (by simp;omega),oB,ih _ (by simp;omega)];simp
   ·rw[D0 (by simp;omega),oB,ih _ (by simp;omega)];simp
   ·rw[D0 (by simp;omega),oB,D0 (by simp;omega),oB,ih _ (by simp;omega)];simp
theorem v0g(l:List H0)(hl:l.length≤1000):∀(d k fuel:Nat) (acc:List K4),k+d=l.length→d<fuel→acc.length+2000*d≤3000000 →
  A7 l fuel (k:Int) acc=some (acc++G8 (l.drop k))
 |d,k,0,acc,hd,hf,ha=>by omega
 |0,k,fuel+1,acc,hd,hf,ha=>by
  rw[A7.eq_2,if_neg (by simp;omega),E1 (by omega)]
  simp[G8]
 |d+1,k,fuel+1,acc,hd,hf,ha=>by
  have hk:k<l.length:=by omega
  have hx:=p5 hk
  generalize l[k]=b at hx
  obtain⟨b0,b1,b2⟩:=b
  have h0:=u0g l hl k b0 b1 b2 hx (l.length-(k+1)) (k+1) S0 acc (by omega) (Y0 (by omega)) (by omega)
  have hr:=I0b (b0,b1,b2) (l.drop (k+1))
  simp only[List.length_drop]at hr
  rw[A7.eq_2,if_pos (by simp;omega),V1 hk (by omega),h0,oB,v0g l hl d (k+1) fuel _ (by omega) (by omega) (by simp only[List.length_append,List.length_drop]at hr ⊢;omega),J1 hx,G8]
  simp
theorem o0j(g:j0)(hl:g.2.2.length≤1000):a03 g=some (G8 g.2.2):=by
 obtain⟨r,n,es⟩:=g
 unfold a03
 simp only
 rw[show(0:Int)=((0:Nat):Int) from rfl,t0g es hl es.length 0 S0 [] (by omega) (Y0 (by simp only at hl;omega)) (by simp only at hl;simp;omega)]
 rfl
theorem p0j(g:j0)(hl:g.2.2.length≤1000):M01 g=some (G8 g.2.2):=by
 obtain⟨r,n,es⟩:=g
 unfold M01
 simp only
 rw[show(0:Int)=((0:Nat):Int) from rfl,v0g es hl es.length 0 S0 [] (by omega) (Y0 (by simp only at hl;omega)) (by simp only at hl;simp;omega)]
 rfl
def L02(g:j0):K4×Bool:=bif Q0 g then(match G8 g.2.2 with
 | []=>((0,0),false)
 |f::_=>(f,true))else((0,0),false)
theorem M0c(g:j0)(hl:g.2.2.length≤140737488355328):K9 g=some (L02 g):=by
 have h1:=z00 g hl
 have h2:=o0j g
 unfold L02
 cases hg:Q0 g with
 |false =>
  obtain⟨r,n,es⟩:=g
  unfold K9
  simp only[h1,hg,oB];rfl
 |true =>
  have h2:=h2 (by have:=(A2 hg).2.2.2;omega)
  obtain⟨r,n,es⟩:=g
  unfold K9
  simp only[h1,hg,h2,oB,cond_true]
  simp only at h2
  cases G8 es with
  |nil=>rfl
  |cons f l =>
   rw[if_neg (by simp),if_neg (by simp;omega),B0h rfl]
   rfl
theorem N0c(g:j0)(hl:g.2.2.length≤140737488355328):J9 g=some (L02 g):=by
 have h1:=L7 g hl
 have h2:=p0j g
 unfold L02
 cases hg:Q0 g with
 |false =>
  obtain⟨r,n,es⟩:=g
  unfold J9
  simp only[h1,hg,oB];rfl
 |true =>
  have h2:=h2 (by have:=(A2 hg).2.2.2;omega)
  obtain⟨r,n,es⟩:=g
  unfold J9
  simp only[h1,hg,h2,oB,cond_true]
  simp only at h2
  cases G8 es with
  |nil=>rfl
  |cons f l =>
   rw[if_neg (by simp),if_neg (by simp;omega),B0h rfl]
   rfl
theorem W0l(v:Int)(f:K4)(hv:0≤v∧v<1000)(hf:0≤f.1∧f.1<f.2):d02 v f=some (mvV f v):=by
 obtain⟨a,b⟩:=f
 simp only at hf
 unfold d02 mvV
 simp only
 by_cases c:v=b
 ·rw[if_pos (by simp[c]),if_neg (by simp;omega),if_pos c]
 ·rw[if_neg (by simp[c]),if_neg c]
  by_cases c2:v>b
  ·rw[if_pos (by simp[c2]),if_pos c2,w64 (by omega) (by omega)]
  ·rw[if_neg (by simp;omega),if_neg c2]
theorem q0j(v:Int)(f:K4)(hv:0≤v∧v<1000):B6 v f=some (mvV f v):=by
 obtain⟨a,b⟩:=f
 unfold B6 mvV
 simp only
 by_cases c:v=b
 ·rw[if_pos (by simp[c]),if_pos c]
 ·rw[if_neg (by simp[c]),if_neg c]
  by_cases c2:v>b
  ·rw[if_pos (by simp[c2]),if_pos c2,w64 (by omega) (by omega)]
  ·rw[if_neg (by simp;omega),if_neg c2]
theorem M0h{f:K4}{v:Int}(hv:0≤v∧v<1000)(hf:0≤f.1∧f.1<1000):M0 (mvV f v):=by
 unfold mvV
 split
 ·exact⟨by omega,by omega⟩
 ·split
  ·exact⟨by omega,by omega⟩
  ·exact⟨by omega,by omega⟩
theorem r0j(es:List H0)(f:K4)(r n:Int)(hl:es.length≤1000)(hv:∀ e∈es,(0≤e.1∧e.1<1000)∧(0≤e.2.2∧e.2.2<1000))(hf:0≤f.1∧f.1<f.2)(hf2:f.2<1000):∀(d k fuel:Nat) (acc:List H0),k+d=es.length→d<fuel→acc.length≤k →
  l4 es f.1 f.2 fuel (k:Int) r n acc=some (r,n,o5 O0 acc ((es.drop k).map (mvE f)))
 |d,k,0,acc,hd,hfu,ha=>by omega
 |0,k,fuel+1,acc,hd,hfu,ha=>by
  rw[l4.eq_2,if_neg (by simp;omega),E1 (by omega)]
  rfl
 |d+1,k,fuel+1,acc,hd,hfu,ha=>by
  have hk:k<es.length:=by omega
  have hx:=p5 hk
  have hvk:=hv _ (List.getElem_mem hk)
  generalize es[k]=b at hx hvk
  obtain⟨b0,b1,b2⟩:=b
  simp only at hvk
  have hln:=f06 (mvE f (b0,b1,b2)) acc
  rw[l4.eq_2,if_pos (by simp;omega),j2 hx,oB]
  simp only[]
  rw[W0l b0 (f.1,f.2) hvk.1 hf,oB,D0 (M0h hvk.1 ⟨hf.1,by show f.1<1000;omega⟩),oB,W0l b2 (f.1,f.2) hvk.2 hf,oB,D0 (M0h hvk.2 ⟨hf.1,by show f.1<1000;omega⟩),oB,
   r05 acc _ (by omega),oB,V1 hk (by omega),J1 hx,List.map_cons]
  exact r0j es f r n hl hv hf hf2 d (k+1) fuel _ (by omega) (by omega) (Nat.le_trans hln (by omega))
theorem s0j{g:j0}{f:K4}(hg:Q0 g=true)(hf:okF g f):B7 g f=some (x01 g f,true):=by
 obtain⟨q1,q2,q3,q4⟩:=A2 hg
 have h1:=L7 g (by omega)
 obtain⟨f1,f2,f3⟩:=hf
 obtain⟨r,n,es⟩:=g
 obtain⟨a,b⟩:=f
 simp only at f1 f2 f3 q3 q4
 have h:=r0j es (a,b) r (IntKind.i64.wrap (n-1)) (by omega) (fun e he=>by
  have:=q1 e he
  simp only at this
  exact⟨⟨by omega,by omega⟩,by omega,by omega⟩) ⟨f1,f2⟩ (by simp only;omega) es.length 0 S0 [] (by omega) (Y0 (by omega)) (Nat.le_refl _)
 unfold B7
 simp only[h1,hg,oB]
 rw[if_neg (by simp;omega),show(0:Int)=((0:Nat):Int) from rfl,h,w64 (by omega) (by omega)]
 rfl
theorem t0j(es:List H0)(f:K4)(hl:es.length≤1000)(hv:∀ e∈es,(0≤e.1∧e.1<1000)∧(0≤e.2.2∧e.2.2<1000))(hf:0≤f.1∧f.1<1000):∀(d k fuel:Nat),k+d=es.length→d<fuel →
  w4 es f.1 f.2 fuel (k:Int) ((es.take k).map (mvE f)++es.drop k)=some (es.map (mvE f))
 |d,k,0,hd,hfu=>by omega
 |0,k,fuel+1,hd,hfu=>by
  rw[w4.eq_2,if_neg (by simp;omega),E1 (by omega),List.append_nil,List.take_of_length_le (by omega)]
 |d+1,k,fuel+1,hd,hfu=>by
  have hk:k<es.length:=by omega
  have hx:=p5 hk
  have hvk:=hv _ (List.getElem_mem hk)
  generalize es[k]=b at hx hvk
  have htl:((es.take k).map (mvE f)).length=k:=by simp;omega
  have hg:((es.take k).map (mvE f)++es.drop k)[k]?=some b:=by
   rw[List.getElem?_append_right (by omega),htl,J1 hx];simp
  have hs:∀ y,((es.take k).map (mvE f)++es.drop k).set k y=(es.take k).map (mvE f)++y::es.drop (k+1):=fun y=>by
   rw[List.set_append_right _ _ (by omega),htl,J1 hx];simp
  obtain⟨b0,b1,b2⟩:=b
  simp only at hvk
  have e:(es.take (k+1)).map (mvE f)++es.drop (k+1)=(es.take k).map (mvE f)++mvE f (b0,b1,b2)::es.drop (k+1):=by
   rw[G0l hx];simp
  have ih:=t0j es f hl hv hf d (k+1) fuel (by omega) (by omega)
  rw[e]at ih
  rw[w4.eq_2,if_pos (by simp;omega),j2 hg,oB]
  simp only[]
  rw[q0j b0 (f.1,f.2) hvk.1,oB,D0 (M0h hvk.1 hf),oB,q0j b2 (f.1,f.2) hvk.2,oB,D0 (M0h hvk.2 hf),oB]
  simp only[oB]
  rw[show((k:Nat):Int).toNat=k from Int.toNat_natCast k,hs,V1 hk (by omega)]
  exact ih
theorem u0j{g:j0}{f:K4}(hg:Q0 g=true)(hf:okF g f):C7 g f=some (x01 g f,true):=by
 obtain⟨q1,q2,q3,q4⟩:=A2 hg
 have h1:=z00 g (by omega)
 have h2:=T00 g (by omega)
 obtain⟨f1,f2,f3⟩:=hf
 obtain⟨r,n,es⟩:=g
 obtain⟨a,b⟩:=f
 simp only at f1 f2 f3 q3 q4
 have h:=t0j es (a,b) (by omega) (fun e he=>by
  have:=q1 e he
  simp only at this
  exact⟨⟨by omega,by omega⟩,by omega,by omega⟩) ⟨f1,by simp only;omega⟩ es.length 0 S0 (by omega) (Y0 (by omega))
 simp only[List.take_zero,List.map_nil,List.nil_append,List.drop_zero]at h
 unfold C7
 simp only[h1,h2,hg,oB]
 rw[if_neg (by simp;omega),show(0:Int)=((0:Nat):Int) from rfl,h,oB,x0a _ (by simp;omega),oB,w64 (by omega) (by omega)]
 rfl
def Q01(g:j0):j0×K4×Bool:=bif Q0 g then(match G8 g.2.2 with
 | []=>(g,(0,0),false)
 |f::_=>(x01 g f,f,true))else(g,(0,0),false)
theorem O07(g:j0)(hl:g.2.2.length≤1099511627776):d01 g=some (Q01 g):=by
 have h1:=N0c g (by omega)
 have h2:=K01 g hl
 have h3:∀ f,Q0 g=true→okF g f→B7 g f=some (x01 g f,true):=fun f a b=>s0j a b
 have h4:Q0 g=true→∀ f∈G8 g.2.2,okF g f:=Q04
 unfold L02 at h1
 unfold Q01
 obtain⟨r,n,es⟩:=g
 unfold d01
 simp only[h1,oB]
 cases hg:Q0 (r,n,es)with
 |false=>simp only[cond_false,Bool.not_false,if_true,h2,oB]
 |true =>
  simp only[cond_true]
  simp only at h4
  cases e:G8 es with
  |nil=>simp only[Bool.not_false,if_true,h2,oB]
  |cons f l =>
   simp only[Bool.not_true,Bool.false_eq_true,if_false,h3 f hg (h4 hg f (by rw[e];exact mS)),oB]
theorem P07(g:j0)(hl:g.2.2.length≤1099511627776):h01 g=some (Q01 g):=by
 have h1:=M0c g (by omega)
 have h2:=T00 g hl
 have h3:∀ f,Q0 g=true→okF g f→C7 g f=some (x01 g f,true):=fun f a b=>u0j a b
 have h4:Q0 g=true→∀ f∈G8 g.2.2,okF g f:=Q04
 unfold L02 at h1
 unfold Q01
 obtain⟨r,n,es⟩:=g
 unfold h01
 simp only[h1,oB]
 cases hg:Q0 (r,n,es)with
 |false=>simp only[cond_false,Bool.not_false,if_true,h2,oB]
 |true =>
  simp only[cond_true]
  simp only at h4
  cases e:G8 es with
  |nil=>simp only[Bool.not_false,if_true,h2,oB]
  |cons f l =>
   simp only[Bool.not_true,Bool.false_eq_true,if_false,h3 f hg (h4 hg f (by rw[e];exact mS)),oB]
def M0q:(j0×N8) ⊕ (Int×Int×I0×(List K4))→Option (j0×N8):=fun X=>Z7 X (fun S=>match S with
 |(a,b,c,e)=>some ((a,b,c),e))
theorem D0e:∀(d k fuel:Nat) (g:j0) (acc:List K4),k+d=40→d<fuel→Q0 g=true→acc.length=k →
  (A6 fuel (k:Int) g.1 g.2.1 g.2.2 acc).bind M0q=some ((y01 d g).1,acc++(y01 d g).2)
 |d,k,0,g,acc,hd,hf,hg,ha=>by omega
 |0,k,fuel+1,g,acc,hd,hf,hg,ha=>by
  rw[A6.eq_2,if_neg (by simp;omega)]
  simp[M0q,Z7,y01]
 |d+1,k,fuel+1,g,acc,hd,hf,hg,ha=>by
  have h1:=O07 g (by have:=(A2 hg).2.2.2;omega)
  have h4:=Q04 hg
  unfold Q01 at h1
  rw[hg]at h1
  simp only[cond_true]at h1
  rw[A6.eq_2,if_pos (by simp;omega),show(g.1,g.2.1,g.2.2)=g from rfl,h1]
  unfold y01
  cases e:G8 g.2.2 with
  |nil=>simp[M0q,Z7]
  |cons f l =>
   have ih:=D0e d (k+1) fuel (x01 g f) (acc ++ [f]) (by omega) (by omega) (s05 hg (h4 f (by rw[e];exact mS))) (by simp[ha])
   simp only[oB,Bool.not_true,Bool.false_eq_true,if_false]
   rw[D0 (by simp;omega),oB,V1 (show k<1000 by omega) (by omega)]
   refine ih.trans ?_
   simp
theorem T08(g:j0)(hl:g.2.2.length≤1099511627776):N01 g=some (I9 g):=by
 have h1:=O07 g hl
 have h2:=K01 g hl
 have h3:=D0e 40 0 S0 g [] rfl (Y0 (by omega))
 unfold I9
 obtain⟨r,n,es⟩:=g
 unfold N01
 simp only[h2,oB]
 cases hg:Q0 (r,n,es)with
 |false =>
  unfold Q01 at h1
  rw[hg]at h1
  simp only[cond_false]at h1
  rw[show S0=(S0-1)+1 from rfl,A6.eq_2,if_pos (by simp),h1]
  rfl
 |true=>exact h3 hg rfl
theorem E0e:∀(d fuel:Nat) (g:j0) (acc:List K4),d<fuel→Q0 g=true→G8 (y01 d g).1.2.2 = []→acc.length+d≤1000 →
  D7 fuel g.1 g.2.1 g.2.2 acc=some (.inl ((y01 d g).1,acc++(y01 d g).2))
 |d,0,g,acc,hf,hg,hn,ha=>by omega
 |d,fuel+1,g,acc,hf,hg,hn,ha=>by
  have h1:=P07 g (by have:=(A2 hg).2.2.2;omega)
  have h4:=Q04 hg
  unfold Q01 at h1
  rw[hg]at h1
  simp only[cond_true]at h1
  rw[D7.eq_2,show(g.1,g.2.1,g.2.2)=g from rfl,h1]
  cases e:G8 g.2.2 with
  |nil =>
   have e2:y01 d g=(g,[]):=by
    cases d with
    |zero=>rfl
    |succ d=>unfold y01;rw[e]
   rw[e2]
   simp
  |cons f l =>
   cases d with
   |zero=>exact absurd e (by rw[show G8 g.2.2 = [] from hn];simp)
   |succ d =>
    have e2:y01 (d+1) g=((y01 d (x01 g f)).1,f::(y01 d (x01 g f)).2):=by
     show(match G8 g.2.2 with | []=>(g,[])|f::_=>((y01 d (x01 g f)).1,f::(y01 d (x01 g f)).2))=_
     rw[e]
    rw[e2]at hn ⊢
    have ih:=E0e d fuel (x01 g f) (acc ++ [f]) (by omega) (s05 hg (h4 f (by rw[e];exact mS))) hn (by simp;omega)
    simp only[oB,Bool.not_true,Bool.false_eq_true,if_false]
    rw[D0 (by simp;omega),oB]
    refine ih.trans ?_
    simp
theorem U08(g:j0)(hl:g.2.2.length≤1099511627776):P01 g=some (I9 g):=by
 have h1:=P07 g hl
 have h2:=T00 g hl
 have h3:=E0e 40 S0 g [] (Y0 (by omega))
 have h5:Q0 g=true→G8 (y01 40 g).1.2.2 = []:=fun hg=>x09 40 hg (by have:=(A2 hg).2.2.1;omega)
 unfold I9
 obtain⟨r,n,es⟩:=g
 unfold P01
 simp only[h2,oB]
 cases hg:Q0 (r,n,es)with
 |false =>
  unfold Q01 at h1
  rw[hg]at h1
  simp only[cond_false]at h1
  rw[show S0=(S0-1)+1 from rfl,D7.eq_2,h1]
  rfl
 |true =>
  have h:=h3 hg (h5 hg) (by simp)
  simp only at h
  rw[h]
  rfl
theorem K0b{g:j0}(h:Q0 g=true):Asc O0 g.2.2:=((p01 g).1 h).2.2.2.2
def stp(u x v:Int):H0:=if x<0 then(v,-x,u)else(u,x,v)
def s02(v:Int):List Int→Int→Int→List H0
 | [],_,_=>[]
 | [x],u,_=>[stp u x v]
 |x::y::r,u,n=>stp u x n::s02 v (y::r) n (n+1)
theorem u08(v:Int):∀(w:List Int) (u n:Int),(s02 v w u n).length=w.length
 | [],_,_=>rfl
 | [x],_,_=>rfl
 |x::y::r,u,n=>by simp only[s02,List.length_cons,u08 v (y::r)]
theorem I0k(u x v:Int)(hx:j4 x):O01 u x v=some (stp u x v):=by
 unfold O01 stp
 by_cases c:x<0
 ·rw[if_pos (by simp[c]),if_pos c,m0a hx.1 hx.2]
 ·rw[if_neg (by simp;omega),if_neg c]
theorem N0h(w:List Int)(v:Int)(r:Int)(hw:∀ x∈w,j4 x)(hl:w.length≤1000):∀(d k fuel:Nat) (u n:Int) (es:List H0),k+d=w.length→d<fuel→0≤n→n≤1000+k→es.length≤1000+k →
  C6 w v fuel u (k:Int) r n es=some (r,n+((d-1:Nat):Int),es++s02 v (w.drop k) u n)
 |d,k,0,u,n,es,hd,hf,h0,h1,h2=>by omega
 |0,k,fuel+1,u,n,es,hd,hf,h0,h1,h2=>by
  rw[C6.eq_2,if_neg (by simp;omega),E1 (by omega)]
  simp[s02]
 |d+1,k,fuel+1,u,n,es,hd,hf,h0,h1,h2=>by
  have hk:k<w.length:=by omega
  have hx:=p5 hk
  have hm:=hw _ (List.getElem_mem hk)
  generalize w[k]=x at hx hm
  rw[C6.eq_2,if_pos (by simp;omega),j2 hx,oB,e0e (by omega) (by omega),J1 hx]
  by_cases c:k+1<w.length
  ·rw[if_pos (by simp;omega),I0k u x n hm,oB]
   have hy:=p5 c
   generalize w[k+1]=y at hy
   have ih:=N0h w v r hw hl d (k+1) fuel n (n+1) (es ++ [stp u x n]) (by omega) (by omega) (by omega) (by omega) (by simp;omega)
   simp only[]
   rw[D0 (by simp;omega),oB,V1 hk (by omega),w64 (show(-9223372036854775808:Int)≤n+1 by omega) (by omega)]
   refine ih.trans ?_
   rw[J1 hy]
   simp only[s02,List.append_assoc,List.singleton_append]
   congr 3
   omega
  ·have hd0:d=0:=by omega
   subst hd0
   rw[if_neg (by simp;omega),I0k u x v hm,oB]
   have ih:=N0h w v r hw hl 0 (k+1) fuel v n (es ++ [stp u x v]) (by omega) (by omega) h0 (by omega) (by simp;omega)
   simp only[]
   rw[D0 (by simp;omega),oB,V1 hk (by omega)]
   refine ih.trans ?_
   rw[E1 (show k+1=w.length by omega)]
   simp[s02]
theorem O0h(w:List Int)(v:Int)(r:Int)(hw:∀ x∈w,j4 x∧x≠0)(hl:w.length≤1000):∀(d k fuel:Nat) (u n:Int) (es:List H0),k+d=w.length→d<fuel→0≤n→n≤1000+k→es.length≤1000+k →
  Z4 w v fuel u (k:Int) r n es=some (r,n+((d-1:Nat):Int),o5 O0 es (s02 v (w.drop k) u n))
 |d,k,0,u,n,es,hd,hf,h0,h1,h2=>by omega
 |0,k,fuel+1,u,n,es,hd,hf,h0,h1,h2=>by
  rw[Z4.eq_2,if_neg (by simp;omega),E1 (by omega)]
  simp[s02,o5]
 |d+1,k,fuel+1,u,n,es,hd,hf,h0,h1,h2=>by
  have hk:k<w.length:=by omega
  have hx:=p5 hk
  have hm:=hw _ (List.getElem_mem hk)
  generalize w[k]=x at hx hm
  have hput:∀ e,(k00 O0 e es).length≤1000+(k+1):=fun e=>by have:=f06 e es;omega
  rw[Z4.eq_2,if_pos (by simp;omega),J1 hx]
  by_cases c:k+1<w.length
  ·have hy:=p5 c
   generalize w[k+1]=y at hy
   have ih:=O0h w v r hw hl d (k+1) fuel n (n+1) (k00 O0 (stp u x n) es) (by omega) (by omega) (by omega) (by omega) (hput _)
   rw[J1 hy]at ih
   rw[V1 hk (by omega),if_pos (by simp;omega),j2 hx,oB,w64 (show(-9223372036854775808:Int)≤n+1 by omega) (by omega),J1 hy]
   have fin:some (r,n+1+((d-1:Nat):Int),o5 O0 (k00 O0 (stp u x n) es) (s02 v (y::w.drop (k+1+1)) n (n+1)))=some (r,n+((d+1-1:Nat):Int),o5 O0 es (s02 v (x::y::w.drop (k+1+1)) u n)):=by
    simp only[s02,o5]
    congr 3
    omega
   by_cases c2:x>0
   ·have e:stp u x n=(u,x,n):=by unfold stp;rw[if_neg (by omega)]
    rw[if_pos (by simp[c2])]
    simp only[oB]
    rw[r05 es _ (by omega),oB,←e]
    exact ih.trans fin
   ·have e:stp u x n=(n,-x,u):=by unfold stp;rw[if_pos (by omega)]
    rw[if_neg (by simp;omega)]
    simp only[oB]
    rw[m0a hm.1.1 hm.1.2,r05 es _ (by omega),oB,←e]
    exact ih.trans fin
  ·have hd0:d=0:=by omega
   subst hd0
   have ih:=O0h w v r hw hl 0 (k+1) fuel v n (k00 O0 (stp u x v) es) (by omega) (by omega) h0 (by omega) (hput _)
   rw[E1 (show k+1=w.length by omega)]at ih ⊢
   rw[V1 hk (by omega),if_neg (by simp;omega),j2 hx,oB]
   have fin:some (r,n+((0-1:Nat):Int),o5 O0 (k00 O0 (stp u x v) es) (s02 v [] v n))=some (r,n+((0+1-1:Nat):Int),o5 O0 es (s02 v [x] u n)):=by
    simp[s02,o5]
   by_cases c2:x>0
   ·have e:stp u x v=(u,x,v):=by unfold stp;rw[if_neg (by omega)]
    rw[if_pos (by simp[c2])]
    simp only[oB]
    rw[r05 es _ (by omega),oB,←e]
    exact ih.trans fin
   ·have e:stp u x v=(v,-x,u):=by unfold stp;rw[if_pos (by omega)]
    rw[if_neg (by simp;omega)]
    simp only[oB]
    rw[m0a hm.1.1 hm.1.2,r05 es _ (by omega),oB,←e]
    exact ih.trans fin
theorem J0k{es p:List H0}(hA:Asc O0 es):o5 O0 [] (es++p)=o5 O0 es p :=
 t09 E6 (A02 E6 _ _ .nil) (A02 E6 _ _ hA) fun x=>by
  rw[j9 E6,j9 E6];simp
def I4(g:j0)(u:Int)(w:List Int)(v:Int):j0×Bool :=
 bif !w.isEmpty&&decide (g.2.1+(w.length:Int)-1≤40)&&decide (g.2.2.length+w.length≤120)then((g.1,g.2.1+((w.length-1:Nat):Int),o5 O0 g.2.2 (s02 v w u g.2.1)),true)else(g,false)
theorem C03{r:Int}{w:List Int}(h:I2 r w=true):w.length≤24∧∀ x∈w,j4 x∧x≠0 ∧ -r≤x∧x≤r:=by
 have h1:=h
 simp only[I2,Bool.and_eq_true,decide_eq_true_eq]at h1
 refine⟨h1.1.2,fun x hx=>?_⟩
 obtain⟨i,hi⟩:=List.getElem?_of_mem hx
 have:=c0j h hi
 exact⟨⟨⟨by omega,by omega⟩,by omega⟩,this.2.2⟩
theorem V08{g:j0}{u v:Int}{w:List Int}(hg:Q0 g=true)(hu:0≤u∧u<g.2.1)(hv:0≤v∧v<g.2.1)(hw:I2 g.1 w=true):F00 g u w v=some (I4 g u w v):=by
 obtain⟨q1,q2,q3,q4⟩:=A2 hg
 obtain⟨wl,wx⟩:=C03 hw
 have h1:=L7 g (by omega)
 have h2:=K01 g (by omega)
 have h3:=m04 g.1 w (by omega)
 obtain⟨r,n,es⟩:=g
 simp only at q3 q4 hu hv h3
 have hwp:IntKind.i64.wrap (n-1)=n-1:=w64 (by omega) (by omega)
 have hin:∀ x:Int,0≤x∧x<n→inR 0 (n-1) x=true:=fun x hx=>by simp[inR];omega
 have h:=O0h w v r (fun x hx=>⟨(wx x hx).1,(wx x hx).2.1⟩) (by omega) w.length 0 S0 u n es (by omega) (Y0 (by omega)) (by omega) (by omega) (by omega)
 unfold F00 I4
 simp only[h1,h2,hg,oB,Bool.not_true,Bool.not_false,C1,cond_false,hwp,v01,hin u hu,hin v hv,h3,hw]
 rw[w64 (show(-9223372036854775808:Int)≤n+((w.length:Nat):Int) by omega) (by omega),w64 (show(-9223372036854775808:Int)≤n+((w.length:Nat):Int)-1 by omega) (by omega),w64 (show(-9223372036854775808:Int)≤((es.length:Nat):Int)+((w.length:Nat):Int) by omega) (by omega)]
 by_cases c:(w≠[]∧n+(w.length:Int)-1≤40)∧es.length+w.length≤120
 ·have hne:w.length≠0:=by simpa using c.1.1
  rw[if_neg (by simp only[Bool.not_eq_true];simp[c.1.1];omega),show(0:Int)=((0:Nat):Int) from rfl,h,oB]
  rw[show(!w.isEmpty&&decide (n+(w.length:Int)-1≤40)&&decide (es.length+w.length≤120))=true by simp[c.1.1,c.1.2,c.2]]
  rfl
 ·rw[show(!w.isEmpty&&decide (n+(w.length:Int)-1≤40)&&decide (es.length+w.length≤120))=false by
   rw[←Bool.not_eq_true];simpa using c]
  rw[if_pos ?_]
  ·rfl
  ·by_cases d1:w = []
   ·simp[d1]
   ·by_cases d2:n+(w.length:Int)-1≤40
    ·have d3 : ¬ es.length+w.length≤120:=fun h=>c ⟨⟨d1,d2⟩,h⟩
     have:decide (((es.length:Nat):Int)+((w.length:Nat):Int)>120)=true:=by simp;omega
     rw[this];simp
    ·have:decide (n+((w.length:Nat):Int)-1>40)=true:=by simp;omega
     rw[this];simp
theorem K0o{g:j0}(hg:Q0 g=true){u:Int}(hu:0≤u∧u<g.2.1):T3 g u=some true:=by
 obtain⟨q1,q2,q3,q4⟩:=A2 hg
 obtain⟨r,n,es⟩:=g
 simp only at q3 hu
 unfold T3
 simp only[q02]
 rw[w64 (by omega) (by omega)]
 simp[inR];omega
theorem W08{g:j0}{u v:Int}{w:List Int}(hg:Q0 g=true)(hu:0≤u∧u<g.2.1)(hv:0≤v∧v<g.2.1)(hw:I2 g.1 w=true):H00 g u w v=some (I4 g u w v):=by
 obtain⟨q1,q2,q3,q4⟩:=A2 hg
 obtain⟨wl,wx⟩:=C03 hw
 have h1:=z00 g (by omega)
 have h2:=T00 g (by omega)
 have h3:=n04 g.1 w (by omega)
 have h4:=K0o hg hu
 have h5:=K0o hg hv
 have hA:=K0b hg
 obtain⟨r,n,es⟩:=g
 simp only at q3 q4 hu hv h3 hA
 have h:=N0h w v r (fun x hx=>(wx x hx).1) (by omega) w.length 0 S0 u n es (by omega) (Y0 (by omega)) (by omega) (by omega) (by omega)
 have hpl:=u08 v w u n
 unfold H00 I4
 simp only[h1,h2,hg,oB,Bool.not_true,Bool.not_false,C1,cond_false,h4,h5]
 rw[w64 (show(-9223372036854775808:Int)≤n+((w.length:Nat):Int) by omega) (by omega),w64 (show(-9223372036854775808:Int)≤n+((w.length:Nat):Int)-1 by omega) (by omega),w64 (show(-9223372036854775808:Int)≤((es.length:Nat):Int)+((w.length:Nat):Int) by omega) (by omega)]
 by_cases d1:w = []
 ·subst d1
  simp[chk]
 rw[show decide (((w.length:Nat):Int)=0)=false by simp[d1],show(!false)=true from rfl,C1,h3,oB,hw]
 by_cases c:n+(w.length:Int)-1≤40∧es.length+w.length≤120
 ·rw[if_neg (by simp only[Bool.not_eq_true];simp;omega),show(0:Int)=((0:Nat):Int) from rfl,h,oB]
  rw[show(!w.isEmpty&&decide (n+(w.length:Int)-1≤40)&&decide (es.length+w.length≤120))=true by simp[d1,c.1,c.2]]
  simp only[List.drop_zero,cond_true]
  rw[x0a _ (by simp;omega),J0k hA]
  rfl
 ·rw[show(!w.isEmpty&&decide (n+(w.length:Int)-1≤40)&&decide (es.length+w.length≤120))=false by
   rw[←Bool.not_eq_true];simp only[Bool.and_eq_true,decide_eq_true_eq,Bool.not_eq_true'];omega]
  rw[if_pos ?_]
  ·rfl
  ·by_cases d2:n+(w.length:Int)-1≤40
   ·have d3 : ¬ es.length+w.length≤120:=fun h=>c ⟨d2,h⟩
    have:decide (((es.length:Nat):Int)+((w.length:Nat):Int)>120)=true:=by simp;omega
    rw[this];simp
   ·have:decide (n+((w.length:Nat):Int)-1>40)=true:=by simp;omega
    rw[this];simp
theorem l0p(a b:List Int)(hab:a.length=b.length)(hl:a.length≤9223372036854775807):∀(d k fuel:Nat),k+d=a.length→d<fuel →
  R3 a b fuel (k:Int)=some (bif eqW (a.drop k) (b.drop k)then .inr ()else .inl false)
 |d,k,0,hk,hf=>by omega
 |0,k,fuel+1,hk,hf=>by
  rw[R3.eq_2,if_neg (by simp;omega),E1 (by omega),E1 (by omega)]
  rfl
 |d+1,k,fuel+1,hk,hf=>by
  have hx:=p5 (show k<a.length by omega)
  have hy:=p5 (show k<b.length by omega)
  have next:=l0p a b hab hl d (k+1) fuel (by omega) (by omega)
  generalize a[k]=x at hx
  generalize b[k]=y at hy
  rw[R3.eq_2,if_pos (by simp;omega),j2 hx,oB,j2 hy,oB,J1 hx,J1 hy]
  unfold eqW at next ⊢
  by_cases h:x=y
  ·rw[if_neg (by simpa using h),V1 (show k<a.length by omega) hl,next]
   simp[h]
  ·rw[if_pos (by simpa using h)]
   simp[h]
theorem m06{a b:List Int}(la:a.length≤9223372036854775807):c9 a b=some (eqW a b):=by
 unfold c9
 by_cases h:a.length=b.length
 ·rw[if_neg (by simp[h])]
  have:=l0p a b h (by omega) a.length 0 S0 (by omega) (i0e la)
  rw[show((0:Nat):Int)=0 from rfl]at this
  rw[this]
  simp only[List.drop_zero,oB]
  unfold eqW
  by_cases h2:a=b
  ·simp[h2,Z7]
  ·simp[h2,Z7]
 ·rw[if_pos (by simp;omega)]
  unfold eqW
  have : ¬ a=b:=fun e=>h (by rw[e])
  simp[this]
theorem e03(a b:List Int):∀(fuel:Nat) (k:Int),H6 a b fuel k=R3 a b fuel k
 |0,k=>rfl
 |fuel+1,k=>by
  rw[H6.eq_2,R3.eq_2]
  simp only[e03 a b fuel]
theorem U0b{a b:List Int}(la:a.length≤9223372036854775807):p00 a b=some (eqW a b):=by
 rw[←m06 la]
 unfold p00 c9
 rw[e03]
theorem U0j{ws:P1}{n:Nat}(h:H5 ws≤n)(hn:n≤140737488355328):ws.length≤140737488355328∧P7 ws:=by
 unfold H5 at h
 exact⟨by omega,fun w hw=>by have:=a0e (m:=B4) hw;unfold B4 at this h;omega⟩
end Go.Proofs.YtcakocbgbelmeaaGreat
