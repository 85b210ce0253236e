/- Texts of the claim, joined: Plain laws: words and presentations, as the spec and the cod and others. -/
import Derived.Test.YtcakocbgbelmeaaGreatPart18
import Derived.Test.YtcakocbgbelmeaaGreatH33
import Derived.Test.YtcakocbgbelmeaaGreatH36
import Derived.Test.YtcakocbgbelmeaaGreatPart17
namespace Go.Proofs.YtcakocbgbelmeaaGreat
open Go.H
set_option linter.unusedVariables false
set_option linter.unusedSimpArgs false
theorem W0 {n:Nat} (h:n≤140737488355328):n<N0:=by unfold N0;omega
theorem C0 {p:Prop} [Decidable p] (h:p):grd p=some ():=by unfold grd;rw[if_pos h]
theorem O2 {α:Type} (o:Option α) (d:α):chk true o d=o:=rfl
theorem L5 {α:Type} (o:Option α) (d:α):chk false o d=some d:=rfl
theorem D2 {α:Type} {xs:List α} {k:Nat} {x:α} (h:xs[k]?=some x):gi xs (k:Int)=some x:=by rw[Y0b];exact h
theorem p05 {α:Type} {xs:List α} {x:α} (h:xs[0]?=some x):gi xs 0=some x:=D2 (k:=0) h
theorem J0g {x:Int} (h:H0 x) (h2:x ≠ -9223372036854775808):IntKind.i64.wrap (0-x) = -x:=by rw[w64 (by have:=h.1;have:=h.2;omega) (by have:=h.1;have:=h.2;omega)];omega
theorem y0a {n:Nat} (h:0<n) (hm:n≤9223372036854775807):IntKind.i64.wrap ((n:Int)-1)=((n-1:Nat):Int):=by rw[w64 (by omega) (by omega)];omega
theorem Z3 {α:Type} {xs:List α} {k:Nat} (h:k<xs.length):xs[k]?=some xs[k]:=List.getElem?_eq_getElem h
def inR (lo hi x:Int):Bool:=decide (lo≤x)&&decide (x≤hi)
def S05 (lo hi:Int) (w:List Int) (i:Nat):Bool :=
 match w[i]? with
 |none=>true
 |some x=>x == 0 || !inR lo hi x || (decide (0<i)&&match w[i-1]? with
  |none=>true
  |some y=>x == IntKind.i64.wrap (0-y))
def g03 (lo hi:Int) (w:List Int):Nat→Nat→Bool
 |0,_=>true
 |d+1,k => !S05 lo hi w k&&g03 lo hi w d (k+1)
def w5 (r:Int) (w:List Int):Bool:=inR 1 3 r&&decide (w.length≤24)&&g03 (-r) r w w.length 0
theorem h03 (a b c:Int):K4 a b c=some (inR b c a):=by
 unfold K4 inR
 by_cases h:b≤a <;> simp[h]
theorem d02 (a b c:Int):S5 a b c=some (inR b c a):=h03 a b c
theorem T05 (r:Int) (w:List Int) (hl:w.length≤140737488355328):∀(d k fuel:Nat),k+d=w.length→d<fuel →
  j8 w r fuel (k:Int)=some (bif g03 (IntKind.i64.wrap (0-r)) r w d k then .inr ()else .inl false)
 |d,k,0,hk,hf=>by omega
 |0,k,fuel+1,hk,hf=>by
  rw[j8.eq_2,if_neg (by simp;omega)]
  simp[g03]
 |d+1,k,fuel+1,hk,hf=>by
  have hkl:k<w.length:=by omega
  have hx:=Z3 hkl
  generalize w[k]=x at hx
  have next:=T05 r w hl d (k+1) fuel (by omega) (by omega)
  rw[j8.eq_2,if_pos (by simp;omega)]
  generalize IntKind.i64.wrap (0-r)=lo at next ⊢
  simp only[D2 hx,oB,h03,L1 hkl (by omega:w.length≤9223372036854775807),next]
  have hbad:S05 lo r w k=(x == 0 || !inR lo r x || (decide (0<k)&&match w[k-1]? with
   |none=>true
   |some y=>x == IntKind.i64.wrap (0-y))):=by unfold S05;rw[hx]
  simp only[g03,hbad]
  by_cases h0:x=0
  ·simp[h0,chk]
  have e0:decide (x=0)=false:=by simpa using h0
  have b0:(x == 0)=false:=by simpa using h0
  cases hin:inR lo r x with
  |false=>simp[e0,b0,hin,chk]
  |true =>
   by_cases hk0:k=0
   ·have ek:decide ((k:Int)>0)=false:=by simp;omega
    have bk:decide (0<k)=false:=by simp;omega
    simp only[e0,b0,hin,ek,bk,O2,L5,Bool.not_true,Bool.not_false,Bool.and_true,Bool.false_and,Bool.or_self,Bool.true_and,cond_true,cond_false,oB,Bool.or_false,Bool.and_false,Bool.false_eq_true,if_false,cond_true,cond_false]
   ·have hy:=Z3 (show k-1<w.length by omega)
    generalize w[k-1]=y at hy
    have hpr:IntKind.i64.wrap ((k:Int)-1)=((k-1:Nat):Int):=y0a (by omega) (by omega)
    have ek:decide ((k:Int)>0)=true:=by simp;omega
    have bk:decide (0<k)=true:=by simp;omega
    simp only[e0,b0,hin,ek,bk,hpr,hy,D2 hx,D2 hy,O2,L5,Bool.not_true,Bool.not_false,Bool.and_true,Bool.false_and,Bool.or_self,Bool.true_and,cond_true,cond_false,oB,Bool.or_false,Bool.and_false,Bool.false_or]
    by_cases hxy:x=IntKind.i64.wrap (0-y)
    ·have e1:decide (x=IntKind.i64.wrap (0-y))=true:=by simpa using hxy
     have b1:(x == IntKind.i64.wrap (0-y))=true:=by simpa using hxy
     simp only[e1,b1,if_true,Bool.not_true,Bool.false_and,Bool.false_eq_true,if_false,cond_true,cond_false]
    ·have e1:decide (x=IntKind.i64.wrap (0-y))=false:=by simpa using hxy
     have b1:(x == IntKind.i64.wrap (0-y))=false:=by simpa using hxy
     simp only[e1,b1,Bool.false_eq_true,if_false,Bool.not_false,Bool.true_and]
theorem z0a (r:Int) (w:List Int) (hl:w.length≤140737488355328):e01 r w=some (w5 r w):=by
 unfold e01
 have h:=T05 r w hl w.length 0 N0 (by omega) (W0 hl)
 rw[show((0:Nat):Int)=0 from rfl]at h
 rw[h,h03]
 unfold w5
 by_cases hr:inR 1 3 r=true
 ·have:IntKind.i64.wrap (0-r) = -r:=by
   simp only[inR,Bool.and_eq_true,decide_eq_true_eq]at hr
   rw[w64 (by omega) (by omega)];omega
  rw[this,hr]
  cases g03 (-r) r w w.length 0 <;> simp[H6] <;> omega
 ·simp only[Bool.not_eq_true]at hr
  rw[hr]
  cases g03 (IntKind.i64.wrap (0-r)) r w w.length 0 <;> simp[H6]
theorem Z0k (r x:Int) (hr:inR 1 3 r=true):O00 r x=some (!(x == 0)&&inR (-r) r x):=by
 have hn:IntKind.i64.wrap (0-r) = -r:=by
  simp only[inR,Bool.and_eq_true,decide_eq_true_eq]at hr
  rw[w64 (by omega) (by omega)];omega
 unfold O00
 rw[hn,d02]
 by_cases h0:x=0
 ·simp[h0,chk]
 ·simp[h0,chk]
theorem A0a (y x:Int):V8 y x=some (!(y == 0) && !(y == -9223372036854775808)&&(x == IntKind.i64.wrap (0-y))):=by
 unfold V8
 by_cases h0:y=0
 ·simp[h0]
 ·by_cases h1:y = -9223372036854775808
  ·simp[h1]
  ·simp only[h0,h1,decide_false,Bool.not_false,cond_true,Option.some.injEq]
   have b2:(y == 0)=false:=by simpa using h0
   have b3:(y == -9223372036854775808)=false:=by simpa using h1
   rw[b2,b3]
   rfl
theorem U05 (r:Int) (w:List Int) (hr:inR 1 3 r=true) (hl:w.length≤140737488355328):∀(d k fuel:Nat),k+d=w.length→d<fuel →
  (∀ i,i<k→S05 (-r) r w i=false) →
  l8 w r fuel (k:Int)=some (bif g03 (-r) r w d k then .inr ()else .inl false)
 |d,k,0,hk,hf,hp=>by omega
 |0,k,fuel+1,hk,hf,hp=>by
  rw[l8.eq_2,if_neg (by simp;omega)]
  simp[g03]
 |d+1,k,fuel+1,hk,hf,hp=>by
  have hkl:k<w.length:=by omega
  have hx:=Z3 hkl
  generalize w[k]=x at hx
  have next:=fun(hb:S05 (-r) r w k=false)=>U05 r w hr hl d (k+1) fuel (by omega) (by omega) (fun i hi=>by
   by_cases e:i=k
   ·subst e;exact hb
   ·exact hp i (by omega))
  rw[l8.eq_2,if_pos (by simp;omega)]
  rw[D2 hx,oB,Z0k r x hr,L1 hkl (by omega:w.length≤9223372036854775807)]
  have hbad:S05 (-r) r w k=(x == 0 || !inR (-r) r x || (decide (0<k)&&match w[k-1]? with
   |none=>true
   |some y=>x == IntKind.i64.wrap (0-y))):=by unfold S05;rw[hx]
  simp only[g03]
  by_cases h0:x=0
  ·simp[h0,chk,hbad]
  have b0:(x == 0)=false:=by simpa using h0
  cases hin:inR (-r) r x with
  |false=>simp[b0,hin,chk,hbad]
  |true =>
   by_cases hk0:k=0
   ·have hb:S05 (-r) r w k=false:=by rw[hbad];simp[h0,hin,hk0]
    rw[next hb,hb]
    have ek:decide ((k:Int)>0)=false:=by simp;omega
    simp only[b0,ek,O2,L5,Bool.not_true,Bool.not_false,Bool.and_true,Bool.false_and,Bool.or_self,Bool.true_and,cond_true,cond_false,oB,Bool.or_false,Bool.and_false,Bool.false_eq_true,if_false,cond_true,cond_false]
   ·have hy:=Z3 (show k-1<w.length by omega)
    have hpy:=hp (k-1) (by omega)
    generalize w[k-1]=y at hy
    have hy0:y≠0∧y ≠ -9223372036854775808:=by
     unfold S05 at hpy
     rw[hy]at hpy
     simp only[Bool.or_eq_false_iff,Bool.not_eq_false']at hpy
     have h1:=hpy.1.2
     simp only[inR,Bool.and_eq_true,decide_eq_true_eq]at h1 hr
     exact⟨by simpa using hpy.1.1,by omega⟩
    have b2:(y == 0)=false:=by simpa using hy0.1
    have b3:(y == -9223372036854775808)=false:=by simpa using hy0.2
    have hpr:IntKind.i64.wrap ((k:Int)-1)=((k-1:Nat):Int):=y0a (by omega) (by omega)
    have ek:decide ((k:Int)>0)=true:=by simp;omega
    have bk:decide (0<k)=true:=by simp;omega
    simp only[b0,ek,hpr,D2 hy,A0a,b2,b3,O2,L5,Bool.not_true,Bool.not_false,Bool.and_true,Bool.false_and,Bool.or_self,Bool.true_and,cond_true,cond_false,oB,Bool.or_false,Bool.and_false,Bool.false_or]
    cases b1:(x == IntKind.i64.wrap (0-y))with
    |true =>
     have hb:S05 (-r) r w k=true:=by rw[hbad,hy,bk,b0,hin];exact b1
     simp only[hb,if_true,Bool.not_true,Bool.false_and,Bool.false_eq_true,if_false,cond_true,cond_false]
    |false =>
     have hb:S05 (-r) r w k=false:=by rw[hbad,hy,bk,b0,hin];exact b1
     simp only[hb,next hb,Bool.false_eq_true,if_false,Bool.not_false,Bool.true_and]
theorem B0a (r:Int) (w:List Int) (hl:w.length≤140737488355328):f01 r w=some (w5 r w):=by
 unfold f01
 rw[d02]
 unfold w5
 cases hr:inR 1 3 r with
 |false=>simp
 |true =>
  by_cases h24:w.length≤24
  ·have h:=U05 r w hr hl w.length 0 N0 (by omega) (W0 hl) (fun i hi=>by omega)
   rw[show((0:Nat):Int)=0 from rfl]at h
   have h24' : ¬ (24:Int)<(w.length:Int):=by omega
   simp only[oB,h,h24']
   cases g03 (-r) r w w.length 0 <;> simp[H6,h24]
  ·have h24':(24:Int)<(w.length:Int):=by omega
   simp[h24,h24']
def tot:List (List Int)→Nat
 | []=>0
 |w::r=>w.length+tot r
theorem F1 {α:Type} {xs:List α} {k:Nat} {x:α} (h:xs[k]?=some x):xs.drop k=x::xs.drop (k+1):=by
 obtain⟨hk,rfl⟩:=List.getElem?_eq_some_iff.1 h
 exact List.drop_eq_getElem_cons hk
theorem Z0 {α:Type} {xs:List α} {k:Nat} (h:k=xs.length):xs.drop k = []:=by rw[h];exact List.drop_length
theorem S02 (ws:List (List Int)) (hl:ws.length≤140737488355328):∀(d k fuel a:Nat),k+d=ws.length→d<fuel→a+tot (ws.drop k)≤9223372036854775807 →
  W3 ws fuel (a:Int) (k:Int)=some ((a+tot (ws.drop k):Nat):Int)
 |d,k,0,a,hk,hf,ht=>by omega
 |0,k,fuel+1,a,hk,hf,ht=>by
  rw[W3.eq_2,if_neg (by simp;omega),Z0 (by omega)]
  rfl
 |d+1,k,fuel+1,a,hk,hf,ht=>by
  have hkl:k<ws.length:=by omega
  have hx:=Z3 hkl
  generalize ws[k]=x at hx
  rw[F1 hx]at ht ⊢
  simp only[tot]at ht ⊢
  rw[W3.eq_2,if_pos (by simp;omega),D2 hx,oB,L1 hkl (by omega:ws.length≤9223372036854775807),
   show IntKind.i64.wrap ((a:Int)+((x.length:Nat):Int))=((a+x.length:Nat):Int) by rw[w64 (by omega) (by omega)];omega,
   S02 ws hl d (k+1) fuel (a+x.length) (by omega) (by omega) (by omega)]
  rw[Nat.add_assoc]
theorem Y04 (ws:List (List Int)) (hl:ws.length≤140737488355328) (ht:tot ws≤9223372036854775807):D8 ws=some ((tot ws:Nat):Int):=by
 unfold D8
 have h:=S02 ws hl ws.length 0 N0 0 (by omega) (W0 hl) (by simpa using ht)
 rw[show((0:Nat):Int)=0 from rfl]at h
 rw[h]
 simp
theorem s02 (ws:List (List Int)):∀(fuel:Nat) (a k:Int),j6 ws fuel a k=W3 ws fuel a k
 |0,a,k=>rfl
 |fuel+1,a,k=>by
  rw[j6.eq_2,W3.eq_2]
  simp only[s02 ws fuel]
theorem C0a (ws:List (List Int)) (hl:ws.length≤140737488355328) (ht:tot ws≤9223372036854775807):J9 ws=some ((tot ws:Nat):Int):=by
 rw[←Y04 ws hl ht]
 unfold J9 D8
 rw[s02]
def b07 (r:Int):List (List Int)→Bool
 | []=>true
 |w::l=>w5 r w&&b07 r l
def L3 (r:Int) (ws:List (List Int)):Bool:=inR 1 3 r&&decide (ws.length≤6)&&b07 r ws&&decide (tot ws<40)
theorem S0e {r:Int}:∀ {ws:List (List Int)},b07 r ws=true→tot ws≤24*ws.length
 | [],_=>by simp[tot]
 |w::l,h=>by
  simp only[b07,Bool.and_eq_true]at h
  have h1:=h.1
  simp only[w5,Bool.and_eq_true,decide_eq_true_eq]at h1
  have:=S0e h.2
  simp only[tot,List.length_cons]
  omega
def Q1 (ws:List (List Int)):Prop:=∀ w∈ws,w.length≤140737488355328
theorem y04 (r:Int) (ws:List (List Int)) (hl:ws.length≤140737488355328) (hs:Q1 ws):∀(d k fuel:Nat),k+d=ws.length→d<fuel →
  O6 ws r fuel (k:Int)=some (bif b07 r (ws.drop k)then .inr ()else .inl false)
 |d,k,0,hk,hf=>by omega
 |0,k,fuel+1,hk,hf=>by
  rw[O6.eq_2,if_neg (by simp;omega),Z0 (by omega)]
  rfl
 |d+1,k,fuel+1,hk,hf=>by
  have hkl:k<ws.length:=by omega
  have hx:=Z3 hkl
  have hsx:=hs _ (List.mem_of_getElem? hx)
  generalize ws[k]=x at hx hsx
  rw[F1 hx,O6.eq_2,if_pos (by simp;omega),D2 hx,oB,z0a r x hsx,oB,L1 hkl (by omega:ws.length≤9223372036854775807),
   y04 r ws hl hs d (k+1) fuel (by omega) (by omega)]
  simp only[b07]
  cases w5 r x <;> simp
theorem G07 (r:Int) (ws:List (List Int)) (hl:ws.length≤140737488355328) (hs:Q1 ws):d00 r ws=some (L3 r ws):=by
 unfold d00
 have h:=y04 r ws hl hs ws.length 0 N0 (by omega) (W0 hl)
 rw[show((0:Nat):Int)=0 from rfl,List.drop_zero]at h
 rw[h,oB]
 unfold L3
 cases ha:b07 r ws with
 |false=>simp[H6]
 |true =>
  rw[cond_true,P0,h03,oB]
  have:=S0e ha
  cases hr:inR 1 3 r with
  |false=>simp[chk,grd,H0]
  |true =>
   by_cases h6:ws.length≤6
   ·rw[Y04 ws hl (by omega)]
    have h6':decide (((ws.length:Nat):Int)≤6)=true:=by simp;omega
    have h6'':decide (ws.length≤6)=true:=by simpa using h6
    rw[h6',h6'',cond_true,O2,oB,C0 (by constructor <;> omega)]
    simp
    omega
   ·have h6':decide (((ws.length:Nat):Int)≤6)=false:=by simp;omega
    have h6'':decide (ws.length≤6)=false:=by simpa using h6
    rw[h6',h6'']
    simp[chk,grd,H0]
theorem z04 (r:Int) (ws:List (List Int)) (hl:ws.length≤140737488355328) (hs:Q1 ws):∀(d k fuel:Nat),k+d=ws.length→d<fuel →
  P6 ws r fuel (k:Int)=some (bif b07 r (ws.drop k)then .inr ()else .inl false)
 |d,k,0,hk,hf=>by omega
 |0,k,fuel+1,hk,hf=>by
  rw[P6.eq_2,if_neg (by simp;omega),Z0 (by omega)]
  rfl
 |d+1,k,fuel+1,hk,hf=>by
  have hkl:k<ws.length:=by omega
  have hx:=Z3 hkl
  have hsx:=hs _ (List.mem_of_getElem? hx)
  generalize ws[k]=x at hx hsx
  rw[F1 hx,P6.eq_2,if_pos (by simp;omega),D2 hx,oB,B0a r x hsx,oB,L1 hkl (by omega:ws.length≤9223372036854775807),
   z04 r ws hl hs d (k+1) fuel (by omega) (by omega)]
  simp only[b07]
  cases w5 r x <;> simp
theorem H07 (r:Int) (ws:List (List Int)) (hl:ws.length≤140737488355328) (hs:Q1 ws):e00 r ws=some (L3 r ws):=by
 unfold e00
 rw[d02,oB]
 unfold L3
 cases hr:inR 1 3 r with
 |false=>simp
 |true =>
  by_cases h6:ws.length≤6
  ·have h6':decide (((ws.length:Nat):Int)>6)=false:=by simp;omega
   have h6'':decide (ws.length≤6)=true:=by simpa using h6
   have h:=z04 r ws hl hs ws.length 0 N0 (by omega) (W0 hl)
   rw[show((0:Nat):Int)=0 from rfl,List.drop_zero]at h
   rw[h6',h6'',h,oB]
   cases ha:b07 r ws with
   |false=>simp[H6]
   |true =>
    have:=S0e ha
    simp only[cond_true,P0,C0a ws hl (by omega),oB,C0 (show H0 ((tot ws:Nat):Int) by constructor <;> omega)]
    simp
    omega
  ·have h6':decide (((ws.length:Nat):Int)>6)=true:=by simp;omega
   have h6'':decide (ws.length≤6)=false:=by simpa using h6
   rw[h6',h6'']
   simp
def cyc (w:List Int):Bool:=match w[0]?,w[w.length-1]? with
 |some x,some y => !(x == IntKind.i64.wrap (0-y))
 |_,_=>false
def s0j:List (List Int)→Bool
 | []=>true
 |w::l=>cyc w&&s0j l
def U1 (x:B0):Bool:=L3 x.1 x.2&&s0j x.2
theorem e02 (ws:List (List Int)) (hl:ws.length≤140737488355328) (hs:Q1 ws):∀(d k fuel:Nat),k+d=ws.length→d<fuel →
  B4 ws fuel (k:Int)=some (bif s0j (ws.drop k)then .inr ()else .inl false)
 |d,k,0,hk,hf=>by omega
 |0,k,fuel+1,hk,hf=>by
  rw[B4.eq_2,if_neg (by simp;omega),Z0 (by omega)]
  rfl
 |d+1,k,fuel+1,hk,hf=>by
  have hkl:k<ws.length:=by omega
  have hx:=Z3 hkl
  have hsx:=hs _ (List.mem_of_getElem? hx)
  generalize ws[k]=x at hx hsx
  rw[F1 hx,B4.eq_2,if_pos (by simp;omega),D2 hx,oB,L1 hkl (by omega:ws.length≤9223372036854775807),
   e02 ws hl hs d (k+1) fuel (by omega) (by omega)]
  simp only[s0j]
  by_cases h0:x.length=0
  ·have:x = []:=List.length_eq_zero_iff.1 h0
   subst this
   simp[chk,cyc]
  ·have e0:decide (((x.length:Nat):Int)=0)=false:=by simpa using h0
   have h1:=Z3 (show 0<x.length by omega)
   have h2:=Z3 (show x.length-1<x.length by omega)
   have hc:cyc x = !(x[0] == IntKind.i64.wrap (0-x[x.length-1])):=by unfold cyc;rw[h1,h2]
   generalize x[0]=a at h1 hc
   generalize x[x.length-1]=b at h2 hc
   rw[e0,y0a (by omega) (by omega),p05 h1,D2 h2,hc]
   simp only[Bool.not_false,O2,oB,cond_false]
   cases hab:(a == IntKind.i64.wrap (0-b))with
   |true=>rw[if_pos (by simpa using hab)];rfl
   |false=>rw[if_neg (by simpa using hab)];simp
theorem O4 (x:B0) (hl:x.2.length≤140737488355328) (hs:Q1 x.2):l3 x=some (U1 x):=by
 obtain⟨r,ws⟩:=x
 unfold l3
 have h:=e02 ws hl hs ws.length 0 N0 (by omega) (W0 hl)
 rw[show((0:Nat):Int)=0 from rfl,List.drop_zero]at h
 simp only[h,oB,G07 r ws hl hs,U1]
 cases s0j ws <;> simp[H6]
theorem K0g {lo hi:Int} {w:List Int}:∀ {d k:Nat},g03 lo hi w d k=true→∀ i,k≤i→i<k+d→S05 lo hi w i=false
 |0,k,h,i,h1,h2=>by omega
 |d+1,k,h,i,h1,h2=>by
  simp only[g03,Bool.and_eq_true,Bool.not_eq_true']at h
  by_cases e:i=k
  ·subst e;exact h.1
  ·exact K0g h.2 i (by omega) (by omega)
theorem z03 {r:Int} {w:List Int} (h:w5 r w=true) {i:Nat} {x:Int} (hx:w[i]?=some x):(1≤r∧r≤3)∧w.length≤24∧x≠0 ∧ -r≤x∧x≤r:=by
 simp only[w5,Bool.and_eq_true,decide_eq_true_eq]at h
 have hr:=h.1.1
 simp only[inR,Bool.and_eq_true,decide_eq_true_eq]at hr
 have hb:=K0g h.2 i (Nat.zero_le _) (by have:=(List.getElem?_eq_some_iff.1 hx).1;omega)
 unfold S05 at hb
 rw[hx]at hb
 simp only[Bool.or_eq_false_iff,Bool.not_eq_false']at hb
 have h1:=hb.1.2
 simp only[inR,Bool.and_eq_true,decide_eq_true_eq]at h1
 exact⟨hr,h.1.2,by simpa using hb.1.1,h1⟩
theorem f02 (ws:List (List Int)) (hl:ws.length≤140737488355328) (hs:Q1 ws) (r:Int) (ha:inR 1 3 r=true):∀(d k fuel:Nat),k+d=ws.length→d<fuel→b07 r (ws.drop k)=true →
  C4 ws fuel (k:Int)=some (bif s0j (ws.drop k)then .inr ()else .inl false)
 |d,k,0,hk,hf,hw=>by omega
 |0,k,fuel+1,hk,hf,hw=>by
  rw[C4.eq_2,if_neg (by simp;omega),Z0 (by omega)]
  rfl
 |d+1,k,fuel+1,hk,hf,hw=>by
  have hkl:k<ws.length:=by omega
  have hx:=Z3 hkl
  have hsx:=hs _ (List.mem_of_getElem? hx)
  generalize ws[k]=x at hx hsx
  rw[F1 hx]at hw ⊢
  simp only[b07,Bool.and_eq_true]at hw
  rw[C4.eq_2,if_pos (by simp;omega),D2 hx,oB,L1 hkl (by omega:ws.length≤9223372036854775807),
   f02 ws hl hs r ha d (k+1) fuel (by omega) (by omega) hw.2]
  simp only[s0j]
  by_cases h0:x.length=0
  ·have:x = []:=List.length_eq_zero_iff.1 h0
   subst this
   simp[chk,cyc]
  ·have e0:decide (((x.length:Nat):Int)=0)=false:=by simpa using h0
   have h1:=Z3 (show 0<x.length by omega)
   have h2:=Z3 (show x.length-1<x.length by omega)
   have hc:cyc x = !(x[0] == IntKind.i64.wrap (0-x[x.length-1])):=by unfold cyc;rw[h1,h2]
   generalize x[0]=a at h1 hc
   generalize x[x.length-1]=b at h2 hc
   obtain⟨hr1,_,a1,a2,a3⟩:=z03 hw.1 h1
   obtain⟨_,_,b1,b2,b3⟩:=z03 hw.1 h2
   have na:IntKind.i64.wrap (0-a) = -a:=by rw[w64 (by omega) (by omega)];omega
   have nb:IntKind.i64.wrap (0-b) = -b:=by rw[w64 (by omega) (by omega)];omega
   rw[e0,y0a (by omega) (by omega),p05 h1,D2 h2,hc]
   simp only[Bool.not_false,O2,oB,cond_false,A0a,na,nb]
   have q1:(a == 0)=false:=by simpa using a1
   have q2:(a == -9223372036854775808)=false:=by simp;omega
   rw[q1,q2]
   simp only[Bool.not_false,Bool.true_and]
   by_cases hab:a = -b
   ·have e1:(b == -a)=true:=by simp;omega
    have e2:(a == -b)=true:=by simp;omega
    rw[e1,e2];rfl
   ·have e1:(b == -a)=false:=by simp;omega
    have e2:(a == -b)=false:=by simp;omega
    rw[e1,e2];simp
theorem p6 (x:B0) (hl:x.2.length≤140737488355328) (hs:Q1 x.2):A3 x=some (U1 x):=by
 obtain⟨r,ws⟩:=x
 unfold A3
 simp only[H07 r ws hl hs,U1,oB]
 cases ha:L3 r ws with
 |false=>simp
 |true =>
  simp only[L3,Bool.and_eq_true]at ha
  have h:=f02 ws hl hs r ha.1.1.1 ws.length 0 N0 (by omega) (W0 hl) (by rw[List.drop_zero];exact ha.1.2)
  rw[show((0:Nat):Int)=0 from rfl,List.drop_zero]at h
  rw[h]
  cases s0j ws <;> simp[H6]
def K03 (r hi:Int) (e:K0):Bool:=inR 0 hi e.1&&inR 0 hi e.2.2&&inR 1 r e.2.1
def T0e (e f:K0):Int:=U0 e f
theorem U0e (e f:K0):T0e e f=if C6 e.1 f.1≠0 then C6 e.1 f.1 else if C6 e.2.1 f.2.1≠0 then C6 e.2.1 f.2.1 else C6 e.2.2 f.2.2:=rfl
theorem B06 (a b:Int):(a<b∧C6 a b = -1)∨(a>b∧C6 a b=1)∨(a=b∧C6 a b=0):=by
 unfold C6
 split
 ·omega
 ·split <;> omega
theorem T0d (e f:K0):H0 (T0e e f):=by
 rw[U0e]
 split
 ·exact X04 _ _
 ·split <;> exact X04 _ _
theorem t0j (g:l0) (e:K0):g01 g e=some (K03 g.1 (IntKind.i64.wrap (g.2.1-1)) e):=by
 obtain⟨r,n,es⟩:=g
 obtain⟨a,l,b⟩:=e
 unfold g01 K03
 simp only[h03,oB]
 cases inR 0 (IntKind.i64.wrap (n-1)) a with
 |false=>rfl
 |true =>
  cases inR 0 (IntKind.i64.wrap (n-1)) b with
  |false=>rfl
  |true=>simp[chk]
theorem S06 (g:l0) (e:K0):s7 g e=some (K03 g.1 (IntKind.i64.wrap (g.2.1-1)) e):=by
 obtain⟨r,n,es⟩:=g
 obtain⟨a,l,b⟩:=e
 unfold s7 D6 K03
 simp only[d02,oB]
 cases inR 0 (IntKind.i64.wrap (n-1)) a with
 |false=>rfl
 |true =>
  cases inR 0 (IntKind.i64.wrap (n-1)) b with
  |false=>rfl
  |true=>simp[chk]
theorem l02 (e f:K0):Z7 e f=some (T0e e f):=by
 obtain⟨a,l,b⟩:=e
 obtain⟨a',l',b'⟩:=f
 unfold Z7
 rw[show N0=(N0-4)+1+1+1+1 from rfl]
 have w1:IntKind.i64.wrap (0+1)=1:=by decide
 have w2:IntKind.i64.wrap (1+1)=2:=by decide
 have w3:IntKind.i64.wrap (2+1)=3:=by decide
 have g0:∀ x y z:Int,gi [x,y,z] 0=some x:=fun _ _ _=>rfl
 have g1:∀ x y z:Int,gi [x,y,z] 1=some y:=fun _ _ _=>rfl
 have g2:∀ x y z:Int,gi [x,y,z] 2=some z:=fun _ _ _=>rfl
 have d0:decide ((0:Int)<3)=true:=rfl
 have d1:decide ((1:Int)<3)=true:=rfl
 have d2:decide ((2:Int)<3)=true:=rfl
 have d3:decide ((3:Int)<3)=false:=rfl
 simp only[W6.eq_2,w1,w2,w3,g0,g1,g2,d0,d1,d2,d3,if_true,oB,Bool.false_eq_true,if_false]
 rw[U0e]
 simp only
 rcases B06 a a' with⟨h,e⟩|⟨h,e⟩|⟨h,e⟩
 ·simp[e,h,H6]
 ·have : ¬ a<a':=by omega
  simp[e,h,this,H6]
 ·subst h
  rcases B06 l l' with⟨h,e2⟩|⟨h,e2⟩|⟨h,e2⟩
  ·simp[e,e2,h,H6]
  ·have : ¬ l<l':=by omega
   simp[e,e2,h,this,H6]
  ·subst h
   rcases B06 b b' with⟨h,e3⟩|⟨h,e3⟩|⟨h,e3⟩
   ·simp[e,e2,e3,h,H6]
   ·have : ¬ b<b':=by omega
    simp[e,e2,e3,h,this,H6]
   ·subst h
    simp[e,e2,e3,H6]
theorem t0n (a b:Int):S3 a b=some (C6 a b):=by
 unfold S3 C6
 by_cases h:a<b
 ·simp[h]
 ·by_cases h2:a>b <;> simp[h,h2]
theorem A04 (e f:K0):g9 e f=some (T0e e f):=by
 obtain⟨a,l,b⟩:=e
 obtain⟨a',l',b'⟩:=f
 rw[U0e]
 unfold g9
 simp only[t0n,oB,C0 (X04 _ _)]
 by_cases h1:C6 a a'=0
 ·by_cases h2:C6 l l'=0
  ·simp[h1,h2]
  ·simp[h1,h2]
 ·simp[h1]
def G0o (r hi:Int) (es:List K0) (k:Nat):Bool:=match es[k]? with
 |none=>true
 |some e => !K03 r hi e || (decide (0<k)&&match es[k-1]? with
  |none=>true
  |some f=>decide (T0e f e ≥ 0))
def okE (r hi:Int) (es:List K0):Nat→Nat→Bool
 |0,_=>true
 |d+1,k => !G0o r hi es k&&okE r hi es d (k+1)
def V0 (g:l0):Bool:=okE g.1 (IntKind.i64.wrap (g.2.1-1)) g.2.2 g.2.2.length 0&&inR 1 3 g.1&&inR 1 40 g.2.1&&decide (g.2.2.length≤120)
theorem D0a {r hi:Int} {es:List K0} {k:Nat} {e:K0} (hx:es[k]?=some e):G0o r hi es k=(!K03 r hi e || (decide (0<k)&&match es[k-1]? with
  |none=>true
  |some f=>decide (T0e f e ≥ 0))):=by unfold G0o;rw[hx]
theorem Z04 (r n:Int) (es:List K0) (hl:es.length≤140737488355328):∀(d k fuel:Nat),k+d=es.length→d<fuel →
  r7 es r n fuel (k:Int)=some (bif okE r (IntKind.i64.wrap (n-1)) es d k then .inr ()else .inl false)
 |d,k,0,hk,hf=>by omega
 |0,k,fuel+1,hk,hf=>by
  rw[r7.eq_2,if_neg (by simp;omega)]
  simp[okE]
 |d+1,k,fuel+1,hk,hf=>by
  have hkl:k<es.length:=by omega
  have hx:=Z3 hkl
  generalize es[k]=e at hx
  obtain⟨e0,e1,e2⟩:=e
  have next:=Z04 r n es hl d (k+1) fuel (by omega) (by omega)
  rw[r7.eq_2,if_pos (by simp;omega),D2 hx,oB]
  simp only[t0j,oB,L1 hkl (by omega:es.length≤9223372036854775807),next,okE,D0a hx]
  generalize IntKind.i64.wrap (n-1)=hi
  cases hin:K03 r hi (e0,e1,e2)with
  |false=>simp[chk,grd,H0]
  |true =>
   by_cases hk0:k=0
   ·have ek:decide ((k:Int)>0)=false:=by simp;omega
    have bk:decide (0<k)=false:=by simp;omega
    simp only[ek,bk,L5,Bool.not_true,Bool.not_false,Bool.and_true,Bool.false_and,Bool.or_self,Bool.true_and,cond_true,cond_false,oB,Bool.or_false,Bool.false_eq_true,if_false,C0 (show H0 0 by decide)]
   ·have hy:=Z3 (show k-1<es.length by omega)
    generalize es[k-1]=f at hy
    obtain⟨f0,f1,f2⟩:=f
    have hpr:IntKind.i64.wrap ((k:Int)-1)=((k-1:Nat):Int):=y0a (by omega) (by omega)
    have ek:decide ((k:Int)>0)=true:=by simp;omega
    have bk:decide (0<k)=true:=by simp;omega
    simp only[ek,bk,hpr,hy,D2 hx,D2 hy,O2,Bool.not_true,Bool.not_false,Bool.and_true,Bool.false_and,Bool.or_self,Bool.true_and,cond_true,cond_false,oB,Bool.or_false,Bool.false_or,l02,C0 (T0d _ _)]
    cases decide (T0e (f0,f1,f2) (e0,e1,e2) ≥ 0) <;> rfl
theorem g7 (g:l0) (hl:g.2.2.length≤140737488355328):i4 g=some (V0 g):=by
 obtain⟨r,n,es⟩:=g
 unfold i4 V0
 simp only at hl ⊢
 have h:=Z04 r n es hl es.length 0 N0 (by omega) (W0 hl)
 rw[show((0:Nat):Int)=0 from rfl]at h
 rw[h,oB]
 cases okE r (IntKind.i64.wrap (n-1)) es es.length 0 with
 |false=>simp[H6]
 |true =>
  rw[cond_true,P0,h03,h03,oB]
  cases inR 1 3 r with
  |false=>simp[chk]
  |true =>
   simp only[O2,oB,cond_true,Bool.true_and]
   cases inR 1 40 n with
   |false=>simp
   |true=>simp;omega
theorem a05 (r n:Int) (es:List K0) (hl:es.length≤140737488355328):∀(d k fuel:Nat),k+d=es.length→d<fuel →
  t7 es r n fuel (k:Int)=some (bif okE r (IntKind.i64.wrap (n-1)) es d k then .inr ()else .inl false)
 |d,k,0,hk,hf=>by omega
 |0,k,fuel+1,hk,hf=>by
  rw[t7.eq_2,if_neg (by simp;omega)]
  simp[okE]
 |d+1,k,fuel+1,hk,hf=>by
  have hkl:k<es.length:=by omega
  have hx:=Z3 hkl
  generalize es[k]=e at hx
  obtain⟨e0,e1,e2⟩:=e
  have next:=a05 r n es hl d (k+1) fuel (by omega) (by omega)
  rw[t7.eq_2,if_pos (by simp;omega),D2 hx,oB]
  simp only[S06,oB,L1 hkl (by omega:es.length≤9223372036854775807),next,okE,D0a hx]
  generalize IntKind.i64.wrap (n-1)=hi
  cases hin:K03 r hi (e0,e1,e2)with
  |false=>simp[chk,grd,H0]
  |true =>
   by_cases hk0:k=0
   ·have ek:decide ((k:Int)>0)=false:=by simp;omega
    have bk:decide (0<k)=false:=by simp;omega
    simp only[ek,bk,L5,Bool.not_true,Bool.not_false,Bool.and_true,Bool.false_and,Bool.or_self,Bool.true_and,cond_true,cond_false,oB,Bool.or_false,Bool.false_eq_true,if_false,C0 (show H0 0 by decide)]
   ·have hy:=Z3 (show k-1<es.length by omega)
    generalize es[k-1]=f at hy
    obtain⟨f0,f1,f2⟩:=f
    have hpr:IntKind.i64.wrap ((k:Int)-1)=((k-1:Nat):Int):=y0a (by omega) (by omega)
    have ek:decide ((k:Int)>0)=true:=by simp;omega
    have bk:decide (0<k)=true:=by simp;omega
    simp only[ek,bk,hpr,hy,D2 hx,D2 hy,O2,Bool.not_true,Bool.not_false,Bool.and_true,Bool.false_and,Bool.or_self,Bool.true_and,cond_true,cond_false,oB,Bool.or_false,Bool.false_or,A04,C0 (T0d _ _)]
    cases decide (T0e (f0,f1,f2) (e0,e1,e2) ≥ 0) <;> rfl
theorem s00 (g:l0) (hl:g.2.2.length≤140737488355328):l6 g=some (V0 g):=by
 obtain⟨r,n,es⟩:=g
 unfold l6 V0
 simp only at hl ⊢
 rw[d02,d02,oB]
 cases hr:inR 1 3 r with
 |false=>simp[chk]
 |true =>
  simp only[Bool.not_true,Bool.not_false,O2,oB,cond_false]
  cases hn:inR 1 40 n with
  |false=>simp
  |true =>
   by_cases h120:es.length≤120
   ·have h:=a05 r n es hl es.length 0 N0 (by omega) (W0 hl)
    rw[show((0:Nat):Int)=0 from rfl]at h
    have e1:decide (((es.length:Nat):Int)>120)=false:=by simp;omega
    have e2:decide (es.length≤120)=true:=by simpa using h120
    simp only[e1,e2,Bool.not_true,cond_false,Bool.false_eq_true,if_false,h,oB]
    cases okE r (IntKind.i64.wrap (n-1)) es es.length 0 <;> rfl
   ·have e1:decide (((es.length:Nat):Int)>120)=true:=by simp;omega
    have e2:decide (es.length≤120)=false:=by simpa using h120
    simp only[e1,e2,Bool.not_true,cond_false,if_true,Bool.and_false]
theorem a0l {r hi:Int} {es:List K0}:∀ {d k:Nat},okE r hi es d k=true→∀ i,k≤i→i<k+d→G0o r hi es i=false
 |0,k,h,i,h1,h2=>by omega
 |d+1,k,h,i,h1,h2=>by
  simp only[okE,Bool.and_eq_true,Bool.not_eq_true']at h
  by_cases e:i=k
  ·subst e;exact h.1
  ·exact a0l h.2 i (by omega) (by omega)
theorem E0a {n:Nat} (h:n≤9223372036854775807):n<N0:=by unfold N0;omega
def goI (x:Int):List Int→Bool×List Int
 | []=>(false,[])
 |y::l=>if x<y then(true,x::y::l)else if y=x then(true,y::l)else((goI x l).1,y::(goI x l).2)
theorem h0m (x:Int):∀ l,n9 C6 x l=bif(goI x l).1 then(goI x l).2 else(goI x l).2 ++ [x]
 | []=>rfl
 |y::l=>by
  have ih:=h0m x l
  unfold n9 goI
  rcases B06 x y with⟨h,e⟩|⟨h,e⟩|⟨h,e⟩
  ·rw[e,if_pos (by omega),if_pos h];rfl
  ·rw[e,if_neg (by omega),if_neg (by omega),if_neg (by omega),if_neg (by omega),ih]
   cases (goI x l).1 <;> rfl
  ·rw[e,if_neg (by omega),if_pos rfl,if_neg (by omega),if_pos h.symm];rfl
theorem V0e (l:List Int) (w:Int) (hl:l.length≤1099511627776):∀(d k fuel:Nat) (acc:List Int),k+d=l.length→d<fuel→acc.length≤k+1 →
  L4 l w fuel true (k:Int) acc=some (true,acc++l.drop k)
 |d,k,0,acc,hd,hf,ha=>by omega
 |0,k,fuel+1,acc,hd,hf,ha=>by
  rw[L4.eq_2,if_neg (by simp;omega),Z0 (by omega),List.append_nil]
 |d+1,k,fuel+1,acc,hd,hf,ha=>by
  have hk:k<l.length:=by omega
  have hx:=Z3 hk
  generalize l[k]=x at hx
  have ih:=V0e l w hl d (k+1) fuel (acc ++ [x]) (by omega) (by omega) (by simp;omega)
  rw[L4.eq_2,if_pos (by simp;omega),D2 hx,oB]
  have hb:∀ c:Bool,(bif c then(!true)else false)=false:=fun c=>by cases c <;> rfl
  simp only[hb,Bool.false_eq_true,if_false,oB,L1 hk (show l.length≤9223372036854775807 by omega),ih,C0 (show(acc.length + [x].length)*8≤140737488355328 by simp;omega)]
  rw[F1 hx]
  split <;> simp
theorem L0g (l:List Int) (w:Int) (hl:l.length≤1099511627776):∀(d k fuel:Nat) (acc:List Int),k+d=l.length→d<fuel→acc.length=k →
  L4 l w fuel false (k:Int) acc=some ((goI w (l.drop k)).1,acc++(goI w (l.drop k)).2)
 |d,k,0,acc,hd,hf,ha=>by omega
 |0,k,fuel+1,acc,hd,hf,ha=>by
  rw[L4.eq_2,if_neg (by simp;omega),Z0 (by omega)]
  simp[goI]
 |d+1,k,fuel+1,acc,hd,hf,ha=>by
  have hk:k<l.length:=by omega
  have hx:=Z3 hk
  generalize l[k]=x at hx
  have ih:=L0g l w hl d (k+1) fuel (acc ++ [x]) (by omega) (by omega) (by simp;omega)
  have on1:=V0e l w hl d (k+1) fuel (acc ++ [x]) (by omega) (by omega) (by simp;omega)
  have on2:=V0e l w hl d (k+1) fuel (acc ++ [w] ++ [x]) (by omega) (by omega) (by simp;omega)
  rw[L4.eq_2,if_pos (by simp;omega),D2 hx,oB,F1 hx]
  unfold goI
  have hb:∀ c:Bool,(bif c then(!true)else false)=false:=fun c=>by cases c <;> rfl
  have hb2:∀ c:Bool,(bif c then(!false)else false)=c:=fun c=>by cases c <;> rfl
  by_cases h0:x=w
  ·rw[if_pos (by simpa using h0),oB,hb,if_neg (by simp),oB,C0 (by simp;omega),oB,L1 hk (by omega),on1,if_neg (by omega),if_pos h0]
   simp
  ·rw[if_neg (by simpa using h0),oB,hb2]
   by_cases h1:w<x
   ·rw[if_pos (by simpa using h1),C0 (by simp;omega),oB,oB,C0 (by simp;omega),oB,L1 hk (by omega),on2,if_pos h1]
    simp
   ·rw[if_neg (by simpa using h1),oB,C0 (by simp;omega),oB,L1 hk (by omega),ih,if_neg h1,if_neg h0]
    simp
theorem F0a (l:List Int) (w:Int) (hl:l.length≤1099511627776):K8 l w=some (n9 C6 w l):=by
 unfold K8
 have h:=L0g l w hl l.length 0 N0 [] (by omega) (W0 (by omega)) rfl
 rw[show((0:Nat):Int)=0 from rfl,List.drop_zero,List.nil_append]at h
 rw[h,oB,h0m]
 have hlen:∀ l:List Int,(goI w l).2.length≤l.length+1:=fun l=>by
  induction l with
  |nil=>simp[goI]
  |cons y l ih =>
   unfold goI
   split
   ·simp
   ·split
    ·simp
    ·simp only[List.length_cons];omega
 have:=hlen l
 cases (goI w l).1 with
 |true=>rfl
 |false =>
  simp only[Bool.not_false,if_true,cond_false]
  rw[C0 (by simp;omega),oB]
def M0g (v x:Int) (e:K0):List Int :=
 if 0<x∧e.2.1=x∧e.1=v then [e.2.2]else if x<0∧e.2.1 = -x∧e.2.2=v then [e.1]else []
def A01 (v x:Int):List K0→List Int
 | []=>[]
 |e::es=>M0g v x e++A01 v x es
theorem u0n (v x:Int) (e:K0):(M0g v x e).length≤1:=by unfold M0g;split <;> (try split) <;> simp
theorem W0e (v x:Int):∀ es,(A01 v x es).length≤es.length
 | []=>by simp[A01]
 |e::es=>by
  have h1:=u0n v x e
  have h2:=W0e v x es
  simp only[A01,List.length_append,List.length_cons]
  omega
def S8 (x:Int):Prop:=H0 x∧x ≠ -9223372036854775808
theorem G0a (es:List K0) (v x:Int) (hx:S8 x) (hl:es.length≤1099511627776):∀(d k fuel:Nat) (acc:List Int),k+d=es.length→d<fuel→acc.length≤k →
  R4 es x v fuel (k:Int) acc=some (acc++A01 v x (es.drop k))
 |d,k,0,acc,hd,hf,ha=>by omega
 |0,k,fuel+1,acc,hd,hf,ha=>by
  rw[R4.eq_2,if_neg (by simp;omega),Z0 (by omega)]
  simp[A01]
 |d+1,k,fuel+1,acc,hd,hf,ha=>by
  have hk:k<es.length:=by omega
  have he:=Z3 hk
  generalize es[k]=e at he
  obtain⟨a,l,b⟩:=e
  have ih:=fun acc' h=>G0a es v x hx hl d (k+1) fuel acc' (by omega) (by omega) h
  have hn:decide (x = -9223372036854775808)=false:=by simp;exact hx.2
  rw[R4.eq_2,if_pos (by simp;omega),D2 he,oB,F1 he]
  simp only[A01,M0g,J0g hx.1 hx.2,hn,Bool.not_false,L1 hk (show es.length≤9223372036854775807 by omega)]
  by_cases c1:0<x∧l=x∧a=v
  ·obtain⟨c1,rfl,rfl⟩:=c1
   rw[if_pos (by simp[c1]),if_pos ⟨c1,rfl,rfl⟩,C0 (by simp;omega),oB,ih _ (by simp;omega)]
   simp
  ·rw[if_neg c1,if_neg (by simp only[Bool.cond_eq_ite];simp;intro h1 h2 h3;exact c1 ⟨h1,h2,h3⟩)]
   by_cases c2:x<0∧l = -x∧b=v
   ·rw[if_pos c2,if_pos (by simp[c2.1,c2.2.1,c2.2.2]),C0 (by simp;omega),oB,ih _ (by simp;omega)]
    simp
   ·rw[if_neg c2,if_neg (by simp only[Bool.cond_eq_ite];simp;intro h1 h2 h3;exact c2 ⟨h1,h2,h3⟩),ih _ (by omega)]
    simp
theorem V05 (w:Int):∀ l:List Int,(n9 C6 w l).length≤l.length+1
 | []=>by simp[n9]
 |y::l=>by
  have:=V05 w l
  unfold n9
  split
  ·simp
  ·split
   ·simp
   ·simp only[List.length_cons];omega
theorem H0a (es:List K0) (v x:Int) (hx:S8 x) (hl:es.length≤1099511627776):∀(d k fuel:Nat) (u:List Int),k+d=es.length→d<fuel→u.length≤k →
  j4 es x v fuel u (k:Int)=some (F5 C6 u (A01 v x (es.drop k)))
 |d,k,0,u,hd,hf,ha=>by omega
 |0,k,fuel+1,u,hd,hf,ha=>by
  rw[j4.eq_2,if_neg (by simp;omega),Z0 (by omega)]
  rfl
 |d+1,k,fuel+1,u,hd,hf,ha=>by
  have hk:k<es.length:=by omega
  have he:=Z3 hk
  generalize es[k]=e at he
  obtain⟨a,l,b⟩:=e
  have ih:=fun u' h=>H0a es v x hx hl d (k+1) fuel u' (by omega) (by omega) h
  rw[j4.eq_2,if_pos (by simp;omega),D2 he,oB,F1 he]
  simp only[A01,M0g,J0g hx.1 hx.2,L1 hk (show es.length≤9223372036854775807 by omega)]
  by_cases c1:0<x∧l=x∧a=v
  ·obtain⟨c1,rfl,rfl⟩:=c1
   have hno:decide (l<0)=false:=by simp;omega
   have:=V05 b u
   rw[if_pos (by simp[c1]),if_pos ⟨c1,rfl,rfl⟩,F0a u b (by omega),oB,hno,if_neg (by simp),ih _ (by omega)]
   rfl
  ·rw[if_neg c1,if_neg (by simp only[Bool.cond_eq_ite];simp;intro h1 h2 h3;exact c1 ⟨h1,h2,h3⟩)]
   by_cases c2:x<0∧l = -x∧b=v
   ·have:=V05 a u
    rw[if_pos c2,if_pos (by simp[c2.1,c2.2.1,c2.2.2]),F0a u a (by omega),oB,ih _ (by omega)]
    rfl
   ·rw[if_neg c2,if_neg (by simp only[Bool.cond_eq_ite];simp;intro h1 h2 h3;exact c2 ⟨h1,h2,h3⟩),ih _ (by omega)]
    rfl
def n03 (g:l0) (v x:Int):List Int:=F5 C6 [] (A01 v x g.2.2)
theorem X0p (x y:Int):eqI x y=true↔x=y:=by simp[eqI]
theorem u0j (g:l0) (v x:Int) (hx:S8 x) (hl:g.2.2.length≤1099511627776):w00 g v x=some (n03 g v x):=by
 obtain⟨r,n,es⟩:=g
 unfold w00 n03
 have h:=H0a es v x hx hl es.length 0 N0 [] (by omega) (E0a (by simp only at hl;omega)) (by simp)
 rw[show((0:Nat):Int)=0 from rfl,List.drop_zero]at h
 simp only[h,oB]
theorem v0j (g:l0) (v x:Int) (hx:S8 x) (hl:g.2.2.length≤1099511627776):x00 g v x=some (n03 g v x):=by
 obtain⟨r,n,es⟩:=g
 unfold x00 n03
 have h:=G0a es v x hx hl es.length 0 N0 [] (by omega) (E0a (by simp only at hl;omega)) (by simp)
 rw[show((0:Nat):Int)=0 from rfl,List.drop_zero,List.nil_append]at h
 have hlen:=W0e v x es
 simp only at hl
 simp only[h,oB,C0 (show(A01 v x es).length<4611686018427387904 by omega)]
 rw[←R0e j00 X0p (A01 v x es) (A01 v x es) fun _=>Iff.rfl]
 rfl
def J6 (g:l0) (v x:Int):Int:=match n03 g v x with
 | [] => -1
 |a::_=>a
theorem t09 (g:l0) (v x:Int) (hx:S8 x) (hl:g.2.2.length≤1099511627776):P7 g v x=some (J6 g v x):=by
 have h:=u0j g v x hx hl
 obtain⟨r,n,es⟩:=g
 unfold P7 J6
 simp only[h,oB]
 cases n03 (r,n,es) v x with
 |nil=>rfl
 |cons a l=>rfl
theorem u09 (g:l0) (v x:Int) (hx:S8 x) (hl:g.2.2.length≤1099511627776):Q7 g v x=some (J6 g v x):=by
 have h:=v0j g v x hx hl
 obtain⟨r,n,es⟩:=g
 unfold Q7 J6
 simp only[h,oB]
 cases n03 (r,n,es) v x with
 |nil=>rfl
 |cons a l=>rfl
theorem v0n {g:l0} {v x y:Int} (h:y∈n03 g v x):y∈A01 v x g.2.2:=by
 rcases(L00 j00 y _ []).1 h with h|h
 ·cases h
 ·exact h
theorem X0e {v x y:Int}:∀ {es:List K0},y∈A01 v x es↔∃ e∈es,(0<x∧e.2.1=x∧e.1=v∧y=e.2.2)∨(x<0∧e.2.1 = -x∧e.2.2=v∧y=e.1)
 | []=>by simp[A01]
 |e::es=>by
  simp only[A01,List.mem_append,X0e (es:=es),List.mem_cons,exists_eq_or_imp]
  refine or_congr ?_ Iff.rfl
  unfold M0g
  split
  ·rename_i h
   simp only[List.mem_singleton]
   constructor
   ·rintro rfl;exact .inl ⟨h.1,h.2.1,h.2.2,rfl⟩
   ·rintro(⟨_,_,_,h4⟩|⟨h1,_⟩)
    ·exact h4
    ·omega
  ·rename_i h
   split
   ·rename_i h2
    simp only[List.mem_singleton]
    constructor
    ·rintro rfl;exact .inr ⟨h2.1,h2.2.1,h2.2.2,rfl⟩
    ·rintro(⟨h1,_⟩|⟨_,_,_,h4⟩)
     ·omega
     ·exact h4
   ·rename_i h2
    constructor
    ·intro h;cases h
    ·rintro(⟨h3,h4,h5,_⟩|⟨h3,h4,h5,_⟩)
     ·exact absurd ⟨h3,h4,h5⟩ h
     ·exact absurd ⟨h3,h4,h5⟩ h2
def inG (g:l0):Prop:=∀ e∈g.2.2,(0≤e.1∧e.1<g.2.1)∧(0≤e.2.2∧e.2.2<g.2.1)∧1≤e.2.1∧e.2.1≤g.1
theorem J2 {g:l0} (h:V0 g=true):inG g∧(1≤g.1∧g.1≤3)∧(1≤g.2.1∧g.2.1≤40)∧g.2.2.length≤120:=by
 obtain⟨r,n,es⟩:=g
 simp only[V0,inR,Bool.and_eq_true,decide_eq_true_eq]at h
 obtain⟨⟨⟨h1,h2⟩,h3⟩,h4⟩:=h
 refine⟨fun e he=>?_,h2,h3,h4⟩
 obtain⟨i,hi⟩:=List.getElem?_of_mem he
 have hb:=a0l h1 i (Nat.zero_le _) (by have:=(List.getElem?_eq_some_iff.1 hi).1;simp only at this;omega)
 rw[D0a hi]at hb
 simp only[Bool.or_eq_false_iff,Bool.not_eq_false',K03,inR,Bool.and_eq_true,decide_eq_true_eq]at hb
 obtain⟨⟨⟨⟨b1,b2⟩,b3,b4⟩,b5,b6⟩,_⟩:=hb
 rw[w64 (by omega) (by omega)]at b2 b4
 simp only
 exact⟨⟨b1,by omega⟩,⟨b3,by omega⟩,b5,b6⟩
theorem U0d {g:l0} (hg:inG g) (v x:Int):J6 g v x = -1∨(0≤J6 g v x∧J6 g v x<g.2.1):=by
 unfold J6
 cases hs:n03 g v x with
 |nil=>exact .inl rfl
 |cons a l =>
  right
  have ha:a∈n03 g v x:=by rw[hs];exact List.mem_cons_self ..
  obtain⟨e,he,h⟩:=X0e.1 (v0n ha)
  have:=hg e he
  rcases h with⟨_,_,_,rfl⟩|⟨_,_,_,rfl⟩
  ·exact this.2.1
  ·exact this.1
theorem C06 {g:l0} (hg:inG g) (hn:g.2.1≤40) (v x:Int):H0 (J6 g v x):=by
 rcases U0d hg v x with h|h
 ·rw[h];decide
 ·constructor <;> omega
def G04 (a b:K0):Bool:=decide (a.2.1=b.2.1)&&(decide (a.1=b.1) || decide (a.2.2=b.2.2))
theorem b0c (a b:K0):G04 a b=G04 b a:=by
 unfold G04
 have h:∀ x y:Int,decide (x=y)=decide (y=x):=fun x y=>decide_eq_decide.2 ⟨Eq.symm,Eq.symm⟩
 rw[h a.2.1,h a.1,h a.2.2]
def noC (a:K0):List K0→Bool
 | []=>true
 |b::l => !G04 a b&&noC a l
def Q08:List K0→Bool
 | []=>true
 |a::l=>noC a l&&Q08 l
theorem S0h (a:K0):∀ l,noC a l=true↔∀ b∈l,G04 a b=false
 | []=>by simp[noC]
 |b::l=>by simp[noC,S0h a l]
theorem c0c:∀ l,Q08 l=true↔l.Pairwise fun a b=>G04 a b=false
 | []=>by simp[Q08]
 |a::l=>by simp[Q08,c0c l,S0h,List.pairwise_cons]
def Y0e:List K0→List K0→Bool
 |_,[]=>true
 |pre,a::l=>noC a pre&&Y0e (pre ++ [a]) l
theorem N0g:∀(l pre:List K0),Y0e pre l=true↔l.Pairwise (fun a b=>G04 a b=false)∧∀ a∈l,∀ b∈pre,G04 a b=false
 | [],pre=>by simp[Y0e]
 |a::l,pre=>by
  simp only[Y0e,Bool.and_eq_true,S0h,N0g l,List.pairwise_cons]
  constructor
  ·rintro⟨h2,h3,h4⟩
   refine⟨⟨fun b hb=>by rw[b0c];exact h4 b hb a (by simp),h3⟩,fun x hx b hb=>?_⟩
   rcases List.mem_cons.1 hx with rfl|hx
   ·exact h2 b hb
   ·exact h4 x hx b (by simp[hb])
  ·rintro⟨⟨h2,h3⟩,h4⟩
   refine⟨fun b hb=>h4 a (List.mem_cons_self ..) b hb,h3,fun x hx b hb=>?_⟩
   rcases List.mem_append.1 hb with hb|hb
   ·exact h4 x (mC _ hx) b hb
   ·rw[List.mem_singleton.1 hb,b0c];exact h2 x hx
theorem w0n (l:List K0):Y0e [] l=Q08 l:=by
 rw[Bool.eq_iff_iff,N0g,c0c]
 simp
def Y0 (g:l0):Bool:=V0 g&&Q08 g.2.2
theorem F0q (a0 a1 a2 b0 b1 b2:Int):(bif decide (a1=b1)then(bif decide (a0=b0)then true else decide (a2=b2))else false)=G04 (a0,a1,a2) (b0,b1,b2):=by
 unfold G04
 cases decide (a1=b1) <;> cases decide (a0=b0) <;> rfl
theorem I0a (l:List K0) (a:K0) (hl:l.length≤140737488355328):∀(d k fuel:Nat),k+d=l.length→d<fuel →
  S6 l a.2.1 a.1 a.2.2 fuel (k:Int)=some (bif noC a (l.drop k)then .inr ()else .inl false)
 |d,k,0,hd,hf=>by omega
 |0,k,fuel+1,hd,hf=>by
  rw[S6.eq_2,if_neg (by simp;omega),Z0 (by omega)]
  rfl
 |d+1,k,fuel+1,hd,hf=>by
  have hk:k<l.length:=by omega
  have hx:=Z3 hk
  generalize l[k]=x at hx
  obtain⟨a0,a1,a2⟩:=a
  obtain⟨b0,b1,b2⟩:=x
  rw[S6.eq_2,if_pos (by simp;omega),D2 hx,oB,F1 hx]
  simp only[F0q,noC]
  cases hc:G04 (a0,a1,a2) (b0,b1,b2)with
  |true=>rfl
  |false =>
   rw[if_neg (by simp),L1 hk (by omega),I0a l (a0,a1,a2) hl d (k+1) fuel (by omega) (by omega)]
   simp
theorem v09 {α:Type} {xs:List α} {k:Nat} (h:k≤xs.length):d03 xs (k:Int) (xs.length:Int)=some (xs.drop k):=by
 unfold d03
 rw[if_pos ⟨by omega,by omega,by omega⟩]
 simp
theorem J0a (l:List K0) (hl:l.length≤140737488355328):∀(d k fuel:Nat),k+d=l.length→d<fuel →
  T6 l fuel (k:Int)=some (bif Q08 (l.drop k)then .inr ()else .inl false)
 |d,k,0,hd,hf=>by omega
 |0,k,fuel+1,hd,hf=>by
  rw[T6.eq_2,if_neg (by simp;omega),Z0 (by omega)]
  rfl
 |d+1,k,fuel+1,hd,hf=>by
  have hk:k<l.length:=by omega
  have hx:=Z3 hk
  generalize l[k]=x at hx
  have h0:=I0a (l.drop (k+1)) x (by simp;omega) (l.drop (k+1)).length 0 N0 (by omega) (W0 (by simp;omega))
  rw[show((0:Nat):Int)=0 from rfl,List.drop_zero]at h0
  obtain⟨a0,a1,a2⟩:=x
  rw[T6.eq_2,if_pos (by simp;omega),D2 hx,oB,F1 hx]
  simp only[L1 hk (show l.length≤9223372036854775807 by omega),v09 (show k+1≤l.length by omega),oB]
  simp only at h0
  rw[h0,oB]
  simp only[Q08]
  cases noC (a0,a1,a2) (l.drop (k+1))with
  |false=>rfl
  |true =>
   simp only[cond_true,w0a,Bool.true_and]
   exact J0a l hl d (k+1) fuel (by omega) (by omega)
theorem B01 (g:l0) (hl:g.2.2.length≤140737488355328):j7 g=some (Y0 g):=by
 have hG:=s00 g hl
 obtain⟨r,n,es⟩:=g
 unfold j7 Y0
 simp only[hG,oB]
 cases V0 (r,n,es)with
 |false=>rfl
 |true =>
  have h:=J0a es hl es.length 0 N0 (by omega) (W0 hl)
  rw[show((0:Nat):Int)=0 from rfl,List.drop_zero]at h
  rw[if_neg (by simp),h,oB]
  cases Q08 es <;> rfl
theorem K0a (l:List K0) (hl:l.length≤140737488355328) {i:Nat} {a:K0} (ha:l[i]?=some a):∀(d k fuel:Nat),k+d=i→d<fuel →
  Q6 (i:Int) l fuel (k:Int)=some (bif noC a ((l.take i).drop k)then .inr ()else .inl false)
 |d,k,0,hd,hf=>by omega
 |0,k,fuel+1,hd,hf=>by
  have:=(List.getElem?_eq_some_iff.1 ha).1
  rw[Q6.eq_2,if_neg (by simp;omega),Z0 (by simp;omega)]
  rfl
 |d+1,k,fuel+1,hd,hf=>by
  have hi:=(List.getElem?_eq_some_iff.1 ha).1
  have hk:k<l.length:=by omega
  have hx:=Z3 hk
  have hx2:(l.take i)[k]?=some l[k]:=by rw[List.getElem?_take,if_pos (by omega)];exact hx
  have ih:=K0a l hl ha d (k+1) fuel (by omega) (by omega)
  generalize l[k]=x at hx hx2
  obtain⟨a0,a1,a2⟩:=a
  obtain⟨b0,b1,b2⟩:=x
  rw[Q6.eq_2,if_pos (by simp;omega),D2 ha,oB,F1 hx2]
  simp only[D2 hx,oB,F0q,noC]
  cases hc:G04 (a0,a1,a2) (b0,b1,b2)with
  |true=>rfl
  |false =>
   rw[if_neg (by simp),L1 hk (by omega),ih]
   simp
theorem G0q {α:Type} {xs:List α} {k:Nat} {x:α} (h:xs[k]?=some x):xs.take (k+1)=xs.take k ++ [x]:=by
 obtain⟨hk,rfl⟩:=List.getElem?_eq_some_iff.1 h
 exact List.take_succ_eq_append_getElem hk
theorem L0a (r n:Int) (l:List K0) (hg:V0 (r,n,l)=true) (hl:l.length≤140737488355328):∀(d k fuel:Nat),k+d=l.length→d<fuel →
  D5 l r n fuel (k:Int)=some (bif Y0e (l.take k) (l.drop k)then .inr ()else .inl false)
 |d,k,0,hd,hf=>by omega
 |0,k,fuel+1,hd,hf=>by
  have e:decide ((k:Int)<(l.length:Int))=false:=by simp;omega
  rw[D5.eq_2,e,L5,oB,if_neg (by simp),Z0 (by omega)]
  rfl
 |d+1,k,fuel+1,hd,hf=>by
  have hk:k<l.length:=by omega
  have hx:=Z3 hk
  generalize l[k]=x at hx
  have h0:=K0a l hl hx k 0 N0 (by omega) (W0 (by omega))
  rw[show((0:Nat):Int)=0 from rfl,List.drop_zero]at h0
  have e:decide ((k:Int)<(l.length:Int))=true:=by simp;omega
  rw[D5.eq_2,e,O2,g7 (r,n,l) hl,oB,hg,if_pos (show(bif true then true else false)=true from rfl),h0,oB,F1 hx]
  simp only[Y0e]
  cases noC x (l.take k)with
  |false=>rfl
  |true =>
   simp only[cond_true,w0a,Bool.true_and]
   rw[L1 hk (by omega),←G0q hx]
   exact L0a r n l hg hl d (k+1) fuel (by omega) (by omega)
theorem y00 (g:l0) (hl:g.2.2.length≤140737488355328):i7 g=some (Y0 g):=by
 have hG:=g7 g hl
 obtain⟨r,n,es⟩:=g
 unfold i7 Y0
 simp only[hG,oB]
 cases hg:V0 (r,n,es)with
 |false =>
  have h1:D5 es r n N0 0=some (.inr ()):=by
   rw[show N0=(N0-1)+1 from rfl,D5.eq_2]
   by_cases e:decide ((0:Int)<(es.length:Int))=true
   ·rw[e,O2,hG,oB,hg,if_neg (by simp)]
   ·rw[Bool.not_eq_true]at e
    rw[e,L5,oB,if_neg (by simp)]
  rw[h1]
  rfl
 |true =>
  have h:=L0a r n es hg hl es.length 0 N0 (by omega) (W0 hl)
  rw[show((0:Nat):Int)=0 from rfl,List.drop_zero,List.take_zero,w0n]at h
  rw[h,oB]
  cases Q08 es <;> rfl
def I00 (g:l0):Int→List Int→Int×Nat
 |v,[]=>(v,0)
 |v,x::w=>if J6 g v x<0 then(v,0)else((I00 g (J6 g v x) w).1,(I00 g (J6 g v x) w).2+1)
theorem Z0e (g:l0):∀(w:List Int) (v:Int),(I00 g v w).2≤w.length
 | [],v=>by simp[I00]
 |x::w,v=>by
  have:=Z0e g w (J6 g v x)
  unfold I00
  split
  ·simp
  ·simp only[List.length_cons];omega
theorem a0f {g:l0} (hg:inG g) (hn:g.2.1≤40):∀(w:List Int) (v:Int),H0 v→H0 (I00 g v w).1
 | [],v,h=>h
 |x::w,v,h=>by
  unfold I00
  split
  ·exact h
  ·exact a0f hg hn w _ (C06 hg hn v x)
def Y0p (q:Int×Nat) (n:Nat) (k:Nat):(Int×Int) ⊕ Int:=bif decide (q.2<n)then .inl (q.1,((k+q.2:Nat):Int))else .inr q.1
theorem c0d (r n:Int) (es:List K0) (hg:inG (r,n,es)) (hn:n≤40) (hes:es.length≤1099511627776) (w:List Int) (hw:∀ x∈w,S8 x) (hl:w.length≤140737488355328):∀(d k fuel:Nat) (v:Int),k+d=w.length→d<fuel →
  T5 w r n es fuel v (k:Int)=some (Y0p (I00 (r,n,es) v (w.drop k)) d k)
 |d,k,0,v,hd,hf=>by omega
 |0,k,fuel+1,v,hd,hf=>by
  rw[T5.eq_2,if_neg (by simp;omega),Z0 (by omega)]
  rfl
 |d+1,k,fuel+1,v,hd,hf=>by
  have hk:k<w.length:=by omega
  have hx:=Z3 hk
  have hxm:=hw _ (List.getElem_mem hk)
  generalize w[k]=x at hx hxm
  rw[T5.eq_2,if_pos (by simp;omega),D2 hx,oB,u09 (r,n,es) v x hxm hes,oB,C0 (C06 hg hn v x),oB,F1 hx]
  unfold I00
  by_cases h:J6 (r,n,es) v x<0
  ·rw[if_pos (by simpa using h),if_pos h]
   simp[Y0p]
  ·rw[if_neg (by simpa using h),if_neg h,L1 hk (by omega),c0d r n es hg hn hes w hw hl d (k+1) fuel _ (by omega) (by omega)]
   unfold Y0p
   simp only[Nat.add_lt_add_iff_right]
   congr 2
   simp only[Nat.add_assoc,Nat.add_comm 1]
theorem h0r (g:l0) (hg:inG g) (hn:g.2.1≤40) (hes:g.2.2.length≤1099511627776) (v:Int) (w:List Int) (hw:∀ x∈w,S8 x) (hl:w.length≤140737488355328):k00 g v w=some ((I00 g v w).1,(((I00 g v w).2:Nat):Int)):=by
 obtain⟨r,n,es⟩:=g
 unfold k00
 have h:=c0d r n es hg hn hes w hw hl w.length 0 N0 v (by omega) (W0 hl)
 rw[show((0:Nat):Int)=0 from rfl,List.drop_zero]at h
 have hle:=Z0e (r,n,es) w v
 simp only[h,oB,Y0p]
 by_cases hc:(I00 (r,n,es) v w).2<w.length
 ·simp[hc,H6]
 ·have:(I00 (r,n,es) v w).2=w.length:=by omega
  simp[this,H6]
theorem d0d (r n:Int) (es:List K0) (hg:inG (r,n,es)) (hn:n≤40) (hes:es.length≤1099511627776) (w:List Int) (hw:∀ x∈w,S8 x) (hl:w.length≤140737488355328):∀(d k fuel:Nat) (v:Int),k+d=w.length→d<fuel →
  R6 w r n es fuel v (k:Int)=some (bif decide ((I00 (r,n,es) v (w.drop k)).2<d)then .inl (-1,false)else .inr (I00 (r,n,es) v (w.drop k)).1)
 |d,k,0,v,hd,hf=>by omega
 |0,k,fuel+1,v,hd,hf=>by
  rw[R6.eq_2,if_neg (by simp;omega),Z0 (by omega)]
  rfl
 |d+1,k,fuel+1,v,hd,hf=>by
  have hk:k<w.length:=by omega
  have hx:=Z3 hk
  have hxm:=hw _ (List.getElem_mem hk)
  generalize w[k]=x at hx hxm
  rw[R6.eq_2,if_pos (by simp;omega),D2 hx,oB,t09 (r,n,es) v x hxm hes,oB,C0 (C06 hg hn v x),oB,F1 hx]
  unfold I00
  by_cases h:J6 (r,n,es) v x<0
  ·rw[if_pos (by simpa using h),if_pos h]
   simp
  ·rw[if_neg (by simpa using h),if_neg h,L1 hk (by omega),d0d r n es hg hn hes w hw hl d (k+1) fuel _ (by omega) (by omega)]
   simp only[Nat.add_lt_add_iff_right]
theorem i0r (g:l0) (hf:Y0 g=true) (v:Int) (hv:0≤v∧v<g.2.1) (w:List Int) (hw:∀ x∈w,S8 x) (hl:w.length≤140737488355328) :
  P00 g v w=some (bif decide ((I00 g v w).2<w.length)then(-1,false)else((I00 g v w).1,true)):=by
 have hgr:V0 g=true:=by unfold Y0 at hf;simp only[Bool.and_eq_true]at hf;exact hf.1
 obtain⟨hg,_,hn,hes⟩:=J2 hgr
 have hF:=y00 g (by omega)
 obtain⟨r,n,es⟩:=g
 simp only at hv hn hes
 unfold P00
 have h:=d0d r n es hg hn.2 (by omega) w hw hl w.length 0 N0 v (by omega) (W0 hl)
 rw[show((0:Nat):Int)=0 from rfl,List.drop_zero]at h
 have hr:inR 0 (n-1) v=true:=by simp only[inR,Bool.and_eq_true,decide_eq_true_eq];omega
 simp only[hF,hf,oB,Bool.not_true,Bool.not_false,O2,h03,w64 (show -9223372036854775808≤n-1 by omega) (show n-1≤9223372036854775807 by omega),hr,cond_false,Bool.false_eq_true,if_false,h]
 cases decide ((I00 (r,n,es) v w).2<w.length) <;> rfl
theorem A5 {g:l0} (h:Y0 g=true):inG g∧(1≤g.1∧g.1≤3)∧(1≤g.2.1∧g.2.1≤40)∧g.2.2.length≤120:=by
 unfold Y0 at h
 simp only[Bool.and_eq_true]at h
 exact J2 h.1
def Z0p (v:Int) (e:K0):Nat:=(if e.1=v then 1 else 0)+(if e.2.2=v then 1 else 0)
def D06 (v:Int):List K0→Nat
 | []=>0
 |e::r=>Z0p v e+D06 v r
theorem a0q (v:Int) (e:K0):Z0p v e≤2:=by unfold Z0p;split <;> split <;> omega
theorem T0h (v:Int):∀ l,D06 v l≤2*l.length
 | []=>by simp[D06]
 |e::r=>by have:=a0q v e;have:=T0h v r;simp only[D06,List.length_cons];omega
theorem b0f (es:List K0) (v:Int) (hl:es.length≤1099511627776):∀(d k fuel acc:Nat),k+d=es.length→d<fuel→acc≤2*k →
  N3 es v fuel (acc:Int) (k:Int)=some ((acc+D06 v (es.drop k):Nat):Int)
 |d,k,0,acc,hd,hf,ha=>by omega
 |0,k,fuel+1,acc,hd,hf,ha=>by
  rw[N3.eq_2,if_neg (by simp;omega),Z0 (by omega)];rfl
 |d+1,k,fuel+1,acc,hd,hf,ha=>by
  have hk:k<es.length:=by omega
  have he:=Z3 hk
  generalize es[k]=e at he
  obtain⟨a,l,b⟩:=e
  have ih:=fun acc' h=>b0f es v hl d (k+1) fuel acc' (by omega) (by omega) h
  have w1:IntKind.i64.wrap ((acc:Int)+1)=((acc+1:Nat):Int):=by rw[w64 (by omega) (by omega)];rfl
  have w2:IntKind.i64.wrap (((acc+1:Nat):Int)+1)=((acc+2:Nat):Int):=by rw[w64 (by omega) (by omega)];rfl
  rw[N3.eq_2,if_pos (by simp;omega),D2 he,F1 he]
  simp only[oB,D06,Z0p,L1 hk (show es.length≤9223372036854775807 by omega)]
  by_cases c1:a=v
  ·rw[if_pos (by simpa using c1),if_pos c1]
   by_cases c2:b=v
   ·rw[if_pos (by simpa using c2),if_pos c2,w1,w2,ih _ (by omega)];congr 2;omega
   ·rw[if_neg (by simpa using c2),if_neg c2,w1,ih _ (by omega)];congr 2;omega
  ·rw[if_neg (by simpa using c1),if_neg c1]
   by_cases c2:b=v
   ·rw[if_pos (by simpa using c2),if_pos c2,w1,ih _ (by omega)];congr 2;omega
   ·rw[if_neg (by simpa using c2),if_neg c2,ih _ (by omega)];congr 2;omega
theorem c0f (es:List K0) (v:Int):∀(fuel:Nat) (x y:Int),E5 es v fuel x y=N3 es v fuel x y
 |0,x,y=>rfl
 |fuel+1,x,y=>by
  rw[E5.eq_2,N3.eq_2]
  simp only[c0f es v fuel]
  by_cases c:(decide (y<((es.length:Nat):Int)))=true
  ·rw[if_pos c,if_pos c]
   cases hg:gi es y with
   |none=>rfl
   |some e=>simp only[oB]
  ·rw[if_neg c,if_neg c]
theorem O0g (g:l0) (v:Int) (hl:g.2.2.length≤1099511627776):f00 g v=some ((D06 v g.2.2:Nat):Int):=by
 obtain⟨r,n,es⟩:=g
 unfold f00
 have h:=b0f es v hl es.length 0 N0 0 (by omega) (W0 (by simp only at hl;omega)) (Nat.zero_le _)
 rw[show((0:Nat):Int)=0 from rfl,List.drop_zero,Nat.zero_add]at h
 simp only[h,oB]
theorem x0n (g:l0) (v:Int) (hl:g.2.2.length≤1099511627776):Q00 g v=some ((D06 v g.2.2:Nat):Int):=by
 have h:=O0g g v hl
 obtain⟨r,n,es⟩:=g
 unfold Q00
 unfold f00 at h
 simp only[c0f]at h ⊢
 exact h
theorem U0h (x y:K0):eqE x y=true↔x=y:=by simp[eqE]
def goE (x:K0):List K0→Bool×List K0
 | []=>(false,[])
 |y::l=>if U0 x y<0 then(true,x::y::l)else if U0 x y=0 then(true,y::l)else((goE x l).1,y::(goE x l).2)
theorem i0m (x:K0):∀ l,n9 U0 x l=bif(goE x l).1 then(goE x l).2 else(goE x l).2 ++ [x]
 | []=>rfl
 |y::l=>by
  have ih:=i0m x l
  unfold n9 goE
  by_cases c1:U0 x y<0
  ·rw[if_pos c1,if_pos c1];rfl
  ·rw[if_neg c1,if_neg c1]
   by_cases c2:U0 x y=0
   ·rw[if_pos c2,if_pos c2];rfl
   ·rw[if_neg c2,if_neg c2,ih];cases (goE x l).1 <;> rfl
theorem d0c (l:List K0) (w0 w1 w2:Int) (hl:l.length≤1099511627776):∀(d k fuel:Nat) (acc:List K0),k+d=l.length→d<fuel→acc.length≤k+1 →
  M4 l w0 w1 w2 fuel true (k:Int) acc=some (true,acc++l.drop k)
 |d,k,0,acc,hd,hf,ha=>by omega
 |0,k,fuel+1,acc,hd,hf,ha=>by
  rw[M4.eq_2,if_neg (by simp;omega),Z0 (by omega),List.append_nil]
 |d+1,k,fuel+1,acc,hd,hf,ha=>by
  have hk:k<l.length:=by omega
  have he:=Z3 hk
  generalize l[k]=e at he
  obtain⟨a,x,b⟩:=e
  have ih:=d0c l w0 w1 w2 hl d (k+1) fuel (acc ++ [(a,x,b)]) (by omega) (by omega) (by simp;omega)
  rw[M4.eq_2,if_pos (by simp;omega),F1 he]
  simp only[D2 he,oB,l02,C0 (T0d _ _),L1 hk (show l.length≤9223372036854775807 by omega),Bool.not_true]
  have hb:∀ b:Bool,(bif b then false else false)=false:=fun b=>by cases b <;> rfl
  simp only[hb,Bool.false_eq_true,if_false]
  rw[C0 (by simp;omega),oB,ih]
  simp
theorem d0f (l:List K0) (w0 w1 w2:Int) (hl:l.length≤1099511627776):∀(d k fuel:Nat) (acc:List K0),k+d=l.length→d<fuel→acc.length=k →
  M4 l w0 w1 w2 fuel false (k:Int) acc=some ((goE (w0,w1,w2) (l.drop k)).1,acc++(goE (w0,w1,w2) (l.drop k)).2)
 |d,k,0,acc,hd,hf,ha=>by omega
 |0,k,fuel+1,acc,hd,hf,ha=>by
  rw[M4.eq_2,if_neg (by simp;omega),Z0 (by omega)];simp[goE]
 |d+1,k,fuel+1,acc,hd,hf,ha=>by
  have hk:k<l.length:=by omega
  have he:=Z3 hk
  generalize l[k]=e at he
  obtain⟨a,x,b⟩:=e
  have ih:=d0f l w0 w1 w2 hl d (k+1) fuel (acc ++ [(a,x,b)]) (by omega) (by omega) (by simp;omega)
  have on1:=d0c l w0 w1 w2 hl d (k+1) fuel (acc ++ [(a,x,b)]) (by omega) (by omega) (by simp;omega)
  have on2:=d0c l w0 w1 w2 hl d (k+1) fuel ((acc ++ [(w0,w1,w2)]) ++ [(a,x,b)]) (by omega) (by omega) (by simp;omega)
  rw[M4.eq_2,if_pos (by simp;omega),F1 he]
  simp only[D2 he,oB,l02,C0 (T0d _ _),L1 hk (show l.length≤9223372036854775807 by omega),Bool.not_true,Bool.not_false,goE]
  show _=_
  unfold T0e
  by_cases c1:U0 (w0,w1,w2) (a,x,b)=0
  ·rw[if_pos (by simpa using c1),if_neg (by simp[c1]),if_neg (by omega),if_pos c1]
   rw[C0 (by simp;omega),oB,on1];simp
  ·rw[if_neg (by simpa using c1)]
   by_cases c2:U0 (w0,w1,w2) (a,x,b)<0
   ·rw[if_pos (by simp[c2]),if_pos c2,C0 (by simp;omega),oB,C0 (by simp;omega),oB,on2];simp
   ·rw[if_neg (by simp[c2]),if_neg c2,if_neg c1,C0 (by simp;omega),oB,ih];simp
theorem E06 (l:List K0) (e:K0) (hl:l.length≤1099511627776):R7 l e=some (n9 U0 e l):=by
 obtain⟨w0,w1,w2⟩:=e
 unfold R7
 have h:=d0f l w0 w1 w2 hl l.length 0 N0 [] (by omega) (W0 (by omega)) rfl
 rw[show((0:Nat):Int)=0 from rfl,List.drop_zero,List.nil_append]at h
 simp only[h,oB,i0m]
 have hlen:∀ l:List K0,(goE (w0,w1,w2) l).2.length≤l.length+1:=fun l=>by
  induction l with
  |nil=>simp[goE]
  |cons y l ih =>
   unfold goE
   split
   ·simp
   ·split
    ·simp
    ·simp only[List.length_cons];omega
 have:=hlen l
 cases (goE (w0,w1,w2) l).1 with
 |true=>rfl
 |false =>
  simp only[Bool.not_false,if_true,cond_false]
  rw[C0 (by simp;omega),oB]
theorem f04 (e:K0):∀ l:List K0,(n9 U0 e l).length≤l.length+1
 | []=>by simp[n9]
 |y::l=>by
  have:=f04 e l
  unfold n9
  split
  ·simp
  ·split
   ·simp
   ·simp only[List.length_cons];omega
theorem M0a (es:List K0) (hl:es.length≤1099511627776):p9 es=some (F5 U0 [] es):=by
 unfold p9
 rw[C0 (by simp;omega),oB,C0 (by simp;omega),oB,List.nil_append]
 exact congrArg some (R0e p7 U0h es es fun _=>Iff.rfl)
theorem m02 (g:l0) (hl:g.2.2.length≤1099511627776):Z2 g=some g:=by
 obtain⟨r,n,es⟩:=g
 unfold Z2
 simp only
 rw[C0 (by simp only[List.length_nil,Nat.zero_add];simp only at hl;omega)];rfl
theorem C01 (g:l0) (hl:g.2.2.length≤1099511627776):T2 g=some g:=by
 obtain⟨r,n,es⟩:=g
 unfold T2
 simp only
 rw[C0 (by simp only[List.length_nil,Nat.zero_add];simp only at hl;omega)];rfl
inductive Rch (es:List K0) (v:Int):Int→Prop
 |base:Rch es v v
 |fwd {e:K0}:e∈es→Rch es v e.1→Rch es v e.2.2
 |bwd {e:K0}:e∈es→Rch es v e.2.2→Rch es v e.1
theorem Rch.closed {es:List K0} {v:Int}:∀ e∈es,Rch es v e.1↔Rch es v e.2.2:=fun e he=>⟨.fwd he,.bwd he⟩
theorem Rch.sub {es:List K0} {v:Int} {P:Int→Prop} (hv:P v) (hc:∀ e∈es,P e.1↔P e.2.2):∀ {x},Rch es v x→P x
 |_,.base=>hv
 |_,.fwd he h=>(hc _ he).1 (Rch.sub hv hc h)
 |_,.bwd he h=>(hc _ he).2 (Rch.sub hv hc h)
def a00 (S:List Bool) (i:Int):Bool:=S.getD i.toNat false
def stJ (S:List Bool) (e:K0):List Bool:=(S.set e.1.toNat true).set e.2.2.toNat true
def pJ:List K0→Bool→List Bool→Bool×List Bool
 | [],c,S=>(c,S)
 |e::r,c,S=>bif a00 S e.1 == a00 S e.2.2 then pJ r c S else pJ r true (stJ S e)
def cF:List Bool→Nat
 | []=>0
 |b::r=>(bif b then 0 else 1)+cF r
theorem b0l:∀(S:List Bool) (i:Nat),cF (S.set i true)≤cF S
 | [],i=>by simp[cF]
 |b::r,0=>by simp[cF]
 |b::r,i+1=>by have:=b0l r i;simp only[List.set_cons_succ,cF];omega
theorem H0o:∀(S:List Bool) (i:Nat),S[i]?=some false→cF (S.set i true)<cF S
 | [],i,h=>by simp at h
 |b::r,0,h=>by simp at h;subst h;simp[cF]
 |b::r,i+1,h=>by have:=H0o r i (by simpa using h);simp only[List.set_cons_succ,cF];omega
theorem H0q:∀ S:List Bool,cF S≤S.length
 | []=>by simp[cF]
 |b::r=>by have:=H0q r;cases b <;> simp only[cF,List.length_cons,cond_true,cond_false] <;> omega
def inN (n:Nat) (es:List K0):Prop:=∀ e∈es,(0≤e.1∧e.1<(n:Int))∧(0≤e.2.2∧e.2.2<(n:Int))
theorem I07 {S:List Bool} {i:Nat} (h:i<S.length) (x:Int):a00 (S.set i true) x=(decide (x.toNat=i) || a00 S x):=by
 unfold a00
 rw[List.getD_eq_getElem?_getD,List.getD_eq_getElem?_getD,List.getElem?_set]
 by_cases c:i=x.toNat
 ·rw[if_pos c,if_pos (by omega)];simp[c]
 ·rw[if_neg c]
  have:decide (x.toNat=i)=false:=by simp;exact fun e=>c e.symm
  rw[this];rfl
theorem c0l:∀(es:List K0) (c:Bool) (S:List Bool),(pJ es c S).2.length=S.length
 | [],c,S=>rfl
 |e::r,c,S=>by
  unfold pJ
  cases a00 S e.1 == a00 S e.2.2
  ·simp only[cond_false];rw[c0l r];simp[stJ]
  ·simp only[cond_true];exact c0l r c S
theorem V0h {n:Nat}:∀(es:List K0) (c:Bool) (S:List Bool),S.length=n→inN n es→∀ x,a00 S x=true→a00 (pJ es c S).2 x=true
 | [],c,S,hl,hn,x,h=>h
 |e::r,c,S,hl,hn,x,h=>by
  have he:=hn e (List.mem_cons_self ..)
  have hr:inN n r:=fun e he=>hn e (mC _ he)
  unfold pJ
  cases a00 S e.1 == a00 S e.2.2
  ·simp only[cond_false]
   refine V0h r _ _ (by simp[stJ,hl]) hr x ?_
   rw[stJ,I07 (by rw[List.length_set];omega),I07 (by omega),h];simp
  ·simp only[cond_true];exact V0h r c S hl hr x h
theorem e0f {n:Nat} {P:Int→Prop}:∀(es:List K0) (c:Bool) (S:List Bool),S.length=n→inN n es→(∀ e∈es,P e.1↔P e.2.2)→(∀ x,0≤x→a00 S x=true→P x)→∀ x,0≤x→a00 (pJ es c S).2 x=true→P x
 | [],c,S,hl,hn,hc,hs,x,h0,h=>hs x h0 h
 |e::r,c,S,hl,hn,hc,hs,x,h0,h=>by
  have he:=hn e (List.mem_cons_self ..)
  have hr:inN n r:=fun e he=>hn e (mC _ he)
  have hc':=fun e he=>hc e (mC _ he)
  have hce:=hc e (List.mem_cons_self ..)
  unfold pJ at h
  cases hb:a00 S e.1 == a00 S e.2.2
  ·rw[hb]at h
   refine e0f r true (stJ S e) (by simp[stJ,hl]) hr hc' (fun y hy h=>?_) x h0 h
   rw[stJ,I07 (by rw[List.length_set];omega),I07 (by omega)]at h
   simp only[Bool.or_eq_true,decide_eq_true_eq]at h
   have hor:P e.1∨P e.2.2:=by
    cases h1:a00 S e.1
    ·cases h2:a00 S e.2.2
     ·rw[h1,h2]at hb;cases hb
     ·exact .inr (hs _ he.2.1 h2)
    ·exact .inl (hs _ he.1.1 h1)
   rcases h with h|h|h
   ·have:y=e.2.2:=by omega
    subst this;exact hor.elim hce.1 id
   ·have:y=e.1:=by omega
    subst this;exact hor.elim id hce.2
   ·exact hs y hy h
  ·rw[hb]at h
   exact e0f r c S hl hr hc' hs x h0 h
theorem d0l {n:Nat}:∀(es:List K0) (c:Bool) (S:List Bool),S.length=n→inN n es→cF (pJ es c S).2≤cF S∧((pJ es c S).1=true→c=true∨cF (pJ es c S).2<cF S)∧((pJ es c S).1=false→c=false∧(pJ es c S).2=S∧∀ e∈es,a00 S e.1=a00 S e.2.2)
 | [],c,S,hl,hn=>⟨Nat.le_refl _,fun h => .inl h,fun h=>⟨h,rfl,fun e he=>nomatch he⟩⟩
 |e::r,c,S,hl,hn=>by
  have he:=hn e (List.mem_cons_self ..)
  have hr:inN n r:=fun e he=>hn e (mC _ he)
  unfold pJ
  cases hb:a00 S e.1 == a00 S e.2.2
  ·simp only[cond_false]
   obtain⟨h1,h2,h3⟩:=d0l r true (stJ S e) (by simp[stJ,hl]) hr
   have hlt:cF (stJ S e)<cF S:=by
    have g:∀(x:Int),0≤x→x<n→a00 S x=false→S[x.toNat]?=some false:=fun x hx hx2 hg=>by
     have hk:x.toNat<S.length:=by omega
     unfold a00 at hg
     rw[List.getD_eq_getElem?_getD,List.getElem?_eq_getElem hk]at hg
     rw[List.getElem?_eq_getElem hk];simpa using hg
    cases g1:a00 S e.1
    ·have:=H0o S _ (g _ he.1.1 he.1.2 g1)
     have:=b0l (S.set e.1.toNat true) e.2.2.toNat
     unfold stJ;omega
    ·have g2:a00 S e.2.2=false:=by
      cases g2:a00 S e.2.2
      ·rfl
      ·rw[g1,g2]at hb;cases hb
     have g3:(S.set e.1.toNat true)[e.2.2.toNat]?=some false:=by
      rw[List.getElem?_set]
      by_cases q:e.1.toNat=e.2.2.toNat
      ·exfalso
       have:e.1=e.2.2:=by omega
       rw[this,g2]at g1;cases g1
      ·rw[if_neg q];exact g _ he.2.1 he.2.2 g2
     have:=H0o _ _ g3
     have:=b0l S e.1.toNat
     unfold stJ;omega
   refine⟨by omega,fun _ => .inr (by omega),fun h=>?_⟩
   have:=(h3 h).1;cases this
  ·simp only[cond_true]
   obtain⟨h1,h2,h3⟩:=d0l r c S hl hr
   refine⟨h1,h2,fun h=>⟨(h3 h).1,(h3 h).2.1,fun e' he'=>?_⟩⟩
   rcases List.mem_cons.1 he' with rfl|he'
   ·simpa using hb
   ·exact(h3 h).2.2 e' he'
theorem giB {S:List Bool} {n:Nat} (hl:S.length=n) {x:Int} (h0:0≤x) (h1:x<n):gi S x=some (a00 S x):=by
 have hk:x.toNat<S.length:=by omega
 have e:x=((x.toNat:Nat):Int):=by omega
 have h2:gi S ((x.toNat:Nat):Int)=some (a00 S x):=by
  rw[Y0b,List.getElem?_eq_getElem hk]
  unfold a00
  rw[List.getD_eq_getElem?_getD,List.getElem?_eq_getElem hk];rfl
 rw[←e]at h2;exact h2
theorem P0g (es:List K0) {n:Nat} (hn:inN n es) (hl:es.length≤9223372036854775807):∀(d k fuel:Nat) (c:Bool) (S:List Bool),S.length=n→k+d=es.length→d<fuel →
  w4 es fuel c (k:Int) S=some (pJ (es.drop k) c S)
 |d,k,0,c,S,hS,hd,hf=>by omega
 |0,k,fuel+1,c,S,hS,hd,hf=>by
  rw[w4.eq_2,if_neg (by simp;omega),Z0 (by omega)];rfl
 |d+1,k,fuel+1,c,S,hS,hd,hf=>by
  have hk:k<es.length:=by omega
  have he:=Z3 hk
  have hin:=hn _ (List.mem_of_getElem? he)
  generalize es[k]=e at he hin
  obtain⟨a,l,b⟩:=e
  have ih:=fun c' S' h=>P0g es hn hl d (k+1) fuel c' S' h (by omega) (by omega)
  rw[w4.eq_2,if_pos (by simp;omega),F1 he]
  simp only[D2 he,oB,giB hS hin.1.1 hin.1.2,giB hS hin.2.1 hin.2.2,L1 hk hl,giB (show(S.set a.toNat true).length=n by simp[hS]) hin.2.1 hin.2.2,pJ]
  cases hb:a00 S a == a00 S b
  ·simp only[Bool.not_false,if_true,cond_false]
   exact ih _ _ (by simp[hS])
  ·simp only[Bool.not_true,Bool.false_eq_true,if_false,cond_true]
   exact ih _ _ hS
theorem Q0g (es:List K0) {n:Nat} (hn:inN n es) (hl:es.length≤9223372036854775806):∀(m fuel:Nat) (S:List Bool),S.length=n→cF S≤m→m+1<fuel →
  ∃ S',Z4 es fuel true S=some S'∧S'.length=n∧(∀ x,a00 S x=true→a00 S' x=true)∧(∀ e∈es,a00 S' e.1=a00 S' e.2.2) ∧
   ∀ P:Int→Prop,(∀ e∈es,P e.1↔P e.2.2)→(∀ x,0≤x→a00 S x=true→P x)→∀ x,0≤x→a00 S' x=true→P x
 |m,0,S,hS,hm,hf=>by omega
 |m,fuel+1,S,hS,hm,hf=>by
  have h0:=P0g es hn (by omega) es.length 0 N0 false S hS (by omega) (by unfold N0;omega)
  rw[show((0:Nat):Int)=0 from rfl,List.drop_zero]at h0
  obtain⟨c1,c2,c3⟩:=d0l es false S hS hn
  have hlen:=c0l es false S
  rw[Z4.eq_2,if_pos rfl,h0,oB]
  have hmono:=V0h es false S hS hn
  have hsnd:=fun P=>e0f (P:=P) es false S hS hn
  generalize pJ es false S=q at *
  obtain⟨c,S'⟩:=q
  simp only at c1 c2 c3 hlen hmono hsnd ⊢
  cases c with
  |true =>
   rcases c2 rfl with h|h
   ·cases h
   ·obtain⟨S2,e1,e2,e3,e4,e5⟩:=Q0g es hn hl (m-1) fuel S' (by omega) (by omega) (by omega)
    exact⟨S2,e1,e2,fun x hx=>e3 x (hmono x hx),e4,fun P hc hs=>e5 P hc (hsnd P hc hs)⟩
  |false =>
   obtain⟨_,e,hall⟩:=c3 rfl
   subst e
   obtain _|fuel:=fuel
   ·omega
   ·rw[Z4.eq_2,if_neg (by simp)]
    exact⟨_,rfl,hS,fun x h=>h,hall,fun P _ hs=>hs⟩
theorem I0o (r:Int) (n:Nat) (es:List K0) (hn:inN n es) (hl:es.length≤9223372036854775806) (hn2:1≤n) (hn3:n≤140737488355328) :
  ∃ S,i9 (r,(n:Int),es) 0=some S∧S.length=n∧∀ x,0≤x→x<(n:Int)→(a00 S x=true↔Rch es 0 x):=by
 unfold i9
 simp only[Int.toNat_natCast]
 have hg:gi (List.replicate n (false:Bool)) 0=some false:=by
  rw[p05 (x:=false)];rw[List.getElem?_replicate,if_pos (by omega)]
 rw[C0 (by omega),oB,hg,oB]
 have hS:((List.replicate n (false:Bool)).set (0:Int).toNat true).length=n:=by simp
 obtain⟨S',e1,e2,e3,e4,e5⟩:=Q0g es hn hl n N0 _ hS (by have:=H0q ((List.replicate n (false:Bool)).set (0:Int).toNat true);omega) (by unfold N0;omega)
 rw[e1]
 have hb:∀ x,a00 ((List.replicate n (false:Bool)).set (0:Int).toNat true) x=decide (x.toNat=0):=fun x=>by
  rw[I07 (by simp;omega)]
  have:a00 (List.replicate n false) x=false:=by
   unfold a00
   rw[List.getD_eq_getElem?_getD,List.getElem?_replicate]
   split <;> rfl
  rw[this];simp
 refine⟨S',rfl,e2,fun x h0 h1=>⟨fun h=>?_,fun h=>?_⟩⟩
 ·refine e5 (Rch es 0) Rch.closed (fun y hy h=>?_) x h0 h
  rw[hb]at h
  have:y=0:=by simp at h;omega
  subst this;exact .base
 ·exact Rch.sub (P:=fun x=>a00 S' x=true) (e3 0 (by rw[hb];rfl)) (fun e he=>by rw[e4 e he]) h
theorem I0q (l:List Int) (w:Int) (hl:l.length≤9223372036854775807):∀(d k fuel:Nat),k+d=l.length→d<fuel →
  R8 l w fuel (k:Int)=some (if w∈l.drop k then .inl true else .inr ())
 |d,k,0,hd,hf=>by omega
 |0,k,fuel+1,hd,hf=>by
  rw[R8.eq_2,if_neg (by simp;omega),Z0 (by omega)];simp
 |d+1,k,fuel+1,hd,hf=>by
  have hk:k<l.length:=by omega
  have hx:=Z3 hk
  generalize l[k]=x at hx
  have ih:=I0q l w hl d (k+1) fuel (by omega) (by omega)
  rw[R8.eq_2,if_pos (by simp;omega),F1 hx]
  simp only[D2 hx,oB,L1 hk hl,ih,List.mem_cons]
  by_cases c:x=w
  ·rw[if_pos (by simpa using c),if_pos (.inl c.symm)]
  ·rw[if_neg (by simpa using c)]
   by_cases c2:w∈l.drop (k+1)
   ·rw[if_pos c2,if_pos (.inr c2)]
   ·rw[if_neg c2,if_neg (fun h=>h.elim (fun e=>c e.symm) c2)]
theorem V0d (l:List Int) (w:Int) (hl:l.length≤9223372036854775807):o9 l w=some (decide (w∈l)):=by
 unfold o9
 have h:=I0q l w hl l.length 0 N0 (by omega) (by unfold N0;omega)
 rw[show((0:Nat):Int)=0 from rfl,List.drop_zero]at h
 rw[h,oB]
 by_cases c:w∈l
 ·rw[if_pos c];simp[H6,c]
 ·rw[if_neg c];simp[H6,c]
def s1 (u:List Int) (e:K0):List Int:=if e.1∈u then n9 C6 e.2.2 u else u
def s2 (u:List Int) (e:K0):List Int:=if e.2.2∈u then n9 C6 e.1 u else u
def pS:List K0→List Int→List Int
 | [],u=>u
 |e::r,u=>pS r (s2 (s1 u e) e)
theorem e0c {u:List Int} {e:K0} {x:Int}:x∈s1 u e↔x∈u∨(e.1∈u∧x=e.2.2):=by
 unfold s1
 split
 ·rename_i h;rw[x04 j00];constructor
  ·rintro(h1|h1)
   ·exact .inr ⟨h,h1⟩
   ·exact .inl h1
  ·rintro(h1|⟨_,h1⟩)
   ·exact .inr h1
   ·exact .inl h1
 ·rename_i h;constructor
  ·exact .inl
  ·rintro(h1|⟨h1,_⟩)
   ·exact h1
   ·exact absurd h1 h
theorem f0c {u:List Int} {e:K0} {x:Int}:x∈s2 u e↔x∈u∨(e.2.2∈u∧x=e.1):=by
 unfold s2
 split
 ·rename_i h;rw[x04 j00];constructor
  ·rintro(h1|h1)
   ·exact .inr ⟨h,h1⟩
   ·exact .inl h1
  ·rintro(h1|⟨_,h1⟩)
   ·exact .inr h1
   ·exact .inl h1
 ·rename_i h;constructor
  ·exact .inl
  ·rintro(h1|⟨h1,_⟩)
   ·exact h1
   ·exact absurd h1 h
theorem J0o (u:List Int) (e:K0):(s1 u e).length≤u.length+1:=by
 unfold s1;split
 ·exact V05 _ _
 ·omega
theorem K0o (u:List Int) (e:K0):(s2 u e).length≤u.length+1:=by
 unfold s2;split
 ·exact V05 _ _
 ·omega
theorem e0l:∀(es:List K0) (u:List Int),(pS es u).length≤u.length+2*es.length
 | [],u=>by simp[pS]
 |e::r,u=>by
  have:=e0l r (s2 (s1 u e) e)
  have:=K0o (s1 u e) e
  have:=J0o u e
  simp only[pS,List.length_cons];omega
theorem F06:∀(es:List K0) (u:List Int) (x:Int),x∈u→x∈pS es u
 | [],u,x,h=>h
 |e::r,u,x,h=>F06 r _ x (f0c.2 (.inl (e0c.2 (.inl h))))
theorem f0f {P:Int→Prop}:∀(es:List K0) (u:List Int),(∀ e∈es,P e.1↔P e.2.2)→(∀ x∈u,P x)→∀ x∈pS es u,P x
 | [],u,hc,hs=>hs
 |e::r,u,hc,hs=>f0f r _ (fun e he=>hc e (mC _ he)) fun x hx=>by
  have hce:=hc e (List.mem_cons_self ..)
  have h1:∀ y∈s1 u e,P y:=fun y hy=>by
   rcases e0c.1 hy with h|⟨h,rfl⟩
   ·exact hs y h
   ·exact hce.1 (hs _ h)
  rcases f0c.1 hx with h|⟨h,rfl⟩
  ·exact h1 x h
  ·exact hce.2 (h1 _ h)
theorem w0j:∀(es:List K0) (u:List Int) (e:K0),e∈es→e.1∈u∨e.2.2∈u→e.1∈pS es u∧e.2.2∈pS es u
 |e'::r,u,e,he,h=>by
  simp only[pS]
  rcases List.mem_cons.1 he with rfl|he
  ·have h2:e.2.2∈s1 u e:=by
    rcases h with h|h
    ·exact e0c.2 (.inr ⟨h,rfl⟩)
    ·exact e0c.2 (.inl h)
   exact⟨F06 r _ _ (f0c.2 (.inr ⟨h2,rfl⟩)),F06 r _ _ (f0c.2 (.inl h2))⟩
  ·exact w0j r _ e he (h.imp (fun h=>f0c.2 (.inl (e0c.2 (.inl h)))) fun h=>f0c.2 (.inl (e0c.2 (.inl h))))
def act (es:List K0) (u:List Int):Nat:=es.countP fun e=>decide (e.1∈u)&&decide (e.2.2∈u)
def clo (es:List K0) (u:List Int):Prop:=∀ e∈es,e.1∈u↔e.2.2∈u
theorem j0r (es:List K0) (u:List Int):act es u≤es.length:=List.countP_le_length
theorem R0g {α:Type} {p q:α→Bool}:∀ {l:List α},(∀ x∈l,p x=true→q x=true)→(∃ x∈l,p x=false∧q x=true)→l.countP p<l.countP q
 | [],_,⟨x,hx,_⟩=>nomatch hx
 |y::l,h,⟨x,hx,h1,h2⟩=>by
  have hle:l.countP p≤l.countP q:=List.countP_mono_left fun z hz=>h z (mC _ hz)
  rcases List.mem_cons.1 hx with rfl|hx
  ·rw[List.countP_cons_of_neg (by simp[h1]),List.countP_cons_of_pos h2];omega
  ·have ih:=R0g (l:=l) (fun z hz=>h z (mC _ hz)) ⟨x,hx,h1,h2⟩
   cases hp:p y
   ·rw[List.countP_cons_of_neg (by simp[hp])]
    have:l.countP q≤(y::l).countP q:=by rw[List.countP_cons];omega
    omega
   ·rw[List.countP_cons_of_pos hp,List.countP_cons_of_pos (h y (List.mem_cons_self ..) hp)];omega
theorem N0a {es:List K0} {u:List Int} (h:clo es u) (x:Int):x∈pS es u↔x∈u :=
 ⟨f0f (P:=fun x=>x∈u) es u h (fun _ h=>h) x,F06 es u x⟩
theorem L0o {es:List K0} {u:List Int}:clo es (pS es u)∨act es u<act es (pS es u):=by
 by_cases h:clo es u
 ·left
  intro e he
  rw[N0a h,N0a h];exact h e he
 ·right
  have:∃ e∈es,¬ (e.1∈u↔e.2.2∈u):=by
   refine Classical.byContradiction fun hn=>h fun e he=>?_
   exact Classical.byContradiction fun h2=>hn ⟨e,he,h2⟩
  obtain⟨e,he,hne⟩:=this
  refine R0g (fun x hx h=>?_) ⟨e,he,?_,?_⟩
  ·simp only[Bool.and_eq_true,decide_eq_true_eq]at h ⊢
   exact⟨F06 _ _ _ h.1,F06 _ _ _ h.2⟩
  ·rw[Bool.eq_false_iff]
   intro h
   simp only[Bool.and_eq_true,decide_eq_true_eq]at h
   exact hne ⟨fun _=>h.2,fun _=>h.1⟩
  ·have ht:e.1∈u∨e.2.2∈u:=by
    refine Classical.byContradiction fun hn=>hne ⟨fun h=>absurd (.inl h) hn,fun h=>absurd (.inr h) hn⟩
   have:=w0j es u e he ht
   simp only[Bool.and_eq_true,decide_eq_true_eq];exact this
def itS (es:List K0):Nat→List Int→List Int
 |0,u=>u
 |j+1,u=>itS es j (pS es u)
theorem j0m (es:List K0):∀(j:Nat) (u:List Int),(itS es j u).length≤u.length+j*(2*es.length)
 |0,u=>by simp[itS]
 |j+1,u=>by have:=j0m es j (pS es u);have:=e0l es u;simp only[itS,Nat.add_mul,Nat.one_mul];omega
theorem k0m (es:List K0):∀(j:Nat) (u:List Int),clo es u→clo es (itS es j u)
 |0,u,h=>h
 |j+1,u,h=>k0m es j _ fun e he=>by rw[N0a h,N0a h];exact h e he
theorem l0m (es:List K0):∀(j:Nat) (u:List Int),clo es (itS es j u)∨act es u+j≤act es (itS es j u)
 |0,u => .inr (Nat.le_refl _)
 |j+1,u=>by
  rcases L0o (es:=es) (u:=u)with h|h
  ·exact .inl (k0m es j _ h)
  ·rcases l0m es j (pS es u)with h2|h2
   ·exact .inl h2
   ·right;simp only[itS];omega
theorem x0j (es:List K0):∀(j:Nat) (u:List Int) (x:Int),x∈u→x∈itS es j u
 |0,u,x,h=>h
 |j+1,u,x,h=>x0j es j _ x (F06 es u x h)
theorem S0g {P:Int→Prop} (es:List K0) (hc:∀ e∈es,P e.1↔P e.2.2):∀(j:Nat) (u:List Int),(∀ x∈u,P x)→∀ x∈itS es j u,P x
 |0,u,hs=>hs
 |j+1,u,hs=>S0g es hc j _ (f0f es u hc hs)
theorem b0q (es:List K0) (v x:Int):x∈itS es (es.length+1) [v]↔Rch es v x:=by
 constructor
 ·exact S0g (P:=Rch es v) es Rch.closed _ _ (fun y hy=>by simp at hy;subst hy;exact .base) x
 ·have hc:clo es (itS es (es.length+1) [v]):=by
   rcases l0m es (es.length+1) [v]with h|h
   ·exact h
   ·have:=j0r es (itS es (es.length+1) [v]);omega
  exact Rch.sub (P:=fun x=>x∈itS es (es.length+1) [v]) (x0j _ _ _ _ (by simp)) hc
theorem g0f (es:List K0) (hl:es.length≤9223372036854775807):∀(d k fuel:Nat) (u:List Int),k+d=es.length→d<fuel→u.length+2*d≤1099511627776 →
  K3 es fuel u (k:Int)=some (pS (es.drop k) u)
 |d,k,0,u,hd,hf,hu=>by omega
 |0,k,fuel+1,u,hd,hf,hu=>by
  rw[K3.eq_2,if_neg (by simp;omega),Z0 (by omega)];rfl
 |d+1,k,fuel+1,u,hd,hf,hu=>by
  have hk:k<es.length:=by omega
  have he:=Z3 hk
  generalize es[k]=e at he
  obtain⟨a,l,b⟩:=e
  have ih:=fun u' h=>g0f es hl d (k+1) fuel u' (by omega) (by omega) h
  have g1:=J0o u (a,l,b)
  have g2:=K0o (s1 u (a,l,b)) (a,l,b)
  rw[K3.eq_2,if_pos (by simp;omega),F1 he]
  simp only[D2 he,oB,V0d u _ (by omega),L1 hk hl,pS]
  by_cases c:a∈u
  ·rw[if_pos (by simpa using c),F0a _ _ (by omega),oB]
   have e1:s1 u (a,l,b)=n9 C6 b u:=if_pos c
   rw[e1]at g1 g2 ⊢
   rw[V0d _ _ (by omega),oB]
   by_cases c2:b∈n9 C6 b u
   ·rw[if_pos (by simpa using c2),F0a _ _ (by omega),oB]
    have e2:s2 (n9 C6 b u) (a,l,b)=n9 C6 a (n9 C6 b u):=if_pos c2
    rw[e2]at g2 ⊢
    exact ih _ (by omega)
   ·rw[if_neg (by simpa using c2)]
    have e2:s2 (n9 C6 b u) (a,l,b)=n9 C6 b u:=if_neg c2
    rw[e2]
    exact ih _ (by omega)
  ·rw[if_neg (by simpa using c)]
   have e1:s1 u (a,l,b)=u:=if_neg c
   rw[e1]at g2 ⊢
   by_cases c2:b∈u
   ·rw[if_pos (by simpa using c2),F0a _ _ (by omega),oB]
    have e2:s2 u (a,l,b)=n9 C6 a u:=if_pos c2
    rw[e2]at g2 ⊢
    exact ih _ (by omega)
   ·rw[if_neg (by simpa using c2)]
    have e2:s2 u (a,l,b)=u:=if_neg c2
    rw[e2]
    exact ih _ (by omega)
theorem h0f (es:List K0) (hl:es.length≤120):∀(d k fuel:Nat) (u:List Int),k+d=es.length+1→d<fuel→u.length≤1+k*240 →
  G5 es fuel u (k:Int)=some (itS es d u)
 |d,k,0,u,hd,hf,hu=>by omega
 |0,k,fuel+1,u,hd,hf,hu=>by
  rw[G5.eq_2,if_neg (by rw[w64 (by omega) (by omega)];simp;omega)];rfl
 |d+1,k,fuel+1,u,hd,hf,hu=>by
  have h0:=g0f es (by omega) es.length 0 N0 u (by omega) (W0 (by omega)) (by omega)
  rw[show((0:Nat):Int)=0 from rfl,List.drop_zero]at h0
  have ih:=h0f es hl d (k+1) fuel (pS es u) (by omega) (by omega) (by have:=e0l es u;omega)
  rw[G5.eq_2,if_pos (by rw[w64 (by omega) (by omega)];simp;omega),h0,oB,L1 (show k<1000 by omega) (by omega),ih]
  rfl
def getI (P:List Int) (v:Int):Int:=P.getD v.toNat (-1)
def F02:List Int→Nat→List Int→List Int
 |A,k,[]=>A
 |A,k,v::r=>F02 (A.set v.toNat (k:Int)) (k+1) r
def plc (n:Nat) (o:List Int):List Int:=F02 (List.replicate n (-1)) 0 o
theorem i0f:∀(o:List Int) (k:Nat) (A:List Int),(F02 A k o).length=A.length
 | [],k,A=>rfl
 |v::r,k,A=>by rw[F02,i0f r];simp
def inV (n:Nat) (o:List Int):Prop:=∀ v∈o,0≤v∧v<(n:Int)
theorem giI {P:List Int} {n:Nat} (hl:P.length=n) {x:Int} (h0:0≤x) (h1:x<n):gi P x=some (getI P x):=by
 have hk:x.toNat<P.length:=by omega
 have e:x=((x.toNat:Nat):Int):=by omega
 have h2:gi P ((x.toNat:Nat):Int)=some (getI P x):=by
  rw[Y0b,List.getElem?_eq_getElem hk]
  unfold getI
  rw[List.getD_eq_getElem?_getD,List.getElem?_eq_getElem hk];rfl
 rw[←e]at h2;exact h2
theorem W05 {A:List Int} {v x:Int} {y:Int} (h0:0≤v) (h1:v.toNat<A.length) (hx:0≤x):getI (A.set v.toNat y) x=if x=v then y else getI A x:=by
 unfold getI
 rw[List.getD_eq_getElem?_getD,List.getD_eq_getElem?_getD,List.getElem?_set]
 by_cases c:x=v
 ·rw[if_pos c,if_pos (by rw[c]),if_pos h1];rfl
 ·rw[if_neg c,if_neg (by omega)]
theorem O0a {n:Nat}:∀(o:List Int) (k:Nat) (A:List Int),A.length=n→inV n o→(∀ x,0≤x → -1≤getI A x∧getI A x<(k:Int))→∀ x,0≤x → -1≤getI (F02 A k o) x∧getI (F02 A k o) x<((k+o.length:Nat):Int)
 | [],k,A,hA,ho,h,x,hx=>h x hx
 |v::r,k,A,hA,ho,h,x,hx=>by
  have hv:=ho v (List.mem_cons_self ..)
  have:=O0a r (k+1) (A.set v.toNat (k:Int)) (by simp[hA]) (fun w hw=>ho w (mC _ hw)) (fun y hy=>by
   rw[W05 hv.1 (by omega) hy]
   have:=h y hy
   split <;> omega) x hx
  rw[F02,List.length_cons,show k+(r.length+1)=k+1+r.length by omega];exact this
theorem J07 (n:Nat) (x:Int):getI (List.replicate n (-1)) x = -1:=by
 unfold getI
 rw[List.getD_eq_getElem?_getD,List.getElem?_replicate]
 split <;> rfl
theorem X05 {n:Nat} {o:List Int} (ho:inV n o) {x:Int} (hx:0≤x) : -1≤getI (plc n o) x∧getI (plc n o) x<(o.length:Int):=by
 have:=O0a o 0 (List.replicate n (-1)) (by simp) ho (fun x hx=>by rw[J07];omega) x hx
 rw[Nat.zero_add]at this;exact this
theorem m0m (n:Nat) (o:List Int):(plc n o).length=n:=by unfold plc;rw[i0f];simp
def pE (P:List Int):List K0→List K0
 | []=>[]
 |e::r=>bif decide (0≤getI P e.1)&&decide (0≤getI P e.2.2)then(getI P e.1,e.2.1,getI P e.2.2)::pE P r else pE P r
theorem W0h (P:List Int):∀ es,(pE P es).length≤es.length
 | []=>by simp[pE]
 |e::r=>by
  have:=W0h P r
  unfold pE
  cases decide (0≤getI P e.1)&&decide (0≤getI P e.2.2) <;> simp only[cond_true,cond_false,List.length_cons] <;> omega
theorem J0q {n:Nat} {o:List Int} (ho:inV n o):∀(es:List K0),inN n es→inN o.length (pE (plc n o) es)
 | [],hn=>fun e he=>nomatch he
 |e::r,hn=>by
  have hr:=J0q ho r fun e he=>hn e (mC _ he)
  have he:=hn e (List.mem_cons_self ..)
  unfold pE
  cases hb:decide (0≤getI (plc n o) e.1)&&decide (0≤getI (plc n o) e.2.2)
  ·simpa only[cond_false] using hr
  ·simp only[cond_true]
   simp only[Bool.and_eq_true,decide_eq_true_eq]at hb
   intro e' he'
   rcases List.mem_cons.1 he' with rfl|he'
   ·exact⟨⟨hb.1,(X05 ho he.1.1).2⟩,hb.2,(X05 ho he.2.1).2⟩
   ·exact hr e' he'
def m01 (g:l0) (o:List Int):l0:=(g.1,(o.length:Int),F5 U0 [] (pE (plc g.2.1.toNat o) g.2.2))
theorem A03:∀(r l:List K0),(F5 U0 l r).length≤l.length+r.length
 | [],l=>by simp[F5]
 |e::r,l=>by have:=A03 r (n9 U0 e l);have:=f04 e l;simp only[F5,List.length_cons];omega
theorem f0l (g:l0) (o:List Int):(m01 g o).2.2.length≤g.2.2.length:=by
 have:=A03 (pE (plc g.2.1.toNat o) g.2.2) []
 have:=W0h (plc g.2.1.toNat o) g.2.2
 simp only[m01,List.length_nil]at *;omega
theorem y0n {n:Nat} {r:Int} {es:List K0} {o:List Int} (ho:inV n o) (hn:inN n es):inN o.length (m01 (r,(n:Int),es) o).2.2:=by
 intro e he
 simp only[m01,Int.toNat_natCast]at he
 rcases(L00 p7 e _ _).1 he with h|h
 ·cases h
 ·exact J0q ho es hn e h
theorem n0m (n:Nat) (hn:n≤140737488355328):∀(d k fuel:Nat),k+d=n→d<fuel →
  s9 n fuel (k:Int) (List.replicate k (-1)++List.replicate d 0)=some (List.replicate n (-1))
 |d,k,0,hd,hf=>by omega
 |0,k,fuel+1,hd,hf=>by
  rw[s9.eq_2,if_neg (by simp;omega),show k=n by omega];simp
 |d+1,k,fuel+1,hd,hf=>by
  have hg:gi (List.replicate k (-1)++List.replicate (d+1) (0:Int)) (k:Int)=some 0:=by
   rw[Y0b,List.getElem?_append_right (by simp)];simp
  have ih:=n0m n hn d (k+1) fuel (by omega) (by omega)
  rw[s9.eq_2,if_pos (by simp;omega),hg,oB,L1 (show k<n by omega) (by omega),Int.toNat_natCast]
  have e:(List.replicate k (-1)++List.replicate (d+1) (0:Int)).set k (-1)=List.replicate (k+1) (-1)++List.replicate d 0:=by
   rw[List.set_append_right _ _ (by simp),List.length_replicate,Nat.sub_self,List.replicate_succ,List.set_cons_zero,List.replicate_succ']
   simp
  rw[e,ih]
theorem o0m (o:List Int) {n:Nat} (ho:inV n o) (hl:o.length≤9223372036854775807):∀(d k fuel:Nat) (A:List Int),A.length=n→k+d=o.length→d<fuel →
  r9 o fuel (k:Int) A=some (F02 A k (o.drop k))
 |d,k,0,A,hA,hd,hf=>by omega
 |0,k,fuel+1,A,hA,hd,hf=>by
  rw[r9.eq_2,if_neg (by simp;omega),Z0 (by omega)];rfl
 |d+1,k,fuel+1,A,hA,hd,hf=>by
  have hk:k<o.length:=by omega
  have hx:=Z3 hk
  have hin:=ho _ (List.mem_of_getElem? hx)
  generalize o[k]=v at hx hin
  have ih:=o0m o ho hl d (k+1) fuel (A.set v.toNat (k:Int)) (by simp[hA]) (by omega) (by omega)
  rw[r9.eq_2,if_pos (by simp;omega),F1 hx,D2 hx,oB,giI hA hin.1 hin.2,oB,L1 hk hl,ih]
  rfl
theorem p0m (es:List K0) {n:Nat} (hn:inN n es) (hl:es.length≤1099511627776) (P:List Int) (hP:P.length=n) (r m:Int):∀(d k fuel:Nat) (acc:List K0),k+d=es.length→d<fuel→acc.length≤k →
  L8 es P fuel (k:Int) r m acc=some (r,m,acc++pE P (es.drop k))
 |d,k,0,acc,hd,hf,ha=>by omega
 |0,k,fuel+1,acc,hd,hf,ha=>by
  rw[L8.eq_2,if_neg (by simp;omega),Z0 (by omega)];simp[pE]
 |d+1,k,fuel+1,acc,hd,hf,ha=>by
  have hk:k<es.length:=by omega
  have he:=Z3 hk
  have hin:=hn _ (List.mem_of_getElem? he)
  generalize es[k]=e at he hin
  obtain⟨a,l,b⟩:=e
  have ih:=fun acc' h=>p0m es hn hl P hP r m d (k+1) fuel acc' (by omega) (by omega) h
  rw[L8.eq_2,if_pos (by simp;omega),F1 he]
  simp only[D2 he,oB,giI hP hin.1.1 hin.1.2,giI hP hin.2.1 hin.2.2,L1 hk (show es.length≤9223372036854775807 by omega),pE]
  by_cases c1:0≤getI P a
  ·simp only[show decide (getI P a ≥ 0)=true by simpa using c1,O2,oB,cond_true,show decide (0≤getI P a)=true by simpa using c1,Bool.true_and]
   by_cases c2:0≤getI P b
   ·rw[if_pos (by simpa using c2),C0 (by simp;omega),oB,ih _ (by simp;omega)]
    simp[c2]
   ·rw[if_neg (by simpa using c2),ih _ (by omega)]
    simp[c2]
  ·simp only[show decide (getI P a ≥ 0)=false by simpa using c1,L5,oB,cond_false,show decide (0≤getI P a)=false by simpa using c1,Bool.false_and]
   rw[if_neg (by simp),ih _ (by omega)]
theorem M0o (r:Int) (n:Nat) (es:List K0) (o:List Int) (hn:inN n es) (ho:inV n o) (hn2:n≤1000000) (hl:es.length≤1099511627776) (hl2:o.length≤1099511627776) :
  r02 (r,(n:Int),es) o=some (m01 (r,(n:Int),es) o):=by
 unfold r02
 have h2:=n0m n (by omega) n 0 N0 (by omega) (W0 (by omega))
 have h1:=o0m o ho (by omega) o.length 0 N0 (List.replicate n (-1)) (by simp) (by omega) (W0 (by omega))
 have h0:=p0m es hn hl (plc n o) (m0m n o) r ((o.length:Nat):Int) es.length 0 N0 [] (by omega) (W0 (by omega)) (Nat.le_refl _)
 rw[show((0:Nat):Int)=0 from rfl]at h0 h1 h2
 rw[List.replicate_zero,List.nil_append]at h2
 rw[List.drop_zero]at h1
 rw[List.drop_zero,List.nil_append]at h0
 simp only[Int.toNat_natCast]
 rw[C0 (by omega),oB,oB,List.length_replicate,C0 (by omega),oB,h2,oB,h1,oB]
 rw[show F02 (List.replicate n (-1)) 0 o=plc n o from rfl,h0]
 simp only[oB]
 rw[M0a _ (by have:=W0h (plc n o) es;omega),oB]
 rfl
theorem N0o (A:List Int) (i k:Nat):(A.map (·+1)).set i (((k+1:Nat):Int))=(A.set i (k:Int)).map (·+1):=by
 rw[List.map_set];rfl
theorem j0f {A:List Int} {n:Nat} (hA:A.length=n) {x:Int} (h0:0≤x) (h1:x<n):gi (A.map (·+1)) x=some (getI A x+1):=by
 have hk:x.toNat<A.length:=by omega
 have e:x=((x.toNat:Nat):Int):=by omega
 have h2:gi (A.map (·+1)) ((x.toNat:Nat):Int)=some (getI A x+1):=by
  rw[Y0b,List.getElem?_map,List.getElem?_eq_getElem hk]
  unfold getI
  rw[List.getD_eq_getElem?_getD,List.getElem?_eq_getElem hk];rfl
 rw[←e]at h2;exact h2
theorem O0o (r:Int) (n:Nat) (es:List K0) (o:List Int) (ho:inV n o) (hd':o.Nodup) (hn2:1≤n∧n≤1000000) (hl:o.length≤1099511627776):∀(d k fuel:Nat) (A:List Int),A.length=n→(∀ x,0≤x → -1≤getI A x∧getI A x≤1099511627776)→(∀ x∈o.drop k,getI A x = -1)→k+d=o.length→d<fuel →
  N4 o (n:Int) r es fuel (k:Int) (A.map (·+1))=some (.inr ((F02 A k (o.drop k)).map (·+1)))
 |d,k,0,A,hA,hr,hm,hd,hf=>by omega
 |0,k,fuel+1,A,hA,hr,hm,hd,hf=>by
  rw[N4.eq_2,if_neg (by simp;omega),Z0 (by omega)];rfl
 |d+1,k,fuel+1,A,hA,hr,hm,hd,hf=>by
  have hk:k<o.length:=by omega
  have hx:=Z3 hk
  have hin:=ho _ (List.mem_of_getElem? hx)
  have hdr:=F1 hx
  generalize o[k]=v at hx hin hdr
  have hnd:(o.drop k).Nodup:=hd'.sublist (List.drop_sublist _ _)
  rw[hdr]at hnd hm
  have hA0:=hm v (List.mem_cons_self ..)
  have ih:=O0o r n es o ho hd' hn2 hl d (k+1) fuel (A.set v.toNat (k:Int)) (by simp[hA]) (fun x hx=>by
   rw[W05 hin.1 (by omega) hx];have:=hr x hx;split <;> omega) (fun x hx=>by
   have hx0:=ho x (List.mem_of_mem_drop hx)
   rw[W05 hin.1 (by omega) hx0.1,if_neg (fun e=>(List.nodup_cons.1 hnd).1 (by rw[←e];exact hx))]
   exact hm x (mC _ hx)) (by omega) (by omega)
  rw[N4.eq_2,if_pos (by simp;omega),hdr,D2 hx]
  simp only[oB,h03,w64 (show -9223372036854775808≤(n:Int)-1 by omega) (show(n:Int)-1≤9223372036854775807 by omega),inR,show decide (0≤v)=true by simpa using hin.1,show decide (v≤(n:Int)-1)=true by simp;omega,Bool.and_self,Bool.not_true,Bool.not_false,O2,j0f hA hin.1 hin.2,hA0,cond_false]
  rw[if_neg (by decide),L1 hk (by omega),N0o,ih]
  rfl
theorem P0o (es:List K0) {n:Nat} (hn:inN n es) (hl:es.length≤1099511627776) (P:List Int) (hP:P.length=n) (hr:∀ x,0≤x → -1≤getI P x∧getI P x≤1099511627776) (r m:Int):∀(d k fuel:Nat) (acc:List K0),k+d=es.length→d<fuel→acc.length≤k →
  V3 es (P.map (·+1)) fuel (k:Int) r m acc=some (r,m,F5 U0 acc (pE P (es.drop k)))
 |d,k,0,acc,hd,hf,ha=>by omega
 |0,k,fuel+1,acc,hd,hf,ha=>by
  rw[V3.eq_2,if_neg (by simp;omega),Z0 (by omega)];rfl
 |d+1,k,fuel+1,acc,hd,hf,ha=>by
  have hk:k<es.length:=by omega
  have he:=Z3 hk
  have hin:=hn _ (List.mem_of_getElem? he)
  generalize es[k]=e at he hin
  obtain⟨a,l,b⟩:=e
  have ih:=fun acc' h=>P0o es hn hl P hP hr r m d (k+1) fuel acc' (by omega) (by omega) h
  have ra:=hr a hin.1.1
  have rb:=hr b hin.2.1
  rw[V3.eq_2,if_pos (by simp;omega),F1 he]
  simp only[D2 he,oB,j0f hP hin.1.1 hin.1.2,j0f hP hin.2.1 hin.2.2,L1 hk (show es.length≤9223372036854775807 by omega),pE]
  by_cases c1:0≤getI P a
  ·simp only[show decide (getI P a+1>0)=true by simp;omega,O2,oB,cond_true,show decide (0≤getI P a)=true by simpa using c1,Bool.true_and]
   by_cases c2:0≤getI P b
   ·rw[if_pos (by simp;omega),w64 (by omega) (by omega),w64 (by omega) (by omega),show getI P a+1-1=getI P a by omega,show getI P b+1-1=getI P b by omega]
    rw[E06 _ _ (by omega),oB,ih _ (by have:=f04 (getI P a,l,getI P b) acc;omega)]
    simp[c2,F5]
   ·rw[if_neg (by simp;omega),ih _ (by omega)]
    simp[c2]
  ·simp only[show decide (getI P a+1>0)=false by simp;omega,L5,oB,cond_false,show decide (0≤getI P a)=false by simpa using c1,Bool.false_and]
   rw[if_neg (by simp),ih _ (by omega)]
theorem k0f (r:Int) (n:Nat) (es:List K0) (o:List Int) (hg:V0 (r,(n:Int),es)=true) (ho:inV n o) (hd:o.Nodup) (h1:1≤o.length) (h2:o.length≤n) :
  w7 (r,(n:Int),es) o=some (m01 (r,(n:Int),es) o,true):=by
 obtain⟨q1,q2,q3,q4⟩:=J2 hg
 simp only at q2 q3 q4
 have hn:inN n es:=fun e he=>⟨(q1 e he).1,(q1 e he).2.1⟩
 have hG:=g7 (r,(n:Int),es) (by simp only;omega)
 unfold w7
 have e1:=O0o r n es o ho hd (by omega) (by omega) o.length 0 N0 (List.replicate n (-1)) (by simp) (fun x hx=>by rw[J07];omega) (fun x hx=>J07 n x) (by omega) (W0 (by omega))
 have e0:=P0o es hn (by omega) (plc n o) (m0m n o) (fun x hx=>by have:=X05 ho hx;omega) r ((o.length:Nat):Int) es.length 0 N0 [] (by omega) (W0 (by omega)) (Nat.le_refl _)
 rw[show((0:Nat):Int)=0 from rfl,List.drop_zero]at e0 e1
 rw[show(List.replicate n (-1:Int)).map (·+1)=List.replicate n 0 by simp]at e1
 rw[show F02 (List.replicate n (-1)) 0 o=plc n o from rfl]at e1
 have c1:decide (((o.length:Nat):Int)=0)=false:=decide_eq_false (by omega)
 have c2:decide (((o.length:Nat):Int)>(n:Int))=false:=decide_eq_false (by omega)
 simp only[hG,hg,oB,Bool.not_true,cond_false,Int.toNat_natCast,c1,c2]
 rw[if_neg (by simp),C0 (by omega),oB,e1]
 simp only[oB,H6,e0]
 rfl
theorem q05:∀(n:Nat) (o:List Int),o.Nodup→inV n o→o.length≤n
 |0,[],_,_=>Nat.le_refl _
 |0,x::r,_,h=>by have:=h x (List.mem_cons_self ..);omega
 |n+1,o,hd,h=>by
  have h1:inV n (o.erase (n:Int)):=fun x hx=>by
   obtain⟨hne,hm⟩:=(List.Nodup.mem_erase_iff hd).1 hx
   have:=h x hm;omega
  have h2:=q05 n _ (hd.erase _) h1
  by_cases hm:(n:Int)∈o
  ·rw[List.length_erase_of_mem hm]at h2;omega
  ·rw[List.erase_of_not_mem hm]at h2;omega
def D01:Nat→Nat→List Int
 |0,_=>[]
 |d+1,i=>(i:Int) :: -(i:Int)::D01 d (i+1)
theorem Y05:∀ d i,(D01 d i).length=2*d
 |0,i=>rfl
 |d+1,i=>by simp only[D01,List.length_cons,Y05 d];omega
theorem X0h:∀(d i:Nat),i+d≤1000→∀ x∈D01 d i,S8 x
 |0,i,h,x,hx=>nomatch hx
 |d+1,i,h,x,hx=>by
  simp only[D01,List.mem_cons]at hx
  rcases hx with rfl|rfl|hx
  ·exact⟨⟨by omega,by omega⟩,by omega⟩
  ·exact⟨⟨by omega,by omega⟩,by omega⟩
  ·exact X0h d (i+1) (by omega) x hx
theorem Q0o (R:Nat) (hR:R≤900):∀(d i fuel:Nat) (acc:List Int),i+d=R+1→d<fuel→acc.length+2*d≤10000 →
  z7 (R:Int) fuel (i:Int) acc=some (acc++D01 d i)
 |d,i,0,acc,hd,hf,ha=>by omega
 |0,i,fuel+1,acc,hd,hf,ha=>by
  rw[z7.eq_2,if_neg (by simp;omega)];simp[D01]
 |d+1,i,fuel+1,acc,hd,hf,ha=>by
  have ih:=Q0o R hR d (i+1) fuel (acc ++ [(i:Int),-(i:Int)]) (by omega) (by omega) (by simp;omega)
  have w1:IntKind.i64.wrap (0-(i:Int)) = -(i:Int):=by rw[w64 (by omega) (by omega)];omega
  rw[z7.eq_2,if_pos (by simp;omega),w1,C0 (by simp;omega),oB,L1 (show i<1000 by omega) (by omega),ih]
  simp[D01]
theorem R0o (R:Nat) (hR:R≤900):∀(d i fuel:Nat) (acc:List Int),i+d=R+1→d<fuel→acc.length+2*d≤10000 →
  o6 (R:Int) fuel (i:Int) acc=some (acc++D01 d i)
 |d,i,0,acc,hd,hf,ha=>by omega
 |0,i,fuel+1,acc,hd,hf,ha=>by
  rw[o6.eq_2,if_neg (by simp;omega)];simp[D01]
 |d+1,i,fuel+1,acc,hd,hf,ha=>by
  have ih:=R0o R hR d (i+1) fuel ((acc ++ [(i:Int)]) ++ [-(i:Int)]) (by omega) (by omega) (by simp;omega)
  have w1:IntKind.i64.wrap (0-(i:Int)) = -(i:Int):=by rw[w64 (by omega) (by omega)];omega
  rw[o6.eq_2,if_pos (by simp;omega),w1,C0 (by simp;omega),oB,C0 (by simp;omega),oB,L1 (show i<1000 by omega) (by omega),ih]
  simp[D01]
theorem S0o (R:Nat) (hR:R≤900):L9 (R:Int)=some (D01 R 1):=by
 unfold L9
 rw[show(1:Int)=((1:Nat):Int) from rfl,Q0o R hR R 1 N0 [] (by omega) (W0 (by omega)) (by simp;omega)];rfl
theorem T0o (R:Nat) (hR:R≤900):E8 (R:Int)=some (D01 R 1):=by
 unfold E8
 rw[show(1:Int)=((1:Nat):Int) from rfl,R0o R hR R 1 N0 [] (by omega) (W0 (by omega)) (by simp;omega)];rfl
def l0f (u:List Int) (x:Int):List Int:=if 0≤x∧x ∉ u then u ++ [x]else u
def T06 (g:l0) (v:Int):List Int→List Int→List Int
 | [],u=>u
 |x::r,u=>T06 g v r (l0f u (J6 g v x))
def L03 (g:l0) (ls:List Int):Nat→Nat→List Int→List Int
 |0,i,u=>u
 |f+1,i,u=>match u[i]? with
  |some v=>L03 g ls f (i+1) (T06 g v ls u)
  |none=>u
def gud (n:Nat) (u:List Int):Prop:=u.Nodup∧inV n u
theorem U0o {n:Nat} {u:List Int} {x:Int} (h:gud n u) (hx:x = -1∨(0≤x∧x<(n:Int))):gud n (l0f u x):=by
 unfold l0f
 split
 ·rename_i hc
  refine⟨List.nodup_append.2 ⟨h.1,by simp,fun a ha b hb=>?_⟩,fun y hy=>?_⟩
  ·simp at hb;subst hb;exact fun e=>hc.2 (e▸ha)
  ·rcases List.mem_append.1 hy with hy|hy
   ·exact h.2 y hy
   ·simp at hy;subst hy;omega
 ·exact h
theorem y0j (u:List Int) (x:Int):∃ t,l0f u x=u++t:=by
 unfold l0f;split
 ·exact⟨_,rfl⟩
 ·exact⟨[],by simp⟩
theorem r08 (g:l0) (v:Int):∀(ls u:List Int),∃ t,T06 g v ls u=u++t
 | [],u=>⟨[],by simp[T06]⟩
 |x::r,u=>by
  obtain⟨t1,e1⟩:=y0j u (J6 g v x)
  obtain⟨t2,e2⟩:=r08 g v r (l0f u (J6 g v x))
  exact⟨t1++t2,by rw[T06,e2,e1,List.append_assoc]⟩
theorem s08 {r:Int} {n:Nat} {es:List K0} (hg:inG (r,(n:Int),es)) (v:Int):∀(ls u:List Int),gud n u→gud n (T06 (r,(n:Int),es) v ls u)
 | [],u,h=>h
 |x::l,u,h=>s08 hg v l _ (U0o h (U0d hg v x))
theorem m0f {r:Int} {n:Nat} {es:List K0} (hg:inG (r,(n:Int),es)) (ls:List Int):∀(f i:Nat) (u:List Int),gud n u→gud n (L03 (r,(n:Int),es) ls f i u)
 |0,i,u,h=>h
 |f+1,i,u,h=>by
  unfold L03
  split
  ·exact m0f hg ls f _ _ (s08 hg _ _ _ h)
  ·exact h
theorem n0f (g:l0) (ls:List Int):∀(f i:Nat) (u:List Int),u.length≤(L03 g ls f i u).length
 |0,i,u=>Nat.le_refl _
 |f+1,i,u=>by
  unfold L03
  split
  ·rename_i v _
   obtain⟨t,e⟩:=r08 g v ls u
   have:=n0f g ls f (i+1) (T06 g v ls u)
   rw[e]at this ⊢;simp only[List.length_append]at this;omega
  ·exact Nat.le_refl _
theorem q0m (r:Int) (n:Nat) (es:List K0) (hg:inG (r,(n:Int),es)) (hn:n≤40) (hes:es.length≤1099511627776) (ls:List Int) (hls:∀ x∈ls,S8 x) (hl:ls.length≤1000000) (i:Nat) (v:Int):∀(d k fuel:Nat) (u:List Int),gud n u→u[i]?=some v→k+d=ls.length→d<fuel →
  O3 ls (i:Int) r (n:Int) es fuel (k:Int) u=some (T06 (r,(n:Int),es) v (ls.drop k) u)
 |d,k,0,u,hu,hi,hd,hf=>by omega
 |0,k,fuel+1,u,hu,hi,hd,hf=>by
  rw[O3.eq_2,if_neg (by simp;omega),Z0 (by omega)];rfl
 |d+1,k,fuel+1,u,hu,hi,hd,hf=>by
  have hk:k<ls.length:=by omega
  have hx:=Z3 hk
  have hxm:=hls _ (List.mem_of_getElem? hx)
  have hdr:=F1 hx
  generalize ls[k]=x at hx hxm hdr
  have hlen:=q05 n u hu.1 hu.2
  have hnx:J6 (r,(n:Int),es) v x = -1∨(0≤J6 (r,(n:Int),es) v x∧J6 (r,(n:Int),es) v x<(n:Int)):=U0d hg v x
  have hg2:=U0o hu hnx
  have hi2:(l0f u (J6 (r,(n:Int),es) v x))[i]?=some v:=by
   obtain⟨t,e⟩:=y0j u (J6 (r,(n:Int),es) v x)
   rw[e,List.getElem?_append_left (List.getElem?_eq_some_iff.1 hi).1];exact hi
  have ih:=q0m r n es hg hn hes ls hls hl i v d (k+1) fuel _ hg2 hi2 (by omega) (by omega)
  rw[O3.eq_2,if_pos (by simp;omega),hdr]
  simp only[D2 hi,D2 hx,oB,t09 (r,(n:Int),es) v x hxm hes,C0 (C06 hg (show(n:Int)≤40 by omega) v x),L1 hk (show ls.length≤9223372036854775807 by omega),T06]
  rw[←ih]
  generalize J6 (r,(n:Int),es) v x=y at *
  unfold l0f
  by_cases c1:0≤y
  ·simp only[show decide (y ≥ 0)=true by simpa using c1,O2,V0d u y (by omega),oB,cond_true]
   by_cases c2:y∈u
   ·rw[if_neg (by simp[c2]),if_neg (by simp[c2])]
   ·rw[if_pos (by simp[c2]),if_pos ⟨c1,c2⟩,C0 (by simp;omega),oB]
  ·simp only[show decide (y ≥ 0)=false by simpa using c1,L5,oB,cond_false]
   rw[if_neg (by simp),if_neg (fun h=>c1 h.1)]
theorem r0m (r:Int) (n:Nat) (es:List K0) (hg:inG (r,(n:Int),es)) (hn:n≤40) (hes:es.length≤1099511627776) (ls:List Int) (hls:∀ x∈ls,S8 x) (hl:ls.length≤1000000):∀(f i fuel:Nat) (u:List Int),gud n u→i≤u.length→n+1≤i+f→f<fuel →
  s5 ls r (n:Int) es fuel (i:Int) u=some (L03 (r,(n:Int),es) ls f i u)
 |f,i,0,u,hu,hi,hd,hf=>by omega
 |0,i,fuel+1,u,hu,hi,hd,hf=>by have:=q05 n u hu.1 hu.2;omega
 |f+1,i,fuel+1,u,hu,hi,hd,hf=>by
  have hlen:=q05 n u hu.1 hu.2
  rw[s5.eq_2,oB,C0 (by omega),oB]
  by_cases hk:i<u.length
  ·have hx:=Z3 hk
   generalize u[i]=v at hx
   have h0:=q0m r n es hg hn hes ls hls hl i v ls.length 0 N0 u hu hx (by omega) (W0 (by omega))
   rw[show((0:Nat):Int)=0 from rfl,List.drop_zero]at h0
   obtain⟨t,e⟩:=r08 (r,(n:Int),es) v ls u
   have ih:=r0m r n es hg hn hes ls hls hl f (i+1) fuel _ (s08 hg v ls u hu) (by rw[e,List.length_append];omega) (by omega) (by omega)
   rw[if_pos (by simpa using hk),h0,oB,L1 hk (by omega),ih]
   simp only[L03,hx]
  ·have hx:u[i]?=none:=List.getElem?_eq_none (by omega)
   rw[if_neg (by simpa using hk)]
   simp only[L03,hx]
def h02 (g:l0):List Int:=L03 g (D01 g.1.toNat 1) (g.2.1.toNat+1) 0 [0]
theorem t08 {g:l0} (hf:Y0 g=true):gud g.2.1.toNat (h02 g)∧1≤(h02 g).length:=by
 obtain⟨h1,h2,h3,h4⟩:=A5 hf
 obtain⟨r,n,es⟩:=g
 simp only at h2 h3 h4
 obtain⟨N,rfl⟩:∃ N:Nat,n=(N:Int):=⟨n.toNat,by omega⟩
 refine⟨?_,?_⟩
 ·exact m0f h1 _ _ _ _ ⟨by simp,fun x hx=>by simp at hx;subst hx;show(0:Int)≤0∧(0:Int)<(((N:Int).toNat:Nat):Int);omega⟩
 ·exact n0f _ _ _ _ [0]
theorem z0j (g:l0) (hf:Y0 g=true):r8 g=some (h02 g):=by
 obtain⟨h1,h2,h3,h4⟩:=A5 hf
 have hF:=y00 g (by omega)
 obtain⟨r,n,es⟩:=g
 simp only at h2 h3 h4
 obtain⟨N,rfl⟩:∃ N:Nat,n=(N:Int):=⟨n.toNat,by omega⟩
 obtain⟨R,rfl⟩:∃ R:Nat,r=(R:Int):=⟨r.toNat,by omega⟩
 unfold r8
 have h0:=r0m (R:Int) N es h1 (by omega) (by omega) (D01 R 1) (X0h R 1 (by omega)) (by rw[Y05];omega) (N+1) 0 N0 [0] ⟨by simp,fun x hx=>by simp at hx;subst hx;omega⟩ (by simp) (by omega) (W0 (by omega))
 simp only[hF,hf,oB,Bool.not_true,T0o R (by omega)]
 rw[show((0:Nat):Int)=0 from rfl]at h0
 rw[if_neg (by simp),h0]
 rfl
theorem c0q {a:List Int} (la:a.length≤1099511627776):o8 a=some a:=by
 unfold o8
 rw[C0 (by simp;omega)];rfl
def Z05 (W:List (Option (List Int))) (x:Int):Option (List Int):=W.getD x.toNat none
theorem giO {W:List (Option (List Int))} {n:Nat} (hl:W.length=n) {x:Int} (h0:0≤x) (h1:x<n):gi W x=some (Z05 W x):=by
 have hk:x.toNat<W.length:=by omega
 have e:x=((x.toNat:Nat):Int):=by omega
 have h2:gi W ((x.toNat:Nat):Int)=some (Z05 W x):=by
  rw[Y0b,List.getElem?_eq_getElem hk]
  unfold Z05
  rw[List.getD_eq_getElem?_getD,List.getElem?_eq_getElem hk];rfl
 rw[←e]at h2;exact h2
theorem a06 {A:List (Option (List Int))} {v x:Int} {y:Option (List Int)} (h0:0≤v) (h1:v.toNat<A.length) (hx:0≤x):Z05 (A.set v.toNat y) x=if x=v then y else Z05 A x:=by
 unfold Z05
 rw[List.getD_eq_getElem?_getD,List.getD_eq_getElem?_getD,List.getElem?_set]
 by_cases c:x=v
 ·rw[if_pos c,if_pos (by rw[c]),if_pos h1];rfl
 ·rw[if_neg c,if_neg (by omega)]
structure WOk (n:Nat) (W:List (Option (List Int))) (u:List Int):Prop where
 len:W.length=n
 iff:∀ x,0≤x→x<(n:Int)→((Z05 W x).isNone=true↔x ∉ u)
 short:∀ x,((Z05 W x).getD []).length≤u.length
theorem s0m (r:Int) (n:Nat) (es:List K0) (hg:inG (r,(n:Int),es)) (hn:n≤40) (hes:es.length≤1099511627776) (ls:List Int) (hls:∀ x∈ls,S8 x) (hl:ls.length≤1000000) (v:Int) (hv:0≤v∧v<(n:Int)):∀(d k fuel:Nat) (W:List (Option (List Int))) (u:List Int),gud n u→WOk n W u→k+d=ls.length→d<fuel →
  ∃ W',o5 ls r (n:Int) es v fuel (k:Int) W u=some (W',T06 (r,(n:Int),es) v (ls.drop k) u)∧WOk n W' (T06 (r,(n:Int),es) v (ls.drop k) u)
 |d,k,0,W,u,hu,hw,hd,hf=>by omega
 |0,k,fuel+1,W,u,hu,hw,hd,hf=>by
  rw[o5.eq_2,if_neg (by simp;omega),Z0 (by omega)];exact⟨W,rfl,hw⟩
 |d+1,k,fuel+1,W,u,hu,hw,hd,hf=>by
  have hk:k<ls.length:=by omega
  have hx:=Z3 hk
  have hxm:=hls _ (List.mem_of_getElem? hx)
  have hdr:=F1 hx
  generalize ls[k]=x at hx hxm hdr
  have hlen:=q05 n u hu.1 hu.2
  have hnx:J6 (r,(n:Int),es) v x = -1∨(0≤J6 (r,(n:Int),es) v x∧J6 (r,(n:Int),es) v x<(n:Int)):=U0d hg v x
  have hg2:=U0o hu hnx
  have ih:=fun W' h=>s0m r n es hg hn hes ls hls hl v hv d (k+1) fuel W' _ hg2 h (by omega) (by omega)
  rw[o5.eq_2,if_pos (by simp;omega),hdr]
  simp only[D2 hx,oB,u09 (r,(n:Int),es) v x hxm hes,C0 (C06 hg (show(n:Int)≤40 by omega) v x),L1 hk (show ls.length≤9223372036854775807 by omega),T06]
  generalize J6 (r,(n:Int),es) v x=y at *
  by_cases c1:0≤y
  ·have hy:y<(n:Int):=by omega
   simp only[show decide (y ≥ 0)=true by simpa using c1,O2,giO hw.len c1 hy,oB,cond_true]
   by_cases c2:y∈u
   ·have : ¬ ((Z05 W y).isNone=true):=fun h=>(hw.iff y c1 hy).1 h c2
    have e:l0f u y=u:=if_neg fun h=>h.2 c2
    rw[if_neg this]
    rw[e]at ih ⊢
    exact ih W hw
   ·have:(Z05 W y).isNone=true:=(hw.iff y c1 hy).2 c2
    have e:l0f u y=u ++ [y]:=if_pos ⟨c1,c2⟩
    have hs:=hw.short v
    rw[if_pos this,giO hw.len hv.1 hv.2,oB,c0q (by omega),oB,C0 (by simp;omega),oB,C0 (by simp;omega),oB]
    rw[e]at ih ⊢
    refine ih _ ⟨by simp[hw.len],fun z h0 h1=>?_,fun z=>?_⟩
    ·rw[a06 c1 (by have:=hw.len;omega) h0]
     by_cases c:z=y
     ·rw[if_pos c];simp[c]
     ·rw[if_neg c,hw.iff z h0 h1];simp[c]
    ·by_cases hz:0≤z
     ·rw[a06 c1 (by have:=hw.len;omega) hz]
      by_cases c:z=y
      ·rw[if_pos c];simp;exact hs
      ·rw[if_neg c];have:=hw.short z;simp only[List.length_append];omega
     ·have hz0:Z05 (W.set y.toNat (some ((Z05 W v).getD [] ++ [x]))) z=Z05 (W.set y.toNat (some ((Z05 W v).getD [] ++ [x]))) 0:=by
       unfold Z05;rw[show z.toNat=(0:Int).toNat by omega]
      rw[hz0,a06 c1 (by have:=hw.len;omega) (Int.le_refl 0)]
      by_cases c:(0:Int)=y
      ·rw[if_pos c];simp;exact hs
      ·rw[if_neg c];have:=hw.short 0;simp only[List.length_append];omega
  ·have e:l0f u y=u:=if_neg fun h=>c1 h.1
   simp only[show decide (y ≥ 0)=false by simpa using c1,L5,oB,cond_false]
   rw[if_neg (by simp)]
   rw[e]at ih ⊢
   exact ih W hw
theorem t0m (R n:Nat) (hR:R≤900) (es:List K0) (hg:inG ((R:Int),(n:Int),es)) (hn:n≤40) (hes:es.length≤1099511627776):∀(f i fuel:Nat) (W:List (Option (List Int))) (u:List Int),gud n u→WOk n W u→i≤u.length→n+1≤i+f→f<fuel →
  ∃ W',K6 (R:Int) (n:Int) es fuel (i:Int) W u=some (W',L03 ((R:Int),(n:Int),es) (D01 R 1) f i u)
 |f,i,0,W,u,hu,hw,hi,hd,hf=>by omega
 |0,i,fuel+1,W,u,hu,hw,hi,hd,hf=>by have:=q05 n u hu.1 hu.2;omega
 |f+1,i,fuel+1,W,u,hu,hw,hi,hd,hf=>by
  have hlen:=q05 n u hu.1 hu.2
  rw[K6.eq_2,oB,C0 (by omega),oB]
  by_cases hk:i<u.length
  ·have hx:=Z3 hk
   have hv:=hu.2 _ (List.mem_of_getElem? hx)
   generalize u[i]=v at hx hv
   obtain⟨W1,h0,hw1⟩:=s0m (R:Int) n es hg hn hes (D01 R 1) (X0h R 1 (by omega)) (by rw[Y05];omega) v hv (D01 R 1).length 0 N0 W u hu hw (by omega) (W0 (by rw[Y05];omega))
   rw[show((0:Nat):Int)=0 from rfl,List.drop_zero]at h0
   rw[List.drop_zero]at hw1
   obtain⟨t,e⟩:=r08 ((R:Int),(n:Int),es) v (D01 R 1) u
   obtain⟨W2,ih⟩:=t0m R n hR es hg hn hes f (i+1) fuel W1 _ (s08 hg v _ u hu) hw1 (by rw[e,List.length_append];omega) (by omega) (by omega)
   rw[if_pos (by simpa using hk),D2 hx,oB,S0o R hR,oB,h0,oB]
   simp only[L1 hk (show u.length≤9223372036854775807 by omega),ih,L03,hx]
   exact⟨_,rfl⟩
  ·have hx:u[i]?=none:=List.getElem?_eq_none (by omega)
   rw[if_neg (by simpa using hk)]
   simp only[L03,hx]
   exact⟨_,rfl⟩
theorem A0j (g:l0) (hf:Y0 g=true):t8 g=some (h02 g):=by
 obtain⟨h1,h2,h3,h4⟩:=A5 hf
 have hF:=B01 g (by omega)
 obtain⟨r,n,es⟩:=g
 simp only at h2 h3 h4
 obtain⟨N,rfl⟩:∃ N:Nat,n=(N:Int):=⟨n.toNat,by omega⟩
 obtain⟨R,rfl⟩:∃ R:Nat,r=(R:Int):=⟨r.toNat,by omega⟩
 unfold t8
 have hrep:∀ x,Z05 (List.replicate N (none:Option (List Int))) x=none:=fun x=>by
  unfold Z05
  rw[List.getD_eq_getElem?_getD,List.getElem?_replicate];split <;> rfl
 have hW:WOk N ((List.replicate N (none:Option (List Int))).set (0:Int).toNat (some [])) [0]:=by
  refine⟨by simp,fun x h0 h1=>?_,fun x=>?_⟩
  ·rw[a06 (Int.le_refl 0) (by simp;omega) h0]
   by_cases c:x=0
   ·rw[if_pos c];simp[c]
   ·rw[if_neg c,hrep];simp[c]
  ·by_cases hz:0≤x
   ·rw[a06 (Int.le_refl 0) (by simp;omega) hz]
    split
    ·simp
    ·rw[hrep];simp
   ·have:Z05 ((List.replicate N (none:Option (List Int))).set (0:Int).toNat (some [])) x=Z05 ((List.replicate N (none:Option (List Int))).set (0:Int).toNat (some [])) 0:=by
     unfold Z05;rw[show x.toNat=(0:Int).toNat by omega]
    rw[this,a06 (Int.le_refl 0) (by simp;omega) (Int.le_refl 0),if_pos rfl];simp
 obtain⟨W',h0⟩:=t0m R N (by omega) es h1 (by omega) (by omega) (N+1) 0 N0 _ [0] ⟨by simp,fun x hx=>by simp at hx;subst hx;omega⟩ hW (by simp) (by omega) (W0 (by omega))
 have hg0:gi (List.replicate N (none:Option (List Int))) 0=some none:=by
  rw[p05 (x:=none)];rw[List.getElem?_replicate,if_pos (by omega)]
 simp only[hF,hf,oB,Bool.not_true,o01,Int.toNat_natCast]
 rw[if_neg (by simp),C0 (by omega),oB,hg0,oB]
 rw[show((0:Nat):Int)=0 from rfl]at h0
 rw[h0]
 rfl
def Y0h (g:l0):l0:=m01 g (h02 g)
theorem B0j (g:l0) (hf:Y0 g=true):w8 g=some (Y0h g):=by
 obtain⟨h1,h2,h3,h4⟩:=A5 hf
 have hF:=B01 g (by omega)
 have hO:=A0j g hf
 obtain⟨ho,ho1⟩:=t08 hf
 have hle:=q05 _ _ ho.1 ho.2
 obtain⟨r,n,es⟩:=g
 simp only at h2 h3 h4
 obtain⟨N,rfl⟩:∃ N:Nat,n=(N:Int):=⟨n.toNat,by omega⟩
 simp only[Int.toNat_natCast]at ho hle
 have hp:=M0o r N es (h02 (r,(N:Int),es)) (fun e he=>⟨(h1 e he).1,(h1 e he).2.1⟩) ho.2 (by omega) (by omega) (by omega)
 unfold w8
 simp only[hF,hf,oB,Bool.not_true,hO,hp]
 rfl
theorem C0j (g:l0) (hf:Y0 g=true):s8 g=some (Y0h g):=by
 obtain⟨h1,h2,h3,h4⟩:=A5 hf
 have hG:V0 g=true:=by
  unfold Y0 at hf;exact(Bool.and_eq_true _ _▸hf).1
 have hO:=z0j g hf
 obtain⟨ho,ho1⟩:=t08 hf
 have hle:=q05 _ _ ho.1 ho.2
 obtain⟨r,n,es⟩:=g
 simp only at h2 h3 h4
 obtain⟨N,rfl⟩:∃ N:Nat,n=(N:Int):=⟨n.toNat,by omega⟩
 simp only[Int.toNat_natCast]at ho hle
 have hp:=k0f r N es (h02 (r,(N:Int),es)) hG ho.2 ho.1 ho1 hle
 unfold s8
 simp only[oB,hO,hp]
 rw[if_neg (by simp;intro h;rw[h]at ho1;simp at ho1)]
 rfl
def lf (bad:Nat→Bool):Nat→Nat→Option Nat
 |0,v=>none
 |d+1,v=>bif bad v then some v else lf bad d (v+1)
theorem o0f {bad:Nat→Bool}:∀(d v k:Nat),lf bad d v=some k→v≤k∧k<v+d
 |0,v,k,h=>by cases h
 |d+1,v,k,h=>by
  unfold lf at h
  cases hb:bad v
  ·rw[hb]at h;have:=o0f d (v+1) k h;omega
  ·rw[hb]at h;cases h;omega
theorem D0j {b1 b2:Nat→Bool}:∀(d v:Nat),(∀ k,v≤k→k<v+d→b1 k=b2 k)→lf b1 d v=lf b2 d v
 |0,v,h=>rfl
 |d+1,v,h=>by unfold lf;rw[h v (Nat.le_refl _) (by omega),D0j d (v+1) fun k h1 h2=>h k (by omega) (by omega)]
def z0n (es:List K0):List Int:=itS es (es.length+1) [0]
def g0l (es:List K0) (v:Nat):Bool:=decide (D06 (v:Int) es<2) || !decide ((v:Int)∈z0n es)
def r05 (g:l0):Option Nat:=lf (g0l g.2.2) (g.2.1.toNat-1) 1
theorem h0l (g:l0) (hg:V0 g=true):K9 g 0=some (z0n g.2.2)∧(z0n g.2.2).length≤100000:=by
 obtain⟨h1,h2,h3,h4⟩:=J2 hg
 have hq:=g7 g (by omega)
 obtain⟨r,n,es⟩:=g
 simp only at h2 h3 h4
 unfold K9 z0n
 have hl:=h0f es h4 (es.length+1) 0 N0 [0] (by omega) (W0 (by omega)) (by simp)
 have hlen:=j0m es (es.length+1) [0]
 refine⟨?_,?_⟩
 ·rw[show((0:Nat):Int)=0 from rfl]at hl
  simp only[hq,hg,oB,Bool.not_true,Bool.not_false,O2,h03,inR,w64 (show -9223372036854775808≤n-1 by omega) (show n-1≤9223372036854775807 by omega)]
  rw[if_neg (by simp;omega),hl];rfl
 ·have:(es.length+1)*(2*es.length)≤121*240:=Nat.mul_le_mul (by omega) (by omega)
  simp only[List.length_singleton]at hlen
  simp only
  omega
theorem V0o (r:Int) (n:Nat) (es:List K0) (hes:es.length≤1000) (u:List Int) (hu:u.length≤100000) (hn:n≤40):∀(d v fuel:Nat),v+d=n∨(d=0∧n≤v)→v≤1000→d<fuel →
  n8 (n:Int) r es u fuel (v:Int)=some (match lf (fun v=>decide (D06 (v:Int) es<2) || !decide ((v:Int)∈u)) d v with|some k => .inl (k:Int)|none => .inr ())
 |d,v,0,hd,hv,hf=>by omega
 |0,v,fuel+1,hd,hv,hf=>by
  rw[n8.eq_2,if_neg (by simp;omega)];rfl
 |d+1,v,fuel+1,hd,hv,hf=>by
  have ih:=V0o r n es hes u hu hn d (v+1) fuel (by omega) (by omega) (by omega)
  have hdeg:=T0h (v:Int) es
  rw[n8.eq_2,if_pos (by simp;omega),O0g (r,(n:Int),es) _ (by simp only;omega),oB,C0 (c64 (by simp only;omega) (by simp only;omega)),oB,L1 (show v<10000 by omega) (by omega)]
  unfold lf
  by_cases c1:D06 (v:Int) es<2
  ·have e1:decide (((D06 (v:Int) es:Nat):Int)<2)=true:=decide_eq_true (by omega)
   simp only[e1,Bool.not_true,L5,oB,cond_true,if_true,decide_eq_true c1,Bool.true_or]
  ·have e1:decide (((D06 (v:Int) es:Nat):Int)<2)=false:=decide_eq_false (by omega)
   simp only[e1,Bool.not_false,O2,V0d u _ (show u.length≤9223372036854775807 by omega),oB,cond_false,decide_eq_false c1,Bool.false_or]
   by_cases c2:(v:Int)∈u
   ·simp only[decide_eq_true c2,Bool.not_true,Bool.false_eq_true,if_false,cond_false];exact ih
   ·simp only[decide_eq_false c2,Bool.not_false,if_true,cond_true]
theorem k0r (g:l0) (hg:V0 g=true):c02 g=some (match r05 g with|some k=>(k:Int)|none => -1):=by
 obtain⟨e1,e2⟩:=h0l g hg
 obtain⟨h1,h2,h3,h4⟩:=J2 hg
 obtain⟨r,n,es⟩:=g
 simp only at h2 h3 h4 e1 e2
 obtain⟨N,rfl⟩:∃ N:Nat,n=(N:Int):=⟨n.toNat,by omega⟩
 unfold c02 r05
 have hl:=V0o r N es (by omega) (z0n es) e2 (by omega) (N-1) 1 N0 (by omega) (by omega) (W0 (by omega))
 simp only[e1,oB,Int.toNat_natCast]
 rw[show(1:Int)=((1:Nat):Int) from rfl,hl]
 rw[show(fun v:Nat=>decide (D06 (v:Int) es<2) || !decide ((v:Int)∈z0n es))=g0l es from rfl]
 cases lf (g0l es) (N-1) 1 <;> rfl
theorem u0m (r:Int) (n:Nat) (es:List K0) (hes:es.length≤1000) (S:List Bool) (hS:S.length=n) (hn:n≤40):∀(d v fuel:Nat),1≤v→v+d=n∨(d=0∧n≤v)→v≤1000→d+1<fuel →
  l4 (n:Int) r es S fuel 0 (v:Int)=some (match lf (fun v=>decide (D06 (v:Int) es<2) || !a00 S (v:Int)) d v with|some k=>(k:Int)|none=>0)
 |d,v,0,h1,hd,hv,hf=>by omega
 |0,v,fuel+1,h1,hd,hv,hf=>by
  have e:decide ((v:Int)<(n:Int))=false:=decide_eq_false (by omega)
  rw[l4.eq_2,if_neg (by rw[e];simp)];rfl
 |d+1,v,fuel+1,h1,hd,hv,hf=>by
  have ih:=u0m r n es hes S hS hn d (v+1) fuel (by omega) (by omega) (by omega) (by omega)
  have hdeg:=T0h (v:Int) es
  have e:decide ((v:Int)<(n:Int))=true:=decide_eq_true (by omega)
  have hfin:∀ w:Int,l4 (n:Int) r es S fuel (v:Int) w=some (v:Int):=fun w=>by
   obtain _|fuel:=fuel
   ·omega
   ·have e2:decide ((v:Int)=0)=false:=decide_eq_false (by omega)
    have e3:∀ b:Bool,(bif b then false else false)=false:=fun b=>by cases b <;> rfl
    rw[l4.eq_2,if_neg (by rw[e2,e3];simp)]
  rw[l4.eq_2,if_pos (by rw[e];rfl),x0n (r,(n:Int),es) _ (by simp only;omega),oB,C0 (c64 (by simp only;omega) (by simp only;omega)),oB,L1 (show v<10000 by omega) (by omega)]
  unfold lf
  by_cases c1:D06 (v:Int) es<2
  ·have e1:decide (((D06 (v:Int) es:Nat):Int)<2)=true:=decide_eq_true (by omega)
   simp only[e1,Bool.not_true,L5,oB,cond_true,if_true,decide_eq_true c1,Bool.true_or,hfin]
  ·have e1:decide (((D06 (v:Int) es:Nat):Int)<2)=false:=decide_eq_false (by omega)
   simp only[e1,Bool.not_false,O2,giB hS (show(0:Int)≤(v:Int) by omega) (show(v:Int)<(n:Int) by omega),oB,cond_false,decide_eq_false c1,Bool.false_or]
   cases hb:a00 S (v:Int)
   ·simp only[Bool.not_false,if_true,cond_true,hfin]
   ·simp only[Bool.not_true,Bool.false_eq_true,if_false,cond_false];exact ih
def wo (g:Nat):Nat→Nat→List Int
 |0,k=>[]
 |d+1,k=>if k=g then wo g d (k+1)else(k:Int)::wo g d (k+1)
theorem i0l (g:Nat):∀(d k:Nat),(wo g d k).length=d-(if k≤g∧g<k+d then 1 else 0)
 |0,k=>by simp[wo]
 |d+1,k=>by
  have ih:=i0l g d (k+1)
  unfold wo
  by_cases c:k=g
  ·rw[if_pos c,ih,if_neg (by omega),if_pos (by omega)];omega
  ·rw[if_neg c,List.length_cons,ih]
   by_cases c2:k+1≤g∧g<k+1+d
   ·rw[if_pos c2,if_pos (by omega)];omega
   ·rw[if_neg c2,if_neg (by omega)];omega
theorem W0o (g n:Nat):∀(d k:Nat),k+d≤n→inV n (wo g d k)
 |0,k,h=>fun x hx=>nomatch hx
 |d+1,k,h=>by
  have ih:=W0o g n d (k+1) (by omega)
  unfold wo
  split
  ·exact ih
  ·intro x hx
   rcases List.mem_cons.1 hx with rfl|hx
   ·omega
   ·exact ih x hx
theorem v0m (n g:Nat) (hn:n≤1000):∀(d k fuel:Nat) (acc:List Int),k+d=n→d<fuel→acc.length≤k →
  O5 (n:Int) (g:Int) fuel (k:Int) acc=some (acc++wo g d k)
 |d,k,0,acc,hd,hf,ha=>by omega
 |0,k,fuel+1,acc,hd,hf,ha=>by
  rw[O5.eq_2,if_neg (by simp;omega)];simp[wo]
 |d+1,k,fuel+1,acc,hd,hf,ha=>by
  have ih:=fun acc' h=>v0m n g hn d (k+1) fuel acc' (by omega) (by omega) h
  rw[O5.eq_2,if_pos (by simp;omega),L1 (show k<10000 by omega) (by omega)]
  unfold wo
  by_cases c:k=g
  ·have e:decide ((k:Int)=(g:Int))=true:=decide_eq_true (by omega)
   rw[e,if_neg (by simp),if_pos c,ih _ (by omega)]
  ·have e:decide ((k:Int)=(g:Int))=false:=decide_eq_false (by omega)
   rw[e,if_pos (show(!false)=true from rfl),if_neg c,C0 (by simp;omega),oB,ih _ (by simp;omega)]
   simp
theorem w0m (n:Nat) (hn:n≤1000):∀(d k fuel:Nat) (acc:List Int),k+d=n→d<fuel→acc.length=k →
  ∃ u,r6 (n:Int) fuel (k:Int) acc=some u∧u.length=n
 |d,k,0,acc,hd,hf,ha=>by omega
 |0,k,fuel+1,acc,hd,hf,ha=>by
  rw[r6.eq_2,if_neg (by simp;omega)];exact⟨_,rfl,by omega⟩
 |d+1,k,fuel+1,acc,hd,hf,ha=>by
  obtain⟨u,e1,e2⟩:=w0m n hn d (k+1) fuel (acc ++ [(k:Int)]) (by omega) (by omega) (by simp;omega)
  rw[r6.eq_2,if_pos (by simp;omega),L1 (show k<10000 by omega) (by omega),C0 (by simp;omega),oB,e1]
  exact⟨u,rfl,e2⟩
theorem X0o {α:Type} {xs:List α} {k:Nat} (h:k≤xs.length):d03 xs 0 (k:Int)=some (xs.take k):=by
 unfold d03
 rw[if_pos (by omega)];rfl
theorem a04 {g:l0} (h:Y0 g=true):V0 g=true:=by
 unfold Y0 at h;exact(Bool.and_eq_true _ _▸h).1
theorem E0j {α:Type} {cf:α→α→Int} (h:Q8 cf):∀ {l:List α},(∀ i x y,l[i]?=some x→l[i+1]?=some y→cf x y<0)→Asc cf l
 | [],_=>List.Pairwise.nil
 | [x],_=>List.pairwise_singleton _ _
 |x::y::l,hn=>by
  have ih:Asc cf (y::l):=E0j h fun i a b ha hb=>hn (i+1) a b (by simpa using ha) (by simpa using hb)
  have hxy:=hn 0 x y rfl rfl
  refine List.pairwise_cons.2 ⟨fun z hz=>?_,ih⟩
  rcases List.mem_cons.1 hz with rfl|hz
  ·exact hxy
  ·exact h.trans _ _ _ hxy ((List.pairwise_cons.1 ih).1 z hz)
theorem Y0o {α:Type} {cf:α→α→Int}:∀ {l:List α},Asc cf l→∀ {i:Nat} {x y:α},l[i]?=some x→l[i+1]?=some y→cf x y<0
 | [],_,i,x,y,hx,_=>by simp at hx
 |a::l,h,0,x,y,hx,hy=>by
  simp at hx hy;subst hx
  exact(List.pairwise_cons.1 h).1 y (List.mem_of_getElem? hy)
 |a::l,h,i+1,x,y,hx,hy=>Y0o (List.pairwise_cons.1 h).2 (i:=i) (by simpa using hx) (by simpa using hy)
theorem Z0o {r hi:Int} {es:List K0}:∀ {d k:Nat},(∀ i,k≤i→i<k+d→G0o r hi es i=false)→okE r hi es d k=true
 |0,k,h=>rfl
 |d+1,k,h=>by
  simp only[okE,Bool.and_eq_true,Bool.not_eq_true']
  exact⟨h k (Nat.le_refl _) (by omega),Z0o fun i h1 h2=>h i (by omega) (by omega)⟩
theorem h01 (g:l0):V0 g=true↔inG g∧(1≤g.1∧g.1≤3)∧(1≤g.2.1∧g.2.1≤40)∧g.2.2.length≤120∧Asc U0 g.2.2:=by
 constructor
 ·intro h
  obtain⟨q1,q2,q3,q4⟩:=J2 h
  refine⟨q1,q2,q3,q4,E0j p7 fun i x y hx hy=>?_⟩
  simp only[V0,Bool.and_eq_true]at h
  have hb:=a0l h.1.1.1 (i+1) (Nat.zero_le _) (by have:=(List.getElem?_eq_some_iff.1 hy).1;omega)
  rw[D0a hy]at hb
  simp only[Nat.add_sub_cancel,hx,Bool.or_eq_false_iff]at hb
  have:=hb.2
  simp only[show decide (0<i+1)=true by simp,Bool.true_and,decide_eq_false_iff_not]at this
  have e:T0e x y=U0 x y:=rfl
  omega
 ·rintro⟨q1,q2,q3,q4,q5⟩
  obtain⟨r,n,es⟩:=g
  simp only at q2 q3 q4 q5
  simp only[V0,inR,Bool.and_eq_true,decide_eq_true_eq]
  refine⟨⟨⟨Z0o fun i _ hi=>?_,q2⟩,q3⟩,q4⟩
  have hx:=Z3 (show i<es.length by omega)
  generalize es[i]=e at hx
  rw[D0a hx]
  have he:=q1 e (List.mem_of_getElem? hx)
  simp only at he
  simp only[Bool.or_eq_false_iff,Bool.not_eq_false',K03,inR,Bool.and_eq_true,decide_eq_true_eq]
  rw[w64 (by omega) (by omega)]
  refine⟨⟨⟨⟨by omega,by omega⟩,by omega,by omega⟩,by omega,by omega⟩,?_⟩
  cases i with
  |zero=>rfl
  |succ j =>
   have hy:=Z3 (show j<es.length by omega)
   generalize es[j]=f at hy
   have:=Y0o q5 hy hx
   simp only[Nat.add_sub_cancel,hy]
   have e':T0e f e=U0 f e:=rfl
   simp[e'];omega
theorem P0a {r:Int} {n:Int} {es:List K0} (hr:1≤r∧r≤3) (hn:1≤n∧n≤40) (hes:es.length≤120) (hin:inG (r,n,es)):V0 (r,n,F5 U0 [] es)=true:=by
 refine(h01 _).2 ⟨fun e he=>hin e ?_,hr,hn,?_,f03 p7 _ _ List.Pairwise.nil⟩
 ·rcases(L00 p7 e es []).1 he with h|h
  ·simp at h
  ·exact h
 ·have:=A03 es []
  simp only[List.length_nil]at this
  simp only;omega
def Q0a (a b:K0):List (Int×Int) :=
 bif decide (a.2.1=b.2.1)then(bif decide (a.1=b.1)then [(if b.2.2<a.2.2 then b.2.2 else a.2.2,if b.2.2>a.2.2 then b.2.2 else a.2.2)]else [])++(bif decide (a.2.2=b.2.2)then [(if b.1<a.1 then b.1 else a.1,if b.1>a.1 then b.1 else a.1)]else [])else []
def t02 (a:K0):List K0→List (Int×Int)
 | []=>[]
 |b::r=>Q0a a b++t02 a r
def I8:List K0→List (Int×Int)
 | []=>[]
 |a::r=>t02 a r++I8 r
theorem A0n (a b:K0):(Q0a a b).length≤2:=by
 unfold Q0a
 cases decide (a.2.1=b.2.1) <;> cases decide (a.1=b.1) <;> cases decide (a.2.2=b.2.2) <;> simp
theorem g0c (a:K0):∀ l,(t02 a l).length≤2*l.length
 | []=>by simp[t02]
 |b::r=>by have:=A0n a b;have:=g0c a r;simp only[t02,List.length_append,List.length_cons];omega
def mvV (f:Int×Int) (v:Int):Int:=if v=f.2 then f.1 else if v>f.2 then v-1 else v
def mvE (f:Int×Int) (e:K0):K0:=(mvV f e.1,e.2.1,mvV f e.2.2)
def p01 (g:l0) (f:Int×Int):l0:=(g.1,g.2.1-1,F5 U0 [] (g.2.2.map (mvE f)))
def okF (g:l0) (f:Int×Int):Prop:=0≤f.1∧f.1<f.2∧f.2<g.2.1
theorem b05 {g:l0} {f:Int×Int} (hg:V0 g=true) (hf:okF g f):V0 (p01 g f)=true:=by
 obtain⟨q1,q2,q3,q4,_⟩:=(h01 g).1 hg
 obtain⟨f1,f2,f3⟩:=hf
 refine P0a q2 ⟨by omega,by omega⟩ (by simpa using q4) fun e he=>?_
 obtain⟨e',he',rfl⟩:=List.mem_map.1 he
 obtain⟨a1,a2,a3⟩:=q1 e' he'
 have hm:∀ v:Int,0≤v∧v<g.2.1→0≤mvV f v∧mvV f v<g.2.1-1:=fun v hv=>by
  unfold mvV;split
  ·omega
  ·split <;> omega
 exact⟨hm _ a1,hm _ a2,a3⟩
theorem F0j {g:l0} (hg:inG g) {a:K0} (ha:a∈g.2.2):∀ {l:List K0},(∀ b∈l,b∈g.2.2∧a≠b)→∀ f∈t02 a l,okF g f
 | [],_,f,hf=>by simp[t02]at hf
 |b::r,h,f,hf=>by
  rcases List.mem_append.1 (show f∈Q0a a b++t02 a r from hf)with hf|hf
  ·have hb:=hg b (h b (List.mem_cons_self ..)).1
   have ha':=hg a ha
   have hne:=(h b (List.mem_cons_self ..)).2
   obtain⟨a0,a1,a2⟩:=a
   obtain⟨b0,b1,b2⟩:=b
   simp only at ha' hb
   unfold Q0a at hf
   simp only at hf
   by_cases c1:a1=b1
   ·have d1 : ¬ (a0=b0∧a2=b2):=fun⟨x,y⟩=>hne (by rw[x,c1,y])
    simp only[c1,decide_true,cond_true,List.mem_append]at hf
    rcases hf with hf|hf
    ·by_cases c2:a0=b0
     ·simp only[c2,decide_true,cond_true,List.mem_singleton]at hf
      subst hf
      have:a2≠b2:=fun y=>d1 ⟨c2,y⟩
      unfold okF
      simp only
      split <;> split <;> omega
     ·simp[c2]at hf
    ·by_cases c2:a2=b2
     ·simp only[c2,decide_true,cond_true,List.mem_singleton]at hf
      subst hf
      have:a0≠b0:=fun y=>d1 ⟨y,c2⟩
      unfold okF
      simp only
      split <;> split <;> omega
     ·simp[c2]at hf
   ·simp[c1]at hf
  ·exact F0j hg ha (fun b' hb'=>h b' (mC _ hb')) f hf
theorem G0j {g:l0} (hg:inG g):∀ {l:List K0},(∀ b∈l,b∈g.2.2)→Asc U0 l→∀ f∈I8 l,okF g f
 | [],_,_,f,hf=>by simp[I8]at hf
 |a::r,h,hA,f,hf=>by
  rcases List.mem_append.1 (show f∈t02 a r++I8 r from hf)with hf|hf
  ·refine F0j hg (h a (List.mem_cons_self ..)) (fun b hb=>⟨h b (mC _ hb),fun e=>?_⟩) f hf
   have:=(List.pairwise_cons.1 hA).1 b hb
   rw[e,p7.refl]at this;omega
  ·exact G0j hg (fun b hb=>h b (mC _ hb)) (List.pairwise_cons.1 hA).2 f hf
theorem B04 {g:l0} (hg:V0 g=true):∀ f∈I8 g.2.2,okF g f:=by
 obtain⟨q1,_,_,_,q5⟩:=(h01 g).1 hg
 exact G0j q1 (fun _ h=>h) q5
def q01:Nat→l0→l0×List (Int×Int)
 |0,g=>(g,[])
 |n+1,g=>match I8 g.2.2 with
  | []=>(g,[])
  |f::_=>((q01 n (p01 g f)).1,f::(q01 n (p01 g f)).2)
def U4 (g:l0):l0×List (Int×Int):=bif V0 g then q01 40 g else(g,[])
theorem K07:∀(n:Nat) {g:l0},V0 g=true→V0 (q01 n g).1=true
 |0,g,h=>h
 |n+1,g,h=>by
  unfold q01
  cases e:I8 g.2.2 with
  |nil=>exact h
  |cons f l=>exact K07 n (b05 h (B04 h f (by rw[e];exact List.mem_cons_self ..)))
theorem w09:∀(n:Nat) {g:l0},V0 g=true→g.2.1≤(n:Int)+1→I8 (q01 n g).1.2.2 = []
 |0,g,h,hn=>by
  cases e:I8 g.2.2 with
  |nil=>exact e
  |cons f l =>
   have:=B04 h f (by rw[e];exact List.mem_cons_self ..)
   unfold okF at this
   omega
 |n+1,g,h,hn=>by
  unfold q01
  cases e:I8 g.2.2 with
  |nil=>exact e
  |cons f l=>exact w09 n (b05 h (B04 h f (by rw[e];exact List.mem_cons_self ..))) (by show g.2.1-1≤_;omega)
theorem B0n (a b:K0):Q0a a b = []↔G04 a b=false:=by
 unfold Q0a G04
 cases decide (a.2.1=b.2.1) <;> cases decide (a.1=b.1) <;> cases decide (a.2.2=b.2.2) <;> simp
theorem T0g (a:K0):∀ l,t02 a l = []↔∀ b∈l,G04 a b=false
 | []=>by simp[t02]
 |b::r=>by
  rw[t02,List.append_eq_nil_iff,B0n,T0g a r]
  simp
theorem h0c:∀ l,I8 l = []↔l.Pairwise fun a b=>G04 a b=false
 | []=>by simp[I8]
 |a::r=>by rw[I8,List.append_eq_nil_iff,T0g,h0c r,List.pairwise_cons]
theorem d9 (g:l0):Y0 g=true↔V0 g=true∧I8 g.2.2 = []:=by
 unfold Y0
 rw[Bool.and_eq_true,c0c,h0c]
theorem p0f {g:l0} (h:V0 g=true):Y0 (U4 g).1=true:=by
 have hg:=(J2 h).2.2.1
 unfold U4
 rw[h]
 exact(d9 _).2 ⟨K07 40 h,w09 40 h (by omega)⟩
theorem U0g (l:List K0) (a0 a1 a2:Int) (hl:l.length≤1000):∀(d k fuel:Nat) (acc:List Y4),k+d=l.length→d<fuel→acc.length+2*d≤4000000 →
  C5 l a1 a0 a2 fuel (k:Int) acc=some (acc++t02 (a0,a1,a2) (l.drop k))
 |d,k,0,acc,hd,hf,ha=>by omega
 |0,k,fuel+1,acc,hd,hf,ha=>by
  rw[C5.eq_2,if_neg (by simp;omega),Z0 (by omega)]
  simp[t02]
 |d+1,k,fuel+1,acc,hd,hf,ha=>by
  have hk:k<l.length:=by omega
  have hx:=Z3 hk
  generalize l[k]=b at hx
  obtain⟨b0,b1,b2⟩:=b
  have ih:∀ acc':List Y4,acc'.length+2*d≤4000000→C5 l a1 a0 a2 fuel ((k+1:Nat):Int) acc'=some (acc'++t02 (a0,a1,a2) (l.drop (k+1))):=fun acc' h=>U0g l a0 a1 a2 hl d (k+1) fuel acc' (by omega) (by omega) h
  rw[C5.eq_2,if_pos (by simp;omega),D2 hx,oB,L1 hk (by omega),F1 hx]
  simp only[t02,Q0a]
  cases decide (a1=b1)
  ·simp only[Bool.not_false,if_true,cond_false,List.nil_append]
   exact ih acc (by omega)
  ·cases decide (a0=b0) <;> cases decide (a2=b2)
   all_goals simp only[Bool.not_true,Bool.false_eq_true,if_false,if_true,cond_true,cond_false,List.nil_append,List.append_nil]
   ·exact ih acc (by omega)
   ·rw[C0 (by simp;omega),oB,ih _ (by simp;omega)];simp
   ·rw[C0 (by simp;omega),oB,ih _ (by simp;omega)];simp
   ·rw[C0 (by simp;omega),oB,C0 (by simp;omega),oB,ih _ (by simp;omega)];simp
theorem V0g (l:List K0) (hl:l.length≤1000):∀(d k fuel:Nat) (acc:List Y4),k+d=l.length→d<fuel→acc.length+2000*d≤3000000 →
  T8 l fuel (k:Int) acc=some (acc++I8 (l.drop k))
 |d,k,0,acc,hd,hf,ha=>by omega
 |0,k,fuel+1,acc,hd,hf,ha=>by
  rw[T8.eq_2,if_neg (by simp;omega),Z0 (by omega)]
  simp[I8]
 |d+1,k,fuel+1,acc,hd,hf,ha=>by
  have hk:k<l.length:=by omega
  have hx:=Z3 hk
  generalize l[k]=b at hx
  obtain⟨b0,b1,b2⟩:=b
  have h0:=U0g (l.drop (k+1)) b0 b1 b2 (by simp;omega) (l.length-(k+1)) 0 N0 acc (by simp) (W0 (by omega)) (by omega)
  have hr:=g0c (b0,b1,b2) (l.drop (k+1))
  simp only[List.length_drop]at hr
  rw[T8.eq_2,if_pos (by simp;omega),D2 hx,oB]
  simp only[L1 hk (show l.length≤9223372036854775807 by omega)]
  rw[v09 (by omega),oB,show(0:Int)=((0:Nat):Int) from rfl,h0,oB,V0g l hl d (k+1) fuel _ (by omega) (by omega) (by simp only[List.length_append,List.drop_zero,List.length_drop]at hr ⊢;omega),F1 hx,I8]
  simp
theorem W0g (l:List K0) (hl:l.length≤1000) (i:Nat) (a0 a1 a2:Int) (hi:l[i]?=some (a0,a1,a2)):∀(d k fuel:Nat) (acc:List Y4),k+d=l.length→d<fuel→acc.length+2*d≤4000000 →
  I4 l (i:Int) fuel (k:Int) acc=some (acc++t02 (a0,a1,a2) (l.drop k))
 |d,k,0,acc,hd,hf,ha=>by omega
 |0,k,fuel+1,acc,hd,hf,ha=>by
  rw[I4.eq_2,if_neg (by simp;omega),Z0 (by omega)]
  simp[t02]
 |d+1,k,fuel+1,acc,hd,hf,ha=>by
  have hk:k<l.length:=by omega
  have hx:=Z3 hk
  generalize l[k]=b at hx
  obtain⟨b0,b1,b2⟩:=b
  have ih:∀ acc':List Y4,acc'.length+2*d≤4000000→I4 l (i:Int) fuel ((k+1:Nat):Int) acc'=some (acc'++t02 (a0,a1,a2) (l.drop (k+1))):=fun acc' h=>W0g l hl i a0 a1 a2 hi d (k+1) fuel acc' (by omega) (by omega) h
  rw[I4.eq_2,if_pos (by simp;omega),D2 hi,oB]
  simp only[]
  rw[D2 hx,oB,L1 hk (by omega),F1 hx]
  simp only[t02,Q0a]
  cases decide (a1=b1)
  ·simp only[Bool.false_eq_true,if_false,cond_false,List.nil_append]
   exact ih acc (by omega)
  ·cases decide (a0=b0) <;> cases decide (a2=b2)
   all_goals simp only[Bool.not_true,Bool.false_eq_true,if_false,if_true,cond_true,cond_false,List.nil_append,List.append_nil]
   ·exact ih acc (by omega)
   ·rw[C0 (by simp;omega),oB,ih _ (by simp;omega)];simp
   ·rw[C0 (by simp;omega),oB,ih _ (by simp;omega)];simp
   ·rw[C0 (by simp;omega),oB,C0 (by simp;omega),oB,ih _ (by simp;omega)];simp
theorem X0g (l:List K0) (hl:l.length≤1000):∀(d k fuel:Nat) (acc:List Y4),k+d=l.length→d<fuel→acc.length+2000*d≤3000000 →
  A7 l fuel (k:Int) acc=some (acc++I8 (l.drop k))
 |d,k,0,acc,hd,hf,ha=>by omega
 |0,k,fuel+1,acc,hd,hf,ha=>by
  rw[A7.eq_2,if_neg (by simp;omega),Z0 (by omega)]
  simp[I8]
 |d+1,k,fuel+1,acc,hd,hf,ha=>by
  have hk:k<l.length:=by omega
  have hx:=Z3 hk
  generalize l[k]=b at hx
  obtain⟨b0,b1,b2⟩:=b
  have h0:=W0g l hl k b0 b1 b2 hx (l.length-(k+1)) (k+1) N0 acc (by omega) (W0 (by omega)) (by omega)
  have hr:=g0c (b0,b1,b2) (l.drop (k+1))
  simp only[List.length_drop]at hr
  rw[A7.eq_2,if_pos (by simp;omega),L1 hk (by omega),h0,oB,X0g l hl d (k+1) fuel _ (by omega) (by omega) (by simp only[List.length_append,List.length_drop]at hr ⊢;omega),F1 hx,I8]
  simp
theorem H0j (g:l0) (hl:g.2.2.length≤1000):G02 g=some (I8 g.2.2):=by
 obtain⟨r,n,es⟩:=g
 unfold G02
 simp only
 rw[show(0:Int)=((0:Nat):Int) from rfl,V0g es hl es.length 0 N0 [] (by omega) (W0 (by simp only at hl;omega)) (by simp only at hl;simp;omega)]
 rfl
theorem I0j (g:l0) (hl:g.2.2.length≤1000):E01 g=some (I8 g.2.2):=by
 obtain⟨r,n,es⟩:=g
 unfold E01
 simp only
 rw[show(0:Int)=((0:Nat):Int) from rfl,X0g es hl es.length 0 N0 [] (by omega) (W0 (by simp only at hl;omega)) (by simp only at hl;simp;omega)]
 rfl
def u02 (g:l0):Y4×Bool:=bif V0 g then(match I8 g.2.2 with
 | []=>((0,0),false)
 |f::_=>(f,true))else((0,0),false)
theorem s0d (g:l0) (hl:g.2.2.length≤140737488355328):z9 g=some (u02 g):=by
 have h1:=s00 g hl
 have h2:=H0j g
 unfold u02
 cases hg:V0 g with
 |false =>
  obtain⟨r,n,es⟩:=g
  unfold z9
  simp only[h1,hg,oB];rfl
 |true =>
  have h2:=h2 (by have:=(J2 hg).2.2.2;omega)
  obtain⟨r,n,es⟩:=g
  unfold z9
  simp only[h1,hg,h2,oB,cond_true]
  simp only at h2
  cases I8 es with
  |nil=>rfl
  |cons f l =>
   rw[if_neg (by simp),if_neg (by simp;omega),p05 rfl]
   rfl
theorem t0d (g:l0) (hl:g.2.2.length≤140737488355328):t9 g=some (u02 g):=by
 have h1:=g7 g hl
 have h2:=I0j g
 unfold u02
 cases hg:V0 g with
 |false =>
  obtain⟨r,n,es⟩:=g
  unfold t9
  simp only[h1,hg,oB];rfl
 |true =>
  have h2:=h2 (by have:=(J2 hg).2.2.2;omega)
  obtain⟨r,n,es⟩:=g
  unfold t9
  simp only[h1,hg,h2,oB,cond_true]
  simp only at h2
  cases I8 es with
  |nil=>rfl
  |cons f l =>
   rw[if_neg (by simp),if_neg (by simp;omega),p05 rfl]
   rfl
theorem x0m (v:Int) (f:Y4) (hv:0≤v∧v<1000) (hf:0≤f.1∧f.1<f.2):O01 v f=some (mvV f v):=by
 obtain⟨a,b⟩:=f
 simp only at hf
 unfold O01 mvV
 simp only
 by_cases c:v=b
 ·rw[if_pos (by simp[c]),if_neg (by simp;omega),if_pos c]
 ·rw[if_neg (by simp[c]),if_neg c]
  by_cases c2:v>b
  ·rw[if_pos (by simp[c2]),if_pos c2,w64 (by omega) (by omega)]
  ·rw[if_neg (by simp;omega),if_neg c2]
theorem J0j (v:Int) (f:Y4) (hv:0≤v∧v<1000):F6 v f=some (mvV f v):=by
 obtain⟨a,b⟩:=f
 unfold F6 mvV
 simp only
 by_cases c:v=b
 ·rw[if_pos (by simp[c]),if_pos c]
 ·rw[if_neg (by simp[c]),if_neg c]
  by_cases c2:v>b
  ·rw[if_pos (by simp[c2]),if_pos c2,w64 (by omega) (by omega)]
  ·rw[if_neg (by simp;omega),if_neg c2]
theorem Z0h {f:Y4} {v:Int} (hv:0≤v∧v<1000) (hf:0≤f.1∧f.1<1000):H0 (mvV f v):=by
 unfold mvV
 split
 ·exact⟨by omega,by omega⟩
 ·split
  ·exact⟨by omega,by omega⟩
  ·exact⟨by omega,by omega⟩
theorem K0j (es:List K0) (f:Y4) (r n:Int) (hl:es.length≤1000) (hv:∀ e∈es,(0≤e.1∧e.1<1000)∧(0≤e.2.2∧e.2.2<1000)) (hf:0≤f.1∧f.1<f.2) (hf2:f.2<1000):∀(d k fuel:Nat) (acc:List K0),k+d=es.length→d<fuel→acc.length≤k →
  P4 es f.1 f.2 fuel (k:Int) r n acc=some (r,n,F5 U0 acc ((es.drop k).map (mvE f)))
 |d,k,0,acc,hd,hfu,ha=>by omega
 |0,k,fuel+1,acc,hd,hfu,ha=>by
  rw[P4.eq_2,if_neg (by simp;omega),Z0 (by omega)]
  rfl
 |d+1,k,fuel+1,acc,hd,hfu,ha=>by
  have hk:k<es.length:=by omega
  have hx:=Z3 hk
  have hvk:=hv _ (List.getElem_mem hk)
  generalize es[k]=b at hx hvk
  obtain⟨b0,b1,b2⟩:=b
  simp only at hvk
  have hln:=f04 (mvE f (b0,b1,b2)) acc
  rw[P4.eq_2,if_pos (by simp;omega),D2 hx,oB]
  simp only[]
  rw[x0m b0 (f.1,f.2) hvk.1 hf,oB,C0 (Z0h hvk.1 ⟨hf.1,by show f.1<1000;omega⟩),oB,x0m b2 (f.1,f.2) hvk.2 hf,oB,C0 (Z0h hvk.2 ⟨hf.1,by show f.1<1000;omega⟩),oB,
   E06 acc _ (by omega),oB,L1 hk (by omega),F1 hx,List.map_cons]
  exact K0j es f r n hl hv hf hf2 d (k+1) fuel _ (by omega) (by omega) (Nat.le_trans hln (by omega))
theorem L0j {g:l0} {f:Y4} (hg:V0 g=true) (hf:okF g f):B7 g f=some (p01 g f,true):=by
 obtain⟨q1,q2,q3,q4⟩:=J2 hg
 have h1:=g7 g (by omega)
 obtain⟨f1,f2,f3⟩:=hf
 obtain⟨r,n,es⟩:=g
 obtain⟨a,b⟩:=f
 simp only at f1 f2 f3 q3 q4
 have h:=K0j es (a,b) r (IntKind.i64.wrap (n-1)) (by omega) (fun e he=>by
  have:=q1 e he
  simp only at this
  exact⟨⟨by omega,by omega⟩,by omega,by omega⟩) ⟨f1,f2⟩ (by simp only;omega) es.length 0 N0 [] (by omega) (W0 (by omega)) (Nat.le_refl _)
 unfold B7
 simp only[h1,hg,oB]
 rw[if_neg (by simp;omega),show(0:Int)=((0:Nat):Int) from rfl,h,w64 (by omega) (by omega)]
 rfl
theorem M0j (es:List K0) (f:Y4) (hl:es.length≤1000) (hv:∀ e∈es,(0≤e.1∧e.1<1000)∧(0≤e.2.2∧e.2.2<1000)) (hf:0≤f.1∧f.1<1000):∀(d k fuel:Nat),k+d=es.length→d<fuel →
  Q4 es f.1 f.2 fuel (k:Int) ((es.take k).map (mvE f)++es.drop k)=some (es.map (mvE f))
 |d,k,0,hd,hfu=>by omega
 |0,k,fuel+1,hd,hfu=>by
  rw[Q4.eq_2,if_neg (by simp;omega),Z0 (by omega),List.append_nil,List.take_of_length_le (by omega)]
 |d+1,k,fuel+1,hd,hfu=>by
  have hk:k<es.length:=by omega
  have hx:=Z3 hk
  have hvk:=hv _ (List.getElem_mem hk)
  generalize es[k]=b at hx hvk
  have htl:((es.take k).map (mvE f)).length=k:=by simp;omega
  have hg:((es.take k).map (mvE f)++es.drop k)[k]?=some b:=by
   rw[List.getElem?_append_right (by omega),htl,F1 hx];simp
  have hs:∀ y,((es.take k).map (mvE f)++es.drop k).set k y=(es.take k).map (mvE f)++y::es.drop (k+1):=fun y=>by
   rw[List.set_append_right _ _ (by omega),htl,F1 hx];simp
  obtain⟨b0,b1,b2⟩:=b
  simp only at hvk
  have e:(es.take (k+1)).map (mvE f)++es.drop (k+1)=(es.take k).map (mvE f)++mvE f (b0,b1,b2)::es.drop (k+1):=by
   rw[G0q hx];simp
  have ih:=M0j es f hl hv hf d (k+1) fuel (by omega) (by omega)
  rw[e]at ih
  rw[Q4.eq_2,if_pos (by simp;omega),D2 hg,oB]
  simp only[]
  rw[J0j b0 (f.1,f.2) hvk.1,oB,C0 (Z0h hvk.1 hf),oB,J0j b2 (f.1,f.2) hvk.2,oB,C0 (Z0h hvk.2 hf),oB]
  simp only[oB]
  rw[show((k:Nat):Int).toNat=k from Int.toNat_natCast k,hs,L1 hk (by omega)]
  exact ih
theorem N0j {g:l0} {f:Y4} (hg:V0 g=true) (hf:okF g f):C7 g f=some (p01 g f,true):=by
 obtain⟨q1,q2,q3,q4⟩:=J2 hg
 have h1:=s00 g (by omega)
 have h2:=C01 g (by omega)
 obtain⟨f1,f2,f3⟩:=hf
 obtain⟨r,n,es⟩:=g
 obtain⟨a,b⟩:=f
 simp only at f1 f2 f3 q3 q4
 have h:=M0j es (a,b) (by omega) (fun e he=>by
  have:=q1 e he
  simp only at this
  exact⟨⟨by omega,by omega⟩,by omega,by omega⟩) ⟨f1,by simp only;omega⟩ es.length 0 N0 (by omega) (W0 (by omega))
 simp only[List.take_zero,List.map_nil,List.nil_append,List.drop_zero]at h
 unfold C7
 simp only[h1,h2,hg,oB]
 rw[if_neg (by simp;omega),show(0:Int)=((0:Nat):Int) from rfl,h,oB,M0a _ (by simp;omega),oB,w64 (by omega) (by omega)]
 rfl
def G01 (g:l0):l0×Y4×Bool:=bif V0 g then(match I8 g.2.2 with
 | []=>(g,(0,0),false)
 |f::_=>(p01 g f,f,true))else(g,(0,0),false)
theorem L07 (g:l0) (hl:g.2.2.length≤1099511627776):U00 g=some (G01 g):=by
 have h1:=t0d g (by omega)
 have h2:=m02 g hl
 have h3:∀ f,V0 g=true→okF g f→B7 g f=some (p01 g f,true):=fun f a b=>L0j a b
 have h4:V0 g=true→∀ f∈I8 g.2.2,okF g f:=B04
 unfold u02 at h1
 unfold G01
 obtain⟨r,n,es⟩:=g
 unfold U00
 simp only[h1,oB]
 cases hg:V0 (r,n,es)with
 |false=>simp only[cond_false,Bool.not_false,if_true,h2,oB]
 |true =>
  simp only[cond_true]
  simp only at h4
  cases e:I8 es with
  |nil=>simp only[Bool.not_false,if_true,h2,oB]
  |cons f l =>
   simp only[Bool.not_true,Bool.false_eq_true,if_false,h3 f hg (h4 hg f (by rw[e];exact List.mem_cons_self ..)),oB]
theorem M07 (g:l0) (hl:g.2.2.length≤1099511627776):Y00 g=some (G01 g):=by
 have h1:=s0d g (by omega)
 have h2:=C01 g hl
 have h3:∀ f,V0 g=true→okF g f→C7 g f=some (p01 g f,true):=fun f a b=>N0j a b
 have h4:V0 g=true→∀ f∈I8 g.2.2,okF g f:=B04
 unfold u02 at h1
 unfold G01
 obtain⟨r,n,es⟩:=g
 unfold Y00
 simp only[h1,oB]
 cases hg:V0 (r,n,es)with
 |false=>simp only[cond_false,Bool.not_false,if_true,h2,oB]
 |true =>
  simp only[cond_true]
  simp only at h4
  cases e:I8 es with
  |nil=>simp only[Bool.not_false,if_true,h2,oB]
  |cons f l =>
   simp only[Bool.not_true,Bool.false_eq_true,if_false,h3 f hg (h4 hg f (by rw[e];exact List.mem_cons_self ..)),oB]
def l0r:(l0×P8) ⊕ (Int×Int×T0×(List Y4))→Option (l0×P8):=fun X=>H6 X (fun S=>match S with
 |(a,b,c,e)=>some ((a,b,c),e))
theorem q0f:∀(d k fuel:Nat) (g:l0) (acc:List Y4),k+d=40→d<fuel→V0 g=true→acc.length=k →
  (E6 fuel (k:Int) g.1 g.2.1 g.2.2 acc).bind l0r=some ((q01 d g).1,acc++(q01 d g).2)
 |d,k,0,g,acc,hd,hf,hg,ha=>by omega
 |0,k,fuel+1,g,acc,hd,hf,hg,ha=>by
  rw[E6.eq_2,if_neg (by simp;omega)]
  simp[l0r,H6,q01]
 |d+1,k,fuel+1,g,acc,hd,hf,hg,ha=>by
  have h1:=L07 g (by have:=(J2 hg).2.2.2;omega)
  have h4:=B04 hg
  unfold G01 at h1
  rw[hg]at h1
  simp only[cond_true]at h1
  rw[E6.eq_2,if_pos (by simp;omega),show(g.1,g.2.1,g.2.2)=g from rfl,h1]
  unfold q01
  cases e:I8 g.2.2 with
  |nil=>simp[l0r,H6]
  |cons f l =>
   have ih:=q0f d (k+1) fuel (p01 g f) (acc ++ [f]) (by omega) (by omega) (b05 hg (h4 f (by rw[e];exact List.mem_cons_self ..))) (by simp[ha])
   simp only[oB,Bool.not_true,Bool.false_eq_true,if_false]
   rw[C0 (by simp;omega),oB,L1 (show k<1000 by omega) (by omega)]
   refine ih.trans ?_
   simp
theorem s05 (g:l0) (hl:g.2.2.length≤1099511627776):S7 g=some (U4 g):=by
 have h1:=L07 g hl
 have h2:=m02 g hl
 have h3:=q0f 40 0 N0 g [] rfl (W0 (by omega))
 unfold U4
 obtain⟨r,n,es⟩:=g
 unfold S7
 simp only[h2,oB]
 cases hg:V0 (r,n,es)with
 |false =>
  unfold G01 at h1
  rw[hg]at h1
  simp only[cond_false]at h1
  rw[show N0=(N0-1)+1 from rfl,E6.eq_2,if_pos (by simp),h1]
  rfl
 |true=>exact h3 hg rfl
theorem r0f:∀(d fuel:Nat) (g:l0) (acc:List Y4),d<fuel→V0 g=true→I8 (q01 d g).1.2.2 = []→acc.length+d≤1000 →
  D7 fuel g.1 g.2.1 g.2.2 acc=some (.inl ((q01 d g).1,acc++(q01 d g).2))
 |d,0,g,acc,hf,hg,hn,ha=>by omega
 |d,fuel+1,g,acc,hf,hg,hn,ha=>by
  have h1:=M07 g (by have:=(J2 hg).2.2.2;omega)
  have h4:=B04 hg
  unfold G01 at h1
  rw[hg]at h1
  simp only[cond_true]at h1
  rw[D7.eq_2,show(g.1,g.2.1,g.2.2)=g from rfl,h1]
  cases e:I8 g.2.2 with
  |nil =>
   have e2:q01 d g=(g,[]):=by
    cases d with
    |zero=>rfl
    |succ d=>unfold q01;rw[e]
   rw[e2]
   simp
  |cons f l =>
   cases d with
   |zero=>exact absurd e (by rw[show I8 g.2.2 = [] from hn];simp)
   |succ d =>
    have e2:q01 (d+1) g=((q01 d (p01 g f)).1,f::(q01 d (p01 g f)).2):=by
     show(match I8 g.2.2 with | []=>(g,[])|f::_=>((q01 d (p01 g f)).1,f::(q01 d (p01 g f)).2))=_
     rw[e]
    rw[e2]at hn ⊢
    have ih:=r0f d fuel (p01 g f) (acc ++ [f]) (by omega) (b05 hg (h4 f (by rw[e];exact List.mem_cons_self ..))) hn (by simp;omega)
    simp only[oB,Bool.not_true,Bool.false_eq_true,if_false]
    rw[C0 (by simp;omega),oB]
    refine ih.trans ?_
    simp
theorem t05 (g:l0) (hl:g.2.2.length≤1099511627776):T7 g=some (U4 g):=by
 have h1:=M07 g hl
 have h2:=C01 g hl
 have h3:=r0f 40 N0 g [] (W0 (by omega))
 have h5:V0 g=true→I8 (q01 40 g).1.2.2 = []:=fun hg=>w09 40 hg (by have:=(J2 hg).2.2.1;omega)
 unfold U4
 obtain⟨r,n,es⟩:=g
 unfold T7
 simp only[h2,oB]
 cases hg:V0 (r,n,es)with
 |false =>
  unfold G01 at h1
  rw[hg]at h1
  simp only[cond_false]at h1
  rw[show N0=(N0-1)+1 from rfl,D7.eq_2,h1]
  rfl
 |true =>
  have h:=h3 hg (h5 hg) (by simp)
  simp only at h
  rw[h]
  rfl
theorem i0c {g:l0} (h:V0 g=true):Asc U0 g.2.2:=((h01 g).1 h).2.2.2.2
def stp (u x v:Int):K0:=if x<0 then(v,-x,u)else(u,x,v)
def g02 (v:Int):List Int→Int→Int→List K0
 | [],_,_=>[]
 | [x],u,_=>[stp u x v]
 |x::y::r,u,n=>stp u x n::g02 v (y::r) n (n+1)
theorem u08 (v:Int):∀(w:List Int) (u n:Int),(g02 v w u n).length=w.length
 | [],_,_=>rfl
 | [x],_,_=>rfl
 |x::y::r,u,n=>by simp only[g02,List.length_cons,u08 v (y::r)]
theorem j0l (u x v:Int) (hx:S8 x):F01 u x v=some (stp u x v):=by
 unfold F01 stp
 by_cases c:x<0
 ·rw[if_pos (by simp[c]),if_pos c,J0g hx.1 hx.2]
 ·rw[if_neg (by simp;omega),if_neg c]
theorem a0i (w:List Int) (v:Int) (r:Int) (hw:∀ x∈w,S8 x) (hl:w.length≤1000):∀(d k fuel:Nat) (u n:Int) (es:List K0),k+d=w.length→d<fuel→0≤n→n≤1000+k→es.length≤1000+k →
  G6 w v fuel u (k:Int) r n es=some (r,n+((d-1:Nat):Int),es++g02 v (w.drop k) u n)
 |d,k,0,u,n,es,hd,hf,h0,h1,h2=>by omega
 |0,k,fuel+1,u,n,es,hd,hf,h0,h1,h2=>by
  rw[G6.eq_2,if_neg (by simp;omega),Z0 (by omega)]
  simp[g02]
 |d+1,k,fuel+1,u,n,es,hd,hf,h0,h1,h2=>by
  have hk:k<w.length:=by omega
  have hx:=Z3 hk
  have hm:=hw _ (List.getElem_mem hk)
  generalize w[k]=x at hx hm
  rw[G6.eq_2,if_pos (by simp;omega),D2 hx,oB,y0a (by omega) (by omega),F1 hx]
  by_cases c:k+1<w.length
  ·rw[if_pos (by simp;omega),j0l u x n hm,oB]
   have hy:=Z3 c
   generalize w[k+1]=y at hy
   have ih:=a0i w v r hw hl d (k+1) fuel n (n+1) (es ++ [stp u x n]) (by omega) (by omega) (by omega) (by omega) (by simp;omega)
   simp only[]
   rw[C0 (by simp;omega),oB,L1 hk (by omega),w64 (show(-9223372036854775808:Int)≤n+1 by omega) (by omega)]
   refine ih.trans ?_
   rw[F1 hy]
   simp only[g02,List.append_assoc,List.singleton_append]
   congr 3
   omega
  ·have hd0:d=0:=by omega
   subst hd0
   rw[if_neg (by simp;omega),j0l u x v hm,oB]
   have ih:=a0i w v r hw hl 0 (k+1) fuel v n (es ++ [stp u x v]) (by omega) (by omega) h0 (by omega) (by simp;omega)
   simp only[]
   rw[C0 (by simp;omega),oB,L1 hk (by omega)]
   refine ih.trans ?_
   rw[Z0 (show k+1=w.length by omega)]
   simp[g02]
theorem b0i (w:List Int) (v:Int) (r:Int) (hw:∀ x∈w,S8 x∧x≠0) (hl:w.length≤1000):∀(d k fuel:Nat) (u n:Int) (es:List K0),k+d=w.length→d<fuel→0≤n→n≤1000+k→es.length≤1000+k →
  B5 w v fuel u (k:Int) r n es=some (r,n+((d-1:Nat):Int),F5 U0 es (g02 v (w.drop k) u n))
 |d,k,0,u,n,es,hd,hf,h0,h1,h2=>by omega
 |0,k,fuel+1,u,n,es,hd,hf,h0,h1,h2=>by
  rw[B5.eq_2,if_neg (by simp;omega),Z0 (by omega)]
  simp[g02,F5]
 |d+1,k,fuel+1,u,n,es,hd,hf,h0,h1,h2=>by
  have hk:k<w.length:=by omega
  have hx:=Z3 hk
  have hm:=hw _ (List.getElem_mem hk)
  generalize w[k]=x at hx hm
  have hput:∀ e,(n9 U0 e es).length≤1000+(k+1):=fun e=>by have:=f04 e es;omega
  rw[B5.eq_2,if_pos (by simp;omega),F1 hx]
  by_cases c:k+1<w.length
  ·have hy:=Z3 c
   generalize w[k+1]=y at hy
   have ih:=b0i w v r hw hl d (k+1) fuel n (n+1) (n9 U0 (stp u x n) es) (by omega) (by omega) (by omega) (by omega) (hput _)
   rw[F1 hy]at ih
   rw[L1 hk (by omega),if_pos (by simp;omega),D2 hx,oB,w64 (show(-9223372036854775808:Int)≤n+1 by omega) (by omega),F1 hy]
   have fin:some (r,n+1+((d-1:Nat):Int),F5 U0 (n9 U0 (stp u x n) es) (g02 v (y::w.drop (k+1+1)) n (n+1)))=some (r,n+((d+1-1:Nat):Int),F5 U0 es (g02 v (x::y::w.drop (k+1+1)) u n)):=by
    simp only[g02,F5]
    congr 3
    omega
   by_cases c2:x>0
   ·have e:stp u x n=(u,x,n):=by unfold stp;rw[if_neg (by omega)]
    rw[if_pos (by simp[c2])]
    simp only[oB]
    rw[E06 es _ (by omega),oB,←e]
    exact ih.trans fin
   ·have e:stp u x n=(n,-x,u):=by unfold stp;rw[if_pos (by omega)]
    rw[if_neg (by simp;omega)]
    simp only[oB]
    rw[J0g hm.1.1 hm.1.2,E06 es _ (by omega),oB,←e]
    exact ih.trans fin
  ·have hd0:d=0:=by omega
   subst hd0
   have ih:=b0i w v r hw hl 0 (k+1) fuel v n (n9 U0 (stp u x v) es) (by omega) (by omega) h0 (by omega) (hput _)
   rw[Z0 (show k+1=w.length by omega)]at ih ⊢
   rw[L1 hk (by omega),if_neg (by simp;omega),D2 hx,oB]
   have fin:some (r,n+((0-1:Nat):Int),F5 U0 (n9 U0 (stp u x v) es) (g02 v [] v n))=some (r,n+((0+1-1:Nat):Int),F5 U0 es (g02 v [x] u n)):=by
    simp[g02,F5]
   by_cases c2:x>0
   ·have e:stp u x v=(u,x,v):=by unfold stp;rw[if_neg (by omega)]
    rw[if_pos (by simp[c2])]
    simp only[oB]
    rw[E06 es _ (by omega),oB,←e]
    exact ih.trans fin
   ·have e:stp u x v=(v,-x,u):=by unfold stp;rw[if_pos (by omega)]
    rw[if_neg (by simp;omega)]
    simp only[oB]
    rw[J0g hm.1.1 hm.1.2,E06 es _ (by omega),oB,←e]
    exact ih.trans fin
theorem s0f {es p:List K0} (hA:Asc U0 es):F5 U0 [] (es++p)=F5 U0 es p :=
 s09 p7 (f03 p7 _ _ .nil) (f03 p7 _ _ hA) fun x=>by
  rw[L00 p7,L00 p7];simp
def J3 (g:l0) (u:Int) (w:List Int) (v:Int):l0×Bool :=
 bif !w.isEmpty&&decide (g.2.1+(w.length:Int)-1≤40)&&decide (g.2.2.length+w.length≤120)then((g.1,g.2.1+((w.length-1:Nat):Int),F5 U0 g.2.2 (g02 v w u g.2.1)),true)else(g,false)
theorem c0i {r:Int} {w:List Int} (h:w5 r w=true):w.length≤24∧∀ x∈w,S8 x∧x≠0 ∧ -r≤x∧x≤r:=by
 have h1:=h
 simp only[w5,Bool.and_eq_true,decide_eq_true_eq]at h1
 refine⟨h1.1.2,fun x hx=>?_⟩
 obtain⟨i,hi⟩:=List.getElem?_of_mem hx
 have:=z03 h hi
 exact⟨⟨⟨by omega,by omega⟩,by omega⟩,this.2.2⟩
theorem R08 {g:l0} {u v:Int} {w:List Int} (hg:V0 g=true) (hu:0≤u∧u<g.2.1) (hv:0≤v∧v<g.2.1) (hw:w5 g.1 w=true):M9 g u w v=some (J3 g u w v):=by
 obtain⟨q1,q2,q3,q4⟩:=J2 hg
 obtain⟨wl,wx⟩:=c0i hw
 have h1:=g7 g (by omega)
 have h2:=m02 g (by omega)
 have h3:=z0a g.1 w (by omega)
 obtain⟨r,n,es⟩:=g
 simp only at q3 q4 hu hv h3
 have hwp:IntKind.i64.wrap (n-1)=n-1:=w64 (by omega) (by omega)
 have hin:∀ x:Int,0≤x∧x<n→inR 0 (n-1) x=true:=fun x hx=>by simp[inR];omega
 have h:=b0i w v r (fun x hx=>⟨(wx x hx).1,(wx x hx).2.1⟩) (by omega) w.length 0 N0 u n es (by omega) (W0 (by omega)) (by omega) (by omega) (by omega)
 unfold M9 J3
 simp only[h1,h2,hg,oB,Bool.not_true,Bool.not_false,O2,cond_false,hwp,h03,hin u hu,hin v hv,h3,hw]
 rw[w64 (show(-9223372036854775808:Int)≤n+((w.length:Nat):Int) by omega) (by omega),w64 (show(-9223372036854775808:Int)≤n+((w.length:Nat):Int)-1 by omega) (by omega),w64 (show(-9223372036854775808:Int)≤((es.length:Nat):Int)+((w.length:Nat):Int) by omega) (by omega)]
 by_cases c:(w≠[]∧n+(w.length:Int)-1≤40)∧es.length+w.length≤120
 ·have hne:w.length≠0:=by simpa using c.1.1
  rw[if_neg (by simp only[Bool.not_eq_true];simp[c.1.1];omega),show(0:Int)=((0:Nat):Int) from rfl,h,oB]
  rw[show(!w.isEmpty&&decide (n+(w.length:Int)-1≤40)&&decide (es.length+w.length≤120))=true by simp[c.1.1,c.1.2,c.2]]
  rfl
 ·rw[show(!w.isEmpty&&decide (n+(w.length:Int)-1≤40)&&decide (es.length+w.length≤120))=false by
   rw[←Bool.not_eq_true];simpa using c]
  rw[if_pos ?_]
  ·rfl
  ·by_cases d1:w = []
   ·simp[d1]
   ·by_cases d2:n+(w.length:Int)-1≤40
    ·have d3 : ¬ es.length+w.length≤120:=fun h=>c ⟨⟨d1,d2⟩,h⟩
     have:decide (((es.length:Nat):Int)+((w.length:Nat):Int)>120)=true:=by simp;omega
     rw[this];simp
    ·have:decide (n+((w.length:Nat):Int)-1>40)=true:=by simp;omega
     rw[this];simp
theorem K0q {g:l0} (hg:V0 g=true) {u:Int} (hu:0≤u∧u<g.2.1):D6 g u=some true:=by
 obtain⟨q1,q2,q3,q4⟩:=J2 hg
 obtain⟨r,n,es⟩:=g
 simp only at q3 hu
 unfold D6
 simp only[d02]
 rw[w64 (by omega) (by omega)]
 simp[inR];omega
theorem S08 {g:l0} {u v:Int} {w:List Int} (hg:V0 g=true) (hu:0≤u∧u<g.2.1) (hv:0≤v∧v<g.2.1) (hw:w5 g.1 w=true):O9 g u w v=some (J3 g u w v):=by
 obtain⟨q1,q2,q3,q4⟩:=J2 hg
 obtain⟨wl,wx⟩:=c0i hw
 have h1:=s00 g (by omega)
 have h2:=C01 g (by omega)
 have h3:=B0a g.1 w (by omega)
 have h4:=K0q hg hu
 have h5:=K0q hg hv
 have hA:=i0c hg
 obtain⟨r,n,es⟩:=g
 simp only at q3 q4 hu hv h3 hA
 have h:=a0i w v r (fun x hx=>(wx x hx).1) (by omega) w.length 0 N0 u n es (by omega) (W0 (by omega)) (by omega) (by omega) (by omega)
 have hpl:=u08 v w u n
 unfold O9 J3
 simp only[h1,h2,hg,oB,Bool.not_true,Bool.not_false,O2,cond_false,h4,h5]
 rw[w64 (show(-9223372036854775808:Int)≤n+((w.length:Nat):Int) by omega) (by omega),w64 (show(-9223372036854775808:Int)≤n+((w.length:Nat):Int)-1 by omega) (by omega),w64 (show(-9223372036854775808:Int)≤((es.length:Nat):Int)+((w.length:Nat):Int) by omega) (by omega)]
 by_cases d1:w = []
 ·subst d1
  simp[chk]
 rw[show decide (((w.length:Nat):Int)=0)=false by simp[d1],show(!false)=true from rfl,O2,h3,oB,hw]
 by_cases c:n+(w.length:Int)-1≤40∧es.length+w.length≤120
 ·rw[if_neg (by simp only[Bool.not_eq_true];simp;omega),show(0:Int)=((0:Nat):Int) from rfl,h,oB]
  rw[show(!w.isEmpty&&decide (n+(w.length:Int)-1≤40)&&decide (es.length+w.length≤120))=true by simp[d1,c.1,c.2]]
  simp only[List.drop_zero,cond_true]
  rw[M0a _ (by simp;omega),s0f hA]
  rfl
 ·rw[show(!w.isEmpty&&decide (n+(w.length:Int)-1≤40)&&decide (es.length+w.length≤120))=false by
   rw[←Bool.not_eq_true];simp only[Bool.and_eq_true,decide_eq_true_eq,Bool.not_eq_true'];omega]
  rw[if_pos ?_]
  ·rfl
  ·by_cases d2:n+(w.length:Int)-1≤40
   ·have d3 : ¬ es.length+w.length≤120:=fun h=>c ⟨d2,h⟩
    have:decide (((es.length:Nat):Int)+((w.length:Nat):Int)>120)=true:=by simp;omega
    rw[this];simp
   ·have:decide (n+((w.length:Nat):Int)-1>40)=true:=by simp;omega
    rw[this];simp
def ng (x:Int):Int:=IntKind.i64.wrap (0-x)
def inv (w:List Int):List Int:=(w.map ng).reverse
theorem e05 (w:List Int):(inv w).length=w.length:=by simp[inv]
def b0b (w:List Int):Prop:=∀ x∈w,H0 x
theorem e0p (w:List Int):b0b (inv w):=fun x hx=>by
 simp only[inv,List.mem_reverse,List.mem_map]at hx
 obtain⟨y,_,rfl⟩:=hx
 exact I0 _
theorem f0p {w:List Int} {k:Nat} {x:Int} (hx:w[k]?=some x):inv (w.drop k)=inv (w.drop (k+1)) ++ [ng x]:=by
 rw[F1 hx]
 simp[inv]
theorem B03 (w:List Int) (hl:w.length≤1099511627776):∀(k fuel:Nat),k≤w.length→k<fuel →
  G4 w fuel ((k:Int)-1) (inv (w.drop k))=some (inv w)
 |k,0,hk,hf=>by omega
 |0,fuel+1,hk,hf=>by
  rw[G4.eq_2,if_neg (by simp)]
  rfl
 |k+1,fuel+1,hk,hf=>by
  have hx:=Z3 (show k<w.length by omega)
  have next:=B03 w hl k fuel (by omega) (by omega)
  generalize w[k]=x at hx
  rw[f0p hx]at next
  have hlen:=e05 (w.drop (k+1))
  rw[List.length_drop]at hlen
  rw[show(((k+1:Nat):Int)-1)=(k:Int) by omega,G4.eq_2,if_pos (by simp),D2 hx,oB,C0 (by simp only[List.length_singleton];omega),oB,
   w64 (by omega) (by omega)]
  exact next
theorem c06 (w:List Int) (hl:w.length≤1099511627776):Y8 w=some (inv w):=by
 unfold Y8
 have h:=B03 w hl w.length N0 (Nat.le_refl _) (W0 (by omega))
 rw[List.drop_length]at h
 rw[w64 (by omega) (by omega),show([]:D0)=inv [] from rfl,h]
 rfl
theorem J02 (w:List Int):∀(fuel:Nat) (k:Int) (u:List Int),L6 w fuel k u=G4 w fuel k u
 |0,k,u=>rfl
 |fuel+1,k,u=>by
  rw[L6.eq_2,G4.eq_2]
  simp only[J02 w fuel]
theorem o0c (w:List Int) (hl:w.length≤1099511627776):l00 w=some (inv w):=by
 rw[←c06 w hl]
 unfold l00 Y8
 rw[C0 (by omega),oB,J02]
 rfl
def S0r (l x:Int):Bool := !(l == 0) && !(l == -9223372036854775808)&&(x == ng l)
def y0q (s:List Int) (x:Int):List Int:=match s with
 | []=>[x]
 |l::t=>bif S0r l x then t else x::l::t
def D0f:List (List Int)→Nat
 | []=>0
 |w::r=>w.length+D0f r
theorem E0n {x:B0} (h:U1 x=true) {i:Nat} {u:List Int} (hu:x.2[i]?=some u):b0b u∧u.length≤24:=by
 simp only[U1,L3,Bool.and_eq_true]at h
 have hw:∀ {ws:List (List Int)},b07 x.1 ws=true→∀ w∈ws,w5 x.1 w=true:=by
  intro ws
  induction ws with
  |nil=>intro _ w hw;cases hw
  |cons v r ih =>
   intro h w hw
   simp only[b07,Bool.and_eq_true]at h
   rcases List.mem_cons.1 hw with rfl|hw
   ·exact h.1
   ·exact ih h.2 w hw
 have h1:=hw h.1.1.2 u (List.mem_of_getElem? hu)
 refine⟨fun y hy=>?_,?_⟩
 ·obtain⟨j,hj⟩:=List.getElem?_of_mem hy
  obtain⟨h2,_,_,h3,h4⟩:=z03 h1 hj
  constructor <;> omega
 ·simp only[w5,Bool.and_eq_true,decide_eq_true_eq]at h1
  exact h1.1.2
theorem g0p {x:B0} (h:U1 x=true):x.2.length≤6:=by
 simp only[U1,L3,Bool.and_eq_true,decide_eq_true_eq]at h
 exact h.1.1.1.2
theorem t0k {ws:J1} {n:Nat} (h:e03 ws≤n) (hn:n≤140737488355328):ws.length≤140737488355328∧Q1 ws:=by
 unfold e03 at h
 exact⟨by omega,fun w hw=>by have:=G0e (m:=R02) hw;unfold R02 at this h;omega⟩
theorem N06 {x:B0} (h:J8 x≤1048576):x.2.length≤140737488355328∧Q1 x.2:=t0k (ws:=x.2) h (by decide)
end Go.Proofs.YtcakocbgbelmeaaGreat
