/- Texts of the claim, joined: Plain laws: the false claims of a notebook and others. -/
import Derived.Test.YtkjhghloldgioaaGreatPart24
import Derived.Test.YtkjhghloldgioaaGreatPart18
import Derived.Test.YtkjhghloldgioaaGreatPart23
namespace Go.Proofs.YtkjhghloldgioaaGreat
open Go.H
set_option linter.unusedVariables false
set_option linter.unusedSimpArgs false
def N0m(r:Int)(c:W9):Bool:=bif !decide (c.2.1=r)then true else !y03 c
def fcA(r:Int):List W9->Nat->List Int
 | [],_=>[]
 |c::t,k=>bif N0m r c then(k:Int)::fcA r t (k+1)else fcA r t (k+1)
theorem t0i(r:Int):∀(l:List W9) (k:Nat),(fcA r l k).length<=l.length
 | [],k=>Nat.le_refl _
 |c::t,k=>by
  have a:=t0i r t (k+1)
  unfold fcA
  cases N0m r c
  ·simp only[cond_false,List.length_cons];omega
  ·simp only[cond_true,List.length_cons];omega
def d0b(x:R3):Prop:=x.2.length<=1048576/\∀ c∈x.2,C06 c
def I00(x:R3):List Int:=fcA x.1 x.2 0
theorem q0k(r:Int)(cs:List W9)(o:cs.length<=1048576)(f:∀ c∈cs,C06 c):∀(d k fuel:Nat) (acc:List Int),k+d=cs.length->d<fuel->acc.length<=k ->
  C4 cs r fuel (k:Int) acc=some (acc++fcA r (cs.drop k) k)
 |d,k,0,acc,g,hf,e=>by omega
 |0,k,fuel+1,acc,g,hf,e=>by
  rw[C4.eq_2,if_neg (by simp only[decide_eq_true_eq];omega),D1 (by omega)];simp[fcA]
 |d+1,k,fuel+1,acc,g,hf,e=>by
  have i:k<cs.length:=by omega
  have a:=a5 i
  have j:=f _ (List.mem_of_getElem? a)
  have h:=G1 a
  generalize cs[k]=x at a j h
  have n:=m0c x j
  have b:=λm q=>q0k r cs o f d (k+1) fuel m (by omega) (by omega) q
  rw[C4.eq_2,if_pos (by simp only[decide_eq_true_eq];omega),h,fcA,P1 i (by omega)]
  unfold N0m
  simp only[Z1 a,oB]
  obtain⟨p,l,s,t,u,⟨v,w,y⟩,z⟩:=x
  simp only
  by_cases c:l=r
  ·simp only[decide_eq_true c,Bool.not_true,Bool.not_false,j1,oB,n,cond_false]
   cases y03 (p,l,s,t,u,(v,w,y),z)with
   |true =>
    simp only[Bool.not_true,Bool.false_eq_true,if_false,cond_false]
    exact b _ (by omega)
   |false =>
    simp only[Bool.not_false,if_true,cond_true]
    rw[D0 (by simp;omega),oB,b _ (by simp;omega)]
    simp
  ·simp only[decide_eq_false c,Bool.not_true,Bool.not_false,F1,oB,cond_true,if_true]
   rw[D0 (by simp;omega),oB,b _ (by simp;omega)]
   simp
theorem r0k(r:Int)(cs:List W9)(o:cs.length<=1048576)(f:∀ c∈cs,C06 c):∀(d k fuel:Nat) (acc:List Int),k+d=cs.length->d<fuel->acc.length<=k ->
  D4 cs r fuel (k:Int) acc=some (acc++fcA r (cs.drop k) k)
 |d,k,0,acc,g,hf,e=>by omega
 |0,k,fuel+1,acc,g,hf,e=>by
  rw[D4.eq_2,if_neg (by simp only[decide_eq_true_eq];omega),D1 (by omega)];simp[fcA]
 |d+1,k,fuel+1,acc,g,hf,e=>by
  have i:k<cs.length:=by omega
  have a:=a5 i
  have j:=f _ (List.mem_of_getElem? a)
  have h:=G1 a
  generalize cs[k]=x at a j h
  have n:=n0c x j
  have b:=λm q=>r0k r cs o f d (k+1) fuel m (by omega) (by omega) q
  rw[D4.eq_2,if_pos (by simp only[decide_eq_true_eq];omega),h,fcA,P1 i (by omega)]
  unfold N0m
  simp only[Z1 a,oB]
  obtain⟨p,l,s,t,u,⟨v,w,y⟩,z⟩:=x
  simp only
  by_cases c:l=r
  ·simp only[decide_eq_true c,Bool.not_true,Bool.not_false,j1,oB,n,cond_false]
   cases y03 (p,l,s,t,u,(v,w,y),z)with
   |true =>
    simp only[Bool.not_true,Bool.false_eq_true,if_false,cond_false]
    exact b _ (by omega)
   |false =>
    simp only[Bool.not_false,if_true,cond_true]
    rw[D0 (by simp;omega),oB,b _ (by simp;omega)]
    simp
  ·simp only[decide_eq_false c,Bool.not_true,Bool.not_false,F1,oB,cond_true,if_true]
   rw[D0 (by simp;omega),oB,b _ (by simp;omega)]
   simp
theorem s0k(x:R3)(h:d0b x):c00 x=some (I00 x):=by
 have a:=q0k x.1 x.2 h.1 h.2 x.2.length 0 P0 [] (by omega) (W0 (by have:=h.1;omega)) (by simp)
 rw[show((0:Nat):Int)=0 from rfl,List.drop_zero,List.nil_append]at a
 unfold I00
 obtain⟨r,cs⟩:=x
 unfold c00
 simp only at a ⊢
 rw[a];rfl
theorem t0k(x:R3)(h:d0b x):d00 x=some (I00 x):=by
 have a:=r0k x.1 x.2 h.1 h.2 x.2.length 0 P0 [] (by omega) (W0 (by have:=h.1;omega)) (by simp)
 rw[show((0:Nat):Int)=0 from rfl,List.drop_zero,List.nil_append]at a
 unfold I00
 obtain⟨r,cs⟩:=x
 unfold d00
 simp only at a ⊢
 rw[a];rfl
def t02(x:R3):Bool:=(inR 1 3 x.1&&decide (((x.2.length:Nat):Int)<=12))&&decide ((((I00 x).length:Nat):Int)=0)
theorem u0i(x:R3)(h:d0b x):K01 x=some (t02 x):=by
 have a:=s0k x h
 have b:=t0i x.1 x.2 0
 have c:=h.1
 have d:(I00 x).length<=x.2.length:=b
 unfold t02
 obtain⟨r,cs⟩:=x
 unfold K01
 simp only[d01,oB]at a c d ⊢
 have e:(bif inR 1 3 r then decide (((cs.length:Nat):Int)<=12)else false)=(inR 1 3 r&&decide (((cs.length:Nat):Int)<=12)):=by cases inR 1 3 r<;>rfl
 rw[e]
 cases inR 1 3 r&&decide (((cs.length:Nat):Int)<=12)with
 |false =>
  simp only[F1,oB,cond_false,Bool.false_and]
  rw[D0 (by simp)];rfl
 |true =>
  simp only[j1,a,oB,cond_true,Bool.true_and]
  rw[D0 (by omega)];rfl
theorem v0i(x:R3)(h:d0b x):L01 x=some (t02 x):=by
 have a:=t0k x h
 have b:=t0i x.1 x.2 0
 have c:=h.1
 have d:(I00 x).length<=x.2.length:=b
 unfold t02
 obtain⟨r,cs⟩:=x
 unfold L01
 simp only[W01,oB]at a c d ⊢
 have e:(bif inR 1 3 r then decide (((cs.length:Nat):Int)<=12)else false)=(inR 1 3 r&&decide (((cs.length:Nat):Int)<=12)):=by cases inR 1 3 r<;>rfl
 rw[e]
 cases inR 1 3 r&&decide (((cs.length:Nat):Int)<=12)with
 |false =>
  simp only[F1,oB,cond_false,Bool.false_and]
  rw[D0 (by simp)];rfl
 |true =>
  simp only[j1,a,oB,cond_true,Bool.true_and]
  rw[D0 (by omega)];rfl
theorem u0k{ws:T1}{n:Nat}(h:I5 ws<=n)(b:n<=140737488355328):ws.length<=140737488355328/\V7 ws:=by
 unfold I5 at h
 exact⟨by omega,λw a=>by have:=D0a (m:=F4) a;unfold F4 at this h;omega⟩
end Go.Proofs.YtkjhghloldgioaaGreat
