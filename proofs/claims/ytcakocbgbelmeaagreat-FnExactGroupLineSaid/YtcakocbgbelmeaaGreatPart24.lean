/- Texts of the claim, joined: Plain laws: vertices and edges added; the steps that are mis and others. -/
import Derived.Test.YtcakocbgbelmeaaGreatPart23
import Derived.Test.YtcakocbgbelmeaaGreatPart18
import Derived.Test.YtcakocbgbelmeaaGreatH33
import Derived.Test.YtcakocbgbelmeaaGreatH36
import Derived.Test.YtcakocbgbelmeaaGreatPart17
namespace Go.Proofs.YtcakocbgbelmeaaGreat
open Go.H
set_option linter.unusedVariables false
set_option linter.unusedSimpArgs false
def E2 (g:l0):l0×Bool:=bif decide (g.2.1<40)then((g.1,g.2.1+1,g.2.2),true)else(g,false)
theorem u0d {g:l0} (hg:V0 g=true):w9 g=some (E2 g):=by
 obtain⟨q1,q2,q3,q4⟩:=J2 hg
 have h1:=g7 g (by omega)
 have h2:=m02 g (by omega)
 obtain⟨r,n,es⟩:=g
 simp only at q3
 unfold w9 E2
 simp only[h1,h2,hg,oB,Bool.not_true,cond_false]
 by_cases c:n<40
 ·rw[if_neg (by simp;omega),w64 (by omega) (by omega)];simp[c]
 ·rw[if_pos (by simp;omega)];simp[c]
theorem v0d {g:l0} (hg:V0 g=true):A9 g=some (E2 g):=by
 obtain⟨q1,q2,q3,q4⟩:=J2 hg
 have h1:=s00 g (by omega)
 have h2:=C01 g (by omega)
 obtain⟨r,n,es⟩:=g
 simp only at q3
 unfold A9 E2
 simp only[h1,h2,hg,oB,Bool.not_true,cond_false]
 by_cases c:n<40
 ·rw[if_neg (by simp;omega),w64 (by omega) (by omega)];simp[c]
 ·rw[if_pos (by simp;omega)];simp[c]
theorem U06 {g:l0} (hg:V0 g=true):V0 (E2 g).1=true:=by
 unfold E2
 by_cases c:g.2.1<40
 ·simp only[c,decide_true,cond_true]
  obtain⟨q1,q2,q3,q4,q5⟩:=(h01 g).1 hg
  refine(h01 _).2 ⟨fun e he=>?_,q2,?_,q4,q5⟩
  ·have:=q1 e he
   simp only
   omega
  ·simp only;omega
 ·simp only[c,decide_false,cond_false];exact hg
theorem d0q {es:List K0} {e:K0} (hA:Asc U0 es) (he:e∈es):n9 U0 e es=es :=
 s09 p7 (Q0e p7 _ _ hA) hA fun x=>by
  rw[x04 p7]
  constructor
  ·rintro(rfl|h)
   ·exact he
   ·exact h
  ·exact .inr
theorem O0j (e:K0):∀ {es:List K0},e ∉ es→(n9 U0 e es).length=es.length+1
 | [],_=>rfl
 |y::l,h=>by
  have ih:=O0j e (es:=l) fun hm=>h (mC _ hm)
  unfold n9
  split
  ·rfl
  ·split
   ·rename_i c
    exact absurd (p7.eq _ _ c) fun hh=>h (by rw[hh];exact List.mem_cons_self ..)
   ·simp only[List.length_cons,ih]
def W8 (g:l0) (e:K0):l0×Bool:=bif decide (g.2.2.length<120) && !decide (e∈g.2.2)then((g.1,g.2.1,n9 U0 e g.2.2),true)else(g,false)
def C0n (g:l0) (e:K0):Prop:=(0≤e.1∧e.1<g.2.1)∧(0≤e.2.2∧e.2.2<g.2.1)∧1≤e.2.1∧e.2.1≤g.1
theorem a0p {g:l0} (hg:V0 g=true) {e:K0} (he:C0n g e):K03 g.1 (IntKind.i64.wrap (g.2.1-1)) e=true:=by
 obtain⟨q1,q2,q3,q4⟩:=J2 hg
 rw[w64 (by omega) (by omega)]
 unfold C0n at he
 simp only[K03,inR,Bool.and_eq_true,decide_eq_true_eq]
 omega
theorem Y0f {g:l0} {e:K0} (hg:V0 g=true) (he:C0n g e):N9 g e=some (W8 g e):=by
 obtain⟨q1,q2,q3,q4⟩:=J2 hg
 have h1:=g7 g (by omega)
 have h2:=m02 g (by omega)
 have h3:=t0j g e
 rw[a0p hg he]at h3
 have h4:=E06 g.2.2 e (by omega)
 have hA:=i0c hg
 obtain⟨r,n,es⟩:=g
 obtain⟨e0,e1,e2⟩:=e
 simp only at q4 hA h4
 unfold N9 W8
 simp only[h1,h2,hg,oB,Bool.not_true,Bool.not_false,cond_false,O2,h3]
 by_cases c:es.length<120
 ·rw[if_neg (by simp;omega),h4,oB]
  by_cases d:(e0,e1,e2)∈es
  ·rw[d0q hA d]
   simp[c,d]
  ·have:=O0j (e0,e1,e2) d
   simp only[this,c,d,decide_true,decide_false,Bool.not_false,Bool.and_true,cond_true]
   simp
   omega
 ·rw[if_pos (by simp;omega)]
  simp[c]
theorem y0m (es:List K0) (e:K0) (hl:es.length≤140737488355328):∀(d k fuel:Nat),k+d=es.length→d<fuel →
  ∃ X,O1 es e.1 e.2.1 e.2.2 fuel (k:Int)=some X∧((∃ i:Nat,X = .inl (i:Int)∧i<es.length∧e∈es.drop k)∨(X = .inr ()∧e ∉ es.drop k))
 |d,k,0,hd,hf=>by omega
 |0,k,fuel+1,hd,hf=>by
  rw[O1.eq_2,if_neg (by simp;omega),Z0 (by omega)]
  exact⟨_,rfl,.inr ⟨rfl,by simp⟩⟩
 |d+1,k,fuel+1,hd,hf=>by
  have hk:k<es.length:=by omega
  have hx:=Z3 hk
  generalize es[k]=b at hx
  rw[O1.eq_2,if_pos (by simp;omega),D2 hx,oB,F1 hx]
  simp only[]
  by_cases c:eqE e b=true
  ·rw[if_pos c]
   refine⟨_,rfl,.inl ⟨k,rfl,hk,?_⟩⟩
   rw[(U0h _ _).1 c]
   exact List.mem_cons_self ..
  ·rw[if_neg c,L1 hk (by omega)]
   obtain⟨X,h1,h2⟩:=y0m es e hl d (k+1) fuel (by omega) (by omega)
   refine⟨X,h1,?_⟩
   have hne:e≠b:=fun h=>c ((U0h _ _).2 h)
   rcases h2 with⟨i,q1,q2,q3⟩|⟨q1,q2⟩
   ·exact .inl ⟨i,q1,q2,mC _ q3⟩
   ·refine .inr ⟨q1,fun h=>?_⟩
    rcases List.mem_cons.1 h with h|h
    ·exact hne h
    ·exact q2 h
theorem k0l (es:List K0) (e:K0) (hl:es.length≤140737488355328):B3 es e=some (decide (e∈es)):=by
 obtain⟨X,h1,h2⟩:=y0m es e hl es.length 0 N0 (by omega) (W0 hl)
 obtain⟨e0,e1,e2⟩:=e
 unfold B3 V4
 simp only
 simp only[List.drop_zero]at h2
 rw[show(0:Int)=((0:Nat):Int) from rfl,h1]
 rcases h2 with⟨i,rfl,q2,q3⟩|⟨rfl,q2⟩
 ·simp only[oB,G2]
  rw[C0 (show H0 ((i:Nat):Int) from⟨by omega,by omega⟩)]
  simp[q3]
 ·simp only[oB,P0]
  rw[C0 (show H0 (-1) from⟨by omega,by omega⟩)]
  simp[q2]
theorem Z0f {g:l0} {e:K0} (hg:V0 g=true) (he:C0n g e):A00 g e=some (W8 g e):=by
 obtain⟨q1,q2,q3,q4⟩:=J2 hg
 have h1:=s00 g (by omega)
 have h2:=C01 g (by omega)
 have h3:=S06 g e
 rw[a0p hg he]at h3
 have h4:=k0l g.2.2 e (by omega)
 have hA:=i0c hg
 obtain⟨r,n,es⟩:=g
 obtain⟨e0,e1,e2⟩:=e
 simp only at q4 hA h4
 unfold A00 W8
 simp only[h1,h2,hg,oB,Bool.not_true,Bool.not_false,cond_false,O2,h3,h4]
 by_cases d:(e0,e1,e2)∈es
 ·simp[d]
 ·by_cases c:es.length<120
  ·rw[if_neg (by simp[d];omega),C0 (by simp;omega),oB,M0a _ (by simp;omega),s0f hA]
   simp[c,d,F5]
  ·have:es.length=120:=by omega
   rw[if_pos (by simp[this])]
   simp[c]
def C04 (g:l0) (v:Int):List Int→List K0
 | []=>[]
 |x::r=>(bif decide (J6 g v x<0)then [(v,x,-1)]else [])++C04 g v r
def T08 (g:l0):Nat→Nat→List K0
 |0,_=>[]
 |d+1,v=>C04 g (v:Int) (D01 g.1.toNat 1)++T08 g d (v+1)
theorem j0c (g:l0) (v:Int):∀ l,(C04 g v l).length≤l.length
 | []=>Nat.le_refl _
 |x::r=>by
  have:=j0c g v r
  simp only[C04,List.length_append,List.length_cons]
  cases decide (J6 g v x<0) <;> simp <;> omega
theorem P0j (g:l0) (hg:V0 g=true) (v:Int) (ls:List Int) (hls:∀ x∈ls,S8 x) (hl:ls.length≤1000):∀(d k fuel:Nat) (acc:List K0),k+d=ls.length→d<fuel→acc.length+d≤100000 →
  Q3 ls g.1 g.2.1 g.2.2 v fuel (k:Int) acc=some (acc++C04 g v (ls.drop k))
 |d,k,0,acc,hd,hf,ha=>by omega
 |0,k,fuel+1,acc,hd,hf,ha=>by
  rw[Q3.eq_2,if_neg (by simp;omega),Z0 (by omega)]
  simp[C04]
 |d+1,k,fuel+1,acc,hd,hf,ha=>by
  obtain⟨q1,q2,q3,q4⟩:=J2 hg
  have hk:k<ls.length:=by omega
  have hx:=Z3 hk
  have hm:=hls _ (List.getElem_mem hk)
  generalize ls[k]=x at hx hm
  have ih:∀ acc':List K0,acc'.length+d≤100000→Q3 ls g.1 g.2.1 g.2.2 v fuel ((k+1:Nat):Int) acc'=some (acc'++C04 g v (ls.drop (k+1))):=fun acc' h=>P0j g hg v ls hls hl d (k+1) fuel acc' (by omega) (by omega) h
  rw[Q3.eq_2,if_pos (by simp;omega),D2 hx,oB,show(g.1,g.2.1,g.2.2)=g from rfl,t09 g v x hm (by omega),oB,C0 (C06 q1 q3.2 v x),oB,L1 hk (by omega),F1 hx,C04]
  cases decide (J6 g v x<0)with
  |true =>
   rw[if_pos rfl,oB,C0 (by simp;omega),oB,ih _ (by simp;omega)]
   simp
  |false =>
   rw[if_neg (by simp),ih _ (by omega)]
   simp
theorem Q0j (g:l0) (hg:V0 g=true) (v:Int) (ls:List Int) (hls:∀ x∈ls,S8 x) (hl:ls.length≤1000):∀(d k fuel:Nat) (acc:List K0),k+d=ls.length→d<fuel→acc.length+d≤100000 →
  R3 ls g.1 g.2.1 g.2.2 v fuel (k:Int) acc=some (acc++C04 g v (ls.drop k))
 |d,k,0,acc,hd,hf,ha=>by omega
 |0,k,fuel+1,acc,hd,hf,ha=>by
  rw[R3.eq_2,if_neg (by simp;omega),Z0 (by omega)]
  simp[C04]
 |d+1,k,fuel+1,acc,hd,hf,ha=>by
  obtain⟨q1,q2,q3,q4⟩:=J2 hg
  have hk:k<ls.length:=by omega
  have hx:=Z3 hk
  have hm:=hls _ (List.getElem_mem hk)
  generalize ls[k]=x at hx hm
  have ih:∀ acc':List K0,acc'.length+d≤100000→R3 ls g.1 g.2.1 g.2.2 v fuel ((k+1:Nat):Int) acc'=some (acc'++C04 g v (ls.drop (k+1))):=fun acc' h=>Q0j g hg v ls hls hl d (k+1) fuel acc' (by omega) (by omega) h
  rw[R3.eq_2,if_pos (by simp;omega),D2 hx,oB,show(g.1,g.2.1,g.2.2)=g from rfl,u09 g v x hm (by omega),oB,C0 (C06 q1 q3.2 v x),oB,L1 hk (by omega),F1 hx,C04]
  cases decide (J6 g v x<0)with
  |true =>
   rw[if_pos rfl,C0 (by simp;omega),oB,ih _ (by simp;omega)]
   simp
  |false =>
   rw[if_neg (by simp),ih _ (by omega)]
   simp
theorem R0a:∀(d i:Nat) (x:Int),x∈D01 d i→∃ j:Nat,i≤j∧j<i+d∧(x=(j:Int)∨x = -(j:Int))
 |0,i,x,h=>by simp[D01]at h
 |d+1,i,x,h=>by
  simp only[D01,List.mem_cons]at h
  rcases h with rfl|rfl|h
  ·exact⟨i,Nat.le_refl _,by omega,.inl rfl⟩
  ·exact⟨i,Nat.le_refl _,by omega,.inr rfl⟩
  ·obtain⟨j,h1,h2,h3⟩:=R0a d (i+1) x h
   exact⟨j,by omega,by omega,h3⟩
theorem R0j (g:l0) (hf0:Y0 g=true):∀(d k fuel:Nat) (acc:List K0),k+d=g.2.1.toNat→d<fuel→acc.length+100*d≤10000 →
  c5 g.2.1 g.1 g.2.2 fuel (k:Int) acc=some (acc++T08 g d k)
 |d,k,0,acc,hd,hf,ha=>by omega
 |0,k,fuel+1,acc,hd,hf,ha=>by
  obtain⟨q1,q2,q3,q4⟩:=A5 hf0
  rw[c5.eq_2,show decide (((k:Nat):Int)<g.2.1)=false by simp;omega]
  simp[chk,T08]
 |d+1,k,fuel+1,acc,hd,hf,ha=>by
  obtain⟨q1,q2,q3,q4⟩:=A5 hf0
  have hg:=((d9 g).1 hf0).1
  obtain⟨R,hR⟩:∃ R:Nat,g.1=(R:Int):=⟨g.1.toNat,by omega⟩
  have hls:∀ x∈D01 g.1.toNat 1,S8 x:=fun x hx=>by
   obtain⟨j,h1,h2,h3⟩:=R0a _ _ _ hx
   refine⟨⟨by omega,by omega⟩,by omega⟩
  have hlen:=Y05 g.1.toNat 1
  have hm:=j0c g (k:Int) (D01 g.1.toNat 1)
  have h0:=P0j g hg (k:Int) (D01 g.1.toNat 1) hls (by omega) (D01 g.1.toNat 1).length 0 N0 acc (by omega) (W0 (by omega)) (by omega)
  rw[c5.eq_2,show decide (((k:Nat):Int)<g.2.1)=true by simp;omega,O2,show(g.1,g.2.1,g.2.2)=g from rfl,y00 g (by omega),oB,hf0]
  rw[if_pos (show(bif true then true else false)=true from rfl),show E8 g.1=some (D01 g.1.toNat 1) by rw[hR,T0o R (by omega)];rfl,oB,show(0:Int)=((0:Nat):Int) from rfl,h0,oB,L1 (show k<1000 by omega) (by omega),R0j g hf0 d (k+1) fuel _ (by omega) (by omega) (by simp;omega),T08]
  simp
theorem S0j (g:l0) (hf0:Y0 g=true):∀(d k fuel:Nat) (acc:List K0),k+d=g.2.1.toNat→d<fuel→acc.length+100*d≤10000 →
  d5 g.2.1 g.1 g.2.2 fuel (k:Int) acc=some (acc++T08 g d k)
 |d,k,0,acc,hd,hf,ha=>by omega
 |0,k,fuel+1,acc,hd,hf,ha=>by
  obtain⟨q1,q2,q3,q4⟩:=A5 hf0
  rw[d5.eq_2,if_neg (by simp;omega)]
  simp[T08]
 |d+1,k,fuel+1,acc,hd,hf,ha=>by
  obtain⟨q1,q2,q3,q4⟩:=A5 hf0
  have hg:=((d9 g).1 hf0).1
  obtain⟨R,hR⟩:∃ R:Nat,g.1=(R:Int):=⟨g.1.toNat,by omega⟩
  have hls:∀ x∈D01 g.1.toNat 1,S8 x:=fun x hx=>by
   obtain⟨j,h1,h2,h3⟩:=R0a _ _ _ hx
   refine⟨⟨by omega,by omega⟩,by omega⟩
  have hlen:=Y05 g.1.toNat 1
  have hm:=j0c g (k:Int) (D01 g.1.toNat 1)
  have h0:=Q0j g hg (k:Int) (D01 g.1.toNat 1) hls (by omega) (D01 g.1.toNat 1).length 0 N0 acc (by omega) (W0 (by omega)) (by omega)
  rw[d5.eq_2,if_pos (by simp;omega),show L9 g.1=some (D01 g.1.toNat 1) by rw[hR,S0o R (by omega)];rfl,oB,show(0:Int)=((0:Nat):Int) from rfl,h0,oB,L1 (show k<1000 by omega) (by omega),S0j g hf0 d (k+1) fuel _ (by omega) (by omega) (by simp;omega),T08]
  simp
def E7 (g:l0):List K0:=T08 g g.2.1.toNat 0
theorem a0g {g:l0} (hf:Y0 g=true):a8 g=some (E7 g):=by
 obtain⟨q1,q2,q3,q4⟩:=A5 hf
 have h:=R0j g hf g.2.1.toNat 0 N0 [] (by omega) (W0 (by omega)) (by simp;omega)
 obtain⟨r,n,es⟩:=g
 unfold a8 E7
 simp only at h ⊢
 rw[show(0:Int)=((0:Nat):Int) from rfl,h];simp
theorem b0g {g:l0} (hf:Y0 g=true):c8 g=some (E7 g):=by
 obtain⟨q1,q2,q3,q4⟩:=A5 hf
 have h:=S0j g hf g.2.1.toNat 0 N0 [] (by omega) (W0 (by omega)) (by simp;omega)
 have h2:=B01 g (by omega)
 obtain⟨r,n,es⟩:=g
 unfold c8 E7
 simp only[h2,hf,oB]at h ⊢
 rw[if_neg (by simp),show(0:Int)=((0:Nat):Int) from rfl,h];simp
theorem Y0g {g:l0} {v:Int} {e:K0}:∀ {l:List Int},e∈C04 g v l→e.1=v∧e.2.1∈l∧e.2.2 = -1
 | [],h=>nomatch h
 |x::r,h=>by
  simp only[C04,List.mem_append]at h
  rcases h with h|h
  ·cases hd:decide (J6 g v x<0)with
   |true =>
    rw[hd]at h
    simp at h
    subst h
    exact⟨rfl,List.mem_cons_self ..,rfl⟩
   |false=>rw[hd]at h;simp at h
  ·obtain⟨h1,h2,h3⟩:=Y0g h
   exact⟨h1,mC _ h2,h3⟩
theorem Z0g {g:l0} {e:K0}:∀ {d k:Nat},e∈T08 g d k→((k:Int)≤e.1∧e.1<(k:Int)+d)∧e.2.1∈D01 g.1.toNat 1
 |0,k,h=>nomatch h
 |d+1,k,h=>by
  rcases List.mem_append.1 (show e∈C04 g (k:Int) (D01 g.1.toNat 1)++T08 g d (k+1) from h)with h|h
  ·obtain⟨h1,h2,_⟩:=Y0g h
   exact⟨by omega,h2⟩
  ·obtain⟨h1,h2⟩:=Z0g h
   exact⟨by omega,h2⟩
theorem N07 {g:l0} (hf:Y0 g=true) {e:K0} (h:e∈E7 g):(0≤e.1∧e.1<g.2.1)∧e.2.1≠0 ∧ -g.1≤e.2.1∧e.2.1≤g.1:=by
 obtain⟨q1,q2,q3,q4⟩:=A5 hf
 obtain⟨h1,h2⟩:=Z0g h
 obtain⟨j,k1,k2,k3⟩:=R0a _ _ _ h2
 refine⟨by omega,by omega,by omega,by omega⟩
theorem O07 {x:B0} (h:U1 x=true):∀ w∈x.2,w5 x.1 w=true:=by
 simp only[U1,L3,Bool.and_eq_true]at h
 have hw:∀ {ws:List (List Int)},b07 x.1 ws=true→∀ w∈ws,w5 x.1 w=true:=by
  intro ws
  induction ws with
  |nil=>intro _ w hw;cases hw
  |cons v r ih =>
   intro h w hw
   simp only[b07,Bool.and_eq_true]at h
   rcases List.mem_cons.1 hw with rfl|hw
   ·exact h.1
   ·exact ih h.2 w hw
 exact hw h.1.1.2
theorem S0a {x:B0} (h:U1 x=true):∀ w∈x.2,(∀ y∈w,S8 y)∧w.length≤24:=fun w hw=>by
 have h1:=O07 h w hw
 refine⟨fun y hy=>?_,?_⟩
 ·obtain⟨i,hi⟩:=List.getElem?_of_mem hy
  have:=z03 h1 hi
  refine⟨⟨by omega,by omega⟩,by omega⟩
 ·simp only[w5,Bool.and_eq_true,decide_eq_true_eq]at h1
  exact h1.1.2
theorem G06 {x:B0} (h:U1 x=true):x.2.length≤6:=by
 simp only[U1,L3,Bool.and_eq_true,decide_eq_true_eq]at h
 exact h.1.1.1.2
def D0n (g:l0) (v:Int) (r:List Int):Bool:=bif decide ((I00 g v r).2<r.length)then true else !decide ((I00 g v r).1=v)
def t0f (g:l0) (v:Int):List (List Int)→Nat→Option Nat
 | [],_=>none
 |r::l,i=>bif D0n g v r then some i else t0f g v l (i+1)
def H06 (g:l0) (rels:List (List Int)):Nat→Nat→Option (Nat×Nat)
 |0,_=>none
 |d+1,v=>match t0f g (v:Int) rels 0 with
  |some i=>some (v,i)
  |none=>H06 g rels d (v+1)
def u0f (q:Option (Nat×Nat)):Int×Int:=match q with
 |some (v,i)=>((v:Int),(i:Int))
 |none=>(-1,-1)
def i01 (p:B0) (g:l0):Int×Int:=bif U1 p&&Y0 g&&decide (p.1=g.1)then u0f (H06 g p.2 g.2.1.toNat 0)else(-1,-1)
theorem v0f (rels:List (List Int)) (hrel:∀ w∈rels,(∀ y∈w,S8 y)∧w.length≤24) (r n:Int) (es:List K0) (hg:inG (r,n,es)) (hn:n≤40) (hes:es.length≤120) (hl:rels.length≤6) (v:Int) (hv:H0 v):∀(d k fuel:Nat),k+d=rels.length→d<fuel →
  I5 rels r n es v fuel (k:Int)=some (match t0f (r,n,es) v (rels.drop k) k with|some i => .inl (v,(i:Int))|none => .inr ())
 |d,k,0,hd,hf=>by omega
 |0,k,fuel+1,hd,hf=>by
  rw[I5.eq_2,if_neg (by simp;omega),Z0 (by omega)]
  rfl
 |d+1,k,fuel+1,hd,hf=>by
  have hk:k<rels.length:=by omega
  have hx:=Z3 hk
  obtain⟨hxm,hxl⟩:=hrel _ (List.getElem_mem hk)
  generalize rels[k]=w at hx hxm hxl
  have hle:=Z0e (r,n,es) w v
  rw[I5.eq_2,if_pos (by simp;omega),D2 hx,oB,h0r (r,n,es) hg hn (by simp only;omega) v w hxm (by omega),oB,F1 hx]
  simp only[C0 (a0f hg hn w v hv),C0 (show H0 (((I00 (r,n,es) v w).2:Nat):Int) from⟨by omega,by omega⟩),oB,t0f]
  have e:(bif decide ((((I00 (r,n,es) v w).2:Nat):Int)<((w.length:Nat):Int))then true else !decide ((I00 (r,n,es) v w).1=v))=D0n (r,n,es) v w:=by
   unfold D0n
   simp
  rw[e]
  cases D0n (r,n,es) v w with
  |true=>rfl
  |false =>
   rw[if_neg (by simp),L1 hk (by omega)]
   exact v0f rels hrel r n es hg hn hes hl v hv d (k+1) fuel (by omega) (by omega)
theorem w0f (rels:List (List Int)) (hrel:∀ w∈rels,(∀ y∈w,S8 y)∧w.length≤24) (r:Int) (N:Nat) (es:List K0) (hg:inG (r,(N:Int),es)) (hn:N≤40) (hes:es.length≤120) (hl:rels.length≤6):∀(d k fuel:Nat),k+d=N→d<fuel →
  J5 (N:Int) rels r es fuel (k:Int)=some (match H06 (r,(N:Int),es) rels d k with|some (v,i) => .inl ((v:Int),(i:Int))|none => .inr ())
 |d,k,0,hd,hf=>by omega
 |0,k,fuel+1,hd,hf=>by
  rw[J5.eq_2,if_neg (by simp;omega)]
  rfl
 |d+1,k,fuel+1,hd,hf=>by
  have h0:=v0f rels hrel r (N:Int) es hg (by omega) hes hl (k:Int) ⟨by omega,by omega⟩ rels.length 0 N0 (by omega) (W0 (by omega))
  rw[show((0:Nat):Int)=0 from rfl,List.drop_zero]at h0
  rw[J5.eq_2,if_pos (by simp;omega),h0,oB]
  simp only[H06]
  cases t0f (r,(N:Int),es) (k:Int) rels 0 with
  |some i=>rfl
  |none =>
   simp only[w0a]
   rw[L1 (show k<N by omega) (by omega)]
   exact w0f rels hrel r N es hg hn hes hl d (k+1) fuel (by omega) (by omega)
theorem T0a (p:B0) (g:l0) (hl:p.2.length≤140737488355328) (hs:Q1 p.2) (hl2:g.2.2.length≤140737488355328):G8 p g=some (i01 p g):=by
 have hP:=p6 p hl hs
 have hF:=B01 g hl2
 unfold i01
 obtain⟨pr,rels⟩:=p
 obtain⟨r,n,es⟩:=g
 unfold G8
 simp only[hP,oB]
 cases hp:U1 (pr,rels)with
 |false=>rfl
 |true =>
  simp only[Bool.not_true,Bool.not_false,O2,hF,oB,cond_false,Bool.true_and]
  cases hf:Y0 (r,n,es)with
  |false=>rfl
  |true =>
   by_cases hr:pr=r
   ·simp only[Bool.not_true,cond_false,hr,decide_true,Bool.true_and,cond_true,Bool.false_eq_true,if_false]
    obtain⟨hg,_,hn,hes⟩:=A5 hf
    simp only at hn hes
    obtain⟨N,rfl⟩:∃ N:Nat,n=(N:Int):=⟨n.toNat,by omega⟩
    have h:=w0f rels (S0a hp) r N es hg (by omega) hes (G06 hp) N 0 N0 (by omega) (W0 (by omega))
    rw[show((0:Nat):Int)=0 from rfl]at h
    rw[h,oB,Int.toNat_natCast]
    cases H06 (r,(N:Int),es) rels N 0 <;> rfl
   ·simp[hr]
theorem x0f (rels:List (List Int)) (hrel:∀ w∈rels,(∀ y∈w,S8 y)∧w.length≤24) (r n:Int) (es:List K0) (hf:Y0 (r,n,es)=true) (hl:rels.length≤6) (v:Int) (hv:0≤v∧v<n):∀(d k fuel:Nat),k+d=rels.length→d<fuel →
  H5 rels r n es v fuel (k:Int)=some (match t0f (r,n,es) v (rels.drop k) k with|some i => .inl (v,(i:Int))|none => .inr ())
 |d,k,0,hd,hf'=>by omega
 |0,k,fuel+1,hd,hf'=>by
  rw[H5.eq_2,if_neg (by simp;omega),Z0 (by omega)]
  rfl
 |d+1,k,fuel+1,hd,hf'=>by
  have hk:k<rels.length:=by omega
  have hx:=Z3 hk
  obtain⟨hxm,hxl⟩:=hrel _ (List.getElem_mem hk)
  generalize rels[k]=w at hx hxm hxl
  obtain⟨hg,_,hn,hes⟩:=A5 hf
  simp only at hn hes
  have h64:H0 v:=⟨by omega,by omega⟩
  rw[H5.eq_2,if_pos (by simp;omega),D2 hx,oB,i0r (r,n,es) hf v hv w hxm (by omega),oB,F1 hx]
  simp only[t0f,D0n]
  cases decide ((I00 (r,n,es) v w).2<w.length)with
  |true =>
   simp only[cond_true,C0 (show H0 (-1) by decide),oB,Bool.not_false,if_true]
  |false =>
   simp only[cond_false,C0 (a0f hg hn.2 w v h64),oB,Bool.not_true]
   cases decide ((I00 (r,n,es) v w).1=v)with
   |false=>rfl
   |true =>
    rw[if_neg (by simp),L1 hk (by omega)]
    exact x0f rels hrel r n es hf hl v hv d (k+1) fuel (by omega) (by omega)
theorem y0f (rels:List (List Int)) (r:Int) (N:Nat) (es:List K0) (hp:U1 (r,rels)=true) (hf:Y0 (r,(N:Int),es)=true) (hl:rels.length≤140737488355328) (hs:Q1 rels):∀(d k fuel:Nat),k+d=N→d<fuel →
  Y3 (N:Int) r rels r es fuel (k:Int)=some (match H06 (r,(N:Int),es) rels d k with|some (v,i) => .inl ((v:Int),(i:Int))|none => .inr ())
 |d,k,0,hd,hf'=>by omega
 |0,k,fuel+1,hd,hf'=>by
  have e:decide ((k:Int)<(N:Int))=false:=by simp;omega
  rw[Y3.eq_2,e,L5,oB]
  simp only[cond_false,L5,oB]
  rw[if_neg (by simp)]
  rfl
 |d+1,k,fuel+1,hd,hf'=>by
  obtain⟨hg,_,hn,hes⟩:=A5 hf
  simp only at hn hes
  have e:decide ((k:Int)<(N:Int))=true:=by simp;omega
  have h0:=x0f rels (S0a hp) r (N:Int) es hf (G06 hp) (k:Int) ⟨by omega,by omega⟩ rels.length 0 N0 (by omega) (W0 (by omega))
  rw[show((0:Nat):Int)=0 from rfl,List.drop_zero]at h0
  rw[Y3.eq_2,e,O2,O4 (r,rels) hl hs,oB,hp]
  simp only[cond_true,O2,y00 (r,(N:Int),es) (show es.length≤140737488355328 by omega),hf,oB,decide_true,if_true,h0]
  simp only[H06]
  cases t0f (r,(N:Int),es) (k:Int) rels 0 with
  |some i=>rfl
  |none =>
   simp only[w0a]
   rw[L1 (show k<N by omega) (by omega)]
   exact y0f rels r N es hp hf hl hs d (k+1) fuel (by omega) (by omega)
theorem U0a (p:B0) (g:l0) (hl:p.2.length≤140737488355328) (hs:Q1 p.2) (hl2:g.2.2.length≤140737488355328):F8 p g=some (i01 p g):=by
 have hP:=O4 p hl hs
 have hF:=y00 g hl2
 unfold i01
 obtain⟨pr,rels⟩:=p
 obtain⟨r,n,es⟩:=g
 unfold F8
 have stop:(U1 (pr,rels)&&Y0 (r,n,es)&&decide (pr=r))=false→Y3 n pr rels r es N0 0=some (.inr ()):=fun hno=>by
  rw[show N0=(N0-1)+1 from rfl,Y3.eq_2]
  cases decide ((0:Int)<n)with
  |false=>simp[chk]
  |true =>
   simp only[O2,hP,oB,cond_true]
   cases hp:U1 (pr,rels)with
   |false=>simp[chk]
   |true =>
    simp only[O2,hF,oB,cond_true]
    rw[hp]at hno
    cases hf:Y0 (r,n,es)with
    |false=>simp
    |true =>
     rw[hf]at hno
     simp only[Bool.true_and]at hno
     simp[hno]
 cases hall:(U1 (pr,rels)&&Y0 (r,n,es)&&decide (pr=r))with
 |false =>
  simp only[stop hall,oB,hall,cond_false]
  rfl
 |true =>
  simp only[Bool.and_eq_true,decide_eq_true_eq]at hall
  obtain⟨⟨hp,hf⟩,rfl⟩:=hall
  obtain⟨hg,_,hn,hes⟩:=A5 hf
  simp only at hn hes
  obtain⟨N,rfl⟩:∃ N:Nat,n=(N:Int):=⟨n.toNat,by omega⟩
  have h:=y0f rels pr N es hp hf hl hs N 0 N0 (by omega) (W0 (by omega))
  rw[show((0:Nat):Int)=0 from rfl]at h
  simp only[h,oB,hp,hf,decide_true,Bool.true_and,cond_true,Int.toNat_natCast]
  cases H06 (pr,(N:Int),es) rels N 0 <;> rfl
theorem a0h {g:l0} {v:Int}:∀ {l:List (List Int)} {k i:Nat},t0f g v l k=some i→k≤i∧i<k+l.length
 | [],k,i,h=>nomatch h
 |r::l,k,i,h=>by
  unfold t0f at h
  cases hb:D0n g v r with
  |true =>
   rw[hb]at h
   simp only[cond_true,Option.some.injEq]at h
   subst h
   simp
  |false =>
   rw[hb]at h
   have:=a0h (l:=l) (k:=k+1) (i:=i) h
   simp only[List.length_cons];omega
theorem k0c {g:l0} {rels:List (List Int)}:∀ {d k v i:Nat},H06 g rels d k=some (v,i)→(k≤v∧v<k+d)∧i<rels.length
 |0,k,v,i,h=>nomatch h
 |d+1,k,v,i,h=>by
  unfold H06 at h
  cases hr:t0f g (k:Int) rels 0 with
  |some j =>
   rw[hr]at h
   simp only[Option.some.injEq,Prod.mk.injEq]at h
   obtain⟨rfl,rfl⟩:=h
   have:=a0h hr
   omega
  |none =>
   rw[hr]at h
   have:=k0c (d:=d) (k:=k+1) h
   omega
def T0j (p:B0) (g:l0) (v i:Nat):l0×Bool×Bool:=match p.2[i]? with
 |some w=>bif(J3 g (v:Int) w (v:Int)).2 then((U4 (J3 g (v:Int) w (v:Int)).1).1,true,true)else(g,false,false)
 |none=>(g,false,false)
def U0j (g:l0):l0×Bool×Bool:=match E7 g with
 | []=>(g,false,true)
 |e::_=>bif(E2 g).2 then(bif(W8 (E2 g).1 (stp e.1 e.2.1 g.2.1)).2 then((W8 (E2 g).1 (stp e.1 e.2.1 g.2.1)).1,true,true)else(g,false,false))else(g,false,false)
def A2 (p:B0) (g:l0):l0×Bool×Bool:=bif U1 p&&Y0 g&&decide (p.1=g.1)then(match H06 g p.2 g.2.1.toNat 0 with
 |some (v,i)=>T0j p g v i
 |none=>U0j g)else(g,false,false)
theorem P07 {g:l0} (hg:V0 g=true) (u:Int) (w:List Int) (v:Int):(J3 g u w v).1.2.2.length≤120:=by
 have q:=(J2 hg).2.2.2
 unfold J3
 cases hc:(!w.isEmpty&&decide (g.2.1+(w.length:Int)-1≤40)&&decide (g.2.2.length+w.length≤120))with
 |false=>exact q
 |true =>
  simp only[Bool.and_eq_true,decide_eq_true_eq]at hc
  have h1:=A03 (g02 v w u g.2.1) g.2.2
  have h2:=u08 v w u g.2.1
  simp only[cond_true]
  omega
theorem b0p {g:l0} (hf:Y0 g=true) {e:K0} (he:e∈E7 g) (hv:(E2 g).2=true):C0n (E2 g).1 (stp e.1 e.2.1 g.2.1):=by
 obtain⟨h1,h2,h3,h4⟩:=N07 hf he
 obtain⟨q1,q2,q3,q4⟩:=A5 hf
 unfold E2 at hv ⊢
 by_cases c:g.2.1<40
 ·simp only[c,decide_true,cond_true]
  unfold stp C0n
  split <;> (simp only;omega)
 ·simp[c]at hv
theorem V0a (p:B0) (g:l0) (hl:p.2.length≤140737488355328) (hs:Q1 p.2) (hl2:g.2.2.length≤1099511627776):P9 p g=some (A2 p g):=by
 have h1:=O4 p hl hs
 have h2:=y00 g (by omega)
 have h3:=m02 g hl2
 have h4:=U0a p g hl hs (by omega)
 have h5:Y0 g=true→a8 g=some (E7 g):=a0g
 have h6:Y0 g=true→w9 g=some (E2 g):=fun h=>u0d ((d9 g).1 h).1
 have h7:Y0 g=true→∀ e∈E7 g,(E2 g).2=true→N9 (E2 g).1 (stp e.1 e.2.1 g.2.1)=some (W8 (E2 g).1 (stp e.1 e.2.1 g.2.1)):=fun h e he hv=>Y0f (U06 ((d9 g).1 h).1) (b0p h he hv)
 have h8:U1 p=true→Y0 g=true→p.1=g.1→∀ v i:Nat,H06 g p.2 g.2.1.toNat 0=some (v,i)→∃ w,p.2[i]?=some w∧M9 g (v:Int) w (v:Int)=some (J3 g (v:Int) w (v:Int))∧S7 (J3 g (v:Int) w (v:Int)).1=some (U4 (J3 g (v:Int) w (v:Int)).1)∧v≤40∧i≤6:=fun a b c v i hh=>by
  obtain⟨k1,k2⟩:=k0c hh
  have hg:=((d9 g).1 b).1
  obtain⟨q1,q2,q3,q4⟩:=A5 b
  refine⟨p.2[i],Z3 k2,R08 hg ⟨by omega,by omega⟩ ⟨by omega,by omega⟩ (by rw[←c];exact O07 a _ (List.getElem_mem k2)),s05 _ (by have:=P07 hg (v:Int) p.2[i] (v:Int);omega),by omega,by have:=G06 a;omega⟩
 have h9:Y0 g=true→∀ e∈E7 g,(0≤e.1∧e.1<g.2.1)∧e.2.1≠0 ∧ -3≤e.2.1∧e.2.1≤3:=fun h e he=>by
  obtain⟨k1,k2,k3,k4⟩:=N07 h he
  obtain⟨q1,q2,q3,q4⟩:=A5 h
  exact⟨k1,k2,by omega,by omega⟩
 unfold i01 at h4
 unfold A2 U0j
 obtain⟨pr,rels⟩:=p
 obtain⟨r,n,es⟩:=g
 unfold P9
 simp only[h1,oB]
 cases hp:U1 (pr,rels)with
 |false=>simp only[Bool.not_false,Bool.not_true,L5,oB,cond_true,if_true,h3,Bool.false_and,cond_false]
 |true =>
  simp only[Bool.not_true,Bool.not_false,O2,h2,oB,cond_false,Bool.true_and]
  cases hf:Y0 (r,n,es)with
  |false=>simp only[Bool.not_false,cond_true,if_true,h3,oB,Bool.false_and,cond_false]
  |true =>
   simp only[Bool.not_true,cond_false,Bool.true_and]
   by_cases hr:pr=r
   ·subst hr
    have e4:F8 (pr,rels) (pr,n,es)=some (u0f (H06 (pr,n,es) rels n.toNat 0)):=by
     rw[h4];simp only[hp,hf,decide_true,Bool.and_true,cond_true]
    simp only[decide_true,Bool.not_true,Bool.false_eq_true,if_false,cond_true]
    have h8:=h8 hp hf rfl
    simp only at h8
    cases hh:H06 (pr,n,es) rels n.toNat 0 with
    |some q =>
     obtain⟨v,i⟩:=q
     obtain⟨w,k1,k2,k3,k4,k5⟩:=h8 v i hh
     rw[hh]at e4
     simp only[u0f]at e4
     rw[e4,oB]
     try simp only[]
     rw[C0 (show H0 ((v:Nat):Int) from⟨by omega,by omega⟩),oB,C0 (show H0 ((i:Nat):Int) from⟨by omega,by omega⟩),oB,if_pos (by simp),D2 k1,oB,k2,oB]
     unfold T0j
     simp only[k1]
     revert k3
     generalize J3 (pr,n,es) (v:Int) w (v:Int)=ap
     intro k3
     obtain⟨g2,ok⟩:=ap
     try simp only at k3
     cases ok with
     |false=>simp only[Bool.not_false,if_true,h3,oB,cond_false]
     |true=>simp only[Bool.not_true,Bool.false_eq_true,if_false,k3,oB,cond_true]
    |none =>
     rw[hh]at e4
     simp only[u0f]at e4
     rw[e4,oB]
     try simp only[]
     rw[C0 (show H0 (-1) from⟨by omega,by omega⟩),oB,oB,if_neg (by simp),h5 hf,oB]
     have h7:=h7 hf
     have h9:=h9 hf
     have h6:=h6 hf
     cases hm:E7 (pr,n,es)with
     |nil=>simp only[List.length_nil];rw[if_pos (by simp),h3];rfl
     |cons e l =>
      have h7:=h7 e (by rw[hm];exact List.mem_cons_self ..)
      obtain⟨k1,k2,k3,k4⟩:=h9 e (by rw[hm];exact List.mem_cons_self ..)
      rw[if_neg (by simp;omega),h6,oB]
      revert h7
      generalize E2 (pr,n,es)=av
      intro h7
      obtain⟨g2,ok⟩:=av
      simp only at h7
      simp only[]
      cases ok with
      |false=>simp only[Bool.not_false,if_true,h3,oB,cond_false]
      |true =>
       have h7:=h7 rfl
       simp only[Bool.not_true,Bool.false_eq_true,if_false,cond_true]
       obtain⟨e0,e1,e2⟩:=e
       simp only at k1 k2 k3 k4 h7
       rw[p05 rfl]
       simp only[oB]
       revert h7
       generalize W8 g2 (stp e0 e1 n)=ae
       intro h7
       obtain⟨g3,ok3⟩:=ae
       by_cases c:e1<0
       ·rw[if_pos (by simp[c]),w64 (by omega) (by omega),show((n,0-e1,e0):K0)=stp e0 e1 n by unfold stp;rw[if_pos c,Int.zero_sub],h7]
        cases ok3 <;> simp[h3]
       ·rw[if_neg (by simp;omega),show((e0,e1,n):K0)=stp e0 e1 n by unfold stp;rw[if_neg c],h7]
        cases ok3 <;> simp[h3]
   ·simp only[hr,decide_false,Bool.not_false,if_true,h3,oB,cond_false]
theorem W0a (p:B0) (g:l0) (hl:p.2.length≤140737488355328) (hs:Q1 p.2) (hl2:g.2.2.length≤1099511627776):Q9 p g=some (A2 p g):=by
 have h1:=p6 p hl hs
 have h2:=B01 g (by omega)
 have h3:=C01 g hl2
 have h4:=T0a p g hl hs (by omega)
 have h5:Y0 g=true→c8 g=some (E7 g):=b0g
 have h6:Y0 g=true→A9 g=some (E2 g):=fun h=>v0d ((d9 g).1 h).1
 have h7:Y0 g=true→∀ e∈E7 g,(E2 g).2=true→A00 (E2 g).1 (stp e.1 e.2.1 g.2.1)=some (W8 (E2 g).1 (stp e.1 e.2.1 g.2.1)):=fun h e he hv=>Z0f (U06 ((d9 g).1 h).1) (b0p h he hv)
 have h8:U1 p=true→Y0 g=true→p.1=g.1→∀ v i:Nat,H06 g p.2 g.2.1.toNat 0=some (v,i)→∃ w,p.2[i]?=some w∧O9 g (v:Int) w (v:Int)=some (J3 g (v:Int) w (v:Int))∧T7 (J3 g (v:Int) w (v:Int)).1=some (U4 (J3 g (v:Int) w (v:Int)).1)∧v≤40∧i≤6:=fun a b c v i hh=>by
  obtain⟨k1,k2⟩:=k0c hh
  have hg:=((d9 g).1 b).1
  obtain⟨q1,q2,q3,q4⟩:=A5 b
  refine⟨p.2[i],Z3 k2,S08 hg ⟨by omega,by omega⟩ ⟨by omega,by omega⟩ (by rw[←c];exact O07 a _ (List.getElem_mem k2)),t05 _ (by have:=P07 hg (v:Int) p.2[i] (v:Int);omega),by omega,by have:=G06 a;omega⟩
 have h9:Y0 g=true→∀ e∈E7 g,(0≤e.1∧e.1<g.2.1)∧e.2.1≠0 ∧ -3≤e.2.1∧e.2.1≤3:=fun h e he=>by
  obtain⟨k1,k2,k3,k4⟩:=N07 h he
  obtain⟨q1,q2,q3,q4⟩:=A5 h
  exact⟨k1,k2,by omega,by omega⟩
 unfold i01 at h4
 unfold A2 U0j
 obtain⟨pr,rels⟩:=p
 obtain⟨r,n,es⟩:=g
 unfold Q9
 simp only[h1,oB]
 cases hp:U1 (pr,rels)with
 |false=>simp only[Bool.not_false,Bool.not_true,L5,oB,cond_true,if_true,h3,Bool.false_and,cond_false]
 |true =>
  simp only[Bool.not_true,Bool.not_false,O2,h2,oB,cond_false,Bool.true_and]
  cases hf:Y0 (r,n,es)with
  |false=>simp only[Bool.not_false,cond_true,if_true,h3,oB,Bool.false_and,cond_false]
  |true =>
   simp only[Bool.not_true,cond_false,Bool.true_and]
   by_cases hr:pr=r
   ·subst hr
    have e4:G8 (pr,rels) (pr,n,es)=some (u0f (H06 (pr,n,es) rels n.toNat 0)):=by
     rw[h4];simp only[hp,hf,decide_true,Bool.and_true,cond_true]
    simp only[decide_true,Bool.not_true,Bool.false_eq_true,if_false,cond_true]
    have h8:=h8 hp hf rfl
    simp only at h8
    cases hh:H06 (pr,n,es) rels n.toNat 0 with
    |some q =>
     obtain⟨v,i⟩:=q
     obtain⟨w,k1,k2,k3,k4,k5⟩:=h8 v i hh
     rw[hh]at e4
     simp only[u0f]at e4
     rw[e4,oB]
     try simp only[]
     rw[C0 (show H0 ((v:Nat):Int) from⟨by omega,by omega⟩),oB,C0 (show H0 ((i:Nat):Int) from⟨by omega,by omega⟩),oB,if_pos (by simp),D2 k1,oB,k2,oB]
     unfold T0j
     simp only[k1]
     revert k3
     generalize J3 (pr,n,es) (v:Int) w (v:Int)=ap
     intro k3
     obtain⟨g2,ok⟩:=ap
     try simp only at k3
     cases ok with
     |false=>simp only[Bool.not_false,if_true,h3,oB,cond_false]
     |true=>simp only[Bool.not_true,Bool.false_eq_true,if_false,k3,oB,cond_true]
    |none =>
     rw[hh]at e4
     simp only[u0f]at e4
     rw[e4,oB]
     try simp only[]
     rw[C0 (show H0 (-1) from⟨by omega,by omega⟩),oB,oB,if_neg (by simp),h5 hf,oB]
     have h7:=h7 hf
     have h9:=h9 hf
     have h6:=h6 hf
     cases hm:E7 (pr,n,es)with
     |nil=>simp only[List.length_nil];rw[if_pos (by simp),h3];rfl
     |cons e l =>
      have h7:=h7 e (by rw[hm];exact List.mem_cons_self ..)
      obtain⟨k1,k2,k3,k4⟩:=h9 e (by rw[hm];exact List.mem_cons_self ..)
      rw[if_neg (by simp;omega),h6,oB]
      revert h7
      generalize E2 (pr,n,es)=av
      intro h7
      obtain⟨g2,ok⟩:=av
      simp only at h7
      simp only[]
      cases ok with
      |false=>simp[h3]
      |true =>
       have h7:=h7 rfl
       simp only[Bool.not_true,Bool.false_eq_true,if_false,cond_true]
       obtain⟨e0,e1,e2⟩:=e
       simp only at k1 k2 k3 k4 h7
       rw[p05 rfl]
       simp only[oB]
       rw[j0l e0 e1 n ⟨⟨by omega,by omega⟩,by omega⟩]
       simp only[oB]
       revert h7
       generalize W8 g2 (stp e0 e1 n)=ae
       intro h7
       obtain⟨g3,ok3⟩:=ae
       cases ok3 <;> simp[h3,h7]
   ·simp only[hr,decide_false,Bool.not_false,if_true,h3,oB,cond_false]
theorem l0l (g:Nat):∀(d k:Nat) (x:Int),x∈wo g d k→∃ j:Nat,x=(j:Int)∧k≤j∧j<k+d
 |0,k,x,h=>nomatch h
 |d+1,k,x,h=>by
  unfold wo at h
  split at h
  ·obtain⟨j,h1,h2,h3⟩:=l0l g d (k+1) x h
   exact⟨j,h1,by omega,by omega⟩
  ·rcases List.mem_cons.1 h with rfl|h
   ·exact⟨k,rfl,Nat.le_refl _,by omega⟩
   ·obtain⟨j,h1,h2,h3⟩:=l0l g d (k+1) x h
    exact⟨j,h1,by omega,by omega⟩
theorem X0a (g:Nat):∀(d k:Nat),(wo g d k).Nodup
 |0,k=>List.nodup_nil
 |d+1,k=>by
  unfold wo
  split
  ·exact X0a g d (k+1)
  ·refine List.nodup_cons.2 ⟨fun h=>?_,X0a g d (k+1)⟩
   obtain⟨j,h1,h2,h3⟩:=l0l g d (k+1) _ h
   omega
theorem d0i (P:List Int):∀(es:List K0),∀ e∈pE P es,∃ a∈es,e=(getI P a.1,a.2.1,getI P a.2.2)∧0≤getI P a.1∧0≤getI P a.2.2
 | [],e,h=>nomatch h
 |b::r,e,h=>by
  unfold pE at h
  cases hb:decide (0≤getI P b.1)&&decide (0≤getI P b.2.2)
  ·rw[hb]at h
   obtain⟨a,h1,h2⟩:=d0i P r e h
   exact⟨a,mC _ h1,h2⟩
  ·rw[hb]at h
   simp only[Bool.and_eq_true,decide_eq_true_eq]at hb
   rcases List.mem_cons.1 h with rfl|h
   ·exact⟨b,List.mem_cons_self ..,rfl,hb.1,hb.2⟩
   ·obtain⟨a,h1,h2⟩:=d0i P r e h
    exact⟨a,mC _ h1,h2⟩
theorem z0f {g:l0} {o:List Int} (hg:V0 g=true) (ho:inV g.2.1.toNat o) (h1:1≤o.length) (h2:o.length≤40):V0 (m01 g o)=true:=by
 obtain⟨q1,q2,q3,q4⟩:=J2 hg
 have hl:=W0h (plc g.2.1.toNat o) g.2.2
 refine P0a q2 ⟨by omega,by omega⟩ (by omega) fun e he=>?_
 obtain⟨a,ha,rfl,k1,k2⟩:=d0i _ _ e he
 have hq:=q1 a ha
 have r1:=(X05 ho (x:=a.1) (by omega)).2
 have r2:=(X05 ho (x:=a.2.2) (by omega)).2
 exact⟨⟨k1,r1⟩,⟨k2,r2⟩,hq.2.2⟩
theorem A0f {n:Nat}:∀(o:List Int) (k:Nat) (A:List Int),A.length=n→inV n o→o.Nodup→(∀ x,0≤x→getI A x<(k:Int))→(∀ x y,0≤x→0≤y→0≤getI A x→getI A x=getI A y→x=y) →
  ∀ x y,0≤x→0≤y→0≤getI (F02 A k o) x→getI (F02 A k o) x=getI (F02 A k o) y→x=y
 | [],k,A,hA,ho,hd,hr,hi=>hi
 |v::r,k,A,hA,ho,hd,hr,hi=>by
  have hv:=ho v (List.mem_cons_self ..)
  refine A0f r (k+1) (A.set v.toNat (k:Int)) (by simp[hA]) (fun w hw=>ho w (mC _ hw)) (List.nodup_cons.1 hd).2 (fun x hx=>?_) (fun x y hx hy h0 he=>?_)
  ·rw[W05 hv.1 (by omega) hx]
   have:=hr x hx
   split <;> omega
  ·rw[W05 hv.1 (by omega) hx]at h0 he
   rw[W05 hv.1 (by omega) hy]at he
   have h1:=hr x hx
   have h2:=hr y hy
   by_cases c1:x=v
   ·by_cases c2:y=v
    ·rw[c1,c2]
    ·rw[if_pos c1,if_neg c2]at he;omega
   ·by_cases c2:y=v
    ·rw[if_neg c1,if_pos c2]at he;omega
    ·rw[if_neg c1]at h0;rw[if_neg c1,if_neg c2]at he
     exact hi x y hx hy h0 he
theorem z0m {n:Nat} {o:List Int} (ho:inV n o) (hd:o.Nodup) {x y:Int} (hx:0≤x) (hy:0≤y) (h0:0≤getI (plc n o) x) (he:getI (plc n o) x=getI (plc n o) y):x=y:=by
 refine A0f o 0 (List.replicate n (-1)) (by simp) ho hd (fun x hx=>by rw[J07];omega) (fun x y _ _ h _=>by rw[J07]at h;omega) x y hx hy h0 he
theorem c0p {es:List K0} (h:es.Pairwise fun a b=>G04 a b=false) {a b:K0} (ha:a∈es) (hb:b∈es) (hne:a≠b):G04 a b=false:=by
 induction es with
 |nil=>cases ha
 |cons c r ih =>
  obtain⟨h1,h2⟩:=List.pairwise_cons.1 h
  rcases List.mem_cons.1 ha with rfl|ha'
  ·rcases List.mem_cons.1 hb with rfl|hb'
   ·exact absurd rfl hne
   ·exact h1 b hb'
  ·rcases List.mem_cons.1 hb with rfl|hb'
   ·rw[b0c];exact h1 a ha'
   ·exact ih h2 ha' hb'
theorem e0q {es:List K0} (hA:Asc U0 es) (h:∀ a∈es,∀ b∈es,a≠b→G04 a b=false):es.Pairwise fun a b=>G04 a b=false:=by
 induction es with
 |nil=>exact .nil
 |cons c r ih =>
  obtain⟨h1,h2⟩:=List.pairwise_cons.1 hA
  refine List.pairwise_cons.2 ⟨fun b hb=>h c (List.mem_cons_self ..) b (mC _ hb) fun e=>?_,ih h2 fun a ha b hb=>h a (mC _ ha) b (mC _ hb)⟩
  have:=h1 b hb
  rw[e,p7.refl]at this;omega
theorem b0h {g:l0} (hg:V0 g=true):Y0 g=true↔∀ a∈g.2.2,∀ b∈g.2.2,a≠b→G04 a b=false:=by
 rw[d9,h0c]
 exact⟨fun h a ha b hb hne=>c0p h.2 ha hb hne,fun h=>⟨hg,e0q (graph_asc' hg) h⟩⟩
where graph_asc' {g:l0} (h:V0 g=true):Asc U0 g.2.2:=((h01 g).1 h).2.2.2.2
theorem V0j {g:l0} {o:List Int} (hf:Y0 g=true) (ho:inV g.2.1.toNat o) (hd:o.Nodup) (h1:1≤o.length) (h2:o.length≤40):Y0 (m01 g o)=true:=by
 have hg:=a04 hf
 obtain⟨q1,q2,q3,q4⟩:=J2 hg
 refine(b0h (z0f hg ho h1 h2)).2 fun a ha b hb hne=>?_
 have mem:∀ e∈(m01 g o).2.2,∃ a∈g.2.2,e=(getI (plc g.2.1.toNat o) a.1,a.2.1,getI (plc g.2.1.toNat o) a.2.2)∧0≤getI (plc g.2.1.toNat o) a.1∧0≤getI (plc g.2.1.toNat o) a.2.2:=fun e he=>by
  rcases(L00 p7 e _ _).1 he with h|h
  ·cases h
  ·exact d0i _ _ e h
 obtain⟨a',ha',rfl,k1,k2⟩:=mem a ha
 obtain⟨b',hb',rfl,k3,k4⟩:=mem b hb
 have hne':a'≠b':=fun e=>hne (by rw[e])
 have hc:=(b0h hg).1 hf a' ha' b' hb' hne'
 have ra:=q1 a' ha'
 have rb:=q1 b' hb'
 unfold G04 at hc ⊢
 simp only[Bool.and_eq_false_iff,Bool.or_eq_false_iff,decide_eq_false_iff_not]at hc ⊢
 rcases hc with hc|⟨hc1,hc2⟩
 ·exact .inl hc
 ·exact .inr ⟨fun e=>hc1 (z0m ho hd ra.1.1 rb.1.1 k1 e),fun e=>hc2 (z0m ho hd ra.2.1.1 rb.2.1.1 k2 e)⟩
def c05:Nat→l0→l0
 |0,g=>g
 |d+1,g=>match r05 g with
  |none=>g
  |some k=>c05 d (m01 g (wo k g.2.1.toNat 0))
theorem A0m {g:l0} {k:Nat} (h:r05 g=some k):1≤k∧k<g.2.1.toNat:=by
 have:=o0f _ _ _ h
 omega
theorem c0h {g:l0} (hg:V0 g=true) {k:Nat} (h:r05 g=some k):inV g.2.1.toNat (wo k g.2.1.toNat 0)∧(wo k g.2.1.toNat 0).length=g.2.1.toNat-1∧1≤(wo k g.2.1.toNat 0).length∧(wo k g.2.1.toNat 0).length≤40:=by
 obtain⟨q1,q2,q3,q4⟩:=J2 hg
 have hk:=A0m h
 have hlen:=i0l k g.2.1.toNat 0
 rw[if_pos (by omega)]at hlen
 exact⟨W0o k _ _ 0 (by omega),hlen,by omega,by omega⟩
theorem H02:∀(d:Nat) {g:l0},Y0 g=true→Y0 (c05 d g)=true
 |0,g,h=>h
 |d+1,g,h=>by
  unfold c05
  cases e:r05 g with
  |none=>exact h
  |some k =>
   obtain⟨h1,h2,h3,h4⟩:=c0h (a04 h) e
   exact H02 d (V0j h h1 (X0a _ _ _) h3 h4)
theorem B0f (n g:Nat) (hn:n≤1000) (u:List Int) (hu:u.length=n):∀(d k fuel:Nat) (acc bcc:List Int),k+d=n→d<fuel→acc.length≤k→bcc.length≤k →
  ∃ v,P5 (n:Int) (g:Int) u fuel (k:Int) acc bcc=some (acc++wo g d k,v)∧v.length+acc.length=bcc.length+(acc++wo g d k).length
 |d,k,0,acc,bcc,hd,hf,ha,hb=>by omega
 |0,k,fuel+1,acc,bcc,hd,hf,ha,hb=>by
  rw[P5.eq_2,if_neg (by simp;omega)];exact⟨bcc,by simp[wo],by simp[wo]⟩
 |d+1,k,fuel+1,acc,bcc,hd,hf,ha,hb=>by
  have hx:=Z3 (show k<u.length by omega)
  generalize u[k]=x at hx
  rw[P5.eq_2,if_pos (by simp;omega),L1 (show k<10000 by omega) (by omega)]
  unfold wo
  by_cases c:k=g
  ·have e:decide ((k:Int)=(g:Int))=true:=decide_eq_true (by omega)
   rw[e,if_neg (by simp),if_pos c]
   exact B0f n g hn u hu d (k+1) fuel acc bcc (by omega) (by omega) (by omega) (by omega)
  ·have e:decide ((k:Int)=(g:Int))=false:=decide_eq_false (by omega)
   rw[e,if_pos (show(!false)=true from rfl),if_neg c,C0 (by simp;omega),oB,D2 hx,oB,C0 (by simp;omega),oB]
   obtain⟨v,h1,h2⟩:=B0f n g hn u hu d (k+1) fuel (acc ++ [(k:Int)]) (bcc ++ [x]) (by omega) (by omega) (by simp;omega) (by simp;omega)
   refine⟨v,by rw[h1];simp,?_⟩
   simp only[List.length_append,List.length_cons,List.length_nil]at h2 ⊢
   omega
theorem W0j (g:l0) (hg:V0 g=true):∀(d k fuel:Nat) (acc:List Int),k+d=g.2.1.toNat→d<fuel→acc.length=k →
  ∃ u,t6 g.2.1 g.1 g.2.2 fuel (k:Int) acc=some u∧u.length=g.2.1.toNat
 |d,k,0,acc,hd,hf,ha=>by omega
 |0,k,fuel+1,acc,hd,hf,ha=>by
  obtain⟨q1,q2,q3,q4⟩:=J2 hg
  rw[t6.eq_2,show decide (((k:Nat):Int)<g.2.1)=false by simp;omega]
  exact⟨acc,by simp[chk],by omega⟩
 |d+1,k,fuel+1,acc,hd,hf,ha=>by
  obtain⟨q1,q2,q3,q4⟩:=J2 hg
  obtain⟨u,h1,h2⟩:=W0j g hg d (k+1) fuel (acc ++ [(k:Int)]) (by omega) (by omega) (by simp;omega)
  rw[t6.eq_2,show decide (((k:Nat):Int)<g.2.1)=true by simp;omega,O2,show(g.1,g.2.1,g.2.2)=g from rfl,g7 g (by omega),oB,hg]
  rw[if_pos (show(bif true then true else false)=true from rfl),C0 (by simp;omega),oB,L1 (show k<1000 by omega) (by omega),h1]
  exact⟨u,rfl,h2⟩
theorem X0j (g0:l0) (hg0:V0 g0=true):∀(d k fuel:Nat) (g:l0) (u:List Int),k+d=40→d<fuel→V0 g=true→u.length=g.2.1.toNat→g.2.1.toNat≤d+1 →
  ∃ v,(s6 g0.1 g0.2.1 g0.2.2 fuel u (k:Int) g.1 g.2.1 g.2.2).bind (fun X=>H6 X (fun S=>match S with|(a,b,c,e)=>some ((b,c,e),a)))=some (c05 d g,v)
 |d,k,0,g,u,hd,hf,hg,hu,hn=>by omega
 |0,k,fuel+1,g,u,hd,hf,hg,hu,hn=>by
  rw[s6.eq_2,show decide (((k:Nat):Int)<40)=false by simp;omega]
  exact⟨u,by simp[chk,H6,c05]⟩
 |d+1,k,fuel+1,g,u,hd,hf,hg,hu,hn=>by
  obtain⟨p1,p2,p3,p4⟩:=J2 hg0
  obtain⟨q1,q2,q3,q4⟩:=J2 hg
  have hl:=k0r g hg
  rw[s6.eq_2,show decide (((k:Nat):Int)<40)=true by simp;omega,O2,show(g0.1,g0.2.1,g0.2.2)=g0 from rfl,g7 g0 (by omega),oB,hg0]
  rw[if_pos (show(bif true then true else false)=true from rfl),show(g.1,g.2.1,g.2.2)=g from rfl,hl]
  unfold c05
  cases e:r05 g with
  |none =>
   simp only[oB]
   rw[C0 (show H0 (-1) from⟨by omega,by omega⟩),oB,if_pos (by simp)]
   exact⟨u,rfl⟩
  |some j =>
   obtain⟨h1,h2,h3,h4⟩:=c0h hg e
   have hj:=A0m e
   obtain⟨N,hN⟩:∃ N:Nat,g.2.1=(N:Int):=⟨g.2.1.toNat,by omega⟩
   have hNt:g.2.1.toNat=N:=by omega
   obtain⟨v,w1,w2⟩:=B0f N j (by omega) u (by omega) N 0 N0 [] [] (by omega) (W0 (by omega)) (Nat.le_refl _) (Nat.le_refl _)
   have hr:=k0f g.1 N g.2.2 (wo j N 0) (by rw[←hN];exact hg) (by rw[←hNt];exact h1) (X0a _ _ _) (by rw[←hNt];exact h3) (by rw[←hNt];omega)
   rw[←hN,show(g.1,g.2.1,g.2.2)=g from rfl]at hr
   have hG:=z0f hg h1 h3 h4
   rw[hNt]at hG h2 h3
   obtain⟨v2,z⟩:=X0j g0 hg0 d (k+1) fuel (m01 g (wo j N 0)) v (by omega) (by omega) hG (by simp only[List.nil_append,List.length_nil]at w2;show v.length=((wo j N 0).length:Int).toNat;omega) (by show((wo j N 0).length:Int).toNat≤d+1;omega)
   simp only[oB]
   rw[C0 (show H0 ((j:Nat):Int) from⟨by omega,by omega⟩),oB,if_neg (by simp),hN,show(0:Int)=((0:Nat):Int) from rfl,w1]
   simp only[oB,List.nil_append]
   rw[←hN,hr]
   simp only[oB]
   rw[L1 (show k<1000 by omega) (by omega),hNt]
   exact⟨v2,z⟩
def I06 (g:l0):l0:=c05 40 g
theorem m0l {g:l0} (hg:V0 g=true):∃ v,B00 g=some (I06 g,v):=by
 obtain⟨q1,q2,q3,q4⟩:=J2 hg
 have hc:=m02 g (by omega)
 obtain⟨u,h1,h2⟩:=W0j g hg g.2.1.toNat 0 N0 [] (by omega) (W0 (by omega)) rfl
 obtain⟨v,h3⟩:=X0j g hg 40 0 N0 g u rfl (W0 (by omega)) hg h2 (by omega)
 refine⟨v,?_⟩
 obtain⟨r,n,es⟩:=g
 unfold B00
 simp only[hc,oB]
 simp only at h1 h3
 rw[show(0:Int)=((0:Nat):Int) from rfl,h1,oB]
 exact h3
theorem Y0j:∀(n fuel d:Nat) (left:List Int) (r:Int) (es:List K0),1≤n→n≤40→inN n es→es.length≤120→left.length=n→n<fuel→n≤d+1 →
  ∃ l',l7 fuel left r (n:Int) es=some (.inl (c05 d (r,(n:Int),es),l'))
 |n,0,d,left,r,es,h1,h2,hn,hes,hl,hf,hd=>by omega
 |n,fuel+1,d,left,r,es,h1,h2,hn,hes,hl,hf,hd=>by
  obtain⟨S,eS,lS,hS⟩:=I0o r n es hn (by omega) h1 (by omega)
  have ht1:=u0m r n es (by omega) S lS h2 (n-1) 1 N0 (Nat.le_refl _) (by omega) (by omega) (W0 (by omega))
  have hcg:lf (fun v=>decide (D06 (v:Int) es<2) || !a00 S (v:Int)) (n-1) 1=lf (g0l es) (n-1) 1:=D0j _ _ fun k k1 k2=>by
   unfold g0l
   have:=hS (k:Int) (by omega) (by omega)
   have h3:=b0q es 0 (k:Int)
   congr 2
   cases hb:a00 S (k:Int)
   ·symm;exact decide_eq_false fun h=>by rw[this.2 (h3.1 h)]at hb;cases hb
   ·symm;exact decide_eq_true (h3.2 (this.1 hb))
  rw[hcg]at ht1
  have hleaf:r05 (r,(n:Int),es)=lf (g0l es) (n-1) 1:=by simp only[r05,Int.toNat_natCast]
  rw[l7.eq_2,eS,oB,show(1:Int)=((1:Nat):Int) from rfl,ht1,oB]
  cases hlf:lf (g0l es) (n-1) 1 with
  |none =>
   have e2:c05 d (r,(n:Int),es)=(r,(n:Int),es):=by
    cases d with
    |zero=>rfl
    |succ d=>unfold c05;rw[hleaf,hlf]
   rw[e2]
   exact⟨left,by rw[if_pos (by rfl)]⟩
  |some k =>
   have hk:=o0f _ _ _ hlf
   have e0:decide ((k:Int)=0)=false:=decide_eq_false (by omega)
   have ho:=W0o k n n 0 (by omega)
   have hlen:=i0l k n 0
   rw[if_pos (by omega)]at hlen
   have ht0:=v0m n k (by omega) n 0 N0 [] (by omega) (W0 (by omega)) (Nat.le_refl _)
   rw[show((0:Nat):Int)=0 from rfl,List.nil_append]at ht0
   have hp:=M0o r n es (wo k n 0) hn ho (by omega) (by omega) (by omega)
   have hpl:=f0l (r,(n:Int),es) (wo k n 0)
   have hpi:=y0n (r:=r) ho hn
   have hw:IntKind.i64.wrap ((k:Int)+((1:Nat):Int))=((k+1:Nat):Int):=by rw[w64 (by omega) (by omega)];rfl
   obtain⟨d',rfl⟩:∃ d',d=d'+1:=⟨d-1,by omega⟩
   have hF:m01 (r,(n:Int),es) (wo k n 0)=(r,((n-1:Nat):Int),(m01 (r,(n:Int),es) (wo k n 0)).2.2):=by rw[←hlen];rfl
   obtain⟨l',q1⟩:=Y0j (n-1) fuel d' (left.take k++left.drop (k+1)) r (m01 (r,(n:Int),es) (wo k n 0)).2.2 (by omega) (by omega) (by rw[hlen]at hpi;exact hpi) (by simp only at hpl;omega) (by simp only[List.length_append,List.length_take,List.length_drop];omega) (by omega) (by omega)
   refine⟨l',?_⟩
   rw[←hF]at q1
   have e2:c05 (d'+1) (r,(n:Int),es)=c05 d' (m01 (r,(n:Int),es) (wo k n 0)):=by
    show(match r05 (r,(n:Int),es)with|none=>(r,(n:Int),es)|some k=>c05 d' (m01 (r,(n:Int),es) (wo k ((n:Int)).toNat 0)))=_
    rw[hleaf,hlf,Int.toNat_natCast]
   rw[e2]
   simp only[e0,Bool.false_eq_true,if_false,ht0,oB,hp]
   generalize m01 (r,(n:Int),es) (wo k n 0)=gp at *
   rw[hF]
   simp only[hw]
   rw[X0o (by omega),oB,v09 (by omega),oB,C0 (by simp only[List.length_take,List.length_drop];omega),oB,q1,←hF]
theorem Z0j {g:l0} (hg:V0 g=true):∃ v,z00 g=some (I06 g,v):=by
 obtain⟨h1,h2,h3,h4⟩:=J2 hg
 have hq:=s00 g (by omega)
 have hc:=C01 g (by omega)
 obtain⟨r,n,es⟩:=g
 simp only at h2 h3 h4
 obtain⟨N,rfl⟩:∃ N:Nat,n=(N:Int):=⟨n.toNat,by omega⟩
 have hn:inN N es:=fun e he=>⟨(h1 e he).1,(h1 e he).2.1⟩
 obtain⟨u,e1,e2⟩:=w0m N (by omega) N 0 N0 [] (by omega) (W0 (by omega)) rfl
 obtain⟨l',q1⟩:=Y0j N N0 40 u r es (by omega) (by omega) hn h4 e2 (W0 (by omega)) (by omega)
 refine⟨l',?_⟩
 unfold z00
 rw[show((0:Nat):Int)=0 from rfl]at e1
 simp only[hc,oB,hq,hg,Bool.not_true,Bool.false_eq_true,if_false,e1,q1,H6]
 rfl
def J06 (g:l0):l0:=Y0h (I06 g)
theorem Y0a {g:l0} (hf:Y0 g=true):U4 g=(g,[]):=by
 obtain⟨h1,h2⟩:=(d9 g).1 hf
 unfold U4
 rw[h1]
 show q01 40 g=_
 unfold q01
 rw[h2]
theorem n0l {g:l0} (hf:Y0 g=true):B9 g=some (J06 g):=by
 have hg:=a04 hf
 obtain⟨h1,h2,h3,h4⟩:=J2 hg
 have e1:=s05 g (by omega)
 rw[Y0a hf]at e1
 obtain⟨v,e2⟩:=m0l hg
 have e3:=C0j (I06 g) (H02 40 hf)
 obtain⟨r,n,es⟩:=g
 unfold B9 J06
 simp only[e1,oB,e2]
 simp only[e3,oB]
theorem o0l {g:l0} (hf:Y0 g=true):C9 g=some (J06 g):=by
 have hg:=a04 hf
 obtain⟨h1,h2,h3,h4⟩:=J2 hg
 have e1:=t05 g (by omega)
 rw[Y0a hf]at e1
 obtain⟨v,e2⟩:=Z0j hg
 have e3:=B0j (I06 g) (H02 40 hf)
 obtain⟨r,n,es⟩:=g
 unfold C9 J06
 simp only[e1,oB,e2]
 simp only[e3,oB]
theorem d0p {N r u x v:Int} (hu:0≤u∧u<N) (hv:0≤v∧v<N) (hx:x≠0 ∧ -r≤x∧x≤r):(0≤(stp u x v).1∧(stp u x v).1<N)∧(0≤(stp u x v).2.2∧(stp u x v).2.2<N)∧1≤(stp u x v).2.1∧(stp u x v).2.1≤r:=by
 unfold stp
 split <;> (simp only;omega)
theorem a0k {N r v:Int} (hv:0≤v∧v<N):∀(w:List Int) (u n:Int),(0≤u∧u<N)→0≤n→n+((w.length-1:Nat):Int)≤N→(∀ x∈w,x≠0 ∧ -r≤x∧x≤r) →
  ∀ e∈g02 v w u n,(0≤e.1∧e.1<N)∧(0≤e.2.2∧e.2.2<N)∧1≤e.2.1∧e.2.1≤r
 | [],u,n,hu,h0,hn,hw,e,he=>nomatch he
 | [x],u,n,hu,h0,hn,hw,e,he=>by
  simp only[g02,List.mem_singleton]at he
  subst he
  exact d0p hu hv (hw x (List.mem_cons_self ..))
 |x::y::l,u,n,hu,h0,hn,hw,e,he=>by
  simp only[List.length_cons]at hn
  simp only[g02]at he
  rcases List.mem_cons.1 he with rfl|he
  ·exact d0p hu ⟨h0,by omega⟩ (hw x (List.mem_cons_self ..))
  ·exact a0k hv (y::l) n (n+1) ⟨h0,by omega⟩ (by omega) (by simp only[List.length_cons];omega) (fun z hz=>hw z (mC _ hz)) e he
theorem u05 {g:l0} {u v:Int} {w:List Int} (hg:V0 g=true) (hu:0≤u∧u<g.2.1) (hv:0≤v∧v<g.2.1) (hw:w5 g.1 w=true):V0 (J3 g u w v).1=true:=by
 obtain⟨q1,q2,q3,q4,q5⟩:=(h01 g).1 hg
 obtain⟨wl,wx⟩:=c0i hw
 unfold J3
 cases hc:(!w.isEmpty&&decide (g.2.1+(w.length:Int)-1≤40)&&decide (g.2.2.length+w.length≤120))with
 |false=>exact hg
 |true =>
  simp only[Bool.and_eq_true,decide_eq_true_eq,Bool.not_eq_true',List.isEmpty_eq_false_iff]at hc
  have hne:1≤w.length:=by
   have:=List.length_pos_iff.2 hc.1.1;omega
  have h1:=A03 (g02 v w u g.2.1) g.2.2
  have h2:=u08 v w u g.2.1
  simp only[cond_true]
  refine(h01 _).2 ⟨fun e he=>?_,q2,⟨by simp only;omega,by simp only;omega⟩,by simp only;omega,f03 p7 _ _ q5⟩
  simp only at he ⊢
  rcases(L00 p7 e _ _).1 he with h|h
  ·have:=q1 e h
   omega
  ·exact a0k ⟨by omega,by omega⟩ w u g.2.1 ⟨by omega,by omega⟩ (by omega) (Int.le_refl _) (fun x hx=>(wx x hx).2) e h
theorem K06 (g:l0) (u:Int) (w:List Int) (v:Int):(J3 g u w v).1.1=g.1:=by
 unfold J3
 cases (!w.isEmpty&&decide (g.2.1+(w.length:Int)-1≤40)&&decide (g.2.2.length+w.length≤120)) <;> rfl
def H01:List (List Int)→l0→l0
 | [],g=>g
 |w::r,g=>H01 r (J3 g 0 w 0).1
theorem e0d:∀(ws:List (List Int)) {g:l0},V0 g=true→(∀ w∈ws,w5 g.1 w=true)→V0 (H01 ws g)=true
 | [],g,hg,hw=>hg
 |w::r,g,hg,hw=>by
  obtain⟨q1,q2,q3,q4⟩:=J2 hg
  exact e0d r (u05 hg ⟨Int.le_refl _,by omega⟩ ⟨Int.le_refl _,by omega⟩ (hw w (List.mem_cons_self ..))) fun w' hw'=>by
   rw[K06];exact hw w' (mC _ hw')
theorem b0k {g:l0} {w:List Int} (hg:V0 g=true) (hw:w5 g.1 w=true):S00 g w=some (J3 g 0 w 0):=by
 obtain⟨q1,q2,q3,q4⟩:=J2 hg
 have h:=R08 hg (u:=0) (v:=0) ⟨Int.le_refl _,by omega⟩ ⟨Int.le_refl _,by omega⟩ hw
 obtain⟨r,n,es⟩:=g
 unfold S00
 simp only[h,oB]
theorem c0k {g:l0} {w:List Int} (hg:V0 g=true) (hw:w5 g.1 w=true):W00 g w=some (J3 g 0 w 0):=by
 obtain⟨q1,q2,q3,q4⟩:=J2 hg
 have h:=S08 hg (u:=0) (v:=0) ⟨Int.le_refl _,by omega⟩ ⟨Int.le_refl _,by omega⟩ hw
 obtain⟨r,n,es⟩:=g
 unfold W00
 simp only[h,oB]
theorem d0h (ws:List (List Int)) (hl:ws.length≤1000):∀(d k fuel:Nat) (g:l0),k+d=ws.length→d<fuel→V0 g=true→(∀ w∈ws,w5 g.1 w=true) →
  U6 ws fuel (k:Int) g.1 g.2.1 g.2.2=some (H01 (ws.drop k) g)
 |d,k,0,g,hd,hf,hg,hw=>by omega
 |0,k,fuel+1,g,hd,hf,hg,hw=>by
  rw[U6.eq_2,if_neg (by simp;omega),Z0 (by omega)];rfl
 |d+1,k,fuel+1,g,hd,hf,hg,hw=>by
  have hk:k<ws.length:=by omega
  have hx:=Z3 hk
  have hwk:=hw _ (List.getElem_mem hk)
  generalize ws[k]=w at hx hwk
  obtain⟨q1,q2,q3,q4⟩:=J2 hg
  have ih:=d0h ws hl d (k+1) fuel (J3 g 0 w 0).1 (by omega) (by omega) (u05 hg ⟨Int.le_refl _,by omega⟩ ⟨Int.le_refl _,by omega⟩ hwk) (by rw[K06];exact hw)
  rw[U6.eq_2,if_pos (by simp;omega),D2 hx,oB,show(g.1,g.2.1,g.2.2)=g from rfl,b0k hg hwk,oB,L1 hk (by omega),F1 hx]
  exact ih
theorem e0h (ws:List (List Int)) (hl:ws.length≤1000):∀(d k fuel:Nat) (g:l0),k+d=ws.length→d<fuel→V0 g=true→(∀ w∈ws,w5 g.1 w=true) →
  g6 ws fuel (k:Int) g.1 g.2.1 g.2.2=some (H01 (ws.drop k) g)
 |d,k,0,g,hd,hf,hg,hw=>by omega
 |0,k,fuel+1,g,hd,hf,hg,hw=>by
  rw[g6.eq_2,if_neg (by simp;omega),Z0 (by omega)];rfl
 |d+1,k,fuel+1,g,hd,hf,hg,hw=>by
  have hk:k<ws.length:=by omega
  have hx:=Z3 hk
  have hwk:=hw _ (List.getElem_mem hk)
  generalize ws[k]=w at hx hwk
  obtain⟨q1,q2,q3,q4⟩:=J2 hg
  have ih:=e0h ws hl d (k+1) fuel (J3 g 0 w 0).1 (by omega) (by omega) (u05 hg ⟨Int.le_refl _,by omega⟩ ⟨Int.le_refl _,by omega⟩ hwk) (by rw[K06];exact hw)
  rw[g6.eq_2,if_pos (by simp;omega),D2 hx,oB,L1 hk (by omega),F1 hx]
  by_cases c:w = []
  ·subst c
   rw[if_neg (by simp)]
   have e:(J3 g 0 [] 0).1=g:=rfl
   rw[e]at ih
   rw[ih]
   show _=some (H01 (ws.drop (k+1)) (J3 g 0 [] 0).1)
   rw[e]
  ·have:0<w.length:=List.length_pos_iff.2 c
   rw[if_pos (by simp;omega),show(g.1,g.2.1,g.2.2)=g from rfl,c0k hg hwk,oB]
   exact ih
def b06 (r:Int) (ws:List (List Int)):l0×Bool:=bif L3 r ws then(H01 ws (r,1,[]),true)else((0,0,[]),false)
theorem l0c {r:Int} {ws:List (List Int)} (h:L3 r ws=true):(1≤r∧r≤3)∧ws.length≤6∧∀ w∈ws,w5 r w=true:=by
 simp only[L3,inR,Bool.and_eq_true,decide_eq_true_eq]at h
 refine⟨h.1.1.1,h.1.1.2,?_⟩
 have hw:∀ {ws:List (List Int)},b07 r ws=true→∀ w∈ws,w5 r w=true:=by
  intro ws
  induction ws with
  |nil=>intro _ w hw;cases hw
  |cons v l ih =>
   intro h w hw
   simp only[b07,Bool.and_eq_true]at h
   rcases List.mem_cons.1 hw with rfl|hw
   ·exact h.1
   ·exact ih h.2 w hw
 exact hw h.1.2
theorem m0c {r:Int} (hr:1≤r∧r≤3):V0 (r,1,[])=true:=(h01 _).2 ⟨(fun e he=>by cases he),hr,⟨by simp,by simp⟩,by simp,List.Pairwise.nil⟩
theorem e0i (r:Int) (ws:List (List Int)) (hl:ws.length≤140737488355328) (hs:Q1 ws):T00 r ws=some (b06 r ws):=by
 have h1:=G07 r ws hl hs
 unfold T00 b06
 rw[h1,oB]
 cases hA:L3 r ws with
 |false=>rfl
 |true =>
  obtain⟨hr,hn,hw⟩:=l0c hA
  have h:=d0h ws (by omega) ws.length 0 N0 (r,1,[]) (by omega) (W0 (by omega)) (m0c hr) hw
  have h2:R00 r=some ((r,1,[]),true):=by
   unfold R00
   rw[h03,oB,if_neg (by simp[inR];omega)]
  rw[if_neg (by simp),h2,oB]
  simp only[]at h ⊢
  rw[show(0:Int)=((0:Nat):Int) from rfl,h]
  rfl
theorem f0i (r:Int) (ws:List (List Int)) (hl:ws.length≤140737488355328) (hs:Q1 ws):X00 r ws=some (b06 r ws):=by
 have h1:=H07 r ws hl hs
 unfold X00 b06
 rw[h1,oB]
 cases hA:L3 r ws with
 |false=>rfl
 |true =>
  obtain⟨hr,hn,hw⟩:=l0c hA
  have h:=e0h ws (by omega) ws.length 0 N0 (r,1,[]) (by omega) (W0 (by omega)) (m0c hr) hw
  have h2:V00 r=some ((r,1,[]),true):=by
   unfold V00
   rw[d02,oB,if_neg (by simp[inR];omega)]
  rw[if_neg (by simp),h2,oB]
  simp only[]at h ⊢
  rw[show(0:Int)=((0:Nat):Int) from rfl,h]
  rfl
def d0k:l0:=(0,0,[])
def Q07 (p:B0):Nat→l0→l0×Bool
 |0,_=>(d0k,false)
 |d+1,g=>bif(A2 p g).2.2 then(bif(A2 p g).2.1 then Q07 p d (A2 p g).1 else(J06 g,true))else(d0k,false)
theorem n0c {p:B0} {g:l0} (h:(A2 p g).2.2=true):U1 p=true∧Y0 g=true∧p.1=g.1:=by
 unfold A2 at h
 cases hc:(U1 p&&Y0 g&&decide (p.1=g.1))with
 |false=>rw[hc]at h;cases h
 |true =>
  simp only[Bool.and_eq_true,decide_eq_true_eq]at hc
  exact⟨hc.1.1,hc.1.2,hc.2⟩
theorem f0h {p:B0} {g:l0} (h:(A2 p g).2.1=false):(A2 p g).1=g:=by
 unfold A2 at h ⊢
 cases hc:(U1 p&&Y0 g&&decide (p.1=g.1))with
 |false=>rfl
 |true =>
  rw[hc]at h
  simp only[cond_true]at h ⊢
  cases hh:H06 g p.2 g.2.1.toNat 0 with
  |some q =>
   obtain⟨v,i⟩:=q
   rw[hh]at h
   simp only[T0j]at h ⊢
   cases hi:p.2[i]? with
   |none=>rfl
   |some w =>
    rw[hi]at h
    simp only at h ⊢
    cases ha:(J3 g (v:Int) w (v:Int)).2 with
    |false=>rfl
    |true=>rw[ha]at h;cases h
  |none =>
   rw[hh]at h
   simp only[U0j]at h ⊢
   cases hm:E7 g with
   |nil=>rfl
   |cons e l =>
    rw[hm]at h
    simp only at h ⊢
    cases hv:(E2 g).2 with
    |false=>rfl
    |true =>
     rw[hv]at h
     simp only[cond_true]at h ⊢
     cases he:(W8 (E2 g).1 (stp e.1 e.2.1 g.2.1)).2 with
     |false=>rfl
     |true=>rw[he]at h;cases h
theorem e0k {p:B0} {g:l0} (h:g.2.2.length≤1000):(A2 p g).1.2.2.length≤1000:=by
 by_cases hf:(A2 p g).2.1=false
 ·rw[f0h hf];exact h
 ·unfold A2 at hf ⊢
  cases hc:(U1 p&&Y0 g&&decide (p.1=g.1))with
  |false=>exact h
  |true =>
   simp only[Bool.and_eq_true]at hc
   have hg:=((d9 g).1 hc.1.2).1
   have hgl:=(J2 hg).2.2.2
   simp only[cond_true]
   cases H06 g p.2 g.2.1.toNat 0 with
   |some q =>
    obtain⟨v,i⟩:=q
    simp only[T0j]
    cases p.2[i]? with
    |none=>exact h
    |some w =>
     simp only
     cases (J3 g (v:Int) w (v:Int)).2 with
     |false=>exact h
     |true =>
      have h1:=P07 hg (v:Int) w (v:Int)
      simp only[cond_true,U4]
      cases hG:V0 (J3 g (v:Int) w (v:Int)).1 with
      |false=>simp only[cond_false];omega
      |true =>
       have:=(J2 (K07 40 hG)).2.2.2
       simp only[cond_true];omega
   |none =>
    simp only[U0j]
    cases E7 g with
    |nil=>exact h
    |cons e l =>
     simp only
     cases (E2 g).2 with
     |false=>exact h
     |true =>
      simp only[cond_true]
      have h1:(E2 g).1.2.2=g.2.2:=by unfold E2;cases decide (g.2.1<40) <;> rfl
      have h2:(W8 (E2 g).1 (stp e.1 e.2.1 g.2.1)).1.2.2.length≤g.2.2.length+1:=by
       have:=f04 (stp e.1 e.2.1 g.2.1) (E2 g).1.2.2
       unfold W8
       rw[h1]at this ⊢
       cases (decide (g.2.2.length<120) && !decide (stp e.1 e.2.1 g.2.1∈g.2.2))with
       |false=>simp only[cond_false,h1];omega
       |true=>simp only[cond_true];omega
      cases (W8 (E2 g).1 (stp e.1 e.2.1 g.2.1)).2 with
      |false=>exact h
      |true=>simp only[cond_true];omega
def f0q:(l0×Bool) ⊕ (Int×Int×T0)→Option (l0×Bool):=fun X=>H6 X (fun S=>match S with
 |(a,b,c)=>some ((0,0,[]),false))
theorem B0m (p:B0) (hl:p.2.length≤140737488355328) (hs:Q1 p.2):∀(d k fuel:Nat) (g:l0),k+d=300→d<fuel→g.2.2.length≤1000 →
  (D3 p.1 p.2 fuel (k:Int) g.1 g.2.1 g.2.2).bind f0q=some (Q07 p d g)
 |d,k,0,g,hd,hf,hg=>by omega
 |0,k,fuel+1,g,hd,hf,hg=>by
  rw[D3.eq_2,if_neg (by simp;omega)];rfl
 |d+1,k,fuel+1,g,hd,hf,hg=>by
  have h1:=V0a p g hl hs (by omega)
  have h2:(A2 p g).2.2=true→(A2 p g).2.1=false→B9 (A2 p g).1=some (J06 g):=fun a b=>by
   rw[f0h b];exact n0l (n0c a).2.1
  have ih:=B0m p hl hs d (k+1) fuel (A2 p g).1 (by omega) (by omega) (e0k hg)
  rw[D3.eq_2,if_pos (by simp;omega),show(g.1,g.2.1,g.2.2)=g from rfl,show(p.1,p.2)=p from rfl,h1,oB,L1 (show k<1000 by omega) (by omega)]
  unfold Q07
  revert h2 ih
  generalize A2 p g=q
  obtain⟨g2,more,fine⟩:=q
  obtain⟨a,b,c⟩:=g2
  intro h2 ih
  simp only at h2 ih ⊢
  cases fine with
  |false=>rfl
  |true =>
   cases more with
   |true=>exact ih
   |false =>
    simp only[Bool.not_true,Bool.not_false,Bool.false_eq_true,if_false,if_true,h2 rfl rfl,oB]
    rfl
theorem C0m (p:B0) (hl:p.2.length≤140737488355328) (hs:Q1 p.2):∀(d k fuel:Nat) (g:l0),k+d=300→d<fuel→g.2.2.length≤1000 →
  (E3 p.1 p.2 fuel (k:Int) g.1 g.2.1 g.2.2).bind f0q=some (Q07 p d g)
 |d,k,0,g,hd,hf,hg=>by omega
 |0,k,fuel+1,g,hd,hf,hg=>by
  rw[E3.eq_2,if_neg (by simp;omega)];rfl
 |d+1,k,fuel+1,g,hd,hf,hg=>by
  have h1:=W0a p g hl hs (by omega)
  have h2:(A2 p g).2.2=true→C9 g=some (J06 g):=fun a=>o0l (n0c a).2.1
  have ih:=C0m p hl hs d (k+1) fuel (A2 p g).1 (by omega) (by omega) (e0k hg)
  rw[E3.eq_2,if_pos (by simp;omega),show(g.1,g.2.1,g.2.2)=g from rfl,show(p.1,p.2)=p from rfl,h1,oB,L1 (show k<1000 by omega) (by omega)]
  unfold Q07
  revert h2 ih
  generalize A2 p g=q
  obtain⟨g2,more,fine⟩:=q
  obtain⟨a,b,c⟩:=g2
  intro h2 ih
  simp only at h2 ih ⊢
  cases fine with
  |false=>rfl
  |true =>
   cases more with
   |true=>exact ih
   |false =>
    simp only[Bool.not_true,Bool.not_false,Bool.false_eq_true,if_false,if_true,h2 rfl,oB]
    rfl
def D04 (p:B0) (ws:List (List Int)):l0×Bool:=bif U1 p&&L3 p.1 ws then Q07 p 300 (U4 (H01 ws (p.1,1,[]))).1 else(d0k,false)
theorem Z0a {r:Int} {ws:List (List Int)} (h:L3 r ws=true):(H01 ws (r,1,[])).2.2.length≤120∧(U4 (H01 ws (r,1,[]))).1.2.2.length≤1000:=by
 obtain⟨hr,hn,hw⟩:=l0c h
 have hg:=e0d ws (m0c hr) hw
 refine⟨(J2 hg).2.2.2,?_⟩
 have:=(A5 (p0f hg)).2.2.2
 omega
theorem p0l (p:B0) (ws:List (List Int)) (hl:p.2.length≤140737488355328) (hs:Q1 p.2) (hl2:ws.length≤140737488355328) (hs2:Q1 ws):U7 p ws=some (D04 p ws):=by
 have h1:=O4 p hl hs
 have h2:=e0i p.1 ws hl2 hs2
 have h3:L3 p.1 ws=true→S7 (H01 ws (p.1,1,[]))=some (U4 (H01 ws (p.1,1,[]))):=fun h=>s05 _ (by have:=(Z0a h).1;omega)
 have h4:L3 p.1 ws=true→(D3 p.1 p.2 N0 ((0:Nat):Int) (U4 (H01 ws (p.1,1,[]))).1.1 (U4 (H01 ws (p.1,1,[]))).1.2.1 (U4 (H01 ws (p.1,1,[]))).1.2.2).bind f0q=some (Q07 p 300 (U4 (H01 ws (p.1,1,[]))).1):=fun h=>B0m p hl hs 300 0 N0 _ rfl (W0 (by omega)) (Z0a h).2
 unfold b06 at h2
 unfold D04
 obtain⟨pr,rels⟩:=p
 unfold U7
 simp only at h2 h3 h4 ⊢
 rw[h2,oB]
 cases hA:L3 pr ws with
 |false =>
  rw[Bool.and_false];rfl
 |true =>
  have h3:=h3 hA
  have h4:=h4 hA
  simp only[cond_true,Bool.not_true,Bool.not_false,O2,cond_false,h1,oB,Bool.and_true]
  cases hP:U1 (pr,rels)with
  |false=>rfl
  |true =>
   rw[if_neg (by simp)]
   revert h3 h4
   generalize H01 ws (pr,1,[])=fl
   intro h3 h4
   obtain⟨a,b,c⟩:=fl
   simp only[h3,oB]
   exact h4
theorem q0l (p:B0) (ws:List (List Int)) (hl:p.2.length≤140737488355328) (hs:Q1 p.2) (hl2:ws.length≤140737488355328) (hs2:Q1 ws):V7 p ws=some (D04 p ws):=by
 have h1:=p6 p hl hs
 have h2:=f0i p.1 ws hl2 hs2
 have h3:L3 p.1 ws=true→T7 (H01 ws (p.1,1,[]))=some (U4 (H01 ws (p.1,1,[]))):=fun h=>t05 _ (by have:=(Z0a h).1;omega)
 have h4:L3 p.1 ws=true→(E3 p.1 p.2 N0 ((0:Nat):Int) (U4 (H01 ws (p.1,1,[]))).1.1 (U4 (H01 ws (p.1,1,[]))).1.2.1 (U4 (H01 ws (p.1,1,[]))).1.2.2).bind f0q=some (Q07 p 300 (U4 (H01 ws (p.1,1,[]))).1):=fun h=>C0m p hl hs 300 0 N0 _ rfl (W0 (by omega)) (Z0a h).2
 unfold b06 at h2
 unfold D04
 obtain⟨pr,rels⟩:=p
 unfold V7
 simp only at h2 h3 h4 ⊢
 rw[h1,oB]
 cases hP:U1 (pr,rels)with
 |false=>rfl
 |true =>
  rw[if_neg (by simp),h2,oB]
  cases hA:L3 pr ws with
  |false=>rfl
  |true =>
   have h3:=h3 hA
   have h4:=h4 hA
   simp only[cond_true,Bool.not_true,Bool.false_eq_true,if_false]
   revert h3 h4
   generalize H01 ws (pr,1,[])=fl
   intro h3 h4
   obtain⟨a,b,c⟩:=fl
   simp only[h3,oB]
   exact h4
def d05 (p:B0) (ws:List (List Int)):Int:=bif(D04 p ws).2 then(D04 p ws).1.2.1 else -1
theorem f0k (p:B0) (ws:List (List Int)) (hl:p.2.length≤140737488355328) (hs:Q1 p.2) (hl2:ws.length≤140737488355328) (hs2:Q1 ws):R9 p ws=some (d05 p ws):=by
 have h:=p0l p ws hl hs hl2 hs2
 unfold d05
 obtain⟨pr,rels⟩:=p
 unfold R9
 simp only[h,oB]
 cases (D04 (pr,rels) ws).2 <;> rfl
theorem g0k (p:B0) (ws:List (List Int)) (hl:p.2.length≤140737488355328) (hs:Q1 p.2) (hl2:ws.length≤140737488355328) (hs2:Q1 ws):T9 p ws=some (d05 p ws):=by
 have h:=q0l p ws hl hs hl2 hs2
 unfold d05
 obtain⟨pr,rels⟩:=p
 unfold T9
 simp only[h,oB]
 cases (D04 (pr,rels) ws).2 <;> rfl
theorem f0d (p:B0):∀(d:Nat) (g:l0),Q07 p d g=(d0k,false)∨∃ g',Y0 g'=true∧Q07 p d g=(J06 g',true)
 |0,g => .inl rfl
 |d+1,g=>by
  unfold Q07
  cases h:(A2 p g).2.2 with
  |false=>exact .inl rfl
  |true =>
   cases h2:(A2 p g).2.1 with
   |true=>exact f0d p d _
   |false=>exact .inr ⟨g,(n0c h).2.1,rfl⟩
theorem C0f (p:B0) (ws:List (List Int)):D04 p ws=(d0k,false)∨∃ g',Y0 g'=true∧D04 p ws=(J06 g',true):=by
 unfold D04
 cases U1 p&&L3 p.1 ws with
 |false=>exact .inl rfl
 |true=>exact f0d p 300 _
theorem a0b (p:B0) (ws:List (List Int)):H0 (d05 p ws):=by
 unfold d05
 rcases C0f p ws with h|⟨g,hf,h⟩
 ·rw[h];exact⟨by decide,by decide⟩
 ·rw[h]
  have hf2:=H02 40 hf
  obtain⟨q1,q2,q3,q4⟩:=A5 hf2
  have:(h02 (I06 g)).length≤40:=by
   have ho:=(t08 hf2).1
   have:=q05 _ _ ho.1 ho.2
   show(h02 (c05 40 g)).length≤40
   omega
  show H0 (((h02 (I06 g)).length:Nat):Int)
  exact⟨by omega,by omega⟩
def G3 (p:B0):Int:=d05 p []
theorem r0l (p:B0) (hl:p.2.length≤140737488355328) (hs:Q1 p.2):S9 p=some (G3 p):=by
 have h:=f0k p [] hl hs (by simp) (fun w hw=>by cases hw)
 have h2:=a0b p []
 unfold G3
 obtain⟨pr,rels⟩:=p
 unfold S9
 simp only[h,oB]
 rw[C0 h2];rfl
theorem s0l (p:B0) (hl:p.2.length≤140737488355328) (hs:Q1 p.2):U9 p=some (G3 p):=by
 have h:=g0k p [] hl hs (by simp) (fun w hw=>by cases hw)
 have h2:=a0b p []
 unfold G3
 obtain⟨pr,rels⟩:=p
 unfold U9
 simp only[h,oB]
 rw[C0 h2];rfl
theorem h0p (a b:List Int) (hab:a.length=b.length) (hl:a.length≤9223372036854775807):∀(d k fuel:Nat),k+d=a.length→d<fuel →
  M6 a b fuel (k:Int)=some (bif eqW (a.drop k) (b.drop k)then .inr ()else .inl false)
 |d,k,0,hk,hf=>by omega
 |0,k,fuel+1,hk,hf=>by
  rw[M6.eq_2,if_neg (by simp;omega),Z0 (by omega),Z0 (by omega)]
  rfl
 |d+1,k,fuel+1,hk,hf=>by
  have hx:=Z3 (show k<a.length by omega)
  have hy:=Z3 (show k<b.length by omega)
  have next:=h0p a b hab hl d (k+1) fuel (by omega) (by omega)
  generalize a[k]=x at hx
  generalize b[k]=y at hy
  rw[M6.eq_2,if_pos (by simp;omega),D2 hx,oB,D2 hy,oB,F1 hx,F1 hy]
  unfold eqW at next ⊢
  by_cases h:x=y
  ·rw[if_neg (by simpa using h),L1 (show k<a.length by omega) hl,next]
   simp[h]
  ·rw[if_pos (by simpa using h)]
   simp[h]
theorem p0c {a b:List Int} (la:a.length≤9223372036854775807):I02 a b=some (eqW a b):=by
 unfold I02
 by_cases h:a.length=b.length
 ·rw[if_neg (by simp[h])]
  have:=h0p a b h (by omega) a.length 0 N0 (by omega) (E0a la)
  rw[show((0:Nat):Int)=0 from rfl]at this
  rw[this]
  simp only[List.drop_zero,oB]
  unfold eqW
  by_cases h2:a=b
  ·simp[h2,H6]
  ·simp[h2,H6]
 ·rw[if_pos (by simp;omega)]
  unfold eqW
  have : ¬ a=b:=fun e=>h (by rw[e])
  simp[this]
theorem K02 (a b:List Int):∀(fuel:Nat) (k:Int),N6 a b fuel k=M6 a b fuel k
 |0,k=>rfl
 |fuel+1,k=>by
  rw[N6.eq_2,M6.eq_2]
  simp only[K02 a b fuel]
theorem d06 {a b:List Int} (la:a.length≤9223372036854775807):r01 a b=some (eqW a b):=by
 rw[←p0c la]
 unfold r01 I02
 rw[K02]
theorem g0i {x:Int} (h:H0 x) (h2:x ≠ -9223372036854775808):(if IntKind.i64.wrap (0-x)>x then IntKind.i64.wrap (0-x)else x)=if x<0 then -x else x:=by
 rw[J0g h h2]
 split <;> split <;> omega
theorem i0p:(if IntKind.i64.wrap (0-(-9223372036854775808)) > -9223372036854775808 then IntKind.i64.wrap (0-(-9223372036854775808))else -9223372036854775808) = -9223372036854775808:=by decide
theorem U08 {x y:Int} (hx:H0 x) (hy:H0 y):I01 x y=some (A08 x y):=by
 have bx:=hx.1;have by':=hy.1
 have cx:=hx.2;have cy:=hy.2
 unfold I01 A08 C6 M0e
 by_cases e:x=y
 ·subst e;simp
 ·rw[if_neg (by simpa using e)]
  by_cases ex:x = -9223372036854775808
  ·subst ex
   rw[i0p]
   rw[if_pos (by simp)]
   congr 1
   repeat' split
   all_goals omega
  ·rw[g0i hx ex]
   by_cases ey:y = -9223372036854775808
   ·subst ey
    rw[i0p]
    have h1 : ¬ (if x<0 then -x else x)<0:=by split <;> omega
    have h2 : ¬ (if x<0 then -x else x) = -9223372036854775808:=by split <;> omega
    simp only[h1,h2,decide_false,decide_true,cond_false]
    rw[if_neg (by simp)]
    congr 1
    repeat' split
    all_goals omega
   ·rw[g0i hy ey]
    have h1 : ¬ (if x<0 then -x else x)<0:=by split <;> omega
    have h2:(if y<0 then -y else y) ≥ 0:=by split <;> omega
    simp only[h1,h2,decide_false,decide_true,cond_false,cond_true]
    generalize hc:(if x<0 then -x else x)=ax
    generalize hd:(if y<0 then -y else y)=ay
    by_cases h3:ax>ay
    ·simp only[h3,decide_true,cond_true,if_true]
     congr 1
     split at hc <;> split at hd <;> (repeat' split) <;> omega
    ·simp only[h3,decide_false,cond_false]
     by_cases h4:ax=ay
     ·simp only[h4,decide_true,cond_true]
      by_cases h5:x<y
      ·simp only[h5,decide_true,if_true]
       congr 1
       split at hc <;> split at hd <;> (repeat' split) <;> omega
      ·simp only[h5,decide_false,Bool.false_eq_true,if_false]
       congr 1
       split at hc <;> split at hd <;> (repeat' split) <;> omega
     ·simp only[h4,decide_false,cond_false,Bool.false_eq_true,if_false]
      congr 1
      split at hc <;> split at hd <;> (repeat' split) <;> omega
theorem v05 (x y:Int):S3 x y=some (C6 x y):=by
 unfold S3 C6
 by_cases h:x<y
 ·simp[h]
 ·by_cases h2:x>y
  ·simp[h,h2]
  ·simp[h,h2]
theorem q0c {x y:Int} (hx:H0 x) (hy:H0 y):z8 x y=some (A08 x y):=by
 have bx:=hx.1;have by':=hy.1
 have cx:=hx.2;have cy:=hy.2
 unfold z8
 by_cases e:x=y
 ·subst e;rw[if_pos (by simp),r0j.refl]
 ·rw[if_neg (by simpa using e)]
  by_cases ex:x = -9223372036854775808
  ·subst ex
   rw[if_pos (by simp)]
   unfold A08 C6 M0e
   congr 1
   repeat' split
   all_goals omega
  ·rw[if_neg (by simpa using ex)]
   by_cases ey:y = -9223372036854775808
   ·subst ey
    rw[if_pos (by simp)]
    unfold A08 C6 M0e
    congr 1
    repeat' split
    all_goals omega
   ·rw[if_neg (by simpa using ey),g0i hx ex,g0i hy ey,v05,oB,C0 (X04 _ _),oB]
    by_cases h:C6 (if x<0 then -x else x) (if y<0 then -y else y)=0
    ·rw[if_neg (by simpa using h),v05,oB,C0 (X04 _ _),oB]
     have h:=j00.eq _ _ h
     unfold A08 C6 M0e
     congr 1
     split at h <;> split at h <;> (repeat' split) <;> omega
    ·rw[if_pos (by simpa using h)]
     unfold A08 C6 M0e
     unfold C6 at h
     congr 1
     (repeat' split) <;> omega
def w05 (w:List Int):Prop:=∀(k:Nat) (x:Int),w[k]?=some x→H0 x
theorem D0m (a b:List Int) (hab:a.length=b.length) (ha:w05 a) (hb:w05 b) (hl:a.length≤9223372036854775807):∀(d k fuel:Nat),k+d=a.length→d<fuel →
  V2 a b fuel (k:Int)=some (bif decide (R05 A08 (a.drop k) (b.drop k)=0)then .inr ()else .inl (R05 A08 (a.drop k) (b.drop k)))
 |d,k,0,hk,hf=>by omega
 |0,k,fuel+1,hk,hf=>by
  rw[V2.eq_2,if_neg (by simp;omega),Z0 (by omega),Z0 (by omega)]
  rfl
 |d+1,k,fuel+1,hk,hf=>by
  have hx:=Z3 (show k<a.length by omega)
  have hy:=Z3 (show k<b.length by omega)
  have next:=D0m a b hab ha hb hl d (k+1) fuel (by omega) (by omega)
  generalize a[k]=x at hx
  generalize b[k]=y at hy
  have h64:H0 (A08 x y):=g0m _ _
  rw[V2.eq_2,if_pos (by simp;omega),D2 hx,oB,D2 hy,oB,U08 (ha _ _ hx) (hb _ _ hy),oB,C0 h64,oB,
   F1 hx,F1 hy]
  simp only[R05,thenC]
  by_cases h:A08 x y=0
  ·rw[if_neg (by simpa using h),L1 (show k<a.length by omega) hl,next]
   simp[h]
  ·rw[if_pos (by simpa using h)]
   simp[h]
theorem n02 {a b:List Int} (ha:w05 a) (hb:w05 b) (la:a.length≤9223372036854775807):d8 a b=some (I1 a b):=by
 unfold d8 I1
 by_cases h:a.length=b.length
 ·rw[if_neg (by simp[h])]
  have:=D0m a b h ha hb (by omega) a.length 0 N0 (by omega) (E0a la)
  rw[show((0:Nat):Int)=0 from rfl]at this
  rw[this]
  simp only[List.drop_zero,oB]
  have e:C6 (a.length:Int) (b.length:Int)=0:=by rw[h];exact j00.refl _
  rw[e]
  by_cases h2:R05 A08 a b=0
  ·simp[h2,thenC,H6]
  ·simp[h2,thenC,H6]
 ·rw[if_pos (by simp;omega)]
  by_cases h2:a.length<b.length
  ·rw[if_pos (by simp;omega)]
   have e:C6 (a.length:Int) (b.length:Int) = -1:=by unfold C6;rw[if_pos (by omega)]
   rw[e];rfl
  ·rw[if_neg (by simp;omega)]
   have e:C6 (a.length:Int) (b.length:Int)=1:=by unfold C6;rw[if_neg (by omega),if_pos (by omega)]
   rw[e];rfl
theorem h0k (a b:List Int) (hab:a.length=b.length) (ha:w05 a) (hb:w05 b) (hl:a.length≤9223372036854775807):∀(d k fuel:Nat),k+d=a.length →
  A4 a b fuel (k:Int)=V2 a b fuel (k:Int)
 |d,k,0,hk=>rfl
 |0,k,fuel+1,hk=>by
  rw[V2.eq_2,A4.eq_2,if_neg (by simp;omega),if_neg (by simp;omega)]
 |d+1,k,fuel+1,hk=>by
  have hx:=Z3 (show k<a.length by omega)
  have hy:=Z3 (show k<b.length by omega)
  have next:=h0k a b hab ha hb hl d (k+1) fuel (by omega)
  generalize a[k]=x at hx
  generalize b[k]=y at hy
  rw[V2.eq_2,A4.eq_2,D2 hx,oB,D2 hy,oB,oB,oB,U08 (ha _ _ hx) (hb _ _ hy),q0c (ha _ _ hx) (hb _ _ hy),L1 (show k<a.length by omega) hl,next]
theorem x09 {a b:List Int} (ha:w05 a) (hb:w05 b) (la:a.length≤9223372036854775807):u00 a b=some (I1 a b):=by
 have hs:=n02 ha hb la
 unfold u00
 rw[v05,oB,C0 (X04 _ _),oB]
 unfold I1
 by_cases h:C6 (a.length:Int) (b.length:Int)=0
 ·have h1:a.length=b.length:=by have:=j00.eq _ _ h;omega
  rw[if_neg (by simpa using h),show A4 a b N0 0=V2 a b N0 0 from h0k a b h1 ha hb (by omega) a.length 0 N0 (by omega)]
  unfold d8 at hs
  rw[if_neg (by simp[h1])]at hs
  exact hs
 ·rw[if_pos (by simpa using h)]
  unfold thenC
  rw[if_pos h]
theorem t0l {a:List Int} (la:a.length≤1099511627776):o8 a=some a:=by
 unfold o8
 rw[C0 (by simp;omega)]
 rfl
def o02 (w:List Int) (k:Nat):List Int:=w.drop k++w.take k
theorem c0b (w:List Int) {k:Nat} (h:k≤w.length):(o02 w k).length=w.length:=by simp[o02];omega
theorem j0p (w:List Int) {i k:Nat} (hi:i<w.length) (hk:k<w.length):(o02 w k)[i]?=w[(i+k) % w.length]?:=by
 unfold o02
 by_cases h:i<w.length-k
 ·rw[List.getElem?_append_left (by simpa using h),List.getElem?_drop,Nat.mod_eq_of_lt (by omega),Nat.add_comm]
 ·rw[List.getElem?_append_right (by simp;omega),List.getElem?_take,List.length_drop,if_pos (by omega),Nat.mod_eq_sub_mod (by omega),Nat.mod_eq_of_lt (by omega)]
  congr 1
  omega
theorem tmN (a b:Nat):Int.tmod (a:Int) (b:Int)=((a % b:Nat):Int):=(Int.ofNat_tmod a b).symm
theorem g0h {α:Type} {xs:List α} {k:Nat} (h:k≤xs.length):d03 xs (k:Int) (xs.length:Int)=some (xs.drop k):=by
 unfold d03
 rw[if_pos ⟨by omega,by omega,by omega⟩]
 simp
theorem g0q {α:Type} {xs:List α} {k:Nat} (h:k≤xs.length):d03 xs 0 (k:Int)=some (xs.take k):=by
 unfold d03
 rw[if_pos ⟨by omega,by omega,by omega⟩]
 simp
theorem r0c (w:List Int) {k:Nat} (hk:k<w.length) (hl:w.length≤1048576):m00 w (k:Int)=some (o02 w k):=by
 unfold m00
 have h1:Int.tmod (IntKind.i64.wrap (Int.tmod (k:Int) (w.length:Int)+(w.length:Int))) (w.length:Int)=(k:Int):=by
  rw[tmN,Nat.mod_eq_of_lt hk,w64 (by omega) (by omega),show(k:Int)+(w.length:Int)=((k+w.length:Nat):Int) by omega,tmN,Nat.add_mod_right,Nat.mod_eq_of_lt hk]
 rw[if_neg (by simp;intro e;subst e;simp at hk),C0 (by omega),oB,oB,h1]
 simp only[g0q (show k≤w.length by omega),g0h (show k≤w.length by omega),oB,t0l (show(w.drop k).length≤1099511627776 by rw[List.length_drop];omega)]
 rw[C0 (by simp;omega)]
 rfl
theorem C03 (w:List Int) {k:Nat} (hk:k<w.length) (hl:w.length≤1048576):∀(d i fuel:Nat) (acc:List Int),i+d=w.length→d<fuel→acc.length=i →
  U5 w (k:Int) fuel (i:Int) acc=some (acc++(o02 w k).drop i)
 |d,i,0,acc,hd,hf,ha=>by omega
 |0,i,fuel+1,acc,hd,hf,ha=>by
  rw[U5.eq_2,if_neg (by simp;omega),Z0 (by rw[c0b w (by omega)];omega),List.append_nil]
 |d+1,i,fuel+1,acc,hd,hf,ha=>by
  have hi:i<w.length:=by omega
  have hm:(i+k) % w.length<w.length:=Nat.mod_lt _ (by omega)
  have hx:w[(i+k) % w.length]?=some w[(i+k) % w.length]:=List.getElem?_eq_getElem hm
  have hr:(o02 w k)[i]?=some w[(i+k) % w.length]:=by rw[j0p w hi hk,hx]
  generalize w[(i+k) % w.length]=x at hx hr
  have e:Int.tmod (IntKind.i64.wrap (Int.tmod (IntKind.i64.wrap ((i:Int)+Int.tmod (k:Int) (w.length:Int))) (w.length:Int)+(w.length:Int))) (w.length:Int)=(((i+k) % w.length:Nat):Int):=by
   have e1:IntKind.i64.wrap ((i:Int)+(k:Int))=((i+k:Nat):Int):=by rw[w64 (by omega) (by omega)];omega
   have e2:IntKind.i64.wrap ((((i+k) % w.length:Nat):Int)+(w.length:Int))=(((i+k) % w.length+w.length:Nat):Int):=by rw[w64 (by omega) (by omega)];omega
   rw[tmN,Nat.mod_eq_of_lt hk,e1,tmN,e2,tmN,Nat.add_mod_right,Nat.mod_mod]
  rw[U5.eq_2,if_pos (by simp;omega),C0 (by omega),oB,oB,oB,e,D2 hx,oB,C0 (by simp;omega),oB,L1 hi (by omega),
   C03 w hk hl d (i+1) fuel _ (by omega) (by omega) (by simp;omega),F1 hr]
  simp
theorem s0c (w:List Int) {k:Nat} (hk:k<w.length) (hl:w.length≤1048576):Z8 w (k:Int)=some (o02 w k):=by
 unfold Z8
 have h:=C03 w hk hl w.length 0 N0 [] (by omega) (W0 (by omega)) rfl
 rw[show((0:Nat):Int)=0 from rfl]at h
 rw[h]
 rfl
def w0d (w:List Int):List (List Int):=(List.range w.length).map (o02 w)
theorem d0b (w:List Int):(w0d w).length=w.length:=by simp[w0d]
theorem k0p (w:List Int) {k:Nat} (h:k<w.length):(w0d w)[k]?=some (o02 w k):=by simp[w0d,h]
def R07:List (List Int)→List (List Int)
 | []=>[]
 |r::l=>w0d r++w0d (inv r)++R07 l
theorem E0f:∀ ws:List (List Int),(R07 ws).length=2*D0f ws
 | []=>rfl
 |r::l=>by
  simp only[R07,List.length_append,d0b,e05,E0f l,D0f]
  omega
theorem S07 (w:List Int) (hl:w.length≤1048576):∀(d k fuel:Nat) (acc:List (List Int)),k+d=w.length→d<fuel→acc.length+d≤1099511627776 →
  E4 w fuel (k:Int) acc=some (acc++(w0d w).drop k)
 |d,k,0,acc,hd,hf,ha=>by omega
 |0,k,fuel+1,acc,hd,hf,ha=>by
  rw[E4.eq_2,if_neg (by simp;omega),Z0 (by rw[d0b];omega),List.append_nil]
 |d+1,k,fuel+1,acc,hd,hf,ha=>by
  rw[E4.eq_2,if_pos (by simp;omega),r0c w (by omega) hl,oB,C0 (by simp;omega),oB,L1 (show k<w.length by omega) (by omega),
   S07 w hl d (k+1) fuel _ (by omega) (by omega) (by simp;omega),F1 (k0p w (show k<w.length by omega))]
  simp
theorem i0k (a b:List Int) (ha:a.length≤1048576) (hb:b.length≤1048576) (acc:List (List Int)) (hl:acc.length+a.length+b.length≤1099511627776) :
  P3 a b N0 0 acc=some (acc++(w0d a++w0d b)):=by
 have h0:=S07 a ha a.length 0 N0 acc (by omega) (W0 (by omega)) (by omega)
 have h1:=S07 b hb b.length 0 N0 (acc++w0d a) (by omega) (W0 (by omega)) (by simp[d0b];omega)
 rw[show((0:Nat):Int)=0 from rfl,List.drop_zero]at h0 h1
 have w1:IntKind.i64.wrap (0+1)=1:=by decide
 have w2:IntKind.i64.wrap (1+1)=2:=by decide
 have g0:gi [a,b] 0=some a:=rfl
 have g1:gi [a,b] 1=some b:=rfl
 have d0:decide ((0:Int)<((2:Nat):Int))=true:=rfl
 have d1:decide ((1:Int)<((2:Nat):Int))=true:=rfl
 have d2:decide ((2:Int)<((2:Nat):Int))=false:=rfl
 have hF:N0=(N0-3)+1+1+1:=rfl
 rw[hF]
 rw[P3.eq_2,d0,if_pos rfl,g0,oB,h0,oB,w1,P3.eq_2,d1,if_pos rfl,g1,oB,h1,oB,w2,P3.eq_2,d2,if_neg (by simp)]
 rw[List.append_assoc]
theorem g0d (ws:List (List Int)) (hs:∀ w∈ws,w.length≤1048576) (hn:ws.length≤140737488355328):∀(d k fuel:Nat) (acc:List (List Int)),k+d=ws.length→d<fuel→acc.length+2*D0f (ws.drop k)≤1099511627776 →
  F4 ws fuel (k:Int) acc=some (acc++R07 (ws.drop k))
 |d,k,0,acc,hd,hf,ha=>by omega
 |0,k,fuel+1,acc,hd,hf,ha=>by
  rw[F4.eq_2,if_neg (by simp;omega),Z0 (by omega)]
  simp[R07]
 |d+1,k,fuel+1,acc,hd,hf,ha=>by
  have hk:k<ws.length:=by omega
  have hx:=Z3 hk
  have hxl:=hs _ (List.getElem_mem hk)
  generalize ws[k]=x at hx hxl
  rw[F1 hx]at ha ⊢
  simp only[D0f]at ha
  simp only[R07]
  have hil:=e05 x
  rw[F4.eq_2,if_pos (by simp;omega),D2 hx,oB,o0c x (by omega),oB,i0k x (inv x) hxl (by omega) acc (by omega),oB,L1 hk (by omega),
   g0d ws hs hn d (k+1) fuel _ (by omega) (by omega) (by simp only[List.length_append,d0b,hil];omega)]
  simp
def L2 (p:B0):J1:=bif U1 p then b0d I1 eqW (R07 p.2)else []
theorem F0f:∀(ws:List (List Int)) (m:Nat),(∀ w∈ws,w.length≤m)→D0f ws≤ws.length*m
 | [],m,_=>by simp[D0f]
 |w::l,m,h=>by
  have h1:=h w (List.mem_cons_self ..)
  have h2:=F0f l m fun x hx=>h x (mC _ hx)
  simp only[D0f,List.length_cons,Nat.add_mul,Nat.one_mul]
  omega
theorem G0f {p:B0} (h:U1 p=true):(∀ w∈p.2,b0b w∧w.length≤24)∧p.2.length≤6∧D0f p.2≤144:=by
 have h1:∀ w∈p.2,b0b w∧w.length≤24:=fun w hw=>by
  obtain⟨i,hi⟩:=List.getElem?_of_mem hw
  exact E0n h hi
 have h2:=g0p h
 have h3:=F0f p.2 24 fun w hw=>(h1 w hw).2
 exact⟨h1,h2,by omega⟩
theorem D03 (p:B0) (hl:p.2.length≤140737488355328) (hs:Q1 p.2):Z6 p=some (L2 p):=by
 obtain⟨r,ws⟩:=p
 unfold Z6 L2
 simp only[p6 (r,ws) hl hs,oB]
 cases hp:U1 (r,ws)with
 |false=>rfl
 |true =>
  obtain⟨h1,h2,h3⟩:=G0f hp
  have h:=g0d ws (fun w hw=>by have:=(h1 w hw).2;omega) hl ws.length 0 N0 [] (by omega) (W0 (by omega)) (by simp only[List.drop_zero,List.length_nil];simp only at h3;omega)
  rw[show((0:Nat):Int)=0 from rfl,List.drop_zero,List.nil_append]at h
  rw[if_neg (by simp),h,oB,C0 (by rw[E0f];simp only at h3;omega),oB]
  rfl
def prs (w:List Int):List (List (List Int)):=(List.range w.length).map fun k=>[o02 w k,inv (o02 w k)]
theorem h0q (w:List Int):(prs w).length=w.length:=by simp[prs]
theorem i0q (w:List Int) {k:Nat} (h:k<w.length):(prs w)[k]?=some [o02 w k,inv (o02 w k)]:=by simp[prs,h]
def l0p:List (List Int)→List (List Int)
 | []=>[]
 |r::l=>(prs r).flatten++l0p l
def goP (w:List Int):List (List Int)→Bool×List (List Int)
 | []=>(false,[])
 |y::l=>if I1 w y<0 then(true,w::y::l)else if I1 w y=0 then(true,y::l)else((goP w l).1,y::(goP w l).2)
theorem E0m (w:List Int):∀ l,n9 I1 w l=bif(goP w l).1 then(goP w l).2 else(goP w l).2 ++ [w]
 | []=>rfl
 |y::l=>by
  have ih:=E0m w l
  unfold n9 goP
  split
  ·rfl
  ·split
   ·rfl
   ·rw[ih]
    cases (goP w l).1 <;> rfl
theorem j0q (w:List Int) (h:b0b w):w05 w:=fun k x hx=>h x (List.mem_of_getElem? hx)
def H04 (w:List Int):Prop:=b0b w∧w.length≤1048576
theorem F0m (a b:List Int):H0 (I1 a b):=by
 have h1:=X04 (a.length:Int) (b.length:Int)
 have h2:∀ x y:List Int,H0 (R05 A08 x y):=fun x=>by
  induction x with
  |nil=>intro y;cases y <;> (simp only[R05];decide)
  |cons p x ih =>
   intro y
   cases y with
   |nil=>simp only[R05];decide
   |cons q y =>
    simp only[R05,thenC]
    split
    ·exact g0m _ _
    ·exact ih y
 unfold I1 thenC
 split
 ·exact h1
 ·exact h2 _ _
theorem x05 (l:List (List Int)) (w:List Int) (hw:H04 w) (hg:∀ x∈l,H04 x) (hl:l.length≤1048576):∀(d k fuel:Nat) (acc:List (List Int)),k+d=l.length→d<fuel→acc.length≤k+1 →
  d4 l w fuel true (k:Int) acc=some (true,acc++l.drop k)
 |d,k,0,acc,hd,hf,ha=>by omega
 |0,k,fuel+1,acc,hd,hf,ha=>by
  rw[d4.eq_2,if_neg (by simp;omega),Z0 (by omega),List.append_nil]
 |d+1,k,fuel+1,acc,hd,hf,ha=>by
  have hk:k<l.length:=by omega
  have hx:=Z3 hk
  have hxg:=hg _ (List.getElem_mem hk)
  generalize l[k]=x at hx hxg
  have ih:=x05 l w hw hg hl d (k+1) fuel (acc ++ [x]) (by omega) (by omega) (by simp;omega)
  rw[d4.eq_2,if_pos (by simp;omega),D2 hx,oB,n02 (j0q w hw.1) (j0q x hxg.1) (by have:=hw.2;omega),oB,C0 (F0m _ _),oB]
  have hb:∀ c:Bool,(bif c then(!true)else false)=false:=fun c=>by cases c <;> rfl
  simp only[hb,Bool.false_eq_true,if_false,oB,L1 hk (show l.length≤9223372036854775807 by omega),ih,C0 (show(acc.length + [x].length)*24≤140737488355328 by simp;omega)]
  rw[F1 hx]
  split <;> simp
theorem T07 (l:List (List Int)) (w:List Int) (hw:H04 w) (hg:∀ x∈l,H04 x) (hl:l.length≤1048576):∀(d k fuel:Nat) (acc:List (List Int)),k+d=l.length→d<fuel→acc.length=k →
  d4 l w fuel false (k:Int) acc=some ((goP w (l.drop k)).1,acc++(goP w (l.drop k)).2)
 |d,k,0,acc,hd,hf,ha=>by omega
 |0,k,fuel+1,acc,hd,hf,ha=>by
  rw[d4.eq_2,if_neg (by simp;omega),Z0 (by omega)]
  simp[goP]
 |d+1,k,fuel+1,acc,hd,hf,ha=>by
  have hk:k<l.length:=by omega
  have hx:=Z3 hk
  have hxg:=hg _ (List.getElem_mem hk)
  generalize l[k]=x at hx hxg
  have ih:=T07 l w hw hg hl d (k+1) fuel (acc ++ [x]) (by omega) (by omega) (by simp;omega)
  have on1:=x05 l w hw hg hl d (k+1) fuel (acc ++ [x]) (by omega) (by omega) (by simp;omega)
  have on2:=x05 l w hw hg hl d (k+1) fuel (acc ++ [w] ++ [x]) (by omega) (by omega) (by simp;omega)
  have hw2:=hw.2
  rw[d4.eq_2,if_pos (by simp;omega),D2 hx,oB,n02 (j0q w hw.1) (j0q x hxg.1) (by omega),oB,C0 (F0m _ _),oB,F1 hx]
  unfold goP
  have hb:∀ c:Bool,(bif c then(!true)else false)=false:=fun c=>by cases c <;> rfl
  have hb2:∀ c:Bool,(bif c then(!false)else false)=c:=fun c=>by cases c <;> rfl
  by_cases h0:I1 w x=0
  ·rw[if_pos (by simpa using h0),hb,if_neg (by simp),oB,C0 (by simp;omega),oB,L1 hk (by omega),on1,if_neg (by omega),if_pos h0]
   simp
  ·rw[if_neg (by simpa using h0),hb2]
   by_cases h1:I1 w x<0
   ·rw[if_pos (by simpa using h1),C0 (by simp;omega),oB,List.nil_append,C0 (by simp;omega),oB,oB,C0 (by simp;omega),oB,L1 hk (by omega),on2,if_pos h1]
    simp
   ·rw[if_neg (by simpa using h1),oB,C0 (by simp;omega),oB,L1 hk (by omega),ih,if_neg h1,if_neg h0]
    simp
theorem h0h (l:List (List Int)) (w:List Int) (hw:H04 w) (hg:∀ x∈l,H04 x) (hl:l.length≤1048576):j01 l w=some (n9 I1 w l):=by
 unfold j01
 have h:=T07 l w hw hg hl l.length 0 N0 [] (by omega) (W0 (by omega)) rfl
 rw[show((0:Nat):Int)=0 from rfl,List.drop_zero,List.nil_append]at h
 rw[h,oB,E0m]
 have hlen:(goP w l).2.length≤l.length+1:=by
  clear h hl hg
  induction l with
  |nil=>simp[goP]
  |cons y l ih =>
   unfold goP
   split
   ·simp
   ·split
    ·simp
    ·simp only[List.length_cons];omega
 have:=hw.2
 cases (goP w l).1 with
 |true=>rfl
 |false =>
  simp only[Bool.not_false,if_true,cond_false,List.nil_append]
  rw[C0 (by simp;omega),oB,C0 (by simp;omega),oB]
theorem W0d (a b:List Int):inv (a++b)=inv b++inv a:=by simp[inv]
theorem U07 {w:List Int} (hw:H04 w) {k:Nat} (hk:k<w.length):H04 (o02 w k):=by
 refine⟨fun x hx=>?_,by rw[c0b w (by omega)];exact hw.2⟩
 rcases List.mem_append.1 hx with hx|hx
 ·exact hw.1 x (List.mem_of_mem_drop hx)
 ·exact hw.1 x (List.mem_of_mem_take hx)
theorem j0k {w:List Int} (hw:H04 w):H04 (inv w):=⟨e0p w,by rw[e05];exact hw.2⟩
theorem t0c {l:List (List Int)} {w:List Int} (hl:∀ x∈l,H04 x) (hw:H04 w):∀ x∈n9 I1 w l,H04 x:=fun x hx=>by
 rcases(x04 N0e w x l).1 hx with rfl|hx
 ·exact hw
 ·exact hl x hx
theorem e0b (w:List Int):∀ l:List (List Int),(n9 I1 w l).length≤l.length+1
 | []=>by simp[n9]
 |y::l=>by
  have:=e0b w l
  unfold n9
  split
  ·simp
  ·split
   ·simp
   ·simp only[List.length_cons];omega
theorem h0d {α:Type} (cf:α→α→Int):∀(a b l:List α),F5 cf l (a++b)=F5 cf (F5 cf l a) b
 | [],_,_=>rfl
 |x::a,b,l=>by simp only[List.cons_append,F5,h0d cf a b]
theorem H0f:∀(r l:List (List Int)),(F5 I1 l r).length≤l.length+r.length
 | [],l=>by simp[F5]
 |x::r,l=>by
  have h1:=H0f r (n9 I1 x l)
  have h2:=e0b x l
  simp only[F5,List.length_cons]
  omega
theorem i0d:∀(r l:List (List Int)),(∀ x∈r,H04 x)→(∀ x∈l,H04 x)→∀ x∈F5 I1 l r,H04 x
 | [],l,_,hl=>hl
 |x::r,l,hr,hl=>i0d r _ (fun y hy=>hr y (mC _ hy)) (t0c hl (hr x (List.mem_cons_self ..)))
theorem j0d (w:List Int) (hw:H04 w):∀(d k fuel:Nat) (u:List (List Int)),k+d=w.length→d<fuel→(∀ x∈u,H04 x)→u.length+2*d≤1048576 →
  D4 w fuel u (k:Int)=some (F5 I1 u ((prs w).drop k).flatten)
 |d,k,0,u,hd,hf,hu,hl=>by omega
 |0,k,fuel+1,u,hd,hf,hu,hl=>by
  rw[D4.eq_2,if_neg (by simp;omega),Z0 (by rw[h0q];omega)]
  rfl
 |d+1,k,fuel+1,u,hd,hf,hu,hl=>by
  have hk:k<w.length:=by omega
  have hw2:=hw.2
  have g1:=U07 hw hk
  have g2:=j0k g1
  have l1:=e0b (o02 w k) u
  have l2:=e0b (inv (o02 w k)) (n9 I1 (o02 w k) u)
  have u1:=t0c hu g1
  rw[D4.eq_2,if_pos (by simp;omega),s0c w hk hw2,oB,h0h u _ g1 hu (by omega),oB,oB,c06 _ (by have:=g1.2;omega),oB,
   h0h _ _ g2 u1 (by omega),oB,L1 hk (by omega),j0d w hw d (k+1) fuel _ (by omega) (by omega) (t0c u1 g2) (by omega),F1 (i0q w hk)]
  rfl
theorem m0p {w:List Int} (hw:H04 w):∀ x∈(prs w).flatten,H04 x:=fun x hx=>by
 obtain⟨l,hl,hx⟩:=List.mem_flatten.1 hx
 simp only[prs,List.mem_map,List.mem_range]at hl
 obtain⟨k,hk,rfl⟩:=hl
 simp only[List.mem_cons,List.mem_nil_iff,or_false]at hx
 rcases hx with rfl|rfl
 ·exact U07 hw hk
 ·exact j0k (U07 hw hk)
theorem n0p (w:List Int):(prs w).flatten.length=2*w.length:=by
 have:∀ l:List Nat,(l.map fun k=>[o02 w k,inv (o02 w k)]).flatten.length=2*l.length:=fun l=>by
  induction l with
  |nil=>rfl
  |cons a l ih=>simp only[List.map_cons,List.flatten_cons,List.length_append,ih,List.length_cons,List.length_nil];omega
 unfold prs
 rw[this,List.length_range]
theorem k0d (r:Int) (ws:List (List Int)) (hp:U1 (r,ws)=true) (hs:Q1 ws) (hg:∀ w∈ws,H04 w) (hn:ws.length≤140737488355328):∀(d k fuel:Nat) (u:List (List Int)),k+d=ws.length→d<fuel→(∀ x∈u,H04 x)→u.length+2*D0f (ws.drop k)≤1048576 →
  j3 ws r fuel u (k:Int)=some (F5 I1 u (l0p (ws.drop k)))
 |d,k,0,u,hd,hf,hu,hl=>by omega
 |0,k,fuel+1,u,hd,hf,hu,hl=>by
  have e:decide ((k:Int)<(ws.length:Int))=false:=by simp;omega
  rw[j3.eq_2,e,L5,oB,if_neg (by simp),Z0 (by omega)]
  rfl
 |d+1,k,fuel+1,u,hd,hf,hu,hl=>by
  have hk:k<ws.length:=by omega
  have hx:=Z3 hk
  have hxg:=hg _ (List.getElem_mem hk)
  generalize ws[k]=x at hx hxg
  have e:decide ((k:Int)<(ws.length:Int))=true:=by simp;omega
  rw[F1 hx]at hl ⊢
  simp only[D0f]at hl
  have hfl:=n0p x
  have hl1:=H0f (prs x).flatten u
  have h0:=j0d x hxg x.length 0 N0 u (by omega) (W0 (by have:=hxg.2;omega)) hu (by omega)
  rw[show((0:Nat):Int)=0 from rfl,List.drop_zero]at h0
  rw[j3.eq_2,e,O2,O4 (r,ws) hn hs,oB,hp,if_pos (show(bif true then true else false)=true from rfl),D2 hx,oB,h0,oB,L1 hk (by omega),
   k0d r ws hp hs hg hn d (k+1) fuel _ (by omega) (by omega) (i0d _ _ (m0p hxg) hu) (by omega)]
  simp only[l0p,h0d]
theorem k0q {w:List Int} {k:Nat} (hk:k<w.length):∃ k',k'<w.length∧inv (o02 w k)=o02 (inv w) k':=by
 have h:inv w=inv (w.drop k)++inv (w.take k):=by rw[←W0d,List.take_append_drop]
 rcases Nat.eq_zero_or_pos k with rfl|hp
 ·refine⟨0,hk,?_⟩
  simp[o02,inv]
 ·refine⟨w.length-k,by omega,?_⟩
  have hd:(inv (w.drop k)).length=w.length-k:=by rw[e05,List.length_drop]
  unfold o02
  rw[W0d,h,List.drop_left' hd,List.take_left' hd]
theorem G0m (w:List Int) (x:List Int):x∈w0d w↔∃ k,k<w.length∧x=o02 w k:=by
 simp only[w0d,List.mem_map,List.mem_range]
 constructor
 ·rintro⟨k,h,rfl⟩;exact⟨k,h,rfl⟩
 ·rintro⟨k,h,rfl⟩;exact⟨k,h,rfl⟩
theorem l0q (w:List Int) (x:List Int):x∈(prs w).flatten↔∃ k,k<w.length∧(x=o02 w k∨x=inv (o02 w k)):=by
 simp only[prs,List.mem_flatten,List.mem_map,List.mem_range]
 constructor
 ·rintro⟨l,⟨k,h,rfl⟩,hx⟩
  simp only[List.mem_cons,List.mem_nil_iff,or_false]at hx
  exact⟨k,h,hx⟩
 ·rintro⟨k,h,hx⟩
  exact⟨_,⟨k,h,rfl⟩,by simpa using hx⟩
theorem m0q {w:List Int} {k:Nat} (hk:k<w.length):∃ k',k'<w.length∧o02 (inv w) k=inv (o02 w k'):=by
 rcases Nat.eq_zero_or_pos k with rfl|hp
 ·refine⟨0,hk,?_⟩
  simp[o02,inv]
 ·refine⟨w.length-k,by omega,?_⟩
  have h:inv w=inv (w.drop (w.length-k))++inv (w.take (w.length-k)):=by rw[←W0d,List.take_append_drop]
  have hd:(inv (w.drop (w.length-k))).length=k:=by rw[e05,List.length_drop];omega
  unfold o02
  rw[W0d,h,List.drop_left' hd,List.take_left' hd]
theorem k0k (x:List Int):∀ ws:List (List Int),x∈R07 ws↔x∈l0p ws
 | []=>Iff.rfl
 |w::l=>by
  have ih:=k0k x l
  simp only[R07,l0p,List.mem_append,ih,l0q,G0m,e05]
  refine or_congr ⟨?_,?_⟩ Iff.rfl
  ·rintro(⟨k,h,rfl⟩|⟨k,h,rfl⟩)
   ·exact⟨k,h,.inl rfl⟩
   ·obtain⟨k',h',e⟩:=m0q h
    exact⟨k',h',.inr e⟩
  ·rintro⟨k,h,rfl|rfl⟩
   ·exact .inl ⟨k,h,rfl⟩
   ·obtain⟨k',h',e⟩:=k0q h
    exact .inr ⟨k',h',e⟩
theorem H0m (x y:List Int):eqW x y=true↔x=y:=by simp[eqW]
theorem E03 (p:B0) (hl:p.2.length≤140737488355328) (hs:Q1 p.2):Y6 p=some (L2 p):=by
 obtain⟨r,ws⟩:=p
 unfold Y6 L2
 cases hp:U1 (r,ws)with
 |false =>
  have h1:j3 ws r N0 [] 0=some []:=by
   rw[show N0=(N0-1)+1 from rfl,j3.eq_2]
   by_cases e:decide ((0:Int)<(ws.length:Int))=true
   ·rw[e,O2,O4 (r,ws) hl hs,oB,hp,if_neg (by simp)]
   ·rw[Bool.not_eq_true]at e
    rw[e,L5,oB,if_neg (by simp)]
  simp only[h1,oB]
  rfl
 |true =>
  obtain⟨h1,h2,h3⟩:=G0f hp
  simp only at h1 h2 h3
  have h:=k0d r ws hp hs (fun w hw=>⟨(h1 w hw).1,by have:=(h1 w hw).2;omega⟩) hl ws.length 0 N0 [] (by omega) (W0 (by omega)) (by simp) (by simp only[List.drop_zero,List.length_nil];omega)
  rw[show((0:Nat):Int)=0 from rfl,List.drop_zero]at h
  simp only[h,oB,cond_true,R0e N0e H0m _ _ fun x=>k0k x ws]
theorem V07 (p:B0):(∀ w∈L2 p,b0b w∧w.length≤24)∧(L2 p).length≤288:=by
 unfold L2
 cases hp:U1 p with
 |false=>simp
 |true =>
  obtain⟨h1,h2,h3⟩:=G0f hp
  simp only[cond_true]
  constructor
  ·intro w hw
   rw[I0g H0m]at hw
   have:∀ ws:List (List Int),(∀ u∈ws,b0b u∧u.length≤24)→w∈R07 ws→b0b w∧w.length≤24:=fun ws=>by
    induction ws with
    |nil=>intro _ h;cases h
    |cons u l ih =>
     intro hu h
     have hu0:=hu u (List.mem_cons_self ..)
     simp only[R07,List.mem_append,G0m]at h
     rcases h with(⟨k,hk,rfl⟩|⟨k,hk,rfl⟩)|h
     ·exact⟨(U07 ⟨hu0.1,by omega⟩ hk).1,by rw[c0b _ (by omega)];exact hu0.2⟩
     ·have hil:=e05 u
      exact⟨(U07 ⟨e0p u,by omega⟩ hk).1,by rw[c0b _ (by omega)];omega⟩
     ·exact ih (fun x hx=>hu x (mC _ hx)) h
   exact this _ h1 hw
  ·have e:=E0f p.2
   have h4:(b0d I1 eqW (R07 p.2)).length≤(R07 p.2).length:=by
    unfold b0d
    have h5:(b00 eqW (w02 I1 (R07 p.2))).length≤(w02 I1 (R07 p.2)).length:=by
     cases w02 I1 (R07 p.2)with
     |nil=>simp[b00]
     |cons x m=>simp only[b00,List.length_cons];have:=(A06 eqW m x).length_le;omega
    have h6:=(q02 I1 (R07 p.2)).length_eq
    omega
   omega
def cpl:List Int→List Int→Nat
 |x::a,y::b=>bif decide (x=y)then cpl a b+1 else 0
 |_,_=>0
theorem y09:∀ a b:List Int,cpl a b≤a.length∧cpl a b≤b.length
 | [],_=>by simp[cpl]
 |_::_,[]=>by simp[cpl]
 |x::a,y::b=>by
  have:=y09 a b
  simp only[cpl]
  cases decide (x=y) <;> simp only[cond_true,cond_false,List.length_cons] <;> omega
theorem W07:∀ a b:List Int,cpl a b=cpl b a
 | [],[]=>rfl
 | [],_::_=>rfl
 |_::_,[]=>rfl
 |x::a,y::b=>by
  simp only[cpl,W07 a b]
  by_cases h:x=y
  ·subst h;rfl
  ·have h' : ¬ y=x:=fun e=>h e.symm
   simp[h,h']
theorem e06 (a b:List Int) (hl:a.length≤9223372036854775807):∀(d k fuel:Nat),k+d=a.length→d<fuel→k≤b.length →
  B6 a b fuel (k:Int)=some ((k+cpl (a.drop k) (b.drop k):Nat):Int)
 |d,k,0,hd,hf,hb=>by omega
 |0,k,fuel+1,hd,hf,hb=>by
  have e:decide ((k:Int)<(a.length:Int))=false:=by simp;omega
  rw[B6.eq_2,e,Z0 (by omega)]
  simp[chk,cpl]
 |d+1,k,fuel+1,hd,hf,hb=>by
  have hk:k<a.length:=by omega
  have hx:=Z3 hk
  generalize a[k]=x at hx
  have e:decide ((k:Int)<(a.length:Int))=true:=by simp;omega
  rw[B6.eq_2,e]
  by_cases h2:k<b.length
  ·have hy:=Z3 h2
   generalize b[k]=y at hy
   have e2:decide ((k:Int)<(b.length:Int))=true:=by simp;omega
   have ih:=e06 a b hl d (k+1) fuel (by omega) (by omega) (by omega)
   rw[e2,F1 hx,F1 hy]
   simp only[cond_true,O2,D2 hx,D2 hy,oB,cpl]
   by_cases hxy:x=y
   ·rw[if_pos (by simpa using hxy),L1 hk hl,ih]
    simp only[hxy,decide_true,cond_true]
    congr 2
    omega
   ·rw[if_neg (by simpa using hxy)]
    simp[hxy]
  ·have e2:decide ((k:Int)<(b.length:Int))=false:=by simp;omega
   rw[e2,Z0 (xs:=b) (by omega)]
   simp only[cond_true,L5,oB,cond_false]
   rw[if_neg (by simp)]
   cases a.drop k <;> simp[cpl]
theorem L06 (a b:List Int) (hl:a.length≤140737488355328):t00 a b=some ((cpl a b:Nat):Int):=by
 unfold t00
 have h:=e06 a b (by omega) a.length 0 N0 (by omega) (W0 hl) (Nat.zero_le _)
 rw[show((0:Nat):Int)=0 from rfl]at h
 rw[h]
 simp
theorem V08 (a b:List Int):∀(fuel:Nat) (k:Int),n7 a b fuel k=B6 a b fuel k
 |0,k=>rfl
 |fuel+1,k=>by
  rw[n7.eq_2,B6.eq_2]
  simp only[V08 a b fuel]
theorem f0b (a b:List Int) (hl:a.length≤140737488355328):D9 a b=some ((cpl a b:Nat):Int):=by
 rw[←L06 a b hl]
 unfold D9 t00
 rw[V08]
def upT (a:List Int):List (List Int)→Nat→Nat
 | [],m=>m
 |b::l,m=>upT a l (max m (cpl a b))
def upI:List (List Int)→Nat→Nat
 | [],m=>m
 |a::l,m=>upI l (upT a l m)
theorem u0l (a:List Int) (B:Nat):∀(l:List (List Int)) (m:Nat),upT a l m≤B↔m≤B∧∀ b∈l,cpl a b≤B
 | [],m=>by simp[upT]
 |b::l,m=>by
  rw[upT,u0l a B l]
  simp only[List.mem_cons,forall_eq_or_imp,Nat.max_le,and_assoc]
theorem h0i (B:Nat):∀(l:List (List Int)) (m:Nat),upI l m≤B↔m≤B∧l.Pairwise fun a b=>cpl a b≤B
 | [],m=>by simp[upI]
 |a::l,m=>by
  rw[upI,h0i B l,u0l,List.pairwise_cons,and_assoc]
def upS:List (List Int)→List (List Int)→Nat→Nat
 |_,[],m=>m
 |pre,a::l,m=>upS (pre ++ [a]) l (upT a pre m)
theorem v0l (B:Nat):∀(l pre:List (List Int)) (m:Nat),upS pre l m≤B↔m≤B∧l.Pairwise (fun a b=>cpl a b≤B)∧∀ a∈l,∀ b∈pre,cpl a b≤B
 | [],pre,m=>by simp[upS]
 |a::l,pre,m=>by
  rw[upS,v0l B l,u0l,List.pairwise_cons]
  constructor
  ·rintro⟨⟨h1,h2⟩,h3,h4⟩
   refine⟨h1,⟨fun b hb=>by rw[W07];exact h4 b hb a (by simp),h3⟩,fun x hx b hb=>?_⟩
   rcases List.mem_cons.1 hx with rfl|hx
   ·exact h2 b hb
   ·exact h4 x hx b (by simp[hb])
  ·rintro⟨h1,⟨h2,h3⟩,h4⟩
   refine⟨⟨h1,fun b hb=>h4 a (List.mem_cons_self ..) b hb⟩,h3,fun x hx b hb=>?_⟩
   rcases List.mem_append.1 hb with hb|hb
   ·exact h4 x (mC _ hx) b hb
   ·rw[List.mem_singleton.1 hb,W07];exact h2 x hx
theorem n0q (l:List (List Int)):upS [] l 0=upI l 0:=by
 have h1:upS [] l 0≤upI l 0:=by
  have:=(h0i (upI l 0) l 0).1 (Nat.le_refl _)
  exact(v0l _ l [] 0).2 ⟨this.1,this.2,by simp⟩
 have h2:upI l 0≤upS [] l 0:=by
  have:=(v0l (upS [] l 0) l [] 0).1 (Nat.le_refl _)
  exact(h0i _ l 0).2 ⟨this.1,this.2.1⟩
 omega
def v08 (l:List (List Int)):Prop:=∀ w∈l,w.length≤24
theorem D0r (x u:Nat):(if((x:Nat):Int)>((u:Nat):Int)then((x:Nat):Int)else((u:Nat):Int))=((max u x:Nat):Int):=by split <;> omega
theorem g0b (a:List Int) (l:List (List Int)) (ha:a.length≤24) (hl:l.length≤140737488355328):∀(d k fuel m:Nat),k+d=l.length→d<fuel →
  l5 l a fuel (m:Int) (k:Int)=some ((upT a (l.drop k) m:Nat):Int)
 |d,k,0,m,hd,hf=>by omega
 |0,k,fuel+1,m,hd,hf=>by
  rw[l5.eq_2,if_neg (by simp;omega),Z0 (by omega)]
  rfl
 |d+1,k,fuel+1,m,hd,hf=>by
  have hk:k<l.length:=by omega
  have hx:=Z3 hk
  generalize l[k]=x at hx
  have hc:=(y09 a x).1
  rw[l5.eq_2,if_pos (by simp;omega),D2 hx,oB,L06 a x (by omega),oB,C0 ⟨by omega,by omega⟩,oB,D0r,L1 hk (by omega),
   g0b a l ha hl d (k+1) fuel _ (by omega) (by omega),F1 hx]
  rfl
theorem i0h {α:Type} {xs:List α} {k:Nat} (h:k<xs.length) (hl:xs.length≤140737488355328):d03 xs (IntKind.i64.wrap ((k:Int)+1)) (xs.length:Int)=some (xs.drop (k+1)):=by
 rw[L1 h (by omega)]
 exact g0h (by omega)
theorem h0b (l:List (List Int)) (hs:v08 l) (hl:l.length≤140737488355328):∀(d k fuel m:Nat),k+d=l.length→d<fuel →
  n5 l fuel (m:Int) (k:Int)=some ((upI (l.drop k) m:Nat):Int)
 |d,k,0,m,hd,hf=>by omega
 |0,k,fuel+1,m,hd,hf=>by
  rw[n5.eq_2,if_neg (by simp;omega),Z0 (by omega)]
  rfl
 |d+1,k,fuel+1,m,hd,hf=>by
  have hk:k<l.length:=by omega
  have hx:=Z3 hk
  have hxs:=hs _ (List.getElem_mem hk)
  generalize l[k]=x at hx hxs
  have h0:=g0b x (l.drop (k+1)) hxs (by simp;omega) (l.drop (k+1)).length 0 N0 m (by omega) (W0 (by simp;omega))
  rw[show((0:Nat):Int)=0 from rfl,List.drop_zero]at h0
  rw[n5.eq_2,if_pos (by simp;omega),D2 hx,oB,i0h hk hl,oB,h0,oB,L1 hk (by omega),h0b l hs hl d (k+1) fuel _ (by omega) (by omega),F1 hx]
  rfl
def C3 (p:B0):Int:=((upI (L2 p) 0:Nat):Int)
theorem z09 (p:B0) (hl:p.2.length≤140737488355328) (hs:Q1 p.2):g8 p=some (C3 p):=by
 have hsy:=V07 p
 have hM:=D03 p hl hs
 obtain⟨r,ws⟩:=p
 unfold g8 C3
 simp only[hM,oB]
 generalize L2 (r,ws)=l at hsy
 have h:=h0b l (fun w hw=>(hsy.1 w hw).2) (by omega) l.length 0 N0 0 (by omega) (W0 (by omega))
 rw[show((0:Nat):Int)=0 from rfl,List.drop_zero]at h
 rw[h]
 rfl
theorem l0k (a b:List Int):∀(l:List (List Int)) (m:Nat),upT a (l ++ [b]) m=max (upT a l m) (cpl a b)
 | [],m=>rfl
 |c::l,m=>by simp only[List.cons_append,upT,l0k a b l]
theorem m0k {α:Type} {xs:List α} {k:Nat} {x:α} (h:xs[k]?=some x):xs.take (k+1)=xs.take k ++ [x]:=by
 obtain⟨hk,rfl⟩:=List.getElem?_eq_some_iff.1 h
 exact List.take_succ_eq_append_getElem hk
theorem i0b (l:List (List Int)) (hs:v08 l) (hl:l.length≤140737488355328) {i:Nat} {a:List Int} (ha:l[i]?=some a) (m0:Nat):∀(d k fuel:Nat),k+d=i→d<fuel →
  i5 (i:Int) l fuel ((upT a (l.take k) m0:Nat):Int) (k:Int)=some ((upT a (l.take i) m0:Nat):Int)
 |d,k,0,hd,hf=>by omega
 |0,k,fuel+1,hd,hf=>by
  rw[i5.eq_2,if_neg (by simp;omega),show k=i by omega]
 |d+1,k,fuel+1,hd,hf=>by
  have hi:=(List.getElem?_eq_some_iff.1 ha).1
  have has:=hs _ (List.mem_of_getElem? ha)
  have hk:k<l.length:=by omega
  have hx:=Z3 hk
  generalize l[k]=x at hx
  have hc:=(y09 a x).1
  have ih:=i0b l hs hl ha m0 d (k+1) fuel (by omega) (by omega)
  rw[m0k hx,l0k]at ih
  rw[i5.eq_2,if_pos (by simp;omega),D2 ha,oB,D2 hx,oB,f0b a x (by omega),oB,C0 ⟨by omega,by omega⟩,oB,D0r,L1 hk (by omega),ih]
theorem j0b (l:List (List Int)) (hs:v08 l) (hl:l.length≤140737488355328):∀(d k fuel m:Nat),k+d=l.length→d<fuel →
  j5 l fuel (m:Int) (k:Int)=some ((upS (l.take k) (l.drop k) m:Nat):Int)
 |d,k,0,m,hd,hf=>by omega
 |0,k,fuel+1,m,hd,hf=>by
  rw[j5.eq_2,if_neg (by simp;omega),Z0 (by omega)]
  rfl
 |d+1,k,fuel+1,m,hd,hf=>by
  have hk:k<l.length:=by omega
  have hx:=Z3 hk
  generalize l[k]=x at hx
  have h0:=i0b l hs hl hx m k 0 N0 (by omega) (W0 (by omega))
  rw[show((0:Nat):Int)=0 from rfl,List.take_zero]at h0
  rw[show upT x [] m=m from rfl]at h0
  rw[j5.eq_2,if_pos (by simp;omega),h0,oB,L1 hk (by omega),j0b l hs hl d (k+1) fuel _ (by omega) (by omega),F1 hx,m0k hx]
  rfl
theorem A09 (p:B0) (hl:p.2.length≤140737488355328) (hs:Q1 p.2):f8 p=some (C3 p):=by
 have hsy:=V07 p
 have hM:=E03 p hl hs
 obtain⟨r,ws⟩:=p
 unfold f8 C3
 simp only[hM,oB]
 generalize L2 (r,ws)=l at hsy
 have h:=j0b l (fun w hw=>(hsy.1 w hw).2) (by omega) l.length 0 N0 0 (by omega) (W0 (by omega))
 rw[show((0:Nat):Int)=0 from rfl,List.drop_zero,List.take_zero,n0q]at h
 rw[h]
 rfl
def six (a b:List Int):Prop:=6*cpl a b<a.length∧6*cpl a b<b.length
instance (a b:List Int):Decidable (six a b):=inferInstanceAs (Decidable (6*cpl a b<a.length∧6*cpl a b<b.length))
def okT (a:List Int):List (List Int)→Bool
 | []=>true
 |b::l=>decide (six a b)&&okT a l
def okI:List (List Int)→Bool
 | []=>true
 |a::l=>okT a l&&okI l
theorem I0m (a:List Int):∀ l,okT a l=true↔∀ b∈l,six a b
 | []=>by simp[okT]
 |b::l=>by simp[okT,I0m a l]
theorem J0m:∀ l,okI l=true↔l.Pairwise six
 | []=>by simp[okI]
 |a::l=>by simp[okI,J0m l,I0m,List.pairwise_cons]
theorem o0q (a b:List Int) (ha:a.length≤24):decide (IntKind.i64.wrap (6*((cpl a b:Nat):Int)) ≥ (if((b.length:Nat):Int)<((a.length:Nat):Int)then((b.length:Nat):Int)else((a.length:Nat):Int))) = !decide (six a b):=by
 have hc:=(y09 a b).1
 rw[w64 (by omega) (by omega),←decide_not]
 apply decide_eq_decide.2
 unfold six
 split <;> omega
theorem l0d (a:List Int) (l:List (List Int)) (ha:a.length≤24) (hl:l.length≤140737488355328):∀(d k fuel:Nat),k+d=l.length→d<fuel →
  H7 l a fuel (k:Int)=some (bif okT a (l.drop k)then .inr ()else .inl false)
 |d,k,0,hd,hf=>by omega
 |0,k,fuel+1,hd,hf=>by
  rw[H7.eq_2,if_neg (by simp;omega),Z0 (by omega)]
  rfl
 |d+1,k,fuel+1,hd,hf=>by
  have hk:k<l.length:=by omega
  have hx:=Z3 hk
  generalize l[k]=x at hx
  have hc:=(y09 a x).1
  rw[H7.eq_2,if_pos (by simp;omega),D2 hx,oB,L06 a x (by omega),oB,C0 ⟨by omega,by omega⟩,oB,o0q a x ha,F1 hx]
  simp only[okT]
  by_cases h:six a x
  ·rw[if_neg (by simp[h]),L1 hk (by omega),l0d a l ha hl d (k+1) fuel (by omega) (by omega)]
   simp[h]
  ·rw[if_pos (by simp[h])]
   simp[h]
theorem m0d (l:List (List Int)) (hs:v08 l) (hl:l.length≤140737488355328):∀(d k fuel:Nat),k+d=l.length→d<fuel →
  I7 l fuel (k:Int)=some (bif okI (l.drop k)then .inr ()else .inl false)
 |d,k,0,hd,hf=>by omega
 |0,k,fuel+1,hd,hf=>by
  rw[I7.eq_2,if_neg (by simp;omega),Z0 (by omega)]
  rfl
 |d+1,k,fuel+1,hd,hf=>by
  have hk:k<l.length:=by omega
  have hx:=Z3 hk
  have hxs:=hs _ (List.getElem_mem hk)
  generalize l[k]=x at hx hxs
  have h0:=l0d x (l.drop (k+1)) hxs (by simp;omega) (l.drop (k+1)).length 0 N0 (by omega) (W0 (by simp;omega))
  rw[show((0:Nat):Int)=0 from rfl,List.drop_zero]at h0
  rw[I7.eq_2,if_pos (by simp;omega),D2 hx,oB,i0h hk hl,oB,h0,oB,F1 hx]
  simp only[okI]
  cases okT x (l.drop (k+1))with
  |false=>rfl
  |true =>
   simp only[cond_true,w0a,Bool.true_and]
   rw[L1 hk (by omega)]
   exact m0d l hs hl d (k+1) fuel (by omega) (by omega)
def P01 (p:B0):Bool:=U1 p&&okI (L2 p)
theorem c0g (p:B0) (hl:p.2.length≤140737488355328) (hs:Q1 p.2):D00 p=some (P01 p):=by
 have hsy:=V07 p
 have hM:=D03 p hl hs
 have hP:=p6 p hl hs
 obtain⟨r,ws⟩:=p
 unfold D00 P01
 simp only[hP,oB]
 cases U1 (r,ws)with
 |false=>rfl
 |true =>
  rw[if_neg (by simp),hM,oB]
  generalize L2 (r,ws)=l at hsy
  have h:=m0d l (fun w hw=>(hsy.1 w hw).2) (by omega) l.length 0 N0 (by omega) (W0 (by omega))
  rw[show((0:Nat):Int)=0 from rfl,List.drop_zero]at h
  rw[h,oB]
  cases okI l <;> rfl
def w0l (l:List (List Int)) (i:Nat) (a:List Int):Nat→Nat→Bool
 |0,_=>true
 |d+1,k=>(bif decide (i=k)then true else match l[k]? with
  |some b=>decide (6*cpl a b<a.length)
  |none=>false)&&w0l l i a d (k+1)
theorem n0k (l:List (List Int)) (i:Nat) (a:List Int):∀(d k:Nat),k+d=l.length→(w0l l i a d k=true↔∀ j b,k≤j→j≠i→l[j]?=some b→6*cpl a b<a.length)
 |0,k,h=>by
  constructor
  ·intro _ j b h1 _ h2
   have:=(List.getElem?_eq_some_iff.1 h2).1
   omega
  ·intro _;rfl
 |d+1,k,h=>by
  have hk:k<l.length:=by omega
  have hx:=Z3 hk
  generalize l[k]=x at hx
  have ih:=n0k l i a d (k+1) (by omega)
  simp only[w0l,hx,Bool.and_eq_true,ih]
  constructor
  ·rintro⟨h1,h2⟩ j b h3 h4 h5
   by_cases e:j=k
   ·subst e
    rw[hx]at h5;cases h5
    have:decide (i=j)=false:=by simp;exact fun e=>h4 e.symm
    rw[this]at h1
    simpa using h1
   ·exact h2 j b (by omega) h4 h5
  ·intro h1
   refine⟨?_,fun j b h3 h4 h5=>h1 j b (by omega) h4 h5⟩
   by_cases e:i=k
   ·simp[e]
   ·have:=h1 k x (Nat.le_refl _) (fun e'=>e e'.symm) hx
    simp[e,this]
theorem n0d (l:List (List Int)) (hs:v08 l) (hl:l.length≤140737488355328) {i:Nat} {a:List Int} (ha:l[i]?=some a):∀(d k fuel:Nat),k+d=l.length→d<fuel →
  F7 l (i:Int) fuel (k:Int)=some (bif w0l l i a d k then .inr ()else .inl false)
 |d,k,0,hd,hf=>by omega
 |0,k,fuel+1,hd,hf=>by
  rw[F7.eq_2,if_neg (by simp;omega)]
  rfl
 |d+1,k,fuel+1,hd,hf=>by
  have has:=hs _ (List.mem_of_getElem? ha)
  have hk:k<l.length:=by omega
  have hx:=Z3 hk
  generalize l[k]=x at hx
  have hc:=(y09 a x).1
  have ih:=n0d l hs hl ha d (k+1) fuel (by omega) (by omega)
  rw[F7.eq_2,if_pos (by simp;omega)]
  simp only[w0l,hx]
  by_cases e:i=k
  ·have e1:(!decide (((i:Nat):Int)=((k:Nat):Int)))=false:=by simp[e]
   simp only[e1,L5,oB,cond_false,C0 (show H0 0 by decide),Bool.false_eq_true,if_false]
   rw[L1 hk (by omega),ih]
   simp[e]
  ·have e1:(!decide (((i:Nat):Int)=((k:Nat):Int)))=true:=by simp;omega
   simp only[e1,O2,D2 ha,D2 hx,oB,cond_true,f0b a x (show a.length≤140737488355328 by omega),C0 (show H0 ((cpl a x:Nat):Int) from⟨by omega,by omega⟩)]
   rw[w64 (by omega) (by omega)]
   by_cases h:6*cpl a x<a.length
   ·rw[if_neg (by simp;omega),L1 hk (by omega),ih]
    simp[e,h]
   ·rw[if_pos (by simp;omega)]
    simp[e,h]
def okS (l:List (List Int)):Nat→Nat→Bool
 |0,_=>true
 |d+1,i=>(match l[i]? with
  |some a=>w0l l i a l.length 0
  |none=>false)&&okS l d (i+1)
theorem o0d (l:List (List Int)) (hs:v08 l) (hl:l.length≤140737488355328):∀(d k fuel:Nat),k+d=l.length→d<fuel →
  G7 l fuel (k:Int)=some (bif okS l d k then .inr ()else .inl false)
 |d,k,0,hd,hf=>by omega
 |0,k,fuel+1,hd,hf=>by
  rw[G7.eq_2,if_neg (by simp;omega)]
  rfl
 |d+1,k,fuel+1,hd,hf=>by
  have hk:k<l.length:=by omega
  have hx:=Z3 hk
  generalize l[k]=x at hx
  have h0:=n0d l hs hl hx l.length 0 N0 (by omega) (W0 hl)
  rw[show((0:Nat):Int)=0 from rfl]at h0
  rw[G7.eq_2,if_pos (by simp;omega),h0,oB]
  simp only[okS,hx]
  cases w0l l k x l.length 0 with
  |false=>rfl
  |true =>
   simp only[cond_true,w0a,Bool.true_and]
   rw[L1 hk (by omega)]
   exact o0d l hs hl d (k+1) fuel (by omega) (by omega)
theorem K0m (l:List (List Int)):∀(d i:Nat),i+d=l.length→(okS l d i=true↔∀ n a,i≤n→l[n]?=some a→∀ j b,j≠n→l[j]?=some b→6*cpl a b<a.length)
 |0,i,h=>by
  constructor
  ·intro _ n a h1 h2
   have:=(List.getElem?_eq_some_iff.1 h2).1
   omega
  ·intro _;rfl
 |d+1,i,h=>by
  have hi:i<l.length:=by omega
  have hx:=Z3 hi
  generalize l[i]=x at hx
  have ih:=K0m l d (i+1) (by omega)
  simp only[okS,hx,Bool.and_eq_true,ih,n0k l i x l.length 0 (by omega)]
  constructor
  ·rintro⟨h1,h2⟩ n a h3 h4 j b h5 h6
   by_cases e:n=i
   ·subst e
    rw[hx]at h4;cases h4
    exact h1 j b (Nat.zero_le _) h5 h6
   ·exact h2 n a (by omega) h4 j b h5 h6
  ·intro h1
   exact⟨fun j b _ h5 h6=>h1 i x (Nat.le_refl _) hx j b h5 h6,fun n a h3 h4=>h1 n a (by omega) h4⟩
theorem p0q (l:List (List Int)):okS l l.length 0=okI l:=by
 rw[Bool.eq_iff_iff,K0m l l.length 0 (by omega),J0m,List.pairwise_iff_getElem]
 constructor
 ·intro h i j hi hj hij
  have h1:=h i l[i] (Nat.zero_le _) (Z3 hi) j l[j] (by omega) (Z3 hj)
  have h2:=h j l[j] (Nat.zero_le _) (Z3 hj) i l[i] (by omega) (Z3 hi)
  rw[W07]at h2
  exact⟨h1,h2⟩
 ·intro h n a _ hn j b hjn hj
  obtain⟨hn',rfl⟩:=List.getElem?_eq_some_iff.1 hn
  obtain⟨hj',rfl⟩:=List.getElem?_eq_some_iff.1 hj
  rcases Nat.lt_or_gt_of_ne hjn with h1|h1
  ·have:=(h j n hj' hn' h1).2
   rw[W07]at this
   exact this
  ·exact(h n j hn' hj' h1).1
theorem d0g (p:B0) (hl:p.2.length≤140737488355328) (hs:Q1 p.2):C00 p=some (P01 p):=by
 have hsy:=V07 p
 have hM:=E03 p hl hs
 have hP:=O4 p hl hs
 have hE:U1 p=false→L2 p = []:=fun h=>by unfold L2;rw[h];rfl
 obtain⟨r,ws⟩:=p
 unfold C00 P01
 simp only[hM,hP,oB]
 generalize L2 (r,ws)=l at hsy hE
 have h:=o0d l (fun w hw=>(hsy.1 w hw).2) (by omega) l.length 0 N0 (by omega) (W0 (by omega))
 rw[show((0:Nat):Int)=0 from rfl,p0q]at h
 rw[h,oB]
 cases hp:U1 (r,ws)with
 |false =>
  rw[hE hp]
  rfl
 |true=>cases okI l <;> rfl
def i0i (n:Int):ByteArray:=if n=0 then⟨#[48]⟩else if n<0 then⟨(45::z08 20 n.natAbs []).toArray⟩else⟨(z08 20 n.natAbs []).toArray⟩
def t01 (n:Int) (m:Nat):Int:=if n<0 then -(m:Int)else m
theorem L0m (n:Int) (m:Nat):(t01 n m).tmod 10=t01 n (m % 10):=by
 unfold t01
 split
 ·rw[Int.neg_tmod,show(10:Int)=((10:Nat):Int) from rfl,←Int.ofNat_tmod]
 ·rw[show(10:Int)=((10:Nat):Int) from rfl,←Int.ofNat_tmod]
theorem M0m (n:Int) (m:Nat):(t01 n m).tdiv 10=t01 n (m / 10):=by
 unfold t01
 split
 ·rw[Int.neg_tdiv,show(10:Int)=((10:Nat):Int) from rfl,←Int.ofNat_tdiv]
 ·rw[show(10:Int)=((10:Nat):Int) from rfl,←Int.ofNat_tdiv]
theorem o0k {n:Int} {m:Nat}:t01 n m=0↔m=0:=by
 unfold t01
 split <;> omega
theorem T0r {X:Int} {m:Nat} (acc:List UInt8) (e:X=((m % 10:Nat):Int)):strOfNums [IntKind.u8.wrap (IntKind.i64.wrap (48+X))]++⟨acc.toArray⟩=⟨(UInt8.ofNat (48+m % 10)::acc).toArray⟩:=by
 have hX:IntKind.u8.wrap (IntKind.i64.wrap (48+X))=((48+m % 10:Nat):Int):=by
  rw[e]
  simp[IntKind.wrap,IntKind.signed,IntKind.bits]
  omega
 rw[hX,show strOfNums [((48+m % 10:Nat):Int)]=⟨#[UInt8.ofNat (48+m % 10)]⟩ from by simp only[strOfNums,List.map_cons,List.map_nil,Int.toNat_natCast]]
 generalize UInt8.ofNat (48+m % 10)=d
 apply ByteArray.ext
 rw[ByteArray.data_append]
 simp
theorem I0f (a b:List UInt8):(⟨a.toArray⟩:ByteArray)++⟨b.toArray⟩=⟨(a++b).toArray⟩:=by
 apply ByteArray.ext
 rw[ByteArray.data_append]
 simp
theorem j9 (a:List UInt8):(⟨a.toArray⟩:ByteArray).size=a.length:=by simp[ByteArray.size]
theorem L0q {n:Int} {m:Nat} (h:m≤9223372036854775808) (hn:n<0∨m≤9223372036854775807):H0 (t01 n m):=by
 unfold t01
 split <;> constructor <;> omega
theorem P03 (n:Int):∀(f m fuel:Nat) (acc:List UInt8),m<10 ^ f→f<fuel→m≤9223372036854775808→acc.length+f≤100→(n<0∨m≤9223372036854775807) →
  S4 fuel (t01 n m) ⟨acc.toArray⟩=some ⟨(z08 f m acc).toArray⟩
 |f,m,0,acc,h1,h2,h3,h4,h5=>by omega
 |0,m,fuel+1,acc,h1,h2,h3,h4,h5=>by
  have:m=0:=by simp at h1;exact h1
  subst this
  rw[S4.eq_2,show t01 n 0=0 by unfold t01;split <;> simp]
  rfl
 |f+1,m,fuel+1,acc,h1,h2,h3,h4,h5=>by
  rw[S4.eq_2]
  by_cases h0:m=0
  ·subst h0
   rw[show t01 n 0=0 by unfold t01;split <;> simp]
   simp[z08]
  ·have hs:t01 n m≠0:=fun e=>h0 (o0k.1 e)
   have next:=P03 n f (m / 10) fuel (UInt8.ofNat (48+m % 10)::acc) (by rw[Nat.pow_succ]at h1;omega) (by omega) (by omega) (by simp only[List.length_cons];omega) (by omega)
   have hq:IntKind.i64.wrap ((t01 n m).tdiv 10)=t01 n (m / 10):=by
    rw[M0m]
    have:=L0q (n:=n) (m:=m / 10) (by omega) (by omega)
    exact w64 this.1 this.2
   rw[if_pos (by simpa using hs),hq,L0m]
   simp only[show ∀ k:Unit→Option ByteArray,(grd (10≠0)).bind k=k () from fun k=>rfl]
   have key:∀ X:Int,X=((m % 10:Nat):Int)→((grd ([IntKind.u8.wrap (IntKind.i64.wrap (48+X))].length≤9223372036854775807)).bind fun _=>(grd ((strOfNums [IntKind.u8.wrap (IntKind.i64.wrap (48+X))]).size+(⟨acc.toArray⟩:ByteArray).size≤9223372036854775807)).bind fun _ =>
     S4 fuel (t01 n (m / 10)) (strOfNums [IntKind.u8.wrap (IntKind.i64.wrap (48+X))]++⟨acc.toArray⟩))=some ⟨(z08 (f+1) m acc).toArray⟩:=fun X hX=>by
    rw[C0 (by simp),oB,C0 (by rw[strOfNums_size,j9];simp only[List.length_singleton];omega),oB,T0r acc hX,next]
    simp[z08,h0]
   by_cases hneg:t01 n (m % 10)<0
   ·rw[if_pos (by simpa using hneg)]
    refine key _ ?_
    unfold t01 at hneg ⊢
    split at hneg
    ·rename_i hn
     rw[if_pos hn,w64 (by omega) (by omega)];omega
    ·omega
   ·rw[if_neg (by simpa using hneg)]
    refine key _ ?_
    unfold t01 at hneg ⊢
    split at hneg
    ·rename_i hn
     rw[if_pos hn];omega
    ·rename_i hn
     rw[if_neg hn]
theorem p0k (n:Int):t01 n n.natAbs=n:=by unfold t01;split <;> omega
theorem M03 (n:Int) (hn:H0 n):J7 n=some (i0i n):=by
 unfold J7 i0i
 by_cases h0:n=0
 ·rw[if_pos (by simpa using h0),if_pos h0]
 ·rw[if_neg (by simpa using h0),if_neg h0]
  have h:=P03 n 20 n.natAbs N0 [] (by have:=hn.1;have:=hn.2;omega) (by unfold N0;omega) (by have:=hn.1;have:=hn.2;omega) (by simp) (by have:=hn.2;omega)
  rw[p0k]at h
  rw[h,oB]
  have hl:=J0e 20 n.natAbs []
  simp only[List.length_nil]at hl
  by_cases hneg:n<0
  ·rw[if_pos (by simpa using hneg),if_pos hneg,C0 (by have e:=j9 (z08 20 n.natAbs []);have e1:(⟨#[45]⟩:ByteArray).size=1:=rfl;omega),oB]
   exact congrArg some (I0f [45] _)
  ·rw[if_neg (by simpa using hneg),if_neg hneg]
def k0b:Nat→Nat→List Int
 |0,_=>[]
 |f+1,m=>if m=0 then []else((48+m % 10:Nat):Int)::k0b f (m / 10)
theorem q0k:∀(f m:Nat),(k0b f m).length≤f
 |0,m=>by simp[k0b]
 |f+1,m=>by
  simp only[k0b]
  split
  ·simp
  ·have:=q0k f (m / 10)
   simp only[List.length_cons];omega
theorem u0c:∀(f m:Nat) (acc:List UInt8),z08 f m acc=(k0b f m).reverse.map (fun x=>UInt8.ofNat x.toNat)++acc
 |0,m,acc=>by simp[z08,k0b]
 |f+1,m,acc=>by
  simp only[z08,k0b]
  split
  ·simp
  ·rw[u0c f (m / 10)]
   simp only[List.reverse_cons,List.map_append,List.map_cons,List.map_nil,Int.toNat_natCast,List.append_assoc,List.singleton_append]
theorem Q03 (n:Int):∀(f m fuel:Nat) (acc:List Int),m<10 ^ f→f<fuel→m≤9223372036854775808→acc.length+f≤100→(n<0∨m≤9223372036854775807) →
  T4 fuel (t01 n m) acc=some (acc++k0b f m)
 |f,m,0,acc,h1,h2,h3,h4,h5=>by omega
 |0,m,fuel+1,acc,h1,h2,h3,h4,h5=>by
  have:m=0:=by simp at h1;exact h1
  subst this
  rw[T4.eq_2,show t01 n 0=0 by unfold t01;split <;> simp]
  simp[k0b]
 |f+1,m,fuel+1,acc,h1,h2,h3,h4,h5=>by
  rw[T4.eq_2]
  by_cases h0:m=0
  ·subst h0
   rw[show t01 n 0=0 by unfold t01;split <;> simp]
   simp[k0b]
  ·have hs:t01 n m≠0:=fun e=>h0 (o0k.1 e)
   have next:=Q03 n f (m / 10) fuel (acc ++ [((48+m % 10:Nat):Int)]) (by rw[Nat.pow_succ]at h1;omega) (by omega) (by omega) (by simp only[List.length_append,List.length_singleton];omega) (by omega)
   have hq:IntKind.i64.wrap ((t01 n m).tdiv 10)=t01 n (m / 10):=by
    rw[M0m]
    have:=L0q (n:=n) (m:=m / 10) (by omega) (by omega)
    exact w64 this.1 this.2
   rw[if_pos (by simpa using hs),hq,L0m]
   simp only[show ∀ k:Unit→Option (List Int),(grd (10≠0)).bind k=k () from fun k=>rfl]
   have key:∀ X:Int,X=((m % 10:Nat):Int)→((grd ((acc.length + [IntKind.u8.wrap (IntKind.i64.wrap (48+X))].length)*1≤140737488355328)).bind fun _ =>
     T4 fuel (t01 n (m / 10)) (acc ++ [IntKind.u8.wrap (IntKind.i64.wrap (48+X))]))=some (acc++k0b (f+1) m):=fun X hX=>by
    have hX':IntKind.u8.wrap (IntKind.i64.wrap (48+X))=((48+m % 10:Nat):Int):=by
     rw[hX]
     simp[IntKind.wrap,IntKind.signed,IntKind.bits]
     omega
    rw[hX',C0 (by simp only[List.length_singleton];omega),oB,next]
    simp[k0b,h0]
   by_cases hneg:t01 n (m % 10)<0
   ·rw[if_pos (by simpa using hneg)]
    refine key _ ?_
    unfold t01 at hneg ⊢
    split at hneg
    ·rename_i hn
     rw[if_pos hn,w64 (by omega) (by omega)];omega
    ·omega
   ·rw[if_neg (by simpa using hneg)]
    refine key _ ?_
    unfold t01 at hneg ⊢
    split at hneg
    ·rename_i hn
     rw[if_pos hn];omega
    ·rename_i hn
     rw[if_neg hn]
theorem M0q (xs:List Int) (hn:xs.length≤140737488355328):∀(fuel i j:Nat) (ys:List Int),i+j+1=xs.length→j+1-i<fuel→ys.length=xs.length→(∀ t,t<xs.length→ys[t]?=if t<i∨j<t then xs[xs.length-1-t]? else xs[t]?) →
  T3 fuel (i:Int) (j:Int) ys=some xs.reverse
 |0,i,j,ys,h1,h2,h3,h4=>by omega
 |fuel+1,i,j,ys,h1,h2,h3,h4=>by
  rw[T3.eq_2]
  by_cases hij:i<j
  ·have gi1:=Z3 (show i<ys.length by omega)
   have gj1:=Z3 (show j<ys.length by omega)
   generalize hxi:ys[i]=xi at gi1
   generalize hxj:ys[j]=xj at gj1
   rw[if_pos (by simp;omega),D2 gj1,oB,D2 gi1,oB,oB]
   rw[D2 (k:=j) (x:=xj) (by rw[List.getElem?_set];simp;rw[if_neg (by omega)];exact gj1),oB,L1 hij (by omega),y0a (by omega) (by omega)]
   refine M0q xs hn fuel (i+1) (j-1) _ (by omega) (by omega) (by simpa using h3) (fun t ht=>?_)
   have e1:=h4 i (by omega)
   have e2:=h4 j (by omega)
   rw[if_neg (by omega)]at e1 e2
   rw[gi1]at e1
   rw[gj1]at e2
   simp only[Int.toNat_natCast]
   by_cases t1:j=t
   ·subst t1
    rw[List.getElem?_set_self (by simp only[List.length_set];omega),if_pos (Or.inr (by omega)),show xs.length-1-j=i by omega]
    exact e1
   ·rw[List.getElem?_set_ne t1]
    by_cases t2:i=t
    ·subst t2
     rw[List.getElem?_set_self (by omega),if_pos (Or.inl (by omega)),show xs.length-1-i=j by omega]
     exact e2
    ·rw[List.getElem?_set_ne t2,h4 t ht]
     by_cases c:t<i∨j<t
     ·rw[if_pos c,if_pos (by omega)]
     ·rw[if_neg c,if_neg (by omega)]
  ·rw[if_neg (by simp;omega)]
   refine congrArg some (List.ext_getElem? fun t=>?_)
   rcases Nat.lt_or_ge t xs.length with ht|ht
   ·rw[h4 t ht,List.getElem?_reverse ht]
    by_cases c:t<i∨j<t
    ·rw[if_pos c]
    ·rw[if_neg c,show xs.length-1-t=t by omega]
   ·rw[List.getElem?_eq_none (by omega),List.getElem?_eq_none (by simpa using ht)]
theorem o0p (xs:List Int) (h0:0<xs.length) (hn:xs.length≤1000):T3 N0 0 (IntKind.i64.wrap (((xs.length:Nat):Int)-1)) xs=some xs.reverse:=by
 rw[y0a h0 (by omega)]
 exact M0q xs (by omega) N0 0 (xs.length-1) xs (by omega) (by unfold N0;omega) rfl (fun t ht=>by rw[if_neg (by omega)])
theorem N03 (n:Int) (hn:H0 n):K7 n=some (i0i n):=by
 unfold K7 i0i
 by_cases h0:n=0
 ·rw[if_pos (by simpa using h0),if_pos h0]
 ·rw[if_neg (by simpa using h0),if_neg h0]
  have h:=Q03 n 20 n.natAbs N0 [] (by have:=hn.1;have:=hn.2;omega) (by unfold N0;omega) (by have:=hn.1;have:=hn.2;omega) (by simp) (by have:=hn.2;omega)
  rw[p0k,List.nil_append]at h
  have hl:=q0k 20 n.natAbs
  have hp:0<(k0b 20 n.natAbs).length:=by simp only[k0b];rw[if_neg (by omega)];simp
  rw[h,oB]
  simp only[oB]
  by_cases hneg:n<0
  ·rw[if_pos (by simpa using hneg),if_pos hneg,C0 (by simp only[List.length_singleton];omega),oB,C0 (by simp only[List.length_append,List.length_singleton];omega),oB,
    o0p _ (by simp) (by simp only[List.length_append,List.length_singleton];omega),oB,C0 (by simp only[List.length_reverse,List.length_append,List.length_singleton];omega),oB,u0c]
   simp[strOfNums]
  ·rw[if_neg (by simpa using hneg),if_neg hneg,C0 (by omega),oB,
    o0p _ hp (by omega),oB,C0 (by simp only[List.length_reverse];omega),oB,u0c]
   simp[strOfNums]
set_option maxRecDepth 10000
abbrev B (l:List UInt8):ByteArray:=⟨l.toArray⟩
theorem f06 (l:List UInt8):X0b (B l) ⟨#[]⟩=l.isEmpty:=by
 rw[B0o]
 cases l with
 |nil=>rfl
 |cons x r =>
  rw[decide_eq_false (fun e=>by have:=congrArg ByteArray.size e;simp[B,ByteArray.size]at this)]
  rfl
def V06 (x:Int):Bool := !(x == 0)&&inR (-3) 3 x
def chL (x:Int):UInt8:=if x<0 then UInt8.ofNat (64+x.natAbs)else UInt8.ofNat (96+x.natAbs)
theorem p0d {x:Int} (hx:V06 x=true):x = -3∨x = -2∨x = -1∨x=1∨x=2∨x=3:=by
 simp only[V06,inR,Bool.and_eq_true,Bool.not_eq_true',beq_eq_false_iff_ne,decide_eq_true_eq]at hx
 omega
theorem x0l (x:Int):Z00 x=some (V06 x):=by
 unfold Z00 V06
 rw[h03]
 by_cases h:x=0 <;> simp[h,chk]
theorem p0p (x:Int) (hx:V06 x=true):o03 x=some (B [chL x]):=by
 rcases p0d hx with rfl|rfl|rfl|rfl|rfl|rfl <;> rfl
theorem j0i (x:Int):n00 x=some (bif V06 x then B [chL x]else B []):=by
 cases hx:V06 x with
 |true=>rcases p0d hx with rfl|rfl|rfl|rfl|rfl|rfl <;> rfl
 |false =>
  unfold n00
  rw[d02,d02]
  have h1:inR 1 3 x=false:=by
   simp only[V06,inR,Bool.and_eq_false_iff,Bool.not_eq_false',beq_iff_eq,decide_eq_false_iff_not]at hx ⊢
   omega
  have h2:inR (-3) (-1) x=false:=by
   simp only[V06,inR,Bool.and_eq_false_iff,Bool.not_eq_false',beq_iff_eq,decide_eq_false_iff_not]at hx ⊢
   omega
  rw[h1,h2]
  rfl
def J01:List Int→Bool
 | []=>true
 |x::r=>V06 x&&J01 r
def wl (w:List Int):List UInt8:=match w with
 | []=>[49]
 |x::r=>(x::r).map chL
def L02 (w:List Int):ByteArray:=bif J01 w then B (wl w)else B []
theorem E0r (w:List Int):(wl w).isEmpty=false:=by cases w <;> rfl
theorem v0c (w:List Int):(wl w).length≤w.length+1:=by cases w <;> simp[wl]
theorem X07 (w:List Int):(L02 w).size≤w.length+1:=by
 unfold L02
 cases J01 w with
 |false=>show 0≤_;omega
 |true=>rw[cond_true,j9];exact v0c w
theorem B09 (w:List Int):X0b (L02 w) ⟨#[]⟩ = !J01 w:=by
 unfold L02
 cases J01 w with
 |false=>rw[cond_false,f06];rfl
 |true=>rw[cond_true,f06,E0r];rfl
theorem F03 (w:List Int) (hl:w.length≤140737488355328):∀(d k fuel:Nat) (acc:List UInt8),k+d=w.length→d<fuel→acc.length+d≤140737488355328 →
  V5 w fuel (B acc) (k:Int)=some (bif J01 (w.drop k)then .inr (B (acc++(w.drop k).map chL))else .inl (B []))
 |d,k,0,acc,hk,hf,ha=>by omega
 |0,k,fuel+1,acc,hk,hf,ha=>by
  rw[V5.eq_2,if_neg (by simp;omega),Z0 (by omega)]
  simp[J01]
 |d+1,k,fuel+1,acc,hk,hf,ha=>by
  have hkl:k<w.length:=by omega
  have hx:=Z3 hkl
  generalize w[k]=x at hx
  have next:=F03 w hl d (k+1) fuel (acc ++ [chL x]) (by omega) (by omega) (by simp only[List.length_append,List.length_singleton];omega)
  rw[F1 hx,V5.eq_2,if_pos (by simp;omega),D2 hx,oB,x0l,oB]
  simp only[J01]
  cases hlx:V06 x with
  |false=>rfl
  |true =>
   rw[if_neg (by simp),oB,p0p x hlx,oB,C0 (by rw[j9];simp),oB,C0 (by rw[j9,j9];simp only[List.length_singleton];omega),oB,
    I0f,L1 hkl (by omega:w.length≤9223372036854775807),next]
   simp
theorem g06 (w:List Int) (hl:w.length≤140737488355):a9 w=some (L02 w):=by
 unfold a9
 have h:=F03 w (by omega) w.length 0 N0 [] (by omega) (W0 (by omega)) (by simp only[List.length_nil];omega)
 rw[show((0:Nat):Int)=0 from rfl,List.drop_zero,List.nil_append]at h
 rw[show(⟨#[]⟩:ByteArray)=B [] from rfl,h,oB]
 unfold L02
 cases J01 w with
 |false=>rfl
 |true =>
  rw[cond_true,P0,show(B []:ByteArray)=⟨#[]⟩ from rfl,f06]
  cases w <;> rfl
theorem G03 (w:List Int) (hl:w.length≤140737488355328):∀(d k fuel:Nat) (acc:List UInt8),k+d=w.length→d<fuel→acc.length+d≤140737488355328 →
  W5 w fuel (B acc) (k:Int)=some (bif J01 (w.drop k)then .inr (B (acc++(w.drop k).map chL))else .inl (B []))
 |d,k,0,acc,hk,hf,ha=>by omega
 |0,k,fuel+1,acc,hk,hf,ha=>by
  rw[W5.eq_2,if_neg (by simp;omega),Z0 (by omega)]
  simp[J01]
 |d+1,k,fuel+1,acc,hk,hf,ha=>by
  have hkl:k<w.length:=by omega
  have hx:=Z3 hkl
  generalize w[k]=x at hx
  have next:=G03 w hl d (k+1) fuel (acc ++ [chL x]) (by omega) (by omega) (by simp only[List.length_append,List.length_singleton];omega)
  rw[F1 hx,W5.eq_2,if_pos (by simp;omega),D2 hx,oB,j0i,oB]
  simp only[J01]
  cases hlx:V06 x with
  |false=>rw[cond_false,C0 (by rw[j9];simp),oB,f06];rfl
  |true =>
   rw[cond_true,C0 (by rw[j9];simp),oB,f06,if_neg (by simp),C0 (by rw[j9,j9];simp only[List.length_singleton];omega),oB,
    I0f,L1 hkl (by omega:w.length≤9223372036854775807),next]
   simp
theorem w0c (w:List Int) (hl:w.length≤140737488355):o00 w=some (L02 w):=by
 unfold o00
 by_cases h0:w.length=0
 ·have:w = []:=List.length_eq_zero_iff.1 h0
  subst this
  rfl
 ·have h:=G03 w (by omega) w.length 0 N0 [] (by omega) (W0 (by omega)) (by simp only[List.length_nil];omega)
  rw[show((0:Nat):Int)=0 from rfl,List.drop_zero,List.nil_append]at h
  rw[if_neg (by simp;exact fun e=>h0 (by rw[e];rfl)),show(⟨#[]⟩:ByteArray)=B [] from rfl,h,oB]
  unfold L02
  cases J01 w with
  |false=>rfl
  |true =>
   cases w with
   |nil=>simp at h0
   |cons x r=>rfl
def R03 (sep:UInt8):List (List UInt8)→List UInt8
 | []=>[]
 |x::r=>sep::x++R03 sep r
def W08 (sep:UInt8):List (List UInt8)→List UInt8
 | []=>[]
 |x::r=>x++R03 sep r
def i02:List (List Int)→Bool
 | []=>true
 |w::r=>J01 w&&i02 r
def M06 (ws:List (List Int)):ByteArray:=bif i02 ws then(match ws with
 | []=>B [110,111,110,101]
 |w::r=>B (W08 44 ((w::r).map wl)))else B []
def wsz:List (List Int)→Nat
 | []=>0
 |w::r=>w.length+2+wsz r
theorem j0h:∀ ws:List (List Int),(R03 44 (ws.map wl)).length≤wsz ws
 | []=>by simp[R03,wsz]
 |w::r=>by
  have:=j0h r
  have:=v0c w
  simp only[List.map_cons,R03,wsz,List.length_cons,List.length_append]
  omega
theorem k0i {w:List Int}:∀ {ws:List (List Int)},w∈ws→w.length≤wsz ws
 |x::r,h=>by
  rcases List.mem_cons.1 h with rfl|h
  ·simp only[wsz];omega
  ·have:=k0i h;simp only[wsz];omega
theorem l0b:∀ ws:List (List Int),ws.length≤wsz ws
 | []=>by simp
 |w::r=>by have:=l0b r;simp only[wsz,List.length_cons];omega
theorem T02 (ws:List (List Int)) (hl:wsz ws≤140737488):∀(d k fuel:Nat) (acc:List UInt8),k+d=ws.length→d<fuel→0<k→acc.length+wsz (ws.drop k)≤140737488355328 →
  M3 ws fuel (B acc) (k:Int)=some (bif i02 (ws.drop k)then .inr (B (acc++R03 44 ((ws.drop k).map wl)))else .inl (B []))
 |d,k,0,acc,hk,hf,h0,ha=>by omega
 |0,k,fuel+1,acc,hk,hf,h0,ha=>by
  rw[M3.eq_2,if_neg (by simp;omega),Z0 (by omega)]
  simp[i02,R03]
 |d+1,k,fuel+1,acc,hk,hf,h0,ha=>by
  have hkl:k<ws.length:=by omega
  have hx:=Z3 hkl
  have hlen:=l0b ws
  have hxl:=k0i (List.mem_of_getElem? hx)
  generalize ws[k]=x at hx hxl
  rw[F1 hx]at ha ⊢
  simp only[wsz]at ha
  have hwl:=v0c x
  have next:=T02 ws hl d (k+1) fuel (acc ++ [44]++wl x) (by omega) (by omega) (by omega) (by simp only[List.length_append,List.length_singleton];omega)
  rw[M3.eq_2,if_pos (by simp;omega),if_pos (by simp;omega),C0 (by rw[j9];show _+1≤_;omega),oB,D2 hx,oB,g06 x (by omega),oB,
   C0 (by have:=X07 x;omega),oB,B09]
  simp only[i02]
  cases hlx:J01 x with
  |false=>rfl
  |true =>
   have hF:L02 x=B (wl x):=by unfold L02;rw[hlx];rfl
   rw[if_neg (by simp),hF,show(⟨#[44]⟩:ByteArray)=B [44] from rfl,I0f,C0 (by rw[j9,j9];simp only[List.length_append,List.length_singleton];omega),oB,I0f,
    L1 hkl (by omega:ws.length≤9223372036854775807),next]
   simp[R03]
theorem m0b (ws:List (List Int)) (hl:wsz ws≤140737488):V9 ws=some (M06 ws):=by
 unfold V9 M06
 cases ws with
 |nil=>rw[show N0=(N0-1)+1 from rfl,M3.eq_2,if_neg (by simp),oB,P0,if_pos (Z0b.2 rfl)];rfl
 |cons x r =>
  have hwl:=v0c x
  have hdr:wsz r≤140737488:=by simp only[wsz]at hl;omega
  have hxl:x.length≤140737488:=by simp only[wsz]at hl;omega
  have next:=T02 (x::r) hl r.length 1 (N0-1) (wl x) (by simp only[List.length_cons];omega) (by have:=l0b r;unfold N0;omega) (by omega) (by simp only[List.drop_succ_cons,List.drop_zero];omega)
  rw[show N0=(N0-1)+1 from rfl,M3.eq_2,if_pos (by simp),if_neg (by simp),p05 (x:=x) rfl,oB,g06 x (by omega),oB,
   C0 (by have:=X07 x;omega),oB,B09]
  simp only[i02]
  cases hlx:J01 x with
  |false=>rfl
  |true =>
   have hF:L02 x=B (wl x):=by unfold L02;rw[hlx];rfl
   rw[if_neg (by simp),hF,show(⟨#[]⟩:ByteArray)=B [] from rfl,I0f,List.nil_append,C0 (by rw[j9,j9];simp only[List.length_nil];omega),oB,
    show IntKind.i64.wrap (0+1)=((1:Nat):Int) by decide,next]
   simp only[List.drop_succ_cons,List.drop_zero,Bool.true_and,oB]
   cases i02 r with
   |false=>rfl
   |true =>
    rw[cond_true,P0,show(B []:ByteArray)=⟨#[]⟩ from rfl,f06]
    have:(wl x++R03 44 (List.map wl r)).isEmpty=false:=by cases x <;> rfl
    rw[this]
    rfl
theorem U02 (ws:List (List Int)) (hl:wsz ws≤140737488):∀(d k fuel:Nat) (acc:List ByteArray),k+d=ws.length→d<fuel→acc.length=k →
  K5 ws fuel (k:Int) acc=some (bif i02 (ws.drop k)then .inr (acc++(ws.drop k).map fun w=>B (wl w))else .inl (B []))
 |d,k,0,acc,hk,hf,ha=>by omega
 |0,k,fuel+1,acc,hk,hf,ha=>by
  rw[K5.eq_2,if_neg (by simp;omega),Z0 (by omega)]
  simp[i02]
 |d+1,k,fuel+1,acc,hk,hf,ha=>by
  have hkl:k<ws.length:=by omega
  have hx:=Z3 hkl
  have hlen:=l0b ws
  have hxl:=k0i (List.mem_of_getElem? hx)
  generalize ws[k]=x at hx hxl
  have next:=U02 ws hl d (k+1) fuel (acc ++ [B (wl x)]) (by omega) (by omega) (by simp only[List.length_append,List.length_singleton];omega)
  rw[F1 hx,K5.eq_2,if_pos (by simp;omega),D2 hx,oB,w0c x (by omega),oB,
   C0 (by have:=X07 x;omega),oB,B09]
  simp only[i02]
  cases hlx:J01 x with
  |false=>rfl
  |true =>
   have hF:L02 x=B (wl x):=by unfold L02;rw[hlx];rfl
   rw[if_neg (by simp),hF,C0 (by simp only[List.length_singleton];omega),oB,L1 hkl (by omega:ws.length≤9223372036854775807),next]
   simp
def bsz:List (List UInt8)→Nat
 | []=>0
 |x::r=>x.length+1+bsz r
theorem l0i:∀ xs:List (List UInt8),xs.length≤bsz xs
 | []=>by simp
 |w::r=>by have:=l0i r;simp only[bsz,List.length_cons];omega
theorem W06 (sep:UInt8) (xs:List (List UInt8)) (hl:bsz xs≤140737488355328):∀(d k fuel:Nat) (acc:List UInt8),k+d=xs.length→d<fuel→acc.length+bsz (xs.drop k)≤140737488355328 →
  U8 (xs.map B) (B [sep]) fuel (B acc) (k:Int)=some (B (acc++R03 sep (xs.drop k)))
 |d,k,0,acc,hk,hf,ha=>by omega
 |0,k,fuel+1,acc,hk,hf,ha=>by
  rw[U8.eq_2,if_neg (by simp;omega),Z0 (by omega)]
  simp[R03]
 |d+1,k,fuel+1,acc,hk,hf,ha=>by
  have hkl:k<xs.length:=by omega
  have hx:=Z3 hkl
  have hlen:=l0i xs
  generalize xs[k]=x at hx
  rw[F1 hx]at ha ⊢
  simp only[bsz]at ha
  have next:=W06 sep xs hl d (k+1) fuel (acc ++ [sep]++x) (by omega) (by omega) (by simp only[List.length_append,List.length_singleton];omega)
  rw[U8.eq_2,if_pos (by simp;omega),D2 (x:=B x) (by rw[List.getElem?_map,hx];rfl),oB,C0 (by rw[j9,j9];simp only[List.length_singleton];omega),oB,I0f,
   C0 (by rw[j9,j9];simp only[List.length_append,List.length_singleton];omega),oB,I0f,L1 hkl (by omega:xs.length≤9223372036854775807),next]
  simp[R03]
def m0i (sep:UInt8) (e:ByteArray):List (List UInt8)→ByteArray
 | []=>e
 |x::r=>B (W08 sep (x::r))
theorem N0m (sep:UInt8) (e:ByteArray) (xs:List (List UInt8)) (hl:bsz xs≤140737488355328):Q01 (xs.map B) (B [sep]) e=some (m0i sep e xs):=by
 unfold Q01
 cases xs with
 |nil=>rfl
 |cons x r =>
  simp only[bsz]at hl
  have hlen:=l0i r
  have h:=W06 sep r (by omega) r.length 0 N0 x (by omega) (W0 (by omega)) (by rw[List.drop_zero];omega)
  rw[show((0:Nat):Int)=0 from rfl,List.drop_zero]at h
  rw[if_neg (by simp;omega),p05 (x:=B x) rfl,oB,d03,if_pos (by simp;omega),oB]
  have e1:(List.drop (1:Int).toNat (List.take ((((x::r).map B).length:Nat):Int).toNat ((x::r).map B)))=r.map B:=by
   rw[Int.toNat_natCast,List.take_length];rfl
  rw[e1,h]
  rfl
theorem q0p:∀ ws:List (List Int),bsz (ws.map wl)≤wsz ws
 | []=>by simp[bsz,wsz]
 |w::r=>by
  have:=q0p r
  have:=v0c w
  simp only[List.map_cons,bsz,wsz]
  omega
theorem b04 (ws:List (List Int)):(M06 ws).size≤wsz ws+4:=by
 unfold M06
 cases i02 ws with
 |false=>show 0≤_;omega
 |true =>
  cases ws with
  |nil=>show 4≤_;omega
  |cons w r =>
   simp only[cond_true]
   rw[j9]
   have:=j0h r
   have:=v0c w
   simp only[List.map_cons,W08,wsz,List.length_append]
   omega
theorem n0b (ws:List (List Int)) (hl:wsz ws≤140737488):W9 ws=some (M06 ws):=by
 unfold W9
 have hlen:=l0b ws
 have h:=U02 ws hl ws.length 0 N0 [] (by omega) (W0 (by omega)) rfl
 rw[show((0:Nat):Int)=0 from rfl,List.drop_zero,List.nil_append]at h
 rw[h,oB]
 have hsz:=b04 ws
 unfold M06 at hsz ⊢
 cases hall:i02 ws with
 |false=>rfl
 |true =>
  rw[hall]at hsz
  rw[cond_true,P0,show(ws.map fun w=>B (wl w))=(ws.map wl).map B by simp,show(⟨#[44]⟩:ByteArray)=B [44] from rfl,N0m 44 _ _ (by have:=q0p ws;omega),oB]
  cases ws with
  |nil=>rfl
  |cons w r =>
   simp only[cond_true,List.map_cons,m0i]at hsz ⊢
   rw[C0 (by omega),oB]
def i03 (x:B0):ByteArray:=bif U1 x then i0i x.1++B [32]++M06 x.2 else B []
theorem w08 (n:Int):(i0i n).size≤21:=by
 unfold i0i
 have:=J0e 20 n.natAbs []
 simp only[List.length_nil]at this
 split
 ·show 1≤_;omega
 ·split
  ·rw[j9];simp only[List.length_cons];omega
  ·rw[j9];omega
theorem O0m:∀ ws:List (List Int),wsz ws=tot ws+2*ws.length
 | []=>rfl
 |w::r=>by have:=O0m r;simp only[wsz,tot,List.length_cons];omega
theorem J0f {x:B0} (h:U1 x=true):wsz x.2≤60∧H0 x.1:=by
 simp only[U1,L3,inR,Bool.and_eq_true,decide_eq_true_eq]at h
 rw[O0m]
 refine⟨by omega,?_⟩
 constructor <;> omega
theorem y05 (x:B0) (hl:x.2.length≤140737488355328) (hs:Q1 x.2):I6 x=some (i03 x):=by
 have hp:=O4 x hl hs
 obtain⟨r,ws⟩:=x
 unfold I6 i03
 simp only[hp,oB]
 cases h:U1 (r,ws)with
 |false=>rfl
 |true =>
  obtain⟨h1,h2⟩:=J0f h
  have a1:=w08 r
  have a2:=b04 ws
  simp only at h1 h2
  have e1:(⟨#[32]⟩:ByteArray).size=1:=rfl
  rw[if_neg (by simp),M03 r h2,oB,C0 (by omega),oB,C0 (by omega),oB,m0b ws (by omega),oB,C0 (by omega),oB,
   C0 (by rw[ByteArray.size_append];omega),oB]
  rfl
theorem z05 (x:B0) (hl:x.2.length≤140737488355328) (hs:Q1 x.2):M5 x=some (i03 x):=by
 have hp:=p6 x hl hs
 obtain⟨r,ws⟩:=x
 unfold M5 i03
 simp only[hp,oB]
 cases h:U1 (r,ws)with
 |false=>rfl
 |true =>
  obtain⟨h1,h2⟩:=J0f h
  have a1:=w08 r
  have a2:=b04 ws
  simp only at h1 h2
  have e1:(⟨#[32]⟩:ByteArray).size=1:=rfl
  rw[if_neg (by simp),N03 r h2,oB,C0 (by omega),oB,C0 (by omega),oB,n0b ws (by omega),oB,C0 (by omega),oB,
   C0 (by rw[ByteArray.size_append];omega),oB]
  rfl
def fI (n:Int):List UInt8:=if n=0 then [48]else if n<0 then 45::z08 20 n.natAbs []else z08 20 n.natAbs []
theorem K0f (n:Int):i0i n=B (fI n):=by
 unfold i0i fI
 split
 ·rfl
 ·split <;> rfl
theorem L0f (n:Int):(fI n).length≤21:=by
 have:=w08 n
 rw[K0f,j9]at this
 exact this
theorem r0k:∀ xs:List (List UInt8),(R03 32 xs).length=bsz xs
 | []=>rfl
 |x::r=>by
  have:=r0k r
  simp only[R03,bsz,List.length_cons,List.length_append]
  omega
theorem r0p (xs:List (List UInt8)) (hx:xs≠[]) (hl:bsz xs≤1000000000):J00 (xs.map B)=some (B (W08 32 xs)):=by
 unfold J00
 rw[show(⟨#[32]⟩:ByteArray)=B [32] from rfl,N0m 32 _ xs (by omega),oB]
 cases xs with
 |nil=>exact absurd rfl hx
 |cons x r =>
  have h1:=r0k r
  simp only[bsz]at hl
  rw[show ∀ e,m0i 32 e (x::r)=B (W08 32 (x::r)) from fun e=>rfl,C0 (by rw[j9];simp only[W08,List.length_append];omega)]
  rfl
def bl (b:ByteArray):List UInt8:=b.data.toList
theorem F0r (b:ByteArray):b=B (bl b):=by
 obtain⟨d⟩:=b
 simp[bl,B]
theorem m0r (b:ByteArray):(bl b).length=b.size:=by
 obtain⟨d⟩:=b
 simp[bl,ByteArray.size]
theorem k0h {p:B0} (h:U1 p=true):(bl (i03 p)).length≤100:=by
 obtain⟨h1,h2⟩:=J0f h
 have a1:=w08 p.1
 have a2:=b04 p.2
 have e1:(B [32]).size=1:=rfl
 rw[m0r]
 unfold i03
 rw[h,cond_true,ByteArray.size_append,ByteArray.size_append]
 omega
theorem s0p (p:B0):G3 p = -1∨0<G3 p:=by
 unfold G3 d05
 rcases C0f p []with h|⟨g,hf,h⟩
 ·rw[h];exact .inl rfl
 ·rw[h]
  right
  have ho:=(t08 (H02 40 hf)).2
  show 0<(((h02 (I06 g)).length:Nat):Int)
  have:1≤(h02 (I06 g)).length:=ho
  omega
theorem M0f (p:B0):0≤C3 p∧C3 p≤24:=by
 have hs:=V07 p
 unfold C3
 have:upI (L2 p) 0≤24:=(h0i 24 _ 0).2 ⟨by omega,List.pairwise_iff_getElem.2 fun i j hi hj _=>by
  have h1:=(hs.1 _ (List.getElem_mem hi)).2
  have h2:=y09 (L2 p)[i] (L2 p)[j]
  omega⟩
 omega
def szT (p:B0):List UInt8:=if 0<G3 p then fI (G3 p)else [117,110,107,110,111,119,110]
theorem q0q (p:B0):(szT p).length≤21:=by
 unfold szT
 split
 ·exact L0f _
 ·simp
def baT (p:B0):List UInt8:=bl (i03 p) ++ [32,115,105,122,101,32]++szT p ++ [32,112,105,101,99,101,115,32]++fI (C3 p)
def v02 (p:B0):ByteArray:=bif U1 p then B (baT p++(bif P01 p then [32,115,109,97,108,108]else []))else B []
theorem s0k (b:Bool) (s:List UInt8):k01 b (B s)=some (B (bif b then s else [])):=by
 unfold k01
 cases b <;> rfl
theorem x0d (p:B0) (hl:p.2.length≤140737488355328) (hs:Q1 p.2):E00 p=some (v02 p):=by
 have h1:=O4 p hl hs
 have h2:=y05 p hl hs
 have h3:=r0l p hl hs
 have h4:=A09 p hl hs
 have h5:=d0g p hl hs
 have s64:H0 (G3 p):=a0b p []
 have l1:=M0f p
 have l64:H0 (C3 p):=⟨by omega,by omega⟩
 have f1:=M03 _ s64
 have f2:=M03 _ l64
 have n1:=L0f (G3 p)
 have n2:=L0f (C3 p)
 unfold v02 baT szT
 cases hp:U1 p with
 |false =>
  obtain⟨a,b⟩:=p
  unfold E00
  simp only[h1,hp,oB]
  rfl
 |true =>
  have n0:=k0h hp
  rw[F0r (i03 p)]at h2
  obtain⟨a,b⟩:=p
  unfold E00
  simp only[h1,hp,oB,Bool.not_true,Bool.false_eq_true,if_false,h2,h3,cond_true]
  generalize bl (i03 (a,b))=P at *
  simp only[show(⟨#[32,115,105,122,101,32]⟩:ByteArray)=B [32,115,105,122,101,32] from rfl,show(⟨#[32,112,105,101,99,101,115,32]⟩:ByteArray)=B [32,112,105,101,99,101,115,32] from rfl,show(⟨#[32,115,109,97,108,108]⟩:ByteArray)=B [32,115,109,97,108,108] from rfl,show(⟨#[117,110,107,110,111,119,110]⟩:ByteArray)=B [117,110,107,110,111,119,110] from rfl,I0f,j9]
  rw[C0 (by omega),oB,C0 (by simp only[List.length_cons,List.length_nil];omega),oB,C0 s64,oB]
  have y1:((bif P01 (a,b)then [32,115,109,97,108,108]else([]:List UInt8))).length≤6:=by cases P01 (a,b) <;> simp
  by_cases c:0<G3 (a,b)
  ·rw[if_pos (by simpa using c),if_pos c]
   simp only[f1,h4,K0f,oB,I0f,j9,f2,h5,s0k,List.length_append,List.length_cons,List.length_nil]
   rw[C0 (by omega),oB,C0 (by omega),oB,C0 (by omega),oB,C0 l64,oB,C0 (by omega),oB,C0 (by omega),oB,C0 (by omega),oB,C0 (by omega),oB]
  ·rw[if_neg (by simpa using c),if_neg c]
   simp only[h4,K0f,oB,I0f,j9,f2,h5,s0k,List.length_append,List.length_cons,List.length_nil]
   rw[C0 (by omega),oB,C0 (by omega),oB,C0 l64,oB,C0 (by omega),oB,C0 (by omega),oB,C0 (by omega),oB,C0 (by omega),oB]
theorem y0d (p:B0) (hl:p.2.length≤140737488355328) (hs:Q1 p.2):F00 p=some (v02 p):=by
 have h1:=p6 p hl hs
 have h2:=z05 p hl hs
 have h3:=s0l p hl hs
 have h4:=z09 p hl hs
 have h5:=c0g p hl hs
 have s64:H0 (G3 p):=a0b p []
 have hsp:=s0p p
 have l1:=M0f p
 have l64:H0 (C3 p):=⟨by omega,by omega⟩
 have f1:=N03 _ s64
 have f2:=N03 _ l64
 have n1:=L0f (G3 p)
 have n2:=L0f (C3 p)
 unfold v02
 cases hp:U1 p with
 |false =>
  obtain⟨a,b⟩:=p
  unfold F00
  simp only[h1,hp,oB]
  rfl
 |true =>
  have n0:=k0h hp
  have nz:=q0q p
  have hln:=r0p [bl (i03 p),[115,105,122,101],szT p,[112,105,101,99,101,115],fI (C3 p)] (by simp) (by simp only[bsz,List.length_cons,List.length_nil];omega)
  have hj:W08 32 [bl (i03 p),[115,105,122,101],szT p,[112,105,101,99,101,115],fI (C3 p)]=baT p:=by
   unfold baT
   simp[W08,R03]
  rw[hj]at hln
  have hbl:(baT p).length≤200:=by
   unfold baT
   simp only[List.length_append,List.length_cons,List.length_nil]
   omega
  have hl2:=r0p [baT p,[115,109,97,108,108]] (by simp) (by simp only[bsz,List.length_cons,List.length_nil];omega)
  have hj2:W08 32 [baT p,[115,109,97,108,108]]=baT p ++ [32,115,109,97,108,108]:=by simp[W08,R03]
  rw[hj2]at hl2
  rw[F0r (i03 p)]at h2
  obtain⟨a,b⟩:=p
  have hsz:szT (a,b)=if 0<G3 (a,b)then fI (G3 (a,b))else [117,110,107,110,111,119,110]:=rfl
  unfold F00
  simp only[h1,hp,oB,Bool.not_true,Bool.false_eq_true,if_false,h2,h3,cond_true]
  generalize bl (i03 (a,b))=P at *
  rw[C0 s64,oB]
  by_cases c:0<G3 (a,b)
  ·rw[if_pos c]at hsz
   rw[hsz]at hln
   rw[if_pos (by simp only[decide_eq_true_eq];omega)]
   simp only[f1,h4,K0f,oB,j9,f2,h5]
   rw[C0 (by omega),oB,C0 (by omega),oB,C0 l64,oB,C0 (by omega),oB]
   rw[show [B P,(⟨#[115,105,122,101]⟩:ByteArray),B (fI (G3 (a,b))),(⟨#[112,105,101,99,101,115]⟩:ByteArray),B (fI (C3 (a,b)))] = [P,[115,105,122,101],fI (G3 (a,b)),[112,105,101,99,101,115],fI (C3 (a,b))].map B from rfl,hln,oB,C0 (by rw[j9];omega),oB]
   cases P01 (a,b)
   ·simp
   ·rw[if_pos rfl,show [B (baT (a,b)),(⟨#[115,109,97,108,108]⟩:ByteArray)] = [baT (a,b),[115,109,97,108,108]].map B from rfl,hl2,oB,C0 (by rw[j9];simp only[List.length_append,List.length_cons,List.length_nil];omega),oB]
    rfl
  ·rw[if_neg c]at hsz
   rw[hsz]at hln
   rw[if_neg (by simp only[decide_eq_true_eq];omega)]
   simp only[h4,K0f,oB,j9,f2,h5]
   rw[C0 (by omega),oB,C0 l64,oB,C0 (by omega),oB]
   rw[show [B P,(⟨#[115,105,122,101]⟩:ByteArray),(⟨#[117,110,107,110,111,119,110]⟩:ByteArray),(⟨#[112,105,101,99,101,115]⟩:ByteArray),B (fI (C3 (a,b)))] = [P,[115,105,122,101],[117,110,107,110,111,119,110],[112,105,101,99,101,115],fI (C3 (a,b))].map B from rfl,hln,oB,C0 (by rw[j9];omega),oB]
   cases P01 (a,b)
   ·simp
   ·rw[if_pos rfl,show [B (baT (a,b)),(⟨#[115,109,97,108,108]⟩:ByteArray)] = [baT (a,b),[115,109,97,108,108]].map B from rfl,hl2,oB,C0 (by rw[j9];simp only[List.length_append,List.length_cons,List.length_nil];omega),oB]
    rfl
end Go.Proofs.YtcakocbgbelmeaaGreat
