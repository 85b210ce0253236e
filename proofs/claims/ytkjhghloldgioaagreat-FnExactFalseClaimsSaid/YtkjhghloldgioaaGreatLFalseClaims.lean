/- What the law on FalseClaims does. -/
import Derived.Test.YtkjhghloldgioaaGreatPart30
import Derived.Test.YtkjhghloldgioaaGreatPart17
namespace Go.Proofs.YtkjhghloldgioaaGreat
open Go.H
set_option linter.unusedVariables false
set_option linter.unusedSimpArgs false
set_option maxRecDepth 10000
theorem B0d(h:Hp)(X:List Value)(aO:A4)(aB:l5.R h X aO):
  Tr Tryz.prog 4 #[.agg X.toArray] h λv az=>v = .bool true/\Sub h az:=by
 obtain⟨c,i,k,j,d,rfl,rfl,u,w⟩:=S8 aB
 refine Z1 (args:=[.agg #[.int .i64 c,.slice i k j]]) (fn:=Tryz.f4) rfl ?_
 refine Tr.val (G0j _ [.int .i64 c,.slice i k j] (c,d) (1048576) (s03 u w) ⟨by omega,by omega⟩) ?_
 refine aI (λa=>aI rfl (Sub.refl _)) (λa=>?_)
 have aC:0<=szR (1048576) (K00 (c,d):Nat):=by simpa using a
 have a1:=V07 aC
 have f:K00 (c,d)<=1048576:=by omega
 refine Tr.mono (z05 _ [.int .i64 c,.slice i k j] (c,d) (s03 u w) f) ?_
 rintro bb a2 ⟨aR,rfl,g⟩
 obtain⟨aM,an,aF,ar,bn,rfl,aW,_,_⟩:=S8 g.r
 refine Tr.mono (t0c _ [.int .i64 aM,.slice an aF ar] (c,d) g.r f) ?_
 rintro bj M ⟨D,z⟩
 obtain⟨I,O,K,ay⟩:=Wp.slice_cell D
 cases ay
 refine Tr.mono (z05 _ [.int .i64 c,.slice i k j] (c,d) (l5.mono (g.sub.trans z) (s03 u w)) f) ?_
 rintro bc aD ⟨aT,rfl,p⟩
 have m:=p.sub
 obtain⟨P,H,N,J,bo,rfl,aX,_,_⟩:=S8 p.r
 refine Tr.mono (J06 _ [.int .i64 P,.slice H N J] (c,d) p.r f) ?_
 rintro bh a4 B
 have l:=B.sub
 obtain⟨s,y,t,aw⟩:=Wp.slice_cell B.r
 cases aw
 refine Tr.val (D07 _ s y t I O K (K3 (c,d)) (K3 (c,d)) B.r (I0.mono (m.trans l) D)) ?_
 refine aI (λa=>?_) (λa=>?_)
 ·simp at a
 clear a
 refine Or.inr (Or.inr (Or.inr (Or.inl (aI (aI (by kernel_rfl) (by kernel_rfl)) ?_))))
 refine Or.inr (eX (λv x=>∃ cs,v = .agg cs.toArray/\l5.R x cs (c,d)) (aI (λv aZ a0 aJ x=>by obtain⟨cs,e,q⟩:=x;exact⟨cs,e,l5.mono aJ q⟩) (aI ?_ ?_)))
 ·intro C E
  refine Tr.mono (z05 C [.int .i64 c,.slice i k j] (c,d) (l5.mono ((((g.sub.trans z).trans m).trans l).trans E) (s03 u w)) f) ?_
  rintro v aA ⟨W,rfl,ac⟩
  exact aI o8 (aI ac.sub ⟨W,rfl,ac.r⟩)
 refine Or.inr (eX (λv x=>v = .bool true) (aI (λ_ _ _ _ e=>e) (aI ?_ ?_)))
 ·rintro C E v ⟨W,rfl,q⟩
  obtain⟨aN,ao,aG,au,bp,rfl,aU,_,_⟩:=S8 q
  refine Tr.mono (H0j C [.int .i64 P,.slice H N J] [.int .i64 aN,.slice ao aG au] (c,d) (c,d) (l5.mono (l.trans E) p.r) q) ?_
  rintro v aA ⟨rfl,rfl⟩
  exact aI o8 (aI (Sub.refl _) (by simp))
 refine Or.inr (eX (λv x=>v = .bool false) (aI (λ_ _ _ _ e=>e) (aI ?_ ?_)))
 ·rintro C E v rfl
  exact aI o8 (aI (Sub.refl _) rfl)
 rintro ab F bg rfl bf rfl be aY
 refine aI (λa=>?_) (λa=>?_)
 ·cases a
 clear a
 have ag:Sub h ab:=((((g.sub.trans z).trans m).trans l).trans F)
 have ai:Sub M ab:=((m.trans l).trans F)
 obtain⟨ae,aK,A,_⟩:=B
 have ak:=Wp.sub aK F
 obtain⟨Q,ad,G,_⟩:=p
 have al:=Wp.sub ad (l.trans F)
 have af:∀ b∈Q,aD b≠none:=l5.dom (ad)
 have aP:=k0m (c,d)
 refine Tr.mono (M0g _ [.int .i64 P,.slice H N J] (c,d) Q (1) al G.1 ⟨by omega,by omega⟩) ?_
 rintro bk aa ⟨rfl,_,L⟩
 have ah:Sub h aa:=E0e (g.sub.trans z) G.2 ag L
 have T:Sub M aa:=E0e (Sub.refl _) G.2 ai L
 have U:=h0q ak A.2 af L
 refine eX (.bool _) (aI (λ_=>D07 _ s y t I O K (K3 (c,d)) (K3 (c,d)) (I0.toR U) (I0.mono T D)) ?_)
 refine aI (λa=>?_) (λa=>?_)
 ·simp at a<;>omega
 clear a
 have aQ:=f0h (c,d) f
 refine Tr.mono (g08 _ s y t (K3 (c,d)) ae 1 U A.1 ⟨by omega,by omega⟩) ?_
 rintro bl Z ⟨rfl,V,Y⟩
 have S:Sub h Z:=E0e ((g.sub.trans z).trans m) A.2 ah Y
 have aj:Sub M Z:=E0e m A.2 T Y
 refine Tr.val (N0g _ s y t (K3 (c,d)) 1 (I0.toR V) ⟨by omega,by omega⟩) ?_
 refine aI (λa=>?_) (λa=>?_)
 ·have:(1:Int)+(U0 (K3 (c,d)):Nat)<0:=by simpa only[decide_eq_true_eq] using a
  omega
 clear a
 refine aI (λa=>?_) (λa=>?_)
 ·simp at a
 clear a
 refine Tr.mono (z05 _ [.int .i64 c,.slice i k j] (c,d) (l5.mono S (s03 u w)) f) ?_
 rintro bd a3 ⟨aS,rfl,n⟩
 obtain⟨aL,am,aE,aq,bm,rfl,aV,_,_⟩:=S8 n.r
 refine Tr.mono (J06 _ [.int .i64 aL,.slice am aE aq] (c,d) n.r f) ?_
 rintro bi ba o
 obtain⟨ap,aH,av,ax⟩:=Wp.slice_cell o.r
 cases ax
 refine Tr.val (D07 _ ap aH av I O K (K3 (c,d)) (K3 (c,d)) o.r (I0.mono (aj.trans (n.sub.trans o.sub)) D)) ?_
 refine aI (λa=>?_) (λa=>?_)
 ·simp at a
 clear a
 refine Tr.val (N0g _ s y t (K3 (c,d)) 1 (I0.mono (n.sub.trans o.sub) (I0.toR V)) ⟨by omega,by omega⟩) ?_
 refine aI (λa=>?_) (λa=>?_)
 ·have:(1:Int)+(U0 (K3 (c,d)):Nat)<0:=by simpa only[decide_eq_true_eq] using a
  omega
 clear a
 refine aI (λa=>?_) (λa=>?_)
 ·simp at a
 clear a
 exact aI rfl ((S.trans n.sub).trans o.sub)
end Go.Proofs.YtkjhghloldgioaaGreat
