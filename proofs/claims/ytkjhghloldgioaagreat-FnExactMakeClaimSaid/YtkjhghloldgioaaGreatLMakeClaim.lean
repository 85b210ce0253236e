/- What the law on MakeClaim does. -/
import Derived.Test.YtkjhghloldgioaaGreatKMakeClaim
import Derived.Test.YtkjhghloldgioaaGreatPart17
namespace Go.Proofs.YtkjhghloldgioaaGreat
open Go.H
set_option linter.unusedVariables false
set_option linter.unusedSimpArgs false
set_option maxRecDepth 10000
theorem d0g(h:Hp)(e:Int)(ab:I0 e)(f:Int)(ac:I0 f)(aU:Value)(d:Y1)(x:Z1.R h [aU] d)(aV:Value)(c:J0)(y:M0.R h [aV] c):
  Tr Tryz.prog 6 #[.int .i64 e,.int .i64 f,aU,aV] h λv bL=>v = .bool true/\Sub h bL:=by
 obtain⟨u,z,w,bB⟩:=Wp.slice_cell x
 cases bB
 obtain⟨F,bP,K,bC⟩:=Wp.slice_cell y
 cases bC
 refine J2 (args:=[.int .i64 e,.int .i64 f,.slice u z w,.slice F bP K]) (fn:=Tryz.f6) rfl ?_
 obtain⟨bA,_⟩:=Sl.len y
 subst bA
 refine aI (λa=>aI rfl (Sub.refl _)) (λa=>?_)
 have bM:c.length<=1048576:=by simp at a;omega
 have p:U00 c<=1048576:=bM
 refine Tr.val (v0o _ u z w d (1048576) x ⟨by omega,by omega⟩) ?_
 refine aI (λa=>aI rfl (Sub.refl _)) (λa=>?_)
 have bN:0<=szR (1048576) (i02 d:Nat):=by simpa using a
 have ch:=j0p bN
 have o:i02 d<=1048576:=by omega
 refine Tr.mono (m09 _ u z w d x o) ?_
 rintro bZ cn g
 obtain⟨bm,bX,bx,bH⟩:=Wp.slice_cell g.r
 cases bH
 refine Tr.mono (P08 _ F c.length K c (M0.mono g.sub y) p) ?_
 rintro bZ co i
 obtain⟨bn,bY,bz,bI⟩:=Wp.slice_cell i.r
 cases bI
 refine Tr.mono (P0d _ e ab f ac bm bX bx d (Z1.mono i.sub g.r) o bn bY bz c i.r p) ?_
 rintro cs ad ⟨cd,rfl,ae,q⟩
 obtain⟨aD,aE,ah,aw,an,cD,ai,ax,ao,cH,aj,ay,ap,cK,aF,aG,ak,az,aq,cN,aH,rfl,cg,_,_,_,_,_,_,_,_,_⟩:=v03 ae
 refine Tr.mono (m09 _ u z w d (Z1.mono ((g.sub.trans i.sub).trans q) x) o) ?_
 rintro cy cp C
 have l:=C.sub
 obtain⟨al,aA,ar,bJ⟩:=Wp.slice_cell C.r
 cases bJ
 refine Tr.mono (P08 _ F c.length K c (M0.mono (((g.sub.trans i.sub).trans q).trans l) y) p) ?_
 rintro cz aT D
 have j:=D.sub
 obtain⟨am,aB,au,bK⟩:=Wp.slice_cell D.r
 cases bK
 refine Tr.mono (G07 _ e ab f ac al aA ar d (Z1.mono j C.r) o am aB au c D.r p) ?_
 rintro cq ck ⟨cb,rfl,Z⟩
 have m:=Z.sub
 obtain⟨T,U,E,O,J,cA,G,P,L,cE,H,Q,M,cI,V,W,I,S,N,cL,X,rfl,ce,_,_,_,_,_,_,_,_,_⟩:=v03 Z.r
 refine Tr.val (O0c _ [.int .i64 T,.int .i64 U,.slice E O J,.slice G P L,.slice H Q M,.int .i64 V,.int .i64 W,.slice I S N,.int .i64 X] [.int .i64 aD,.int .i64 aE,.slice ah aw an,.slice ai ax ao,.slice aj ay ap,.int .i64 aF,.int .i64 aG,.slice ak az aq,.int .i64 aH] (N3 e f d c).1 (N3 e f d c).1 Z.r (s00.mono ((l.trans j).trans m) ae)) ?_
 refine aI (λa=>?_) (λa=>?_)
 ·simp at a
 clear a
 refine Tr.mono (m09 _ u z w d (Z1.mono (((((g.sub.trans i.sub).trans q).trans l).trans j).trans m) x) o) ?_
 rintro cw cm k
 obtain⟨bk,bV,bu,bF⟩:=Wp.slice_cell k.r
 cases bF
 refine Tr.val (E0h _ al aA ar bk bV bu d d (Z1.mono ((j.trans m).trans k.sub) C.r) k.r) ?_
 refine aI (λa=>?_) (λa=>?_)
 ·exact absurd a (by simp)
 clear a
 refine Tr.mono (P08 _ F c.length K c (M0.mono ((((((g.sub.trans i.sub).trans q).trans l).trans j).trans m).trans k.sub) y) p) ?_
 rintro cx aS n
 obtain⟨bl,bW,bv,bG⟩:=Wp.slice_cell n.r
 cases bG
 refine Tr.val (E0b _ am aB au bl bW bv c c (M0.mono ((m.trans k.sub).trans n.sub) D.r) n.r) ?_
 refine aI (λa=>?_) (λa=>?_)
 ·exact absurd a (by simp)
 clear a
 have a0:Sub h aS:=(((((((g.sub.trans i.sub).trans q).trans l).trans j).trans m).trans k.sub).trans n.sub)
 have a3:Sub ad aS:=((((l.trans j).trans m).trans k.sub).trans n.sub)
 obtain⟨aX,b1,A,_⟩:=Z
 have a6:=Wp.sub b1 (k.sub.trans n.sub)
 obtain⟨aJ,aC,af,_⟩:=C
 have bb:=Wp.sub aC (((j.trans m).trans k.sub).trans n.sub)
 have aY:∀ b∈aJ,aT b≠none:=Z1.dom (Wp.sub aC j)
 obtain⟨aK,aW,Y,_⟩:=D
 have bc:=Wp.sub aW ((m.trans k.sub).trans n.sub)
 have aZ:∀ b∈aK,aT b≠none:=M0.dom (aW)
 have b7:=N0m d
 refine Tr.mono (r0d _ al aA ar d aJ (1) bb af.1 ⟨by omega,by omega⟩) ?_
 rintro ct aQ ⟨rfl,_,aa⟩
 have a1:Sub h aQ:=Y08 ((g.sub.trans i.sub).trans q) af.2 a0 aa
 have a4:Sub ad aQ:=Y08 (Sub.refl _) af.2 a3 aa
 have ba:=Q0e a6 A.2 aY aa
 have bd:=Q0e bc Y.2 (Z1.dom (aC)) aa
 have b8:=l0i c
 refine Tr.mono (t07 _ am aB au c aK (1+(A6 d:Nat)) bd Y.1 ⟨by omega,by omega⟩) ?_
 rintro cu aR ⟨rfl,_,av⟩
 have a2:Sub h aR:=Y08 (((g.sub.trans i.sub).trans q).trans l) Y.2 a1 av
 have aL:Sub ad aR:=Y08 l Y.2 a4 av
 have aM:=Q0e ba A.2 aZ av
 refine eX (.bool _) (aI (λ_=>O0c _ [.int .i64 T,.int .i64 U,.slice E O J,.slice G P L,.slice H Q M,.int .i64 V,.int .i64 W,.slice I S N,.int .i64 X] [.int .i64 aD,.int .i64 aE,.slice ah aw an,.slice ai ax ao,.slice aj ay ap,.int .i64 aF,.int .i64 aG,.slice ak az aq,.int .i64 aH] (N3 e f d c).1 (N3 e f d c).1 (s00.toR aM) (s00.mono aL ae)) ?_)
 refine aI (λa=>?_) (λa=>?_)
 ·simp at a<;>omega
 clear a
 have ca:=N0k e f d c ab ac o p
 refine Tr.mono (Q0k _ [.int .i64 T,.int .i64 U,.slice E O J,.slice G P L,.slice H Q M,.int .i64 V,.int .i64 W,.slice I S N,.int .i64 X] (N3 e f d c).1 aX 1 aM A.1 ⟨by omega,by omega⟩) ?_
 rintro cv aP ⟨rfl,aN,aO⟩
 have ag:Sub h aP:=Y08 ((((g.sub.trans i.sub).trans q).trans l).trans j) A.2 a2 aO
 have a5:Sub ad aP:=Y08 (l.trans j) A.2 aL aO
 refine Tr.val (s0d _ [.int .i64 T,.int .i64 U,.slice E O J,.slice G P L,.slice H Q M,.int .i64 V,.int .i64 W,.slice I S N,.int .i64 X] (N3 e f d c).1 1 (s00.toR aN) ⟨by omega,by omega⟩) ?_
 refine aI (λa=>?_) (λa=>?_)
 ·have:(1:Int)+(p00 (N3 e f d c).1:Nat)<0:=by simpa only[decide_eq_true_eq] using a
  omega
 clear a
 refine aI (λa=>?_) (λa=>?_)
 ·simp at a
 clear a
 refine Tr.mono (m09 _ u z w d (Z1.mono ag x) o) ?_
 rintro b0 ci s
 obtain⟨bi,bT,bs,bD⟩:=Wp.slice_cell s.r
 cases bD
 refine Tr.mono (P08 _ F c.length K c (M0.mono (ag.trans s.sub) y) p) ?_
 rintro b0 cj t
 obtain⟨bj,bU,bt,bE⟩:=Wp.slice_cell t.r
 cases bE
 refine Tr.mono (G07 _ e ab f ac bi bT bs d (Z1.mono t.sub s.r) o bj bU bt c t.r p) ?_
 rintro cr cl ⟨cc,rfl,B⟩
 obtain⟨b2,b3,be,bO,bo,cC,bf,bQ,bp,cG,bg,bR,bq,cJ,b4,b5,bh,bS,br,cM,b6,rfl,cf,_,_,_,_,_,_,_,_,_⟩:=v03 B.r
 refine Tr.val (O0c _ [.int .i64 b2,.int .i64 b3,.slice be bO bo,.slice bf bQ bp,.slice bg bR bq,.int .i64 b4,.int .i64 b5,.slice bh bS br,.int .i64 b6] [.int .i64 aD,.int .i64 aE,.slice ah aw an,.slice ai ax ao,.slice aj ay ap,.int .i64 aF,.int .i64 aG,.slice ak az aq,.int .i64 aH] (N3 e f d c).1 (N3 e f d c).1 B.r (s00.mono (a5.trans ((s.sub.trans t.sub).trans B.sub)) ae)) ?_
 refine aI (λa=>?_) (λa=>?_)
 ·simp at a
 clear a
 refine Tr.val (s0d _ [.int .i64 T,.int .i64 U,.slice E O J,.slice G P L,.slice H Q M,.int .i64 V,.int .i64 W,.slice I S N,.int .i64 X] (N3 e f d c).1 1 (s00.mono ((s.sub.trans t.sub).trans B.sub) (s00.toR aN)) ⟨by omega,by omega⟩) ?_
 refine aI (λa=>?_) (λa=>?_)
 ·have:(1:Int)+(p00 (N3 e f d c).1:Nat)<0:=by simpa only[decide_eq_true_eq] using a
  omega
 clear a
 refine aI (λa=>?_) (λa=>?_)
 ·simp at a
 clear a
 exact aI rfl (((ag.trans s.sub).trans t.sub).trans B.sub)
end Go.Proofs.YtkjhghloldgioaaGreat
