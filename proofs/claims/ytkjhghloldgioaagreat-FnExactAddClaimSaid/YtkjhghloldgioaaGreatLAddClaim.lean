/- What the law on AddClaim does. -/
import Derived.Test.YtkjhghloldgioaaGreatPart30
import Derived.Test.YtkjhghloldgioaaGreatPart17
namespace Go.Proofs.YtkjhghloldgioaaGreat
open Go.H
set_option linter.unusedVariables false
set_option linter.unusedSimpArgs false
set_option maxRecDepth 10000
theorem Y0h(h:Hp)(bF:List Value)(cR:V1)(cp:L1.R h bF cR)(bG:List Value)(cS:Z2)(cq:Q1.R h bG cS):
  Tr Tryz.prog 5 #[.agg bF.toArray,.agg bG.toArray] h λv co=>v = .bool true/\Sub h co:=by
 obtain⟨c,K,V,P,k,rfl,rfl,af,ah⟩:=K3 cp
 obtain⟨d,f,L,W,Q,m,M,X,S,n,N,Y,T,o,g,i,O,Z,U,p,j,rfl,rfl,ag,ai,aj,ak,al,am,an,ao,ap⟩:=O3 cq
 refine A2 (args:=[.agg #[.int .i64 c,.slice K V P],.agg #[.int .i64 d,.int .i64 f,.slice L W Q,.slice M X S,.slice N Y T,.int .i64 g,.int .i64 i,.slice O Z U,.int .i64 j]]) (fn:=Tryz.f5) rfl ?_
 refine Tr.val (F0k _ [.int .i64 c,.slice K V P] (c,k) (1048576) (Q6 af ah) ⟨by omega,by omega⟩) ?_
 refine aI (λl=>aI rfl (Sub.refl _)) (λl=>?_)
 have cr:0<=szR (1048576) (Q8 (c,k):Nat):=by simpa using l
 have c6:=y07 cr
 have G:Q8 (c,k)<=1048576:=by omega
 refine Tr.val (n0j _ [.int .i64 d,.int .i64 f,.slice L W Q,.slice M X S,.slice N Y T,.int .i64 g,.int .i64 i,.slice O Z U,.int .i64 j] (d,f,m,n,o,(g,i,p),j) (szR (1048576) (Q8 (c,k):Nat)) (V2 ag ai aj ak al am an ao ap) ⟨by omega,by omega⟩) ?_
 refine aI (λl=>aI rfl (Sub.refl _)) (λl=>?_)
 have ct:0<=szR (szR (1048576) (Q8 (c,k):Nat)) (I6 (d,f,m,n,o,(g,i,p),j):Nat):=by simpa using l
 have c7:=y07 ct
 have H:I6 (d,f,m,n,o,(g,i,p),j)<=1048576:=by omega
 refine Or.inr (Or.inr (Or.inr (Or.inr (eX 9 (aI (aI (by kernel_rfl) (by kernel_rfl)) ?_)))))
 refine Or.inr (eX (λv a=>∃ cs,v = .agg cs.toArray/\L1.R a cs (c,k)) (aI (λv z A u a=>by obtain⟨cs,e,q⟩:=a;exact⟨cs,e,L1.mono u q⟩) (aI ?_ ?_)))
 ·intro s t
  refine Tr.mono (e06 s [.int .i64 c,.slice K V P] (c,k) (L1.mono t (Q6 af ah)) G) ?_
  rintro v E ⟨x,rfl,w⟩
  exact aI M5 (aI w.sub ⟨x,rfl,w.r⟩)
 refine Or.inr (eX (λv a=>∃ cs,v = .agg cs.toArray/\Q1.R a cs (d,f,m,n,o,(g,i,p),j)) (aI (λv z A u a=>by obtain⟨cs,e,q⟩:=a;exact⟨cs,e,Q1.mono u q⟩) (aI ?_ ?_)))
 ·intro s t
  refine Tr.mono (p08 s [.int .i64 d,.int .i64 f,.slice L W Q,.slice M X S,.slice N Y T,.int .i64 g,.int .i64 i,.slice O Z U,.int .i64 j] (d,f,m,n,o,(g,i,p),j) (Q1.mono t (V2 ag ai aj ak al am an ao ap)) H) ?_
  rintro v E ⟨x,rfl,w⟩
  exact aI M5 (aI w.sub ⟨x,rfl,w.r⟩)
 refine Or.inr (eX (λv a=>∃ cs,v = .tuple #[.agg cs.toArray,.bool (T2 (c,k) (d,f,m,n,o,(g,i,p),j)).2]/\L1.R a cs (T2 (c,k) (d,f,m,n,o,(g,i,p),j)).1) (aI (λv z A u a=>by obtain⟨cs,e,q⟩:=a;exact⟨cs,e,L1.mono u q⟩) (aI ?_ ?_)))
 ·intro s t
  rintro _ ⟨ci,rfl,ar⟩
  obtain⟨bl,aF,a3,aR,cJ,rfl,cl,_,_⟩:=K3 ar
  rintro _ ⟨cj,rfl,au⟩
  obtain⟨bm,bq,aH,ba,aT,cK,aK,bc,aV,cL,aM,be,aX,cM,bs,bu,aO,bg,aZ,cP,bx,rfl,cm,_,_,_,_,_,_,_,_,_⟩:=O3 au
  refine Tr.mono (C0h _ [.int .i64 bl,.slice aF a3 aR] (c,k) ar G [.int .i64 bm,.int .i64 bq,.slice aH ba aT,.slice aK bc aV,.slice aM be aX,.int .i64 bs,.int .i64 bu,.slice aO bg aZ,.int .i64 bx] (d,f,m,n,o,(g,i,p),j) au H) ?_
  rintro v E ⟨y,rfl,B,cA⟩
  exact aI M5 (aI cA ⟨y,rfl,B⟩)
 refine Or.inr (eX (λv a=>∃ cs,v = .tuple #[.agg cs.toArray,.bool (T2 (c,k) (d,f,m,n,o,(g,i,p),j)).2]/\L1.R a cs (T2 (c,k) (d,f,m,n,o,(g,i,p),j)).1) (aI (λv z A u a=>by obtain⟨cs,e,q⟩:=a;exact⟨cs,e,L1.mono u q⟩) (aI ?_ ?_)))
 ·intro s t
  rintro _ ⟨y,rfl,B⟩
  exact aI M5 (aI (Sub.refl _) ⟨y,rfl,B⟩)
 refine Or.inr (eX (λv a=>∃ cs,v = .agg cs.toArray/\L1.R a cs (T2 (c,k) (d,f,m,n,o,(g,i,p),j)).1) (aI (λv z A u a=>by obtain⟨cs,e,q⟩:=a;exact⟨cs,e,L1.mono u q⟩) (aI ?_ ?_)))
 ·intro s t
  rintro _ ⟨y,rfl,B⟩
  exact aI M5 (aI (Sub.refl _) ⟨y,rfl,B⟩)
 refine Or.inl (eX (.val (.bool (T2 (c,k) (d,f,m,n,o,(g,i,p),j)).2)) (aI ?_ ?_))
 ·intro s t
  rintro _ ⟨y,rfl,B⟩
  exact aI rfl (aI rfl rfl)
 intro aA I
 rintro _ ⟨cY,rfl,aB⟩
 rintro _ ⟨_,rfl,_⟩
 rintro _ ⟨_,rfl,_⟩
 rintro _ ⟨_,rfl,_⟩
 rintro _ ⟨_,rfl,_⟩
 obtain⟨bk,aE,a2,aQ,dm,rfl,c3,_,_⟩:=K3 aB
 refine Tr.mono (e06 _ [.int .i64 c,.slice K V P] (c,k) (L1.mono I (Q6 af ah)) G) ?_
 rintro cC dd ⟨cZ,rfl,ab⟩
 have D:=ab.sub
 obtain⟨bn,aG,a4,aS,dn,rfl,c4,_,_⟩:=K3 ab.r
 refine Tr.mono (p08 _ [.int .i64 d,.int .i64 f,.slice L W Q,.slice M X S,.slice N Y T,.int .i64 g,.int .i64 i,.slice O Z U,.int .i64 j] (d,f,m,n,o,(g,i,p),j) (Q1.mono (I.trans D) (V2 ag ai aj ak al am an ao ap)) H) ?_
 rintro cC bM ⟨c0,rfl,ac⟩
 have C:=ac.sub
 obtain⟨bo,br,aJ,bb,aU,dq,aL,bd,aW,dt,aN,bf,aY,dv,bt,bv,aP,bh,a0,dx,bz,rfl,c5,_,_,_,_,_,_,_,_,_⟩:=O3 ac.r
 refine Tr.mono (j0a _ [.int .i64 bn,.slice aG a4 aS] (c,k) (L1.mono C ab.r) G [.int .i64 bo,.int .i64 br,.slice aJ bb aU,.slice aL bd aW,.slice aN bf aY,.int .i64 bt,.int .i64 bv,.slice aP bh a0,.int .i64 bz] (d,f,m,n,o,(g,i,p),j) ac.r H) ?_
 rintro df c8 ⟨cW,rfl,ay⟩
 have F:=ay.sub
 obtain⟨aw,ad,aq,ae,dj,rfl,c1,_,_⟩:=K3 ay.r
 refine Tr.val (d06 _ [.int .i64 aw,.slice ad aq ae] [.int .i64 bk,.slice aE a2 aQ] (T2 (c,k) (d,f,m,n,o,(g,i,p),j)).1 (T2 (c,k) (d,f,m,n,o,(g,i,p),j)).1 ay.r (L1.mono ((D.trans C).trans F) aB)) ?_
 refine aI (λl=>?_) (λl=>?_)
 ·simp at l
 clear l
 refine Or.inr (Or.inr (Or.inr (Or.inl (aI (aI (by kernel_rfl) (by kernel_rfl)) ?_))))
 refine Or.inr (eX (λv a=>∃ cs,v = .agg cs.toArray/\L1.R a cs (c,k)) (aI (λv z A u a=>by obtain⟨cs,e,q⟩:=a;exact⟨cs,e,L1.mono u q⟩) (aI ?_ ?_)))
 ·intro s t
  refine Tr.mono (e06 s [.int .i64 c,.slice K V P] (c,k) (L1.mono ((((I.trans D).trans C).trans F).trans t) (Q6 af ah)) G) ?_
  rintro v E ⟨x,rfl,w⟩
  exact aI M5 (aI w.sub ⟨x,rfl,w.r⟩)
 refine Or.inr (eX (λv a=>v = .bool true) (aI (λ_ _ _ _ e=>e) (aI ?_ ?_)))
 ·rintro s t v ⟨x,rfl,q⟩
  obtain⟨bp,b6,cv,cd,bQ,rfl,ck,_,_⟩:=K3 q
  refine Tr.mono (d06 s [.int .i64 bn,.slice aG a4 aS] [.int .i64 bp,.slice b6 cv cd] (c,k) (c,k) (L1.mono ((C.trans F).trans t) ab.r) q) ?_
  rintro v E ⟨rfl,rfl⟩
  exact aI M5 (aI (Sub.refl _) (by simp))
 refine Or.inr (eX (λv a=>v = .bool false) (aI (λ_ _ _ _ e=>e) (aI ?_ ?_)))
 ·rintro s t v rfl
  exact aI M5 (aI (Sub.refl _) rfl)
 rintro dc J cG rfl cE rfl cD cn
 refine aI (λl=>?_) (λl=>?_)
 ·cases l
 clear l
 refine Or.inr (Or.inr (Or.inr (Or.inl (aI (aI (by kernel_rfl) (by kernel_rfl)) ?_))))
 refine Or.inr (eX (λv a=>∃ cs,v = .agg cs.toArray/\Q1.R a cs (d,f,m,n,o,(g,i,p),j)) (aI (λv z A u a=>by obtain⟨cs,e,q⟩:=a;exact⟨cs,e,Q1.mono u q⟩) (aI ?_ ?_)))
 ·intro s t
  refine Tr.mono (p08 s [.int .i64 d,.int .i64 f,.slice L W Q,.slice M X S,.slice N Y T,.int .i64 g,.int .i64 i,.slice O Z U,.int .i64 j] (d,f,m,n,o,(g,i,p),j) (Q1.mono (((((I.trans D).trans C).trans F).trans J).trans t) (V2 ag ai aj ak al am an ao ap)) H) ?_
  rintro v E ⟨x,rfl,w⟩
  exact aI M5 (aI w.sub ⟨x,rfl,w.r⟩)
 refine Or.inr (eX (λv a=>v = .bool true) (aI (λ_ _ _ _ e=>e) (aI ?_ ?_)))
 ·rintro s t v ⟨x,rfl,q⟩
  obtain⟨bp,bQ,b7,cw,ce,ds,b8,cx,cf,du,ca,cy,cg,dw,cN,cO,cb,cz,ch,dy,cQ,rfl,ck,_,_,_,_,_,_,_,_,_⟩:=O3 q
  refine Tr.mono (o0j s [.int .i64 bo,.int .i64 br,.slice aJ bb aU,.slice aL bd aW,.slice aN bf aY,.int .i64 bt,.int .i64 bv,.slice aP bh a0,.int .i64 bz] [.int .i64 bp,.int .i64 bQ,.slice b7 cw ce,.slice b8 cx cf,.slice ca cy cg,.int .i64 cN,.int .i64 cO,.slice cb cz ch,.int .i64 cQ] (d,f,m,n,o,(g,i,p),j) (d,f,m,n,o,(g,i,p),j) (Q1.mono ((F.trans J).trans t) ac.r) q) ?_
  rintro v E ⟨rfl,rfl⟩
  exact aI M5 (aI (Sub.refl _) (by simp))
 refine Or.inr (eX (λv a=>v = .bool false) (aI (λ_ _ _ _ e=>e) (aI ?_ ?_)))
 ·rintro s t v rfl
  exact aI M5 (aI (Sub.refl _) rfl)
 rintro bL av cG rfl cE rfl cD cn
 refine aI (λl=>?_) (λl=>?_)
 ·cases l
 clear l
 have bU:Sub h bL:=(((((I.trans D).trans C).trans F).trans J).trans av)
 have bX:Sub aA bL:=((((D.trans C).trans F).trans J).trans av)
 obtain⟨bR,cH,aa,_⟩:=ay
 have b0:=Wp.sub cH (J.trans av)
 obtain⟨bA,bj,aC,_⟩:=ab
 have b2:=Wp.sub bj (((C.trans F).trans J).trans av)
 have bS:∀ b∈bA,bM b≠none:=L1.dom (Wp.sub bj C)
 obtain⟨bB,bP,ax,_⟩:=ac
 have b3:=Wp.sub bP ((F.trans J).trans av)
 have bT:∀ b∈bB,bM b≠none:=Q1.dom (bP)
 have cT:=p0g (c,k)
 refine Tr.mono (k0a _ [.int .i64 bn,.slice aG a4 aS] (c,k) bA (1) b2 aC.1 ⟨by omega,by omega⟩) ?_
 rintro dg bJ ⟨rfl,_,az⟩
 have bV:Sub h bJ:=y0a I aC.2 bU az
 have bY:Sub aA bJ:=y0a (Sub.refl _) aC.2 bX az
 have b1:=l0g b0 aa.2 bS az
 have b4:=l0g b3 ax.2 (L1.dom (bj)) az
 have cU:=V0s (d,f,m,n,o,(g,i,p),j)
 refine Tr.mono (Q0m _ [.int .i64 bo,.int .i64 br,.slice aJ bb aU,.slice aL bd aW,.slice aN bf aY,.int .i64 bt,.int .i64 bv,.slice aP bh a0,.int .i64 bz] (d,f,m,n,o,(g,i,p),j) bB (1+(Z6 (c,k):Nat)) b4 ax.1 ⟨by omega,by omega⟩) ?_
 rintro dh bK ⟨rfl,_,a1⟩
 have bW:Sub h bK:=y0a (I.trans D) ax.2 bV a1
 have bC:Sub aA bK:=y0a D ax.2 bY a1
 have bD:=l0g b1 aa.2 bT a1
 refine eX (.bool _) (aI (λ_=>d06 _ [.int .i64 aw,.slice ad aq ae] [.int .i64 bk,.slice aE a2 aQ] (T2 (c,k) (d,f,m,n,o,(g,i,p),j)).1 (T2 (c,k) (d,f,m,n,o,(g,i,p),j)).1 (L1.toR bD) (L1.mono bC aB)) ?_)
 refine aI (λl=>?_) (λl=>?_)
 ·simp at l<;>omega
 clear l
 have cV:=X0n (c,k) (d,f,m,n,o,(g,i,p),j) G H
 refine Tr.mono (k0a _ [.int .i64 aw,.slice ad aq ae] (T2 (c,k) (d,f,m,n,o,(g,i,p),j)).1 bR 1 bD aa.1 ⟨by omega,by omega⟩) ?_
 rintro di bI ⟨rfl,bE,bH⟩
 have aD:Sub h bI:=y0a ((I.trans D).trans C) aa.2 bW bH
 have bZ:Sub aA bI:=y0a (D.trans C) aa.2 bC bH
 refine Tr.val (l0a _ [.int .i64 aw,.slice ad aq ae] (T2 (c,k) (d,f,m,n,o,(g,i,p),j)).1 1 (L1.toR bE) ⟨by omega,by omega⟩) ?_
 refine aI (λl=>?_) (λl=>?_)
 ·have:(1:Int)+(Z6 (T2 (c,k) (d,f,m,n,o,(g,i,p),j)).1:Nat)<0:=by simpa only[decide_eq_true_eq] using l
  omega
 clear l
 refine aI (λl=>?_) (λl=>?_)
 ·simp at l
 clear l
 refine Or.inr (Or.inr (Or.inr (Or.inr (eX 9 (aI (aI (by kernel_rfl) (by kernel_rfl)) ?_)))))
 refine Or.inr (eX (λv a=>∃ cs,v = .agg cs.toArray/\L1.R a cs (c,k)) (aI (λv z A u a=>by obtain⟨cs,e,q⟩:=a;exact⟨cs,e,L1.mono u q⟩) (aI ?_ ?_)))
 ·intro s t
  refine Tr.mono (e06 s [.int .i64 c,.slice K V P] (c,k) (L1.mono (aD.trans t) (Q6 af ah)) G) ?_
  rintro v E ⟨x,rfl,w⟩
  exact aI M5 (aI w.sub ⟨x,rfl,w.r⟩)
 refine Or.inr (eX (λv a=>∃ cs,v = .agg cs.toArray/\Q1.R a cs (d,f,m,n,o,(g,i,p),j)) (aI (λv z A u a=>by obtain⟨cs,e,q⟩:=a;exact⟨cs,e,Q1.mono u q⟩) (aI ?_ ?_)))
 ·intro s t
  refine Tr.mono (p08 s [.int .i64 d,.int .i64 f,.slice L W Q,.slice M X S,.slice N Y T,.int .i64 g,.int .i64 i,.slice O Z U,.int .i64 j] (d,f,m,n,o,(g,i,p),j) (Q1.mono (aD.trans t) (V2 ag ai aj ak al am an ao ap)) H) ?_
  rintro v E ⟨x,rfl,w⟩
  exact aI M5 (aI w.sub ⟨x,rfl,w.r⟩)
 refine Or.inr (eX (λv a=>∃ cs,v = .tuple #[.agg cs.toArray,.bool (T2 (c,k) (d,f,m,n,o,(g,i,p),j)).2]/\L1.R a cs (T2 (c,k) (d,f,m,n,o,(g,i,p),j)).1) (aI (λv z A u a=>by obtain⟨cs,e,q⟩:=a;exact⟨cs,e,L1.mono u q⟩) (aI ?_ ?_)))
 ·intro s t
  rintro _ ⟨ci,rfl,ar⟩
  obtain⟨bl,aF,a3,aR,cJ,rfl,cl,_,_⟩:=K3 ar
  rintro _ ⟨cj,rfl,au⟩
  obtain⟨bm,bq,aH,ba,aT,cK,aK,bc,aV,cL,aM,be,aX,cM,bs,bu,aO,bg,aZ,cP,bx,rfl,cm,_,_,_,_,_,_,_,_,_⟩:=O3 au
  refine Tr.mono (j0a _ [.int .i64 bl,.slice aF a3 aR] (c,k) ar G [.int .i64 bm,.int .i64 bq,.slice aH ba aT,.slice aK bc aV,.slice aM be aX,.int .i64 bs,.int .i64 bu,.slice aO bg aZ,.int .i64 bx] (d,f,m,n,o,(g,i,p),j) au H) ?_
  rintro v E ⟨y,rfl,bN⟩
  exact aI M5 (aI bN.sub ⟨y,rfl,bN.r⟩)
 refine Or.inr (eX (λv a=>∃ cs,v = .tuple #[.agg cs.toArray,.bool (T2 (c,k) (d,f,m,n,o,(g,i,p),j)).2]/\L1.R a cs (T2 (c,k) (d,f,m,n,o,(g,i,p),j)).1) (aI (λv z A u a=>by obtain⟨cs,e,q⟩:=a;exact⟨cs,e,L1.mono u q⟩) (aI ?_ ?_)))
 ·intro s t
  rintro _ ⟨y,rfl,B⟩
  exact aI M5 (aI (Sub.refl _) ⟨y,rfl,B⟩)
 refine Or.inr (eX (λv a=>∃ cs,v = .agg cs.toArray/\L1.R a cs (T2 (c,k) (d,f,m,n,o,(g,i,p),j)).1) (aI (λv z A u a=>by obtain⟨cs,e,q⟩:=a;exact⟨cs,e,L1.mono u q⟩) (aI ?_ ?_)))
 ·intro s t
  rintro _ ⟨y,rfl,B⟩
  exact aI M5 (aI (Sub.refl _) ⟨y,rfl,B⟩)
 refine Or.inl (eX (.val (.bool (T2 (c,k) (d,f,m,n,o,(g,i,p),j)).2)) (aI ?_ ?_))
 ·intro s t
  rintro _ ⟨y,rfl,B⟩
  exact aI rfl (aI rfl rfl)
 intro db bi
 rintro _ ⟨cX,rfl,bO⟩
 rintro _ ⟨_,rfl,_⟩
 rintro _ ⟨_,rfl,_⟩
 rintro _ ⟨_,rfl,_⟩
 rintro _ ⟨_,rfl,_⟩
 obtain⟨cI,b5,cu,cc,dk,rfl,c2,_,_⟩:=K3 bO
 refine Tr.val (d06 _ [.int .i64 cI,.slice b5 cu cc] [.int .i64 bk,.slice aE a2 aQ] (T2 (c,k) (d,f,m,n,o,(g,i,p),j)).1 (T2 (c,k) (d,f,m,n,o,(g,i,p),j)).1 bO (L1.mono (bZ.trans bi) aB)) ?_
 refine aI (λl=>?_) (λl=>?_)
 ·simp at l
 clear l
 refine Tr.val (l0a _ [.int .i64 aw,.slice ad aq ae] (T2 (c,k) (d,f,m,n,o,(g,i,p),j)).1 1 (L1.mono bi (L1.toR bE)) ⟨by omega,by omega⟩) ?_
 refine aI (λl=>?_) (λl=>?_)
 ·have:(1:Int)+(Z6 (T2 (c,k) (d,f,m,n,o,(g,i,p),j)).1:Nat)<0:=by simpa only[decide_eq_true_eq] using l
  omega
 clear l
 refine aI (λl=>?_) (λl=>?_)
 ·simp at l
 clear l
 exact aI rfl (aD.trans bi)
end Go.Proofs.YtkjhghloldgioaaGreat
