/- What the law on PutEntry does. -/
import Derived.Test.YtkjhghloldgioaaGreatKPutEntry
import Derived.Test.YtkjhghloldgioaaGreatPart17
namespace Go.Proofs.YtkjhghloldgioaaGreat
open Go.H
set_option linter.unusedVariables false
set_option linter.unusedSimpArgs false
set_option maxRecDepth 10000
theorem r08(h:Hp)(aS:List Value)(bR:T0)(bB:O0.R h aS bR)(k:ByteArray)(aw:k.size<=9223372036854775807)(aT:List Value)(bS:j0)(bC:C1.R h aT bS):
  Tr Tryz.prog 9 #[.agg aS.toArray,.string k,.agg aT.toArray] h λv bA=>v = .bool true/\Sub h bA:=by
 obtain⟨c,F,J,H,i,rfl,rfl,Q,T⟩:=V1 bB
 obtain⟨d,f,G,K,I,j,rfl,rfl,S,U,V⟩:=D0 bC
 refine R3 (args:=[.agg #[.int .i64 c,.slice F J H],.string k,.agg #[.int .i64 d,.int .i64 f,.slice G K I]]) (fn:=Tryz.f9) rfl ?_
 refine aI (λg=>aI rfl (Sub.refl _)) (λg=>?_)
 have ae:k.size<=1048576:=by simp at g;omega
 refine Tr.val (E0b _ [.int .i64 c,.slice F J H] (c,i) (1048576) (T2 Q T) ⟨by omega,by omega⟩) ?_
 refine aI (λg=>aI rfl (Sub.refl _)) (λg=>?_)
 have bD:0<=szR (1048576) (p6 (c,i):Nat):=by simpa using g
 have b6:=b04 bD
 have B:p6 (c,i)<=1048576:=by omega
 refine Tr.val (h09 _ [.int .i64 d,.int .i64 f,.slice G K I] (d,f,j) (szR (1048576) (p6 (c,i):Nat)) (B0 S U V) ⟨by omega,by omega⟩) ?_
 refine aI (λg=>aI rfl (Sub.refl _)) (λg=>?_)
 have bE:0<=szR (szR (1048576) (p6 (c,i):Nat)) (Z5 (d,f,j):Nat):=by simpa using g
 have b7:=b04 bE
 have C:Z5 (d,f,j)<=1048576:=by omega
 refine Or.inr (Or.inr (Or.inr (Or.inr (eX 10 (aI (aI (by kernel_rfl) (by kernel_rfl)) ?_)))))
 refine Or.inr (eX (λv a=>∃ cs,v = .agg cs.toArray/\O0.R a cs (c,i)) (aI (λv t u n a=>by obtain⟨cs,e,q⟩:=a;exact⟨cs,e,O0.mono n q⟩) (aI ?_ ?_)))
 ·intro l m
  refine Tr.mono (d01 l [.int .i64 c,.slice F J H] (c,i) (O0.mono m (T2 Q T)) B) ?_
  rintro v z ⟨p,rfl,o⟩
  exact aI U8 (aI o.sub ⟨p,rfl,o.r⟩)
 refine Or.inr (eX (λv a=>∃ cs,v = .agg cs.toArray/\C1.R a cs (d,f,j)) (aI (λv t u n a=>by obtain⟨cs,e,q⟩:=a;exact⟨cs,e,C1.mono n q⟩) (aI ?_ ?_)))
 ·intro l m
  refine Tr.mono (I01 l [.int .i64 d,.int .i64 f,.slice G K I] (d,f,j) (C1.mono m (B0 S U V)) C) ?_
  rintro v z ⟨p,rfl,o⟩
  exact aI U8 (aI o.sub ⟨p,rfl,o.r⟩)
 refine Or.inr (eX (λv a=>∃ cs,v = .tuple #[.agg cs.toArray,.bool (I1 (c,i) k (d,f,j)).2]/\O0.R a cs (I1 (c,i) k (d,f,j)).1) (aI (λv t u n a=>by obtain⟨cs,e,q⟩:=a;exact⟨cs,e,O0.mono n q⟩) (aI ?_ ?_)))
 ·intro l m
  rintro _ ⟨bt,rfl,X⟩
  obtain⟨aF,ak,ay,ap,bP,rfl,bw,_,_⟩:=V1 X
  rintro _ ⟨bu,rfl,Y⟩
  obtain⟨aG,aL,am,aA,ar,bQ,rfl,bx,_,_,_⟩:=D0 Y
  refine Tr.mono (f08 _ [.int .i64 aF,.slice ak ay ap] (c,i) X B k aw ae [.int .i64 aG,.int .i64 aL,.slice am aA ar] (d,f,j) Y C) ?_
  rintro v z ⟨s,rfl,w,bI⟩
  exact aI U8 (aI bI ⟨s,rfl,w⟩)
 refine Or.inr (eX (λv a=>∃ cs,v = .tuple #[.agg cs.toArray,.bool (I1 (c,i) k (d,f,j)).2]/\O0.R a cs (I1 (c,i) k (d,f,j)).1) (aI (λv t u n a=>by obtain⟨cs,e,q⟩:=a;exact⟨cs,e,O0.mono n q⟩) (aI ?_ ?_)))
 ·intro l m
  rintro _ ⟨s,rfl,w⟩
  exact aI U8 (aI (Sub.refl _) ⟨s,rfl,w⟩)
 refine Or.inr (eX (λv a=>∃ cs,v = .agg cs.toArray/\O0.R a cs (I1 (c,i) k (d,f,j)).1) (aI (λv t u n a=>by obtain⟨cs,e,q⟩:=a;exact⟨cs,e,O0.mono n q⟩) (aI ?_ ?_)))
 ·intro l m
  rintro _ ⟨s,rfl,w⟩
  exact aI U8 (aI (Sub.refl _) ⟨s,rfl,w⟩)
 refine Or.inl (eX (.val (.bool (I1 (c,i) k (d,f,j)).2)) (aI ?_ ?_))
 ·intro l m
  rintro _ ⟨s,rfl,w⟩
  exact aI rfl (aI rfl rfl)
 intro af D
 rintro _ ⟨bY,rfl,ag⟩
 rintro _ ⟨_,rfl,_⟩
 rintro _ ⟨_,rfl,_⟩
 rintro _ ⟨_,rfl,_⟩
 rintro _ ⟨_,rfl,_⟩
 obtain⟨aE,aj,ax,ao,cj,rfl,b3,_,_⟩:=V1 ag
 refine Tr.mono (d01 _ [.int .i64 c,.slice F J H] (c,i) (O0.mono D (T2 Q T)) B) ?_
 rintro bJ cc ⟨bZ,rfl,M⟩
 have y:=M.sub
 obtain⟨aH,al,az,aq,ck,rfl,b4,_,_⟩:=V1 M.r
 refine Tr.mono (I01 _ [.int .i64 d,.int .i64 f,.slice G K I] (d,f,j) (C1.mono (D.trans y) (B0 S U V)) C) ?_
 rintro bJ aZ ⟨b0,rfl,N⟩
 have x:=N.sub
 obtain⟨aJ,aM,an,aB,au,cl,rfl,b5,_,_,_⟩:=D0 N.r
 refine Tr.mono (Z02 _ [.int .i64 aH,.slice al az aq] (c,i) (O0.mono x M.r) B k aw ae [.int .i64 aJ,.int .i64 aM,.slice an aB au] (d,f,j) N.r C) ?_
 rintro cd b8 ⟨bW,rfl,ac⟩
 have A:=ac.sub
 obtain⟨aa,O,W,P,ch,rfl,b1,_,_⟩:=V1 ac.r
 refine Tr.val (c01 _ [.int .i64 aa,.slice O W P] [.int .i64 aE,.slice aj ax ao] (I1 (c,i) k (d,f,j)).1 (I1 (c,i) k (d,f,j)).1 ac.r (O0.mono ((y.trans x).trans A) ag)) ?_
 refine aI (λg=>?_) (λg=>?_)
 ·simp at g
 clear g
 refine Or.inr (Or.inr (Or.inr (Or.inl (aI (aI (by kernel_rfl) (by kernel_rfl)) ?_))))
 refine Or.inr (eX (λv a=>∃ cs,v = .agg cs.toArray/\O0.R a cs (c,i)) (aI (λv t u n a=>by obtain⟨cs,e,q⟩:=a;exact⟨cs,e,O0.mono n q⟩) (aI ?_ ?_)))
 ·intro l m
  refine Tr.mono (d01 l [.int .i64 c,.slice F J H] (c,i) (O0.mono ((((D.trans y).trans x).trans A).trans m) (T2 Q T)) B) ?_
  rintro v z ⟨p,rfl,o⟩
  exact aI U8 (aI o.sub ⟨p,rfl,o.r⟩)
 refine Or.inr (eX (λv a=>v = .bool true) (aI (λ_ _ _ _ e=>e) (aI ?_ ?_)))
 ·rintro l m v ⟨p,rfl,q⟩
  obtain⟨aK,bo,bG,br,a3,rfl,bv,_,_⟩:=V1 q
  refine Tr.mono (c01 l [.int .i64 aH,.slice al az aq] [.int .i64 aK,.slice bo bG br] (c,i) (c,i) (O0.mono ((x.trans A).trans m) M.r) q) ?_
  rintro v z ⟨rfl,rfl⟩
  exact aI U8 (aI (Sub.refl _) (by simp))
 refine Or.inr (eX (λv a=>v = .bool false) (aI (λ_ _ _ _ e=>e) (aI ?_ ?_)))
 ·rintro l m v rfl
  exact aI U8 (aI (Sub.refl _) rfl)
 rintro cb E bM rfl bL rfl bK bz
 refine aI (λg=>?_) (λg=>?_)
 ·cases g
 clear g
 refine Or.inr (Or.inr (Or.inr (Or.inl (aI (aI (by kernel_rfl) (by kernel_rfl)) ?_))))
 refine Or.inr (eX (λv a=>∃ cs,v = .agg cs.toArray/\C1.R a cs (d,f,j)) (aI (λv t u n a=>by obtain⟨cs,e,q⟩:=a;exact⟨cs,e,C1.mono n q⟩) (aI ?_ ?_)))
 ·intro l m
  refine Tr.mono (I01 l [.int .i64 d,.int .i64 f,.slice G K I] (d,f,j) (C1.mono (((((D.trans y).trans x).trans A).trans E).trans m) (B0 S U V)) C) ?_
  rintro v z ⟨p,rfl,o⟩
  exact aI U8 (aI o.sub ⟨p,rfl,o.r⟩)
 refine Or.inr (eX (λv a=>v = .bool true) (aI (λ_ _ _ _ e=>e) (aI ?_ ?_)))
 ·rintro l m v ⟨p,rfl,q⟩
  obtain⟨aK,a3,bp,bH,bs,cm,rfl,bv,_,_,_⟩:=D0 q
  refine Tr.mono (i09 l [.int .i64 aJ,.int .i64 aM,.slice an aB au] [.int .i64 aK,.int .i64 a3,.slice bp bH bs] (d,f,j) (d,f,j) (C1.mono ((A.trans E).trans m) N.r) q) ?_
  rintro v z ⟨rfl,rfl⟩
  exact aI U8 (aI (Sub.refl _) (by simp))
 refine Or.inr (eX (λv a=>v = .bool false) (aI (λ_ _ _ _ e=>e) (aI ?_ ?_)))
 ·rintro l m v rfl
  exact aI U8 (aI (Sub.refl _) rfl)
 rintro aY Z bM rfl bL rfl bK bz
 refine aI (λg=>?_) (λg=>?_)
 ·cases g
 clear g
 have bc:Sub h aY:=(((((D.trans y).trans x).trans A).trans E).trans Z)
 have bf:Sub af aY:=((((y.trans x).trans A).trans E).trans Z)
 obtain⟨a4,bN,L,_⟩:=ac
 have bi:=Wp.sub bN (E.trans Z)
 obtain⟨aN,aD,ah,_⟩:=M
 have bk:=Wp.sub aD (((x.trans A).trans E).trans Z)
 have ba:∀ b∈aN,aZ b≠none:=O0.dom (Wp.sub aD x)
 obtain⟨aO,a2,ab,_⟩:=N
 have bl:=Wp.sub a2 ((A.trans E).trans Z)
 have bb:∀ b∈aO,aZ b≠none:=C1.dom (a2)
 have bT:=p0e (c,i)
 refine Tr.mono (M03 _ [.int .i64 aH,.slice al az aq] (c,i) aN (1) bk ah.1 ⟨by omega,by omega⟩) ?_
 rintro ce aW ⟨rfl,_,ad⟩
 have bd:Sub h aW:=j03 D ah.2 bc ad
 have bg:Sub af aW:=j03 (Sub.refl _) ah.2 bf ad
 have bj:=x07 bi L.2 ba ad
 have bm:=x07 bl ab.2 (O0.dom (aD)) ad
 have bU:=T0g (d,f,j)
 refine Tr.mono (F0b _ [.int .i64 aJ,.int .i64 aM,.slice an aB au] (d,f,j) aO (1+(O4 (c,i):Nat)) bm ab.1 ⟨by omega,by omega⟩) ?_
 rintro cf aX ⟨rfl,_,av⟩
 have be:Sub h aX:=j03 (D.trans y) ab.2 bd av
 have aP:Sub af aX:=j03 y ab.2 bg av
 have aQ:=x07 bj L.2 bb av
 refine eX (.bool _) (aI (λ_=>c01 _ [.int .i64 aa,.slice O W P] [.int .i64 aE,.slice aj ax ao] (I1 (c,i) k (d,f,j)).1 (I1 (c,i) k (d,f,j)).1 (O0.toR aQ) (O0.mono aP ag)) ?_)
 refine aI (λg=>?_) (λg=>?_)
 ·simp at g<;>omega
 clear g
 have bV:=z0c (c,i) k (d,f,j) B ae C
 refine Tr.mono (M03 _ [.int .i64 aa,.slice O W P] (I1 (c,i) k (d,f,j)).1 a4 1 aQ L.1 ⟨by omega,by omega⟩) ?_
 rintro cg aV ⟨rfl,aR,aU⟩
 have ai:Sub h aV:=j03 ((D.trans y).trans x) L.2 be aU
 have bh:Sub af aV:=j03 (y.trans x) L.2 aP aU
 refine Tr.val (N03 _ [.int .i64 aa,.slice O W P] (I1 (c,i) k (d,f,j)).1 1 (O0.toR aR) ⟨by omega,by omega⟩) ?_
 refine aI (λg=>?_) (λg=>?_)
 ·have:(1:Int)+(O4 (I1 (c,i) k (d,f,j)).1:Nat)<0:=by simpa only[decide_eq_true_eq] using g
  omega
 clear g
 refine aI (λg=>?_) (λg=>?_)
 ·simp at g
 clear g
 refine Or.inr (Or.inr (Or.inr (Or.inr (eX 10 (aI (aI (by kernel_rfl) (by kernel_rfl)) ?_)))))
 refine Or.inr (eX (λv a=>∃ cs,v = .agg cs.toArray/\O0.R a cs (c,i)) (aI (λv t u n a=>by obtain⟨cs,e,q⟩:=a;exact⟨cs,e,O0.mono n q⟩) (aI ?_ ?_)))
 ·intro l m
  refine Tr.mono (d01 l [.int .i64 c,.slice F J H] (c,i) (O0.mono (ai.trans m) (T2 Q T)) B) ?_
  rintro v z ⟨p,rfl,o⟩
  exact aI U8 (aI o.sub ⟨p,rfl,o.r⟩)
 refine Or.inr (eX (λv a=>∃ cs,v = .agg cs.toArray/\C1.R a cs (d,f,j)) (aI (λv t u n a=>by obtain⟨cs,e,q⟩:=a;exact⟨cs,e,C1.mono n q⟩) (aI ?_ ?_)))
 ·intro l m
  refine Tr.mono (I01 l [.int .i64 d,.int .i64 f,.slice G K I] (d,f,j) (C1.mono (ai.trans m) (B0 S U V)) C) ?_
  rintro v z ⟨p,rfl,o⟩
  exact aI U8 (aI o.sub ⟨p,rfl,o.r⟩)
 refine Or.inr (eX (λv a=>∃ cs,v = .tuple #[.agg cs.toArray,.bool (I1 (c,i) k (d,f,j)).2]/\O0.R a cs (I1 (c,i) k (d,f,j)).1) (aI (λv t u n a=>by obtain⟨cs,e,q⟩:=a;exact⟨cs,e,O0.mono n q⟩) (aI ?_ ?_)))
 ·intro l m
  rintro _ ⟨bt,rfl,X⟩
  obtain⟨aF,ak,ay,ap,bP,rfl,bw,_,_⟩:=V1 X
  rintro _ ⟨bu,rfl,Y⟩
  obtain⟨aG,aL,am,aA,ar,bQ,rfl,bx,_,_,_⟩:=D0 Y
  refine Tr.mono (Z02 _ [.int .i64 aF,.slice ak ay ap] (c,i) X B k aw ae [.int .i64 aG,.int .i64 aL,.slice am aA ar] (d,f,j) Y C) ?_
  rintro v z ⟨s,rfl,a0⟩
  exact aI U8 (aI a0.sub ⟨s,rfl,a0.r⟩)
 refine Or.inr (eX (λv a=>∃ cs,v = .tuple #[.agg cs.toArray,.bool (I1 (c,i) k (d,f,j)).2]/\O0.R a cs (I1 (c,i) k (d,f,j)).1) (aI (λv t u n a=>by obtain⟨cs,e,q⟩:=a;exact⟨cs,e,O0.mono n q⟩) (aI ?_ ?_)))
 ·intro l m
  rintro _ ⟨s,rfl,w⟩
  exact aI U8 (aI (Sub.refl _) ⟨s,rfl,w⟩)
 refine Or.inr (eX (λv a=>∃ cs,v = .agg cs.toArray/\O0.R a cs (I1 (c,i) k (d,f,j)).1) (aI (λv t u n a=>by obtain⟨cs,e,q⟩:=a;exact⟨cs,e,O0.mono n q⟩) (aI ?_ ?_)))
 ·intro l m
  rintro _ ⟨s,rfl,w⟩
  exact aI U8 (aI (Sub.refl _) ⟨s,rfl,w⟩)
 refine Or.inl (eX (.val (.bool (I1 (c,i) k (d,f,j)).2)) (aI ?_ ?_))
 ·intro l m
  rintro _ ⟨s,rfl,w⟩
  exact aI rfl (aI rfl rfl)
 intro ca aC
 rintro _ ⟨bX,rfl,a1⟩
 rintro _ ⟨_,rfl,_⟩
 rintro _ ⟨_,rfl,_⟩
 rintro _ ⟨_,rfl,_⟩
 rintro _ ⟨_,rfl,_⟩
 obtain⟨bO,bn,bF,bq,ci,rfl,b2,_,_⟩:=V1 a1
 refine Tr.val (c01 _ [.int .i64 bO,.slice bn bF bq] [.int .i64 aE,.slice aj ax ao] (I1 (c,i) k (d,f,j)).1 (I1 (c,i) k (d,f,j)).1 a1 (O0.mono (bh.trans aC) ag)) ?_
 refine aI (λg=>?_) (λg=>?_)
 ·simp at g
 clear g
 refine Tr.val (N03 _ [.int .i64 aa,.slice O W P] (I1 (c,i) k (d,f,j)).1 1 (O0.mono aC (O0.toR aR)) ⟨by omega,by omega⟩) ?_
 refine aI (λg=>?_) (λg=>?_)
 ·have:(1:Int)+(O4 (I1 (c,i) k (d,f,j)).1:Nat)<0:=by simpa only[decide_eq_true_eq] using g
  omega
 clear g
 refine aI (λg=>?_) (λg=>?_)
 ·simp at g
 clear g
 exact aI rfl (ai.trans aC)
end Go.Proofs.YtkjhghloldgioaaGreat
