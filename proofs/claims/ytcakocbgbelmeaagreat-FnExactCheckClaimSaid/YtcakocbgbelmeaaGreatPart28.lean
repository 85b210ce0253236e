/- Texts of the claim, joined: The walks of batch h1 and others. -/
import Derived.Test.YtcakocbgbelmeaaGreatPart18
import Derived.Test.YtcakocbgbelmeaaGreatChecked
import Derived.Test.YtcakocbgbelmeaaGreatH35
import Derived.Test.YtcakocbgbelmeaaGreatPart26
import Derived.Test.YtcakocbgbelmeaaGreatPart17
import Derived.Test.YtcakocbgbelmeaaGreatH36
import Derived.Test.YtcakocbgbelmeaaGreatPart21
import Derived.Test.YtcakocbgbelmeaaGreatSE
import Derived.Test.YtcakocbgbelmeaaGreatH40
import Derived.Test.YtcakocbgbelmeaaGreatH41
namespace Go.Proofs.YtcakocbgbelmeaaGreat
open Go.H
set_option linter.unusedVariables false
set_option linter.unusedSimpArgs false
set_option maxRecDepth 10000
theorem S0c(h:Hp)(p0:Int)(ip0:M0 p0)(r:j0×Bool)(aA:a01 p0=some r):
  Tr Tryz.prog 223 #[.int .i64 p0] h fun v h'=>∃(cs0:List Value),v = .tuple #[.agg cs0.toArray,.bool r.2]∧W0.R h' cs0 r.1∧Sub h h':=by
 unfold a01 at aA
 refine Y1 (args:=[.int .i64 p0]) (fn:=Tryz.f223) rfl ?_
 obtain⟨x1,aC,aA⟩:=l0 aA
 refine Tr.val (Q4 _ p0 ip0 1 (by decide) 3 (by decide) _  aC) ?_
 refine aI (fun aB=>?_) (fun aB=>?_)
 ·replace aA:=ifP aA aB
  have hE:=oJ aA;subst hE
  exact⟨([.int .i64 0,.int .i64 0,.slice none 0 0]),rfl,(z0 (by decide) (by decide) (z0b P0 h)),(Sub.refl _)⟩
 ·replace aA:=ifN aA aB
  have hE:=oJ aA;subst hE
  exact⟨([.int .i64 p0,.int .i64 1,.slice none 0 0]),rfl,(z0 ip0 (by decide) (z0b P0 h)),(Sub.refl _)⟩
theorem Y07(h:Hp)(bG:List Value)(p0:j0)(rp0:W0.R h bG p0)(p1:Int)(ip1:M0 p1)(ap2:Option Addr)(np2 cp2:Nat)(p2:C0)(rp2:J0.R h [.slice ap2 np2 cp2] p2)(p3:Int)(ip3:M0 p3)(r:j0×Bool)(aB:F00 p0 p1 p2 p3=some r):
  Tr Tryz.prog 130 #[.agg bG.toArray,.int .i64 p1,.slice ap2 np2 cp2,.int .i64 p3] h fun v h'=>∃(cs0:List Value),v = .tuple #[.agg cs0.toArray,.bool r.2]∧W0.R h' cs0 r.1∧Sub h h':=by
 obtain⟨aD,aC,aF,dB,aG,aV,rfl,rfl,aH,aL,aJ⟩:=B0 rp0
 obtain⟨rfl,dC⟩:=Sl.len aJ
 obtain⟨rfl,lp2⟩:=Sl.len rp2
 unfold F00 at aB
 dsimp only at aB
 refine Y1 (args:=[.agg #[.int .i64 aD,.int .i64 aC,.slice aF aV.length aG],.int .i64 p1,.slice ap2 p2.length cp2,.int .i64 p3]) (fn:=Tryz.f130) rfl ?_
 obtain⟨x1,dL,aB⟩:=l0 aB
 refine Tr.mono (j7 _ [.int .i64 aD,.int .i64 aC,.slice aF aV.length aG] (aD,aC,aV) (z0 aH aL aJ) _  dL) ?_
 rintro v3 k2 ⟨dM,rfl,dN,bH⟩
 obtain⟨aW,aX,aM,dD,aN,bI,rfl,rfl,aO,aP,aK⟩:=B0 dN
 obtain⟨rfl,dE⟩:=Sl.len aK
 try dsimp only at aB
 obtain⟨x4,dO,aB⟩:=l0 aB
 refine Tr.val (i7 _ [.int .i64 aD,.int .i64 aC,.slice aF aV.length aG] (aD,aC,aV) (z0 aH aL (F0.mono bH aJ)) _  dO) ?_
 obtain⟨x5,dP,aB⟩:=l0 aB
 refine eX (.bool x5) (aI (fun q=>Q4 _ p1 ip1 0 (by decide) (IntKind.i64.wrap (aC-1)) (N0 _) _  (F1 dP q)) ?_)
 obtain⟨x6,dQ,aB⟩:=l0 aB
 refine eX (.bool x6) (aI (fun q=>Q4 _ p3 ip3 0 (by decide) (IntKind.i64.wrap (aC-1)) (N0 _) _  (F1 dQ q)) ?_)
 obtain⟨x7,dR,aB⟩:=l0 aB
 refine eX (.bool x7) (aI (fun q=>F03 _ aD aH ap2 p2.length cp2 p2 (J0.mono bH rp2) _  (F1 dR q)) ?_)
 refine aI (fun bJ=>?_) (fun bJ=>?_)
 ·replace aB:=ifP aB bJ
  have hE:=oJ aB;subst hE
  exact⟨([.int .i64 aW,.int .i64 aX,.slice aM bI.length aN]),rfl,(z0 aO aP aK),bH⟩
 ·replace aB:=ifN aB bJ
  obtain⟨X9,bK,aB⟩:=l0 aB
  refine eX { vars:=[11,12],boxes:=[2],owns:=[],fuel:=true } (eX (fun vs os h'=>∃(u10:Int) (u11:Int) (u12:Int) (u13:Int) (au14:Option Addr) (nu14 cu14:Nat) (u14:I0),vs.tail = [.int .i64 u10,.int .i64 u11,.int .i64 u12,.int .i64 u13,.slice au14 nu14 cu14]∧os = []∧Sub k2 h'∧M0 u10∧M0 u11∧M0 u12∧M0 u13∧F0.R h' [.slice au14 nu14 cu14] u14∧Z4 p2 p3 (K1 vs) u10 u11 u12 u13 u14=some X9) (eX (fun _ _=>0) ?_))
  refine aI (eX S0 ⟨p1,0,aW,aX,aM,bI.length,aN,bI,rfl,rfl,(Sub.refl _),ip1,(by decide),aO,aP,aK,bK⟩) ?_
  rintro v_0 v_1 v_2 v_3 v_4 m16 k15 ⟨u10,u11,u12,u13,au14,nu14,cu14,u14,bL,bM,aQ,iu10,iu11,iu12,iu13,ru14,aA⟩
  cases bL
  cases bM
  replace aA:Z4 p2 p3 m16 u10 u11 u12 u13 u14=some X9:=aA
  obtain _|m16:=m16
  ·cases (show(none:Option _)=some X9 from aA)
  rw[Z4.eq_2]at aA
  obtain⟨rfl,lu14⟩:=Sl.len ru14
  refine aI (fun aR=>?_) (fun aR=>?_)
  ·replace aA:=ifP aA aR
   refine aI (fun aS=>?_) (fun aS=>?_)
   ·replace aA:=ifP aA aS
    obtain⟨x19,bN,aA⟩:=l0 aA
    obtain⟨bO,dF,bP,bQ⟩:=Sl.getI (r:=Wp.int.toRp) (J0.mono (bH.trans aQ) rp2) bN (by decide)
    refine aI bO ?_
    obtain⟨rfl,dS⟩:=bQ
    refine eX _ (aI bP ?_)
    refine aI (fun aT=>?_) (fun aT=>?_)
    ·replace aA:=ifP aA aT
     refine Or.inr (Or.inr (Or.inl (aI (aI (by kernel_rfl) (by kernel_rfl)) ?_)))
     obtain⟨x21,bR,aA⟩:=l0 aA
     obtain⟨bS,dG,bT,bU⟩:=Sl.getI (r:=Wp.int.toRp) (J0.mono (bH.trans aQ) rp2) bR (by decide)
     obtain⟨rfl,bV⟩:=bU
     refine Or.inl (eX (.hel (.slice ap2 p2.length cp2) u11 1 0) (aI ?_ ?_))
     ·intro k22 s23
      exact aI bS (aI rfl (aI rfl rfl))
     refine Or.inl (eX (.val (.int .i64 x21)) (aI ?_ ?_))
     ·intro k24 s25
      exact eX _ (aI (w9.up s25 bT) (aI rfl (aI rfl rfl)))
     refine Or.inl (eX (.agg [.val (.int .i64 u10),.val (.int .i64 x21),.val (.int .i64 u13)]) (aI ?_ ?_))
     ·intro k26 s27
      exact aI rfl (aI rfl rfl)
     refine Or.inr ?_
     refine Or.inr ?_
     refine Or.inl (eX 1 (aI (aI rfl rfl) ?_))
     obtain⟨x28,bW,aA⟩:=l0 aA
     refine Tr.mono (u00 _ au14 u14.length cu14 u14 ru14 [.int .i64 u10,.int .i64 x21,.int .i64 u13] (u10,x21,u13) (D1 iu10 bV iu13) _  bW) ?_
     rintro v30 k29 ⟨bX,dT,bY,rfl,aY,aZ⟩
     obtain⟨rfl,dU⟩:=Sl.len aY
     refine aI (aI rfl aZ) (aI (by first|exact trivial|exact rfl) ?_)
     refine aI trivial (aI (by first|exact trivial|exact rfl) ?_)
     refine aI rfl (aI (by trivial) (aI (by trivial) (eX m16 (aI ⟨u13,(IntKind.i64.wrap (u11+1)),u12,(IntKind.i64.wrap (u13+1)),bX,x28.length,bY,x28,rfl,rfl,(aQ.trans aZ),iu13,(N0 _),iu12,(N0 _),aY,aA⟩ (nS _)))))
    ·replace aA:=ifN aA aT
     refine Or.inr (Or.inr (Or.inl (aI (aI (by kernel_rfl) (by kernel_rfl)) ?_)))
     obtain⟨x31,bZ,aA⟩:=l0 aA
     obtain⟨cA,dH,cC,cD⟩:=Sl.getI (r:=Wp.int.toRp) (J0.mono (bH.trans aQ) rp2) bZ (by decide)
     obtain⟨rfl,dV⟩:=cD
     refine Or.inl (eX (.hel (.slice ap2 p2.length cp2) u11 1 0) (aI ?_ ?_))
     ·intro k32 s33
      exact aI cA (aI rfl (aI rfl rfl))
     refine Or.inl (eX (.val (.int .i64 x31)) (aI ?_ ?_))
     ·intro k34 s35
      exact eX _ (aI (w9.up s35 cC) (aI rfl (aI rfl rfl)))
     refine Or.inl (eX (.val (.int .i64 (IntKind.i64.wrap (0-x31)))) (aI ?_ ?_))
     ·intro k36 s37
      exact aI rfl (aI rfl rfl)
     refine Or.inl (eX (.agg [.val (.int .i64 u13),.val (.int .i64 (IntKind.i64.wrap (0-x31))),.val (.int .i64 u10)]) (aI ?_ ?_))
     ·intro k38 s39
      exact aI rfl (aI rfl rfl)
     refine Or.inr ?_
     refine Or.inr ?_
     refine Or.inl (eX 1 (aI (aI rfl rfl) ?_))
     obtain⟨x40,cE,aA⟩:=l0 aA
     refine Tr.mono (u00 _ au14 u14.length cu14 u14 ru14 [.int .i64 u13,.int .i64 (IntKind.i64.wrap (0-x31)),.int .i64 u10] (u13,(IntKind.i64.wrap (0-x31)),u10) (D1 iu13 (N0 _) iu10) _  cE) ?_
     rintro v42 k41 ⟨cG,dW,cH,rfl,bA,bB⟩
     obtain⟨rfl,dX⟩:=Sl.len bA
     refine aI (aI rfl bB) (aI (by first|exact trivial|exact rfl) ?_)
     refine aI trivial (aI (by first|exact trivial|exact rfl) ?_)
     refine aI rfl (aI (by trivial) (aI (by trivial) (eX m16 (aI ⟨u13,(IntKind.i64.wrap (u11+1)),u12,(IntKind.i64.wrap (u13+1)),cG,x40.length,cH,x40,rfl,rfl,(aQ.trans bB),iu13,(N0 _),iu12,(N0 _),bA,aA⟩ (nS _)))))
   ·replace aA:=ifN aA aS
    obtain⟨x43,cI,aA⟩:=l0 aA
    obtain⟨cJ,dI,cK,cL⟩:=Sl.getI (r:=Wp.int.toRp) (J0.mono (bH.trans aQ) rp2) cI (by decide)
    refine aI cJ ?_
    obtain⟨rfl,dY⟩:=cL
    refine eX _ (aI cK ?_)
    refine aI (fun aU=>?_) (fun aU=>?_)
    ·replace aA:=ifP aA aU
     refine Or.inr (Or.inr (Or.inl (aI (aI (by kernel_rfl) (by kernel_rfl)) ?_)))
     obtain⟨x45,cM,aA⟩:=l0 aA
     obtain⟨cN,dJ,cO,cP⟩:=Sl.getI (r:=Wp.int.toRp) (J0.mono (bH.trans aQ) rp2) cM (by decide)
     obtain⟨rfl,cQ⟩:=cP
     refine Or.inl (eX (.hel (.slice ap2 p2.length cp2) u11 1 0) (aI ?_ ?_))
     ·intro k46 s47
      exact aI cN (aI rfl (aI rfl rfl))
     refine Or.inl (eX (.val (.int .i64 x45)) (aI ?_ ?_))
     ·intro k48 s49
      exact eX _ (aI (w9.up s49 cO) (aI rfl (aI rfl rfl)))
     refine Or.inl (eX (.agg [.val (.int .i64 u10),.val (.int .i64 x45),.val (.int .i64 p3)]) (aI ?_ ?_))
     ·intro k50 s51
      exact aI rfl (aI rfl rfl)
     refine Or.inr ?_
     refine Or.inr ?_
     refine Or.inl (eX 1 (aI (aI rfl rfl) ?_))
     obtain⟨x52,cR,aA⟩:=l0 aA
     refine Tr.mono (u00 _ au14 u14.length cu14 u14 ru14 [.int .i64 u10,.int .i64 x45,.int .i64 p3] (u10,x45,p3) (D1 iu10 cQ ip3) _  cR) ?_
     rintro v54 k53 ⟨cS,dZ,cT,rfl,bC,bD⟩
     obtain⟨rfl,eA⟩:=Sl.len bC
     refine aI (aI rfl bD) (aI (by first|exact trivial|exact rfl) ?_)
     refine aI trivial (aI (by first|exact trivial|exact rfl) ?_)
     refine aI rfl (aI (by trivial) (aI (by trivial) (eX m16 (aI ⟨p3,(IntKind.i64.wrap (u11+1)),u12,u13,cS,x52.length,cT,x52,rfl,rfl,(aQ.trans bD),ip3,(N0 _),iu12,iu13,bC,aA⟩ (nS _)))))
    ·replace aA:=ifN aA aU
     refine Or.inr (Or.inr (Or.inl (aI (aI (by kernel_rfl) (by kernel_rfl)) ?_)))
     obtain⟨x55,cU,aA⟩:=l0 aA
     obtain⟨cV,dK,cW,cX⟩:=Sl.getI (r:=Wp.int.toRp) (J0.mono (bH.trans aQ) rp2) cU (by decide)
     obtain⟨rfl,eB⟩:=cX
     refine Or.inl (eX (.hel (.slice ap2 p2.length cp2) u11 1 0) (aI ?_ ?_))
     ·intro k56 s57
      exact aI cV (aI rfl (aI rfl rfl))
     refine Or.inl (eX (.val (.int .i64 x55)) (aI ?_ ?_))
     ·intro k58 s59
      exact eX _ (aI (w9.up s59 cW) (aI rfl (aI rfl rfl)))
     refine Or.inl (eX (.val (.int .i64 (IntKind.i64.wrap (0-x55)))) (aI ?_ ?_))
     ·intro k60 s61
      exact aI rfl (aI rfl rfl)
     refine Or.inl (eX (.agg [.val (.int .i64 p3),.val (.int .i64 (IntKind.i64.wrap (0-x55))),.val (.int .i64 u10)]) (aI ?_ ?_))
     ·intro k62 s63
      exact aI rfl (aI rfl rfl)
     refine Or.inr ?_
     refine Or.inr ?_
     refine Or.inl (eX 1 (aI (aI rfl rfl) ?_))
     obtain⟨x64,cY,aA⟩:=l0 aA
     refine Tr.mono (u00 _ au14 u14.length cu14 u14 ru14 [.int .i64 p3,.int .i64 (IntKind.i64.wrap (0-x55)),.int .i64 u10] (p3,(IntKind.i64.wrap (0-x55)),u10) (D1 ip3 (N0 _) iu10) _  cY) ?_
     rintro v66 k65 ⟨cZ,eC,dA,rfl,bE,bF⟩
     obtain⟨rfl,eD⟩:=Sl.len bE
     refine aI (aI rfl bF) (aI (by first|exact trivial|exact rfl) ?_)
     refine aI trivial (aI (by first|exact trivial|exact rfl) ?_)
     refine aI rfl (aI (by trivial) (aI (by trivial) (eX m16 (aI ⟨p3,(IntKind.i64.wrap (u11+1)),u12,u13,cZ,x64.length,dA,x64,rfl,rfl,(aQ.trans bF),ip3,(N0 _),iu12,iu13,bE,aA⟩ (nS _)))))
  ·replace aA:=ifN aA aR
   have hE:=oJ aA;subst hE
   try dsimp only[T0,V0]at aB
   have hE:=oJ aB;subst hE
   exact⟨([.int .i64 u12,.int .i64 u13,.slice au14 u14.length cu14]),rfl,(z0 iu12 iu13 ru14),(bH.trans aQ)⟩
theorem T0c(h:Hp)(aU:List Value)(p0:j0)(rp0:W0.R h aU p0)(ap1:Option Addr)(np1 cp1:Nat)(p1:C0)(rp1:J0.R h [.slice ap1 np1 cp1] p1)(r:j0×Bool)(aL:b01 p0 p1=some r):
  Tr Tryz.prog 203 #[.agg aU.toArray,.slice ap1 np1 cp1] h fun v h'=>∃(cs0:List Value),v = .tuple #[.agg cs0.toArray,.bool r.2]∧W0.R h' cs0 r.1∧Sub h h':=by
 obtain⟨aM,aN,aG,aY,aH,aV,rfl,rfl,aQ,aR,aJ⟩:=B0 rp0
 obtain⟨rfl,aZ⟩:=Sl.len aJ
 obtain⟨rfl,lp1⟩:=Sl.len rp1
 unfold b01 at aL
 dsimp only at aL
 refine Y1 (args:=[.agg #[.int .i64 aM,.int .i64 aN,.slice aG aV.length aH],.slice ap1 p1.length cp1]) (fn:=Tryz.f203) rfl ?_
 obtain⟨x1,bA,aL⟩:=l0 aL
 refine Tr.mono (Y07 _ [.int .i64 aM,.int .i64 aN,.slice aG aV.length aH] (aM,aN,aV) (z0 aQ aR aJ) 0 (by decide) ap1 p1.length cp1 p1 rp1 0 (by decide) _  bA) ?_
 rintro v3 k2 ⟨aW,rfl,aK,bB⟩
 obtain⟨bC,bD⟩:=x1
 dsimp only at aL aK
 obtain⟨aO,aP,aB,aS,aC,aX,rfl,rfl,aD,aF,aA⟩:=B0 aK
 obtain⟨rfl,aT⟩:=Sl.len aA
 try dsimp only at aL
 have hE:=oJ aL;subst hE
 exact⟨([.int .i64 aO,.int .i64 aP,.slice aB aX.length aC]),rfl,(z0 aD aF aA),bB⟩
theorem U0c(h:Hp)(p0:Int)(ip0:M0 p0)(ap1:Option Addr)(np1 cp1:Nat)(p1:P1)(rp1:Q2.R h [.slice ap1 np1 cp1] p1)(r:j0×Bool)(aM:c01 p0 p1=some r):
  Tr Tryz.prog 177 #[.int .i64 p0,.slice ap1 np1 cp1] h fun v h'=>∃(cs0:List Value),v = .tuple #[.agg cs0.toArray,.bool r.2]∧W0.R h' cs0 r.1∧Sub h h':=by
 obtain⟨rfl,lp1⟩:=Sl.len rp1
 unfold c01 at aM
 refine Y1 (args:=[.int .i64 p0,.slice ap1 p1.length cp1]) (fn:=Tryz.f177) rfl ?_
 obtain⟨x1,bZ,aM⟩:=l0 aM
 refine Tr.val (V06 _ p0 ip0 ap1 p1.length cp1 p1 rp1 _  bZ) ?_
 refine aI (fun bO=>?_) (fun bO=>?_)
 ·replace aM:=ifP aM bO
  have hE:=oJ aM;subst hE
  exact⟨([.int .i64 0,.int .i64 0,.slice none 0 0]),rfl,(z0 (by decide) (by decide) (z0b P0 h)),(Sub.refl _)⟩
 ·replace aM:=ifN aM bO
  obtain⟨x3,cA,aM⟩:=l0 aM
  refine Tr.mono (S0c _ p0 ip0 _  cA) ?_
  rintro v5 k4 ⟨bP,rfl,aX,cH⟩
  obtain⟨cC,cD⟩:=x3
  dsimp only at aM aX
  obtain⟨aY,aZ,aT,bL,aU,bA,rfl,rfl,aV,aW,aO⟩:=B0 aX
  obtain⟨rfl,bM⟩:=Sl.len aO
  try dsimp only at aM
  obtain⟨X6,bQ,aM⟩:=l0 aM
  refine eX { vars:=[8],boxes:=[1],owns:=[],fuel:=true } (eX (fun vs os h'=>∃(u7:Int) (u8:Int) (u9:Int) (au10:Option Addr) (nu10 cu10:Nat) (u10:I0),vs.tail = [.int .i64 u7,.int .i64 u8,.int .i64 u9,.slice au10 nu10 cu10]∧os = []∧Sub k4 h'∧M0 u7∧M0 u8∧M0 u9∧F0.R h' [.slice au10 nu10 cu10] u10∧Q6 p1 (K1 vs) u7 u8 u9 u10=some X6) (eX (fun _ _=>0) ?_))
  refine aI (eX S0 ⟨0,aY,aZ,aT,bA.length,aU,bA,rfl,rfl,(Sub.refl _),(by decide),aV,aW,aO,bQ⟩) ?_
  rintro v_0 v_1 v_2 v_3 m12 k11 ⟨u7,u8,u9,au10,nu10,cu10,u10,bR,bS,bX,iu7,iu8,iu9,ru10,aN⟩
  cases bR
  cases bS
  replace aN:Q6 p1 m12 u7 u8 u9 u10=some X6:=aN
  obtain _|m12:=m12
  ·cases (show(none:Option _)=some X6 from aN)
  rw[Q6.eq_2]at aN
  obtain⟨rfl,lu10⟩:=Sl.len ru10
  refine aI (fun bB=>?_) (fun bB=>?_)
  ·replace aN:=ifP aN bB
   refine Or.inr (Or.inr (Or.inr (Or.inr (eX 10 (aI (aI (by kernel_rfl) (by kernel_rfl)) ?_)))))
   obtain⟨x14,bT,aN⟩:=l0 aN
   obtain⟨bU,bY,bV,bC⟩:=Sl.getI (r:=J0.toRp) (Q2.mono (cH.trans bX) rp1) bT (by decide)
   obtain⟨bF,cE,bG,rfl⟩:=Wp.slice_cell bC
   obtain⟨rfl,cG⟩:=Sl.len bC
   refine Or.inl (eX (.hel (.slice ap1 p1.length cp1) u7 1 0) (aI ?_ ?_))
   ·intro k15 s16
    exact aI bU (aI rfl (aI rfl rfl))
   refine Or.inl (eX (.val (.slice bF x14.length bG)) (aI ?_ ?_))
   ·intro k17 s18
    exact eX _ (aI (w9.up s18 bV) (aI rfl (aI rfl rfl)))
   obtain⟨x19,bW,aN⟩:=l0 aN
   obtain⟨bH,aS⟩:=x19
   try dsimp only at aN
   obtain⟨aC,aD,aG⟩:=bH
   try dsimp only at aN
   refine Or.inr (eX (fun v hh=>∃(aF:Value),v = .tuple #[aF,.bool aS]∧(fun v hh=>∃(aA:Option Addr) (aB:Nat),v = .agg #[.int .i64 aC,.int .i64 aD,.slice aA aG.length aB]∧M0 aC∧M0 aD∧F0.R hh [.slice aA aG.length aB] aG∧aG.length≤9223372036854775807) aF hh) (aI (fun v h1 h2 sb q=>by obtain⟨aF,e,aL⟩:=q;exact⟨aF,e,(by obtain⟨aA,aB,e,f0,f1,f2,f3⟩:=aL;exact⟨aA,aB,e,f0,f1,F0.mono sb f2,f3⟩)⟩) (aI ?_ ?_)))
   ·intro k20 s21
    refine Tr.mono (T0c _ [.int .i64 u8,.int .i64 u9,.slice au10 u10.length cu10] (u8,u9,u10) (z0 iu8 iu9 (F0.mono s21 ru10)) bF x14.length bG x14 (J0.mono s21 bC) _ bW) ?_
    rintro _ kk ⟨bN,rfl,bD,sb⟩
    obtain⟨bI,bJ,aH,bE,aJ,bK,rfl,ey,aP,aQ,aK⟩:=B0 bD
    cases ey
    obtain⟨rfl,aR⟩:=Sl.len aK
    exact aI c8 (aI sb ⟨(.agg #[.int .i64 aC,.int .i64 aD,.slice aH aG.length aJ]),rfl,⟨aH,aJ,rfl,aP,aQ,aK,aR⟩⟩)
   refine Or.inr (eX (fun v hh=>∃(aF:Value),v = .tuple #[aF,.bool aS]∧(fun v hh=>∃(aA:Option Addr) (aB:Nat),v = .agg #[.int .i64 aC,.int .i64 aD,.slice aA aG.length aB]∧M0 aC∧M0 aD∧F0.R hh [.slice aA aG.length aB] aG∧aG.length≤9223372036854775807) aF hh) (aI (fun v h1 h2 sb q=>by obtain⟨aF,e,aL⟩:=q;exact⟨aF,e,(by obtain⟨aA,aB,e,f0,f1,f2,f3⟩:=aL;exact⟨aA,aB,e,f0,f1,F0.mono sb f2,f3⟩)⟩) (aI ?_ ?_)))
   ·intro k22 s23
    rintro _ ⟨_,rfl,⟨az24p02,cz24p02,rfl,iz24p00,iz24p01,rz24p02,lz24p02⟩⟩
    exact aI c8 (aI (Sub.refl _) ⟨(.agg #[.int .i64 aC,.int .i64 aD,.slice az24p02 aG.length cz24p02]),rfl,⟨az24p02,cz24p02,rfl,iz24p00,iz24p01,rz24p02,lz24p02⟩⟩)
   refine Or.inr (eX (fun v hh=>∃(aA:Option Addr) (aB:Nat),v = .agg #[.int .i64 aC,.int .i64 aD,.slice aA aG.length aB]∧M0 aC∧M0 aD∧F0.R hh [.slice aA aG.length aB] aG∧aG.length≤9223372036854775807) (aI (fun v h1 h2 sb q=>by obtain⟨aA,aB,e,f0,f1,f2,f3⟩:=q;exact⟨aA,aB,e,f0,f1,F0.mono sb f2,f3⟩) (aI ?_ ?_)))
   ·intro k25 s26
    rintro _ ⟨_,rfl,⟨az27p02,cz27p02,rfl,iz27p00,iz27p01,rz27p02,lz27p02⟩⟩
    exact aI c8 (aI (Sub.refl _) ⟨az27p02,cz27p02,rfl,iz27p00,iz27p01,rz27p02,lz27p02⟩)
   refine Or.inl (eX (.val (.bool aS)) (aI ?_ ?_))
   ·intro k28 s29
    rintro _ ⟨_,rfl,⟨az30p02,cz30p02,rfl,iz30p00,iz30p01,rz30p02,lz30p02⟩⟩
    exact aI rfl (aI rfl rfl)
   intro k31 s32
   rintro _ ⟨az332,cz332,rfl,iz330,iz331,rz332,lz332⟩
   rintro _ ⟨_,rfl,⟨az34p02,cz34p02,rfl,iz34p00,iz34p01,rz34p02,lz34p02⟩⟩
   rintro _ ⟨_,rfl,⟨az35p02,cz35p02,rfl,iz35p00,iz35p01,rz35p02,lz35p02⟩⟩
   refine aI rfl (aI (by trivial) (aI (by trivial) (eX m12 (aI ⟨(IntKind.i64.wrap (u7+1)),aC,aD,az332,aG.length,cz332,aG,rfl,rfl,(bX.trans s32),(N0 _),iz330,iz331,rz332,aN⟩ (nS _)))))
  ·replace aN:=ifN aN bB
   have hE:=oJ aN;subst hE
   try dsimp only[T0,V0]at aM
   have hE:=oJ aM;subst hE
   exact⟨([.int .i64 u8,.int .i64 u9,.slice au10 u10.length cu10]),rfl,(z0 iu8 iu9 ru10),(cH.trans bX)⟩
theorem d0f(h:Hp)(aW:List Value)(p0:j0)(rp0:W0.R h aW p0)(r:N8)(aT:M01 p0=some r):
  Tr Tryz.prog 280 #[.agg aW.toArray] h fun v h'=>∃(a0:Option Addr) (n0 c0:Nat),v = .slice a0 n0 c0∧z0h.R h' [.slice a0 n0 c0] r∧Sub h h':=by
 obtain⟨aX,aY,aU,bT,aV,aN,rfl,rfl,bU,bV,aM⟩:=B0 rp0
 obtain⟨rfl,bW⟩:=Sl.len aM
 unfold M01 at aT
 dsimp only at aT
 refine Y1 (args:=[.agg #[.int .i64 aX,.int .i64 aY,.slice aU aN.length aV]]) (fn:=Tryz.f280) rfl ?_
 obtain⟨X1,aZ,aT⟩:=l0 aT
 refine eX { vars:=[4],boxes:=[],owns:=[0],fuel:=true } (eX (fun vs os h'=>∃(u2:Int) (wu3:List (List Value)) (u3:List K4),vs.tail = [.int .i64 u2]∧os = [wu3]∧Sub h h'∧M0 u2∧F2 (J4.R h') wu3 u3∧A7 aN (K1 vs) u2 u3=some X1) (eX (fun _ _=>0) ?_))
 refine aI (eX S0 ⟨0,[],([]:N8),rfl,rfl,(Sub.refl _),(by decide),(show F2 (J4.R h) ([]:List (List Value)) ([]:N8) from trivial),aZ⟩) ?_
 rintro v_0 wu3 m5 k4 ⟨u2,zzu3,u3,bA,bB,cC,iu2,fu3,aL⟩
 cases bA
 cases bB
 replace aL:A7 aN m5 u2 u3=some X1:=aL
 obtain _|m5:=m5
 ·cases (show(none:Option _)=some X1 from aL)
 rw[A7.eq_2]at aL
 refine aI (fun bC=>?_) (fun bC=>?_)
 ·replace aL:=ifP aL bC
  obtain⟨X7,bD,aL⟩:=l0 aL
  refine eX { vars:=[5],boxes:=[],owns:=[0],fuel:=true } (eX (fun vs os h'=>∃(u8:Int) (wu9:List (List Value)) (u9:List K4),vs.tail = [.int .i64 u8]∧os = [wu9]∧Sub k4 h'∧M0 u8∧F2 (J4.R h') wu9 u9∧V3 aN u2 (K1 vs) u8 u9=some X7) (eX (fun _ _=>0) ?_))
  refine aI (eX S0 ⟨(IntKind.i64.wrap (u2+1)),wu3,u3,rfl,rfl,(Sub.refl _),(N0 _),fu3,bD⟩) ?_
  rintro v_0 wu9 m11 k10 ⟨u8,zzu9,u9,bE,bF,aO,iu8,fu9,aH⟩
  cases bE
  cases bF
  replace aH:V3 aN u2 m11 u8 u9=some X7:=aH
  obtain _|m11:=m11
  ·cases (show(none:Option _)=some X7 from aH)
  rw[V3.eq_2]at aH
  refine aI (fun aP=>?_) (fun aP=>?_)
  ·replace aH:=ifP aH aP
   obtain⟨x13,bG,aH⟩:=l0 aH
   obtain⟨bH,bX,bI,bJ⟩:=Sl.getI (r:=P0.toRp) (F0.mono (cC.trans aO) aM) bG (by decide)
   refine aI bH ?_
   obtain⟨aC,bY,aA,rfl,rfl,aJ,bK,aF⟩:=I1 bJ
   try dsimp only at aH
   refine eX _ (aI bI ?_)
   obtain⟨x14,bL,aH⟩:=l0 aH
   obtain⟨bM,bZ,bN,bO⟩:=Sl.getI (r:=P0.toRp) (F0.mono (cC.trans aO) aM) bL (by decide)
   refine aI bM ?_
   obtain⟨aD,cA,aB,rfl,rfl,aK,bP,aG⟩:=I1 bO
   try dsimp only at aH
   refine eX _ (aI bN ?_)
   refine aI (fun aQ=>?_) (fun aQ=>?_)
   ·replace aH:=ifP aH aQ
    obtain⟨q16,bQ,aH⟩:=l0 aH
    refine aI (L1 bQ (by first|rw[F2.length fu9,F2.length (show F2 (J4.R k10) ([[.int .i64 (if aB<aA then aB else aA),.int .i64 (if aB>aA then aB else aA)]]:List (List Value)) [((if aB<aA then aB else aA),(if aB>aA then aB else aA))] from⟨(D2 (F8 aG aF) (F8 aG aF)),trivial⟩)]|exact congrArg (·+1) (F2.length fu9))) ?_
    refine aI (fun aR=>?_) (fun aR=>?_)
    ·replace aH:=ifP aH aR
     obtain⟨q18,bR,aH⟩:=l0 aH
     refine aI (L1 bR (by first|rw[F2.length (F2.append fu9 (show F2 (J4.R k10) ([[.int .i64 (if aB<aA then aB else aA),.int .i64 (if aB>aA then aB else aA)]]:List (List Value)) [((if aB<aA then aB else aA),(if aB>aA then aB else aA))] from⟨(D2 (F8 aG aF) (F8 aG aF)),trivial⟩)),F2.length (show F2 (J4.R k10) ([[.int .i64 (if aD<aC then aD else aC),.int .i64 (if aD>aC then aD else aC)]]:List (List Value)) [((if aD<aC then aD else aC),(if aD>aC then aD else aC))] from⟨(D2 (F8 aK aJ) (F8 aK aJ)),trivial⟩)]|exact congrArg (·+1) (F2.length (F2.append fu9 (show F2 (J4.R k10) ([[.int .i64 (if aB<aA then aB else aA),.int .i64 (if aB>aA then aB else aA)]]:List (List Value)) [((if aB<aA then aB else aA),(if aB>aA then aB else aA))] from⟨(D2 (F8 aG aF) (F8 aG aF)),trivial⟩))))) ?_
     refine aI rfl (aI (by trivial) (aI (by trivial) (eX m11 (aI ⟨(IntKind.i64.wrap (u8+1)),((wu9++([[.int .i64 (if aB<aA then aB else aA),.int .i64 (if aB>aA then aB else aA)]]:List (List Value)))++([[.int .i64 (if aD<aC then aD else aC),.int .i64 (if aD>aC then aD else aC)]]:List (List Value))),((u9 ++ [((if aB<aA then aB else aA),(if aB>aA then aB else aA))]) ++ [((if aD<aC then aD else aC),(if aD>aC then aD else aC))]),rfl,rfl,aO,(N0 _),(F2.append (F2.append fu9 (show F2 (J4.R k10) ([[.int .i64 (if aB<aA then aB else aA),.int .i64 (if aB>aA then aB else aA)]]:List (List Value)) [((if aB<aA then aB else aA),(if aB>aA then aB else aA))] from⟨(D2 (F8 aG aF) (F8 aG aF)),trivial⟩)) (show F2 (J4.R k10) ([[.int .i64 (if aD<aC then aD else aC),.int .i64 (if aD>aC then aD else aC)]]:List (List Value)) [((if aD<aC then aD else aC),(if aD>aC then aD else aC))] from⟨(D2 (F8 aK aJ) (F8 aK aJ)),trivial⟩)),aH⟩ (nS _)))))
    ·replace aH:=ifN aH aR
     refine aI rfl (aI (by trivial) (aI (by trivial) (eX m11 (aI ⟨(IntKind.i64.wrap (u8+1)),(wu9++([[.int .i64 (if aB<aA then aB else aA),.int .i64 (if aB>aA then aB else aA)]]:List (List Value))),(u9 ++ [((if aB<aA then aB else aA),(if aB>aA then aB else aA))]),rfl,rfl,aO,(N0 _),(F2.append fu9 (show F2 (J4.R k10) ([[.int .i64 (if aB<aA then aB else aA),.int .i64 (if aB>aA then aB else aA)]]:List (List Value)) [((if aB<aA then aB else aA),(if aB>aA then aB else aA))] from⟨(D2 (F8 aG aF) (F8 aG aF)),trivial⟩)),aH⟩ (nS _)))))
   ·replace aH:=ifN aH aQ
    refine aI (fun aS=>?_) (fun aS=>?_)
    ·replace aH:=ifP aH aS
     obtain⟨q20,bS,aH⟩:=l0 aH
     refine aI (L1 bS (by first|rw[F2.length fu9,F2.length (show F2 (J4.R k10) ([[.int .i64 (if aD<aC then aD else aC),.int .i64 (if aD>aC then aD else aC)]]:List (List Value)) [((if aD<aC then aD else aC),(if aD>aC then aD else aC))] from⟨(D2 (F8 aK aJ) (F8 aK aJ)),trivial⟩)]|exact congrArg (·+1) (F2.length fu9))) ?_
     refine aI rfl (aI (by trivial) (aI (by trivial) (eX m11 (aI ⟨(IntKind.i64.wrap (u8+1)),(wu9++([[.int .i64 (if aD<aC then aD else aC),.int .i64 (if aD>aC then aD else aC)]]:List (List Value))),(u9 ++ [((if aD<aC then aD else aC),(if aD>aC then aD else aC))]),rfl,rfl,aO,(N0 _),(F2.append fu9 (show F2 (J4.R k10) ([[.int .i64 (if aD<aC then aD else aC),.int .i64 (if aD>aC then aD else aC)]]:List (List Value)) [((if aD<aC then aD else aC),(if aD>aC then aD else aC))] from⟨(D2 (F8 aK aJ) (F8 aK aJ)),trivial⟩)),aH⟩ (nS _)))))
    ·replace aH:=ifN aH aS
     refine aI rfl (aI (by trivial) (aI (by trivial) (eX m11 (aI ⟨(IntKind.i64.wrap (u8+1)),wu9,u9,rfl,rfl,aO,(N0 _),fu9,aH⟩ (nS _)))))
  ·replace aH:=ifN aH aP
   have hE:=oJ aH;subst hE
   try dsimp only[T0,V0]at aL
   refine aI rfl (aI (by trivial) (aI (by trivial) (eX m5 (aI ⟨(IntKind.i64.wrap (u2+1)),wu9,u9,rfl,rfl,(cC.trans aO),(N0 _),fu9,aL⟩ (nS _)))))
 ·replace aL:=ifN aL bC
  have hE:=oJ aL;subst hE
  try dsimp only[T0,V0]at aT
  intro v25 k26 f27
  obtain⟨az28,cz28,rfl,rz28,sz28,lz28⟩:=Z0.out (r:=J4.toRp) f27 fu3
  have hE:=oJ aT;subst hE
  exact⟨az28,u3.length,cz28,rfl,rz28,(cC.trans sz28)⟩
theorem Z0b(h:Hp)(aN:List Value)(p0:j0)(rp0:W0.R h aN p0)(r:K4×Bool)(aA:J9 p0=some r):
  Tr Tryz.prog 261 #[.agg aN.toArray] h fun v h'=>∃(cs0:List Value),v = .tuple #[.agg cs0.toArray,.bool r.2]∧J4.R h' cs0 r.1∧Sub h h':=by
 obtain⟨aB,aC,aD,aS,aF,aK,rfl,rfl,aH,aJ,aG⟩:=B0 rp0
 obtain⟨rfl,aT⟩:=Sl.len aG
 unfold J9 at aA
 dsimp only at aA
 refine Y1 (args:=[.agg #[.int .i64 aB,.int .i64 aC,.slice aD aK.length aF]]) (fn:=Tryz.f261) rfl ?_
 obtain⟨x1,aW,aA⟩:=l0 aA
 refine Tr.val (i7 _ [.int .i64 aB,.int .i64 aC,.slice aD aK.length aF] (aB,aC,aK) (z0 aH aJ aG) _  aW) ?_
 refine aI (fun aO=>?_) (fun aO=>?_)
 ·replace aA:=ifP aA aO
  have hE:=oJ aA;subst hE
  exact⟨([.int .i64 0,.int .i64 0]),rfl,(D2 (by decide) (by decide)),(Sub.refl _)⟩
 ·replace aA:=ifN aA aO
  obtain⟨x3,aX,aA⟩:=l0 aA
  refine Tr.mono (d0f _ [.int .i64 aB,.int .i64 aC,.slice aD aK.length aF] (aB,aC,aK) (z0 aH aJ aG) _  aX) ?_
  rintro v5 k4 ⟨bD,bE,bF,rfl,aU,aV⟩
  obtain⟨rfl,bG⟩:=Sl.len aU
  refine aI (fun aP=>?_) (fun aP=>?_)
  ·replace aA:=ifP aA aP
   have hE:=oJ aA;subst hE
   exact⟨([.int .i64 0,.int .i64 0]),rfl,(D2 (by decide) (by decide)),aV⟩
  ·replace aA:=ifN aA aP
   obtain⟨x7,aY,aA⟩:=l0 aA
   obtain⟨aZ,bA,bB,bC⟩:=Sl.getI (r:=J4.toRp) aU aY (by decide)
   refine aI aZ ?_
   obtain⟨aQ,aR,rfl,rfl,aL,aM⟩:=W02 bC
   try dsimp only at aA
   refine eX _ (aI bB ?_)
   have hE:=oJ aA;subst hE
   exact⟨([.int .i64 aQ,.int .i64 aR]),rfl,(D2 aL aM),aV⟩
theorem N0a(h:Hp)(p0:Int)(ip0:M0 p0)(aB:List Value)(p1:K4)(rp1:J4.R h aB p1)(r:Int)(aA:d02 p0 p1=some r):
  Tr Tryz.prog 281 #[.int .i64 p0,.agg aB.toArray] h fun v h'=>v = .int .i64 r∧h'=h:=by
 obtain⟨aC,aD,rfl,rfl,aJ,aK⟩:=W02 rp1
 unfold d02 at aA
 dsimp only at aA
 refine Tr.forget (Y1 (args:=[.int .i64 p0,.agg #[.int .i64 aC,.int .i64 aD]]) (fn:=Tryz.f281) rfl ?_)
 refine aI (fun aF=>?_) (fun aF=>?_)
 ·replace aA:=ifP aA aF
  refine aI (fun aG=>?_) (fun aG=>?_)
  ·replace aA:=ifP aA aG
   have hE:=oJ aA;subst hE
   exact aI rfl (Sub.refl _)
  ·replace aA:=ifN aA aG
   have hE:=oJ aA;subst hE
   exact aI rfl (Sub.refl _)
 ·replace aA:=ifN aA aF
  refine aI (fun aH=>?_) (fun aH=>?_)
  ·replace aA:=ifP aA aH
   have hE:=oJ aA;subst hE
   exact aI rfl (Sub.refl _)
  ·replace aA:=ifN aA aH
   have hE:=oJ aA;subst hE
   exact aI rfl (Sub.refl _)
theorem Z07(h:Hp)(bE:List Value)(p0:j0)(rp0:W0.R h bE p0)(bF:List Value)(p1:K4)(rp1:J4.R h bF p1)(r:j0×Bool)(aB:B7 p0 p1=some r):
  Tr Tryz.prog 262 #[.agg bE.toArray,.agg bF.toArray] h fun v h'=>∃(cs0:List Value),v = .tuple #[.agg cs0.toArray,.bool r.2]∧W0.R h' cs0 r.1∧Sub h h':=by
 obtain⟨aG,aH,aJ,bZ,aK,aN,rfl,rfl,aL,aO,aF⟩:=B0 rp0
 obtain⟨rfl,cA⟩:=Sl.len aF
 obtain⟨aC,aD,rfl,rfl,aP,aQ⟩:=W02 rp1
 unfold B7 at aB
 dsimp only at aB
 refine Y1 (args:=[.agg #[.int .i64 aG,.int .i64 aH,.slice aJ aN.length aK],.agg #[.int .i64 aC,.int .i64 aD]]) (fn:=Tryz.f262) rfl ?_
 obtain⟨x1,cH,aB⟩:=l0 aB
 refine Tr.val (i7 _ [.int .i64 aG,.int .i64 aH,.slice aJ aN.length aK] (aG,aH,aN) (z0 aL aO aF) _  cH) ?_
 refine aI (fun bG=>?_) (fun bG=>?_)
 ·replace aB:=ifP aB bG
  obtain⟨x3,cI,aB⟩:=l0 aB
  refine Tr.mono (j7 _ [.int .i64 aG,.int .i64 aH,.slice aJ aN.length aK] (aG,aH,aN) (z0 aL aO aF) _  cI) ?_
  rintro v5 k4 ⟨cJ,rfl,cK,cL⟩
  obtain⟨bH,bI,aW,cC,aX,cM,rfl,rfl,aY,aZ,aR⟩:=B0 cK
  obtain⟨rfl,cD⟩:=Sl.len aR
  try dsimp only at aB
  have hE:=oJ aB;subst hE
  exact⟨([.int .i64 bH,.int .i64 bI,.slice aW cM.length aX]),rfl,(z0 aY aZ aR),cL⟩
 ·replace aB:=ifN aB bG
  obtain⟨X6,bJ,aB⟩:=l0 aB
  refine eX { vars:=[7],boxes:=[3],owns:=[],fuel:=true } (eX (fun vs os h'=>∃(u7:Int) (u8:Int) (u9:Int) (au10:Option Addr) (nu10 cu10:Nat) (u10:I0),vs.tail = [.int .i64 u7,.int .i64 u8,.int .i64 u9,.slice au10 nu10 cu10]∧os = []∧Sub h h'∧M0 u7∧M0 u8∧M0 u9∧F0.R h' [.slice au10 nu10 cu10] u10∧l4 aN aC aD (K1 vs) u7 u8 u9 u10=some X6) (eX (fun _ _=>0) ?_))
  refine aI (eX S0 ⟨0,aG,(IntKind.i64.wrap (aH-1)),none,0,0,[],rfl,rfl,(Sub.refl _),(by decide),aL,(N0 _),(z0b P0 h),bJ⟩) ?_
  rintro v_0 v_1 v_2 v_3 m12 k11 ⟨u7,u8,u9,au10,nu10,cu10,u10,bK,bL,cE,iu7,iu8,iu9,ru10,aA⟩
  cases bK
  cases bL
  replace aA:l4 aN aC aD m12 u7 u8 u9 u10=some X6:=aA
  obtain _|m12:=m12
  ·cases (show(none:Option _)=some X6 from aA)
  rw[l4.eq_2]at aA
  obtain⟨rfl,lu10⟩:=Sl.len ru10
  refine aI (fun aS=>?_) (fun aS=>?_)
  ·replace aA:=ifP aA aS
   obtain⟨x14,bM,aA⟩:=l0 aA
   obtain⟨bN,cG,bO,bP⟩:=Sl.getI (r:=P0.toRp) (F0.mono cE aF) bM (by decide)
   refine aI bN ?_
   obtain⟨bA,aM,bB,rfl,rfl,aT,aU,aV⟩:=I1 bP
   try dsimp only at aA
   refine eX _ (aI bO ?_)
   refine Or.inr (Or.inr (Or.inl (aI (aI (by kernel_rfl) (by kernel_rfl)) ?_)))
   obtain⟨x15,bQ,aA⟩:=l0 aA
   obtain⟨q16,bR,aA⟩:=l0 aA
   have bS:M0 x15:=O1 bR
   refine Or.inl (eX (.val (.int .i64 x15)) (aI ?_ ?_))
   ·intro k17 s18
    exact Tr.val (N0a _ bA aT [.int .i64 aC,.int .i64 aD] (aC,aD) (D2 aP aQ) _ bQ) (aI rfl (aI rfl rfl))
   obtain⟨x19,bT,aA⟩:=l0 aA
   obtain⟨q20,bU,aA⟩:=l0 aA
   have bV:M0 x19:=O1 bU
   refine Or.inl (eX (.val (.int .i64 x19)) (aI ?_ ?_))
   ·intro k21 s22
    exact Tr.val (N0a _ bB aV [.int .i64 aC,.int .i64 aD] (aC,aD) (D2 aP aQ) _ bT) (aI rfl (aI rfl rfl))
   refine Or.inl (eX (.agg [.val (.int .i64 x15),.val (.int .i64 aM),.val (.int .i64 x19)]) (aI ?_ ?_))
   ·intro k23 s24
    exact aI rfl (aI rfl rfl)
   refine Or.inr ?_
   refine Or.inr ?_
   refine Or.inl (eX 1 (aI (aI rfl rfl) ?_))
   obtain⟨x25,bW,aA⟩:=l0 aA
   refine Tr.mono (u00 _ au10 u10.length cu10 u10 ru10 [.int .i64 x15,.int .i64 aM,.int .i64 x19] (x15,aM,x19) (D1 bS aU bV) _  bW) ?_
   rintro v27 k26 ⟨bX,cN,bY,rfl,bC,bD⟩
   obtain⟨rfl,cO⟩:=Sl.len bC
   refine aI (aI rfl bD) (aI (by first|exact trivial|exact rfl) ?_)
   refine aI trivial (aI (by first|exact trivial|exact rfl) ?_)
   refine aI rfl (aI (by trivial) (aI (by trivial) (eX m12 (aI ⟨(IntKind.i64.wrap (u7+1)),u8,u9,bX,x25.length,bY,x25,rfl,rfl,(cE.trans bD),(N0 _),iu8,iu9,bC,aA⟩ (nS _)))))
  ·replace aA:=ifN aA aS
   have hE:=oJ aA;subst hE
   try dsimp only[T0,V0]at aB
   have hE:=oJ aB;subst hE
   exact⟨([.int .i64 u8,.int .i64 u9,.slice au10 u10.length cu10]),rfl,(z0 iu8 iu9 ru10),cE⟩
theorem V0c(h:Hp)(bF:List Value)(p0:j0)(rp0:W0.R h bF p0)(r:j0×K4×Bool)(aA:d01 p0=some r):
  Tr Tryz.prog 238 #[.agg bF.toArray] h fun v h'=>∃(cs0:List Value) (cs1:List Value),v = .tuple #[.agg cs0.toArray,.agg cs1.toArray,.bool r.2.2]∧W0.R h' cs0 r.1∧J4.R h' cs1 r.2.1∧Sub h h':=by
 obtain⟨aB,aC,aG,bM,aH,aW,rfl,rfl,aN,aO,aJ⟩:=B0 rp0
 obtain⟨rfl,bN⟩:=Sl.len aJ
 unfold d01 at aA
 dsimp only at aA
 refine Y1 (args:=[.agg #[.int .i64 aB,.int .i64 aC,.slice aG aW.length aH]]) (fn:=Tryz.f238) rfl ?_
 obtain⟨x1,bR,aA⟩:=l0 aA
 refine Tr.mono (Z0b _ [.int .i64 aB,.int .i64 aC,.slice aG aW.length aH] (aB,aC,aW) (z0 aN aO aJ) _  bR) ?_
 rintro v3 k2 ⟨bG,rfl,aT,bO⟩
 obtain⟨bS,bT⟩:=x1
 dsimp only at aA aT
 obtain⟨aD,aF,rfl,rfl,aK,aL⟩:=W02 aT
 try dsimp only at aA
 refine aI (fun bH=>?_) (fun bH=>?_)
 ·replace aA:=ifP aA bH
  obtain⟨x5,bU,aA⟩:=l0 aA
  refine Tr.mono (j7 _ [.int .i64 aB,.int .i64 aC,.slice aG aW.length aH] (aB,aC,aW) (z0 aN aO (F0.mono bO aJ)) _  bU) ?_
  rintro v7 k6 ⟨bV,rfl,bW,bX⟩
  obtain⟨bI,bJ,aZ,bP,bA,bY,rfl,rfl,bB,bC,aU⟩:=B0 bW
  obtain⟨rfl,bQ⟩:=Sl.len aU
  try dsimp only at aA
  have hE:=oJ aA;subst hE
  exact⟨([.int .i64 bI,.int .i64 bJ,.slice aZ bY.length bA]),([.int .i64 0,.int .i64 0]),rfl,(z0 bB bC aU),(D2 (by decide) (by decide)),(bO.trans bX)⟩
 ·replace aA:=ifN aA bH
  obtain⟨x8,bZ,aA⟩:=l0 aA
  refine Tr.mono (Z07 _ [.int .i64 aB,.int .i64 aC,.slice aG aW.length aH] (aB,aC,aW) (z0 aN aO (F0.mono bO aJ)) [.int .i64 aD,.int .i64 aF] (aD,aF) (D2 aK aL) _  bZ) ?_
  rintro v10 k9 ⟨bK,rfl,aV,cA⟩
  obtain⟨cC,cD⟩:=x8
  dsimp only at aA aV
  obtain⟨aX,aY,aP,bD,aQ,bL,rfl,rfl,aR,aS,aM⟩:=B0 aV
  obtain⟨rfl,bE⟩:=Sl.len aM
  try dsimp only at aA
  refine Or.inr (Or.inr (Or.inl (aI (aI (by kernel_rfl) (by kernel_rfl)) ?_)))
  refine Or.inr ?_
  refine Or.inr ?_
  refine Or.inl (eX 0 (aI (aI rfl rfl) ?_))
  refine aI trivial (aI (by first|exact trivial|exact rfl) ?_)
  refine aI trivial (aI (by first|exact trivial|exact rfl) ?_)
  have hE:=oJ aA;subst hE
  exact⟨([.int .i64 aX,.int .i64 aY,.slice aP bL.length aQ]),([.int .i64 aD,.int .i64 aF]),rfl,(z0 aR aS aM),(D2 aK aL),(bO.trans cA)⟩
theorem e0f(h:Hp)(bL:List Value)(p0:j0)(rp0:W0.R h bL p0)(r:j0×N8)(aJ:N01 p0=some r):
  Tr Tryz.prog 210 #[.agg bL.toArray] h fun v h'=>∃(cs0:List Value) (a1:Option Addr) (n1 c1:Nat),v = .tuple #[.agg cs0.toArray,.slice a1 n1 c1]∧W0.R h' cs0 r.1∧z0h.R h' [.slice a1 n1 c1] r.2∧Sub h h':=by
 obtain⟨aX,aY,aT,bV,aU,bM,rfl,rfl,bB,bC,aV⟩:=B0 rp0
 obtain⟨rfl,bW⟩:=Sl.len aV
 unfold N01 at aJ
 dsimp only at aJ
 refine Y1 (args:=[.agg #[.int .i64 aX,.int .i64 aY,.slice aT bM.length aU]]) (fn:=Tryz.f210) rfl ?_
 obtain⟨x1,cE,aJ⟩:=l0 aJ
 refine Tr.mono (j7 _ [.int .i64 aX,.int .i64 aY,.slice aT bM.length aU] (aX,aY,bM) (z0 bB bC aV) _  cE) ?_
 rintro v3 k2 ⟨cG,rfl,cH,cI⟩
 obtain⟨bN,bO,bD,bX,bE,bP,rfl,rfl,bF,bG,aW⟩:=B0 cH
 obtain⟨rfl,bY⟩:=Sl.len aW
 try dsimp only at aJ
 obtain⟨X4,bQ,aJ⟩:=l0 aJ
 refine eX { vars:=[6],boxes:=[2],owns:=[0],fuel:=true } (eX (fun vs os h'=>∃(u5:Int) (u6:Int) (u7:Int) (au8:Option Addr) (nu8 cu8:Nat) (u8:I0) (wu9:List (List Value)) (u9:List K4),vs.tail = [.int .i64 u5,.int .i64 u6,.int .i64 u7,.slice au8 nu8 cu8]∧os = [wu9]∧Sub k2 h'∧M0 u5∧M0 u6∧M0 u7∧F0.R h' [.slice au8 nu8 cu8] u8∧F2 (J4.R h') wu9 u9∧A6 (K1 vs) u5 u6 u7 u8 u9=some X4) (eX (fun _ _=>0) ?_))
 refine aI (eX S0 ⟨0,bN,bO,bD,bP.length,bE,bP,[],([]:N8),rfl,rfl,(Sub.refl _),(by decide),bF,bG,aW,(show F2 (J4.R k2) ([]:List (List Value)) ([]:N8) from trivial),bQ⟩) ?_
 rintro v_0 v_1 v_2 v_3 wu9 m11 k10 ⟨u5,u6,u7,au8,nu8,cu8,u8,zzu9,u9,bR,bS,bZ,iu5,iu6,iu7,ru8,fu9,aC⟩
 cases bR
 cases bS
 replace aC:A6 m11 u5 u6 u7 u8 u9=some X4:=aC
 obtain _|m11:=m11
 ·cases (show(none:Option _)=some X4 from aC)
 rw[A6.eq_2]at aC
 obtain⟨rfl,lu8⟩:=Sl.len ru8
 refine aI (fun aZ=>?_) (fun aZ=>?_)
 ·replace aC:=ifP aC aZ
  obtain⟨x13,bT,aC⟩:=l0 aC
  refine Tr.mono (V0c _ [.int .i64 u6,.int .i64 u7,.slice au8 u8.length cu8] (u6,u7,u8) (z0 iu6 iu7 ru8) _  bT) ?_
  rintro v15 k14 ⟨bJ,bK,rfl,aK,aL,aH⟩
  obtain⟨cA,cC,cD⟩:=x13
  dsimp only at aC aK aL
  obtain⟨aQ,aR,aM,bH,aN,aS,rfl,rfl,aO,aP,aD⟩:=B0 aK
  obtain⟨rfl,bI⟩:=Sl.len aD
  try dsimp only at aC
  obtain⟨aA,aB,rfl,rfl,aF,aG⟩:=W02 aL
  try dsimp only at aC
  refine aI (fun bA=>?_) (fun bA=>?_)
  ·replace aC:=ifP aC bA
   intro v17 k18 f19
   obtain⟨az20,cz20,rfl,rz20,sz20,lz20⟩:=Z0.out (r:=J4.toRp) f19 (F2.up (r:=J4.toRp) aH fu9)
   have hE:=oJ aC;subst hE
   try dsimp only[S3,W3]at aJ
   have hE:=oJ aJ;subst hE
   exact⟨([.int .i64 u6,.int .i64 u7,.slice au8 u8.length cu8]),az20,u9.length,cz20,rfl,(z0 iu6 iu7 (F0.mono (aH.trans sz20) ru8)),rz20,(((cI.trans bZ).trans aH).trans sz20)⟩
  ·replace aC:=ifN aC bA
   obtain⟨q21,bU,aC⟩:=l0 aC
   refine aI (L1 bU (by first|rw[F2.length (F2.up (r:=J4.toRp) aH fu9),F2.length (show F2 (J4.R k14) ([[.int .i64 aA,.int .i64 aB]]:List (List Value)) [(aA,aB)] from⟨(D2 aF aG),trivial⟩)]|exact congrArg (·+1) (F2.length (F2.up (r:=J4.toRp) aH fu9)))) ?_
   refine aI rfl (aI (by trivial) (aI (by trivial) (eX m11 (aI ⟨(IntKind.i64.wrap (u5+1)),aQ,aR,aM,aS.length,aN,aS,(wu9++([[.int .i64 aA,.int .i64 aB]]:List (List Value))),(u9 ++ [(aA,aB)]),rfl,rfl,(bZ.trans aH),(N0 _),aO,aP,aD,(F2.append (F2.up (r:=J4.toRp) aH fu9) (show F2 (J4.R k14) ([[.int .i64 aA,.int .i64 aB]]:List (List Value)) [(aA,aB)] from⟨(D2 aF aG),trivial⟩)),aC⟩ (nS _)))))
 ·replace aC:=ifN aC aZ
  have hE:=oJ aC;subst hE
  try dsimp only[T0,V0]at aJ
  intro v22 k23 f24
  obtain⟨az25,cz25,rfl,rz25,sz25,lz25⟩:=Z0.out (r:=J4.toRp) f24 fu9
  have hE:=oJ aJ;subst hE
  exact⟨([.int .i64 u6,.int .i64 u7,.slice au8 u8.length cu8]),az25,u9.length,cz25,rfl,(z0 iu6 iu7 (F0.mono sz25 ru8)),rz25,((cI.trans bZ).trans sz25)⟩
theorem a0c(h:Hp)(aR:List Value)(p0:j0)(rp0:W0.R h aR p0)(r:j0×Bool)(aA:G00 p0=some r):
  Tr Tryz.prog 129 #[.agg aR.toArray] h fun v h'=>∃(cs0:List Value),v = .tuple #[.agg cs0.toArray,.bool r.2]∧W0.R h' cs0 r.1∧Sub h h':=by
 obtain⟨aC,aB,aD,aV,aF,aO,rfl,rfl,aJ,aK,aG⟩:=B0 rp0
 obtain⟨rfl,aW⟩:=Sl.len aG
 unfold G00 at aA
 dsimp only at aA
 refine Y1 (args:=[.agg #[.int .i64 aC,.int .i64 aB,.slice aD aO.length aF]]) (fn:=Tryz.f129) rfl ?_
 obtain⟨x1,aZ,aA⟩:=l0 aA
 refine Tr.mono (j7 _ [.int .i64 aC,.int .i64 aB,.slice aD aO.length aF] (aC,aB,aO) (z0 aJ aK aG) _  aZ) ?_
 rintro v3 k2 ⟨bA,rfl,bB,aS⟩
 obtain⟨aP,aT,aL,aX,aM,bC,rfl,rfl,aN,aQ,aH⟩:=B0 bB
 obtain⟨rfl,aY⟩:=Sl.len aH
 try dsimp only at aA
 obtain⟨x4,bD,aA⟩:=l0 aA
 refine Tr.val (i7 _ [.int .i64 aC,.int .i64 aB,.slice aD aO.length aF] (aC,aB,aO) (z0 aJ aK (F0.mono aS aG)) _  bD) ?_
 refine aI (fun aU=>?_) (fun aU=>?_)
 ·replace aA:=ifP aA aU
  have hE:=oJ aA;subst hE
  exact⟨([.int .i64 aP,.int .i64 aT,.slice aL bC.length aM]),rfl,(z0 aN aQ aH),aS⟩
 ·replace aA:=ifN aA aU
  have hE:=oJ aA;subst hE
  exact⟨([.int .i64 aP,.int .i64 (IntKind.i64.wrap (aB+1)),.slice aL bC.length aM]),rfl,(z0 aN (N0 _) aH),aS⟩
theorem D08(h:Hp)(aU:List Value)(p0:j0)(rp0:W0.R h aU p0)(r:I0)(aP:W7 p0=some r):
  Tr Tryz.prog 186 #[.agg aU.toArray] h fun v h'=>∃(a0:Option Addr) (n0 c0:Nat),v = .slice a0 n0 c0∧F0.R h' [.slice a0 n0 c0] r∧Sub h h':=by
 obtain⟨aB,aC,aH,bN,aJ,aF,rfl,rfl,aK,aM,aL⟩:=B0 rp0
 obtain⟨rfl,bO⟩:=Sl.len aL
 unfold W7 at aP
 dsimp only at aP
 refine Y1 (args:=[.agg #[.int .i64 aB,.int .i64 aC,.slice aH aF.length aJ]]) (fn:=Tryz.f186) rfl ?_
 obtain⟨X1,aV,aP⟩:=l0 aP
 refine eX { vars:=[4],boxes:=[],owns:=[0],fuel:=true } (eX (fun vs os h'=>∃(u2:Int) (wu3:List (List Value)) (u3:List H0),vs.tail = [.int .i64 u2]∧os = [wu3]∧Sub h h'∧M0 u2∧F2 (P0.R h') wu3 u3∧M4 aC aB aF (K1 vs) u2 u3=some X1) (eX (fun _ _=>0) ?_))
 refine aI (eX S0 ⟨0,[],([]:I0),rfl,rfl,(Sub.refl _),(by decide),(show F2 (P0.R h) ([]:List (List Value)) ([]:I0) from trivial),aV⟩) ?_
 rintro v_0 wu3 m5 k4 ⟨u2,zzu3,u3,aW,aX,bR,iu2,fu3,aD⟩
 cases aW
 cases aX
 replace aD:M4 aC aB aF m5 u2 u3=some X1:=aD
 obtain _|m5:=m5
 ·cases (show(none:Option _)=some X1 from aD)
 rw[M4.eq_2]at aD
 obtain⟨x6,bS,aD⟩:=l0 aD
 refine eX (.bool x6) (aI (fun q=>t6 _ [.int .i64 aB,.int .i64 aC,.slice aH aF.length aJ] (aB,aC,aF) (z0 aK aM (F0.mono bR aL)) _  (F1 bS q)) ?_)
 refine aI (fun aY=>?_) (fun aY=>?_)
 ·replace aD:=ifP aD aY
  obtain⟨x8,bT,aD⟩:=l0 aD
  refine Tr.mono (i02 _ aB aK _  bT) ?_
  rintro v10 k9 ⟨bV,bW,bX,rfl,aZ,bA⟩
  obtain⟨rfl,bY⟩:=Sl.len aZ
  obtain⟨X11,aQ,aD⟩:=l0 aD
  refine eX { vars:=[6],boxes:=[],owns:=[0],fuel:=true } (eX (fun vs os h'=>∃(u12:Int) (wu13:List (List Value)) (u13:List H0),vs.tail = [.int .i64 u12]∧os = [wu13]∧Sub k9 h'∧M0 u12∧F2 (P0.R h') wu13 u13∧B3 x8 aB aC aF u2 (K1 vs) u12 u13=some X11) (eX (fun _ _=>0) ?_))
  refine aI (eX S0 ⟨0,wu3,u3,rfl,rfl,(Sub.refl _),(by decide),(F2.up (r:=P0.toRp) bA fu3),aQ⟩) ?_
  rintro v_0 wu13 m15 k14 ⟨u12,zzu13,u13,aR,aS,aG,iu12,fu13,aA⟩
  cases aR
  cases aS
  replace aA:B3 x8 aB aC aF u2 m15 u12 u13=some X11:=aA
  obtain _|m15:=m15
  ·cases (show(none:Option _)=some X11 from aA)
  rw[B3.eq_2]at aA
  refine aI (fun aN=>?_) (fun aN=>?_)
  ·replace aA:=ifP aA aN
   refine Or.inl (aI (aI (by kernel_rfl) (by kernel_rfl)) ?_)
   obtain⟨x17,bB,aA⟩:=l0 aA
   obtain⟨bC,bP,bD,bE⟩:=Sl.getI (r:=Wp.int.toRp) (J0.mono aG aZ) bB (by decide)
   refine aI bC ?_
   obtain⟨rfl,bF⟩:=bE
   refine eX _ (aI bD ?_)
   obtain⟨x18,bG,aA⟩:=l0 aA
   refine eX (.int .i64 x18) (aI (d9 _ [.int .i64 aB,.int .i64 aC,.slice aH aF.length aJ] (aB,aC,aF) (z0 aK aM (F0.mono ((bR.trans bA).trans aG) aL)) u2 iu2 x17 bF _  bG) ?_)
   obtain⟨q19,bH,aA⟩:=l0 aA
   have bU:M0 x18:=O1 bH
   refine aI (fun aO=>?_) (fun aO=>?_)
   ·replace aA:=ifP aA aO
    obtain⟨x21,bI,aA⟩:=l0 aA
    obtain⟨bJ,bQ,bK,bL⟩:=Sl.getI (r:=Wp.int.toRp) (J0.mono aG aZ) bI (by decide)
    refine aI bJ ?_
    obtain⟨rfl,aT⟩:=bL
    refine eX _ (aI bK ?_)
    obtain⟨q22,bM,aA⟩:=l0 aA
    refine aI (L1 bM (by first|rw[F2.length fu13,F2.length (show F2 (P0.R k14) ([[.int .i64 u2,.int .i64 x21,.int .i64 (-1)]]:List (List Value)) [(u2,x21,(-1))] from⟨(D1 iu2 aT (by decide)),trivial⟩)]|exact congrArg (·+1) (F2.length fu13))) ?_
    refine aI rfl (aI (by trivial) (aI (by trivial) (eX m15 (aI ⟨(IntKind.i64.wrap (u12+1)),(wu13++([[.int .i64 u2,.int .i64 x21,.int .i64 (-1)]]:List (List Value))),(u13 ++ [(u2,x21,(-1))]),rfl,rfl,aG,(N0 _),(F2.append fu13 (show F2 (P0.R k14) ([[.int .i64 u2,.int .i64 x21,.int .i64 (-1)]]:List (List Value)) [(u2,x21,(-1))] from⟨(D1 iu2 aT (by decide)),trivial⟩)),aA⟩ (nS _)))))
   ·replace aA:=ifN aA aO
    refine aI rfl (aI (by trivial) (aI (by trivial) (eX m15 (aI ⟨(IntKind.i64.wrap (u12+1)),wu13,u13,rfl,rfl,aG,(N0 _),fu13,aA⟩ (nS _)))))
  ·replace aA:=ifN aA aN
   have hE:=oJ aA;subst hE
   try dsimp only[T0,V0]at aD
   refine aI rfl (aI (by trivial) (aI (by trivial) (eX m5 (aI ⟨(IntKind.i64.wrap (u2+1)),wu13,u13,rfl,rfl,((bR.trans bA).trans aG),(N0 _),fu13,aD⟩ (nS _)))))
 ·replace aD:=ifN aD aY
  have hE:=oJ aD;subst hE
  try dsimp only[T0,V0]at aP
  intro v27 k28 f29
  obtain⟨az30,cz30,rfl,rz30,sz30,lz30⟩:=Z0.out (r:=P0.toRp) f29 fu3
  have hE:=oJ aP;subst hE
  exact⟨az30,u3.length,cz30,rfl,rz30,(bR.trans sz30)⟩
theorem b0c(h:Hp)(bU:List Value)(p0:j0)(rp0:W0.R h bU p0)(r:j0×C0)(aH:K00 p0=some r):
  Tr Tryz.prog 224 #[.agg bU.toArray] h fun v h'=>∃(cs0:List Value) (a1:Option Addr) (n1 c1:Nat),v = .tuple #[.agg cs0.toArray,.slice a1 n1 c1]∧W0.R h' cs0 r.1∧J0.R h' [.slice a1 n1 c1] r.2∧Sub h h':=by
 obtain⟨aB,aC,aJ,cO,aK,aG,rfl,rfl,aM,aN,aL⟩:=B0 rp0
 obtain⟨rfl,cP⟩:=Sl.len aL
 unfold K00 at aH
 dsimp only at aH
 refine Y1 (args:=[.agg #[.int .i64 aB,.int .i64 aC,.slice aJ aG.length aK]]) (fn:=Tryz.f224) rfl ?_
 obtain⟨x1,cV,aH⟩:=l0 aH
 refine Tr.mono (j7 _ [.int .i64 aB,.int .i64 aC,.slice aJ aG.length aK] (aB,aC,aG) (z0 aM aN aL) _  cV) ?_
 rintro v3 k2 ⟨cW,rfl,cX,dA⟩
 obtain⟨bV,bW,bE,cQ,bF,bX,rfl,rfl,bG,bH,aX⟩:=B0 cX
 obtain⟨rfl,cR⟩:=Sl.len aX
 try dsimp only at aH
 obtain⟨X4,bY,aH⟩:=l0 aH
 refine eX { vars:=[6],boxes:=[],owns:=[0],fuel:=true } (eX (fun vs os h'=>∃(u5:Int) (wu6:List (List Value)) (u6:List Int),vs.tail = [.int .i64 u5]∧os = [wu6]∧Sub k2 h'∧M0 u5∧F2 (Wp.int.R h') wu6 u6∧l6 aC aB aG (K1 vs) u5 u6=some X4) (eX (fun _ _=>0) ?_))
 refine aI (eX S0 ⟨0,[],([]:C0),rfl,rfl,(Sub.refl _),(by decide),(show F2 (Wp.int.R k2) ([]:List (List Value)) ([]:C0) from trivial),bY⟩) ?_
 rintro v_0 wu6 m8 k7 ⟨u5,zzu6,u6,bZ,cA,bI,iu5,fu6,aA⟩
 cases bZ
 cases cA
 replace aA:l6 aC aB aG m8 u5 u6=some X4:=aA
 obtain _|m8:=m8
 ·cases (show(none:Option _)=some X4 from aA)
 rw[l6.eq_2]at aA
 obtain⟨x9,cY,aA⟩:=l0 aA
 refine eX (.bool x9) (aI (fun q=>i7 _ [.int .i64 aB,.int .i64 aC,.slice aJ aG.length aK] (aB,aC,aG) (z0 aM aN (F0.mono (dA.trans bI) aL)) _  (F1 cY q)) ?_)
 refine aI (fun aY=>?_) (fun aY=>?_)
 ·replace aA:=ifP aA aY
  obtain⟨q11,cC,aA⟩:=l0 aA
  refine aI (L1 cC (by first|rw[F2.length fu6,F2.length (show F2 (Wp.int.R k7) ([[.int .i64 u5]]:List (List Value)) [u5] from⟨⟨rfl,iu5⟩,trivial⟩)]|exact congrArg (·+1) (F2.length fu6))) ?_
  refine aI rfl (aI (by trivial) (aI (by trivial) (eX m8 (aI ⟨(IntKind.i64.wrap (u5+1)),(wu6++([[.int .i64 u5]]:List (List Value))),(u6 ++ [u5]),rfl,rfl,bI,(N0 _),(F2.append fu6 (show F2 (Wp.int.R k7) ([[.int .i64 u5]]:List (List Value)) [u5] from⟨⟨rfl,iu5⟩,trivial⟩)),aA⟩ (nS _)))))
 ·replace aA:=ifN aA aY
  have hE:=oJ aA;subst hE
  try dsimp only[T0,V0]at aH
  obtain⟨X16,bJ,aH⟩:=l0 aH
  refine eX { vars:=[5,7],boxes:=[2],owns:=[],fuel:=true,pubs:=[5] } (eX (fun vs os h'=>∃(au17:Option Addr) (nu17 cu17:Nat) (u17:C0) (u18:Int) (u19:Int) (u20:Int) (au21:Option Addr) (nu21 cu21:Nat) (u21:I0),vs.tail = [.slice au17 nu17 cu17,.int .i64 u18,.int .i64 u19,.int .i64 u20,.slice au21 nu21 cu21]∧os = []∧Sub k7 h'∧J0.R h' [.slice au17 nu17 cu17] u17∧M0 u18∧M0 u19∧M0 u20∧F0.R h' [.slice au21 nu21 cu21] u21∧j6 aB aC aG (K1 vs) u17 u18 u19 u20 u21=some X16) (eX (fun _ _=>0) ?_))
  intro v12 k13 f14
  obtain⟨az15,cz15,rfl,rz15,sz15,lz15⟩:=Z0.out (r:=Wp.int.toRp) f14 fu6
  refine aI (eX S0 ⟨az15,u6.length,cz15,u6,0,bV,bW,bE,bX.length,bF,bX,rfl,rfl,sz15,rz15,(by decide),bG,bH,(F0.mono (bI.trans sz15) aX),bJ⟩) ?_
  rintro v_0 v_1 v_2 v_3 v_4 m23 k22 ⟨au17,nu17,cu17,u17,u18,u19,u20,au21,nu21,cu21,u21,bK,bL,aZ,ru17,iu18,iu19,iu20,ru21,aA⟩
  cases bK
  cases bL
  replace aA:j6 aB aC aG m23 u17 u18 u19 u20 u21=some X16:=aA
  obtain _|m23:=m23
  ·cases (show(none:Option _)=some X16 from aA)
  rw[j6.eq_2]at aA
  obtain⟨rfl,lu17⟩:=Sl.len ru17
  obtain⟨rfl,lu21⟩:=Sl.len ru21
  obtain⟨x24,cD,aA⟩:=l0 aA
  refine eX (.bool x24) (aI (fun q=>i7 _ [.int .i64 aB,.int .i64 aC,.slice aJ aG.length aK] (aB,aC,aG) (z0 aM aN (F0.mono ((dA.trans bI).trans aZ) aL)) _  (F1 cD q)) ?_)
  refine aI (fun bA=>?_) (fun bA=>?_)
  ·replace aA:=ifP aA bA
   obtain⟨x26,cE,aA⟩:=l0 aA
   refine Tr.val (c09 _ [.int .i64 u19,.int .i64 u20,.slice au21 u21.length cu21] (u19,u20,u21) (z0 iu19 iu20 ru21) _  cE) ?_
   obtain⟨q27,cG,aA⟩:=l0 aA
   have cZ:M0 x26:=O1 cG
   refine aI (fun bB=>?_) (fun bB=>?_)
   ·replace aA:=ifP aA bB
    have hE:=oJ aA;subst hE
    try dsimp only[S3,W3]at aH
    have hE:=oJ aH;subst hE
    exact⟨([.int .i64 u19,.int .i64 u20,.slice au21 u21.length cu21]),au17,u17.length,cu17,rfl,(z0 iu19 iu20 ru21),ru17,((dA.trans bI).trans aZ)⟩
   ·replace aA:=ifN aA bB
    obtain⟨X29,bM,aA⟩:=l0 aA
    refine eX { vars:=[11],boxes:=[],owns:=[1,2],fuel:=true } (eX (fun vs os h'=>∃(u30:Int) (wu31:List (List Value)) (u31:List Int) (wu32:List (List Value)) (u32:List Int),vs.tail = [.int .i64 u30]∧os = [wu31,wu32]∧Sub k22 h'∧M0 u30∧F2 (Wp.int.R h') wu31 u31∧F2 (Wp.int.R h') wu32 u32∧E5 u20 x26 u17 (K1 vs) u30 u31 u32=some X29) (eX (fun _ _=>0) ?_))
    refine aI (eX S0 ⟨0,[],([]:C0),[],([]:C0),rfl,rfl,(Sub.refl _),(by decide),(show F2 (Wp.int.R k22) ([]:List (List Value)) ([]:C0) from trivial),(show F2 (Wp.int.R k22) ([]:List (List Value)) ([]:C0) from trivial),bM⟩) ?_
    rintro v_0 wu31 wu32 m34 k33 ⟨u30,zzu31,u31,zzu32,u32,bN,bO,aT,iu30,fu31,fu32,aD⟩
    cases bN
    cases bO
    replace aD:E5 u20 x26 u17 m34 u30 u31 u32=some X29:=aD
    obtain _|m34:=m34
    ·cases (show(none:Option _)=some X29 from aD)
    rw[E5.eq_2]at aD
    refine aI (fun bC=>?_) (fun bC=>?_)
    ·replace aD:=ifP aD bC
     refine aI (fun bD=>?_) (fun bD=>?_)
     ·replace aD:=ifP aD bD
      obtain⟨q37,cH,aD⟩:=l0 aD
      refine aI (L1 cH (by first|rw[F2.length fu31,F2.length (show F2 (Wp.int.R k33) ([[.int .i64 u30]]:List (List Value)) [u30] from⟨⟨rfl,iu30⟩,trivial⟩)]|exact congrArg (·+1) (F2.length fu31))) ?_
      obtain⟨x38,cI,aD⟩:=l0 aD
      obtain⟨cJ,cS,cK,cL⟩:=Sl.getI (r:=Wp.int.toRp) (J0.mono aT ru17) cI (by decide)
      refine aI cJ ?_
      obtain⟨rfl,bP⟩:=cL
      refine eX _ (aI cK ?_)
      obtain⟨q39,cM,aD⟩:=l0 aD
      refine aI (L1 cM (by first|rw[F2.length fu32,F2.length (show F2 (Wp.int.R k33) ([[.int .i64 x38]]:List (List Value)) [x38] from⟨⟨rfl,bP⟩,trivial⟩)]|exact congrArg (·+1) (F2.length fu32))) ?_
      refine aI rfl (aI (by trivial) (aI (by trivial) (eX m34 (aI ⟨(IntKind.i64.wrap (u30+1)),(wu31++([[.int .i64 u30]]:List (List Value))),(u31 ++ [u30]),(wu32++([[.int .i64 x38]]:List (List Value))),(u32 ++ [x38]),rfl,rfl,aT,(N0 _),(F2.append fu31 (show F2 (Wp.int.R k33) ([[.int .i64 u30]]:List (List Value)) [u30] from⟨⟨rfl,iu30⟩,trivial⟩)),(F2.append fu32 (show F2 (Wp.int.R k33) ([[.int .i64 x38]]:List (List Value)) [x38] from⟨⟨rfl,bP⟩,trivial⟩)),aD⟩ (nS _)))))
     ·replace aD:=ifN aD bD
      refine aI rfl (aI (by trivial) (aI (by trivial) (eX m34 (aI ⟨(IntKind.i64.wrap (u30+1)),wu31,u31,wu32,u32,rfl,rfl,aT,(N0 _),fu31,fu32,aD⟩ (nS _)))))
    ·replace aD:=ifN aD bC
     have hE:=oJ aD;subst hE
     try dsimp only[T0,V0]at aA
     refine Or.inl ?_
     intro v40 k41 f42
     obtain⟨az43,cz43,rfl,rz43,sz43,lz43⟩:=Z0.out (r:=Wp.int.toRp) f42 fu31
     obtain⟨x44,cN,aA⟩:=l0 aA
     refine Tr.mono (X01 _ [.int .i64 u19,.int .i64 u20,.slice au21 u21.length cu21] (u19,u20,u21) (z0 iu19 iu20 (F0.mono (aT.trans sz43) ru21)) az43 u31.length cz43 u31 rz43 _  cN) ?_
     rintro v46 k45 ⟨bT,rfl,aO,bQ⟩
     obtain⟨cT,cU⟩:=x44
     dsimp only at aA aO
     obtain⟨aU,aV,aP,bR,aQ,aW,rfl,rfl,aR,aS,aF⟩:=B0 aO
     obtain⟨rfl,bS⟩:=Sl.len aF
     try dsimp only at aA
     intro v47 k48 f49
     obtain⟨az50,cz50,rfl,rz50,sz50,lz50⟩:=Z0.out (r:=Wp.int.toRp) f49 (F2.up (r:=Wp.int.toRp) (sz43.trans bQ) fu32)
     refine aI rfl (aI (by trivial) (aI (by trivial) (eX m23 (aI ⟨az50,u32.length,cz50,u32,(IntKind.i64.wrap (u18+1)),aU,aV,aP,aW.length,aQ,aW,rfl,rfl,((((aZ.trans aT).trans sz43).trans bQ).trans sz50),rz50,(N0 _),aR,aS,(F0.mono sz50 aF),aA⟩ (nS _)))))
  ·replace aA:=ifN aA bA
   have hE:=oJ aA;subst hE
   try dsimp only[T0,V0]at aH
   have hE:=oJ aH;subst hE
   exact⟨([.int .i64 u19,.int .i64 u20,.slice au21 u21.length cu21]),au17,u17.length,cu17,rfl,(z0 iu19 iu20 ru21),ru17,((dA.trans bI).trans aZ)⟩
theorem n06(h:Hp)(bN:List Value)(p0:j0)(rp0:W0.R h bN p0)(r:j0)(aA:E7 p0=some r):
  Tr Tryz.prog 178 #[.agg bN.toArray] h fun v h'=>∃(cs0:List Value),v = .agg cs0.toArray∧W0.R h' cs0 r∧Sub h h':=by
 obtain⟨aZ,bA,aR,bT,aS,bO,rfl,rfl,bD,bE,aT⟩:=B0 rp0
 obtain⟨rfl,bU⟩:=Sl.len aT
 unfold E7 at aA
 dsimp only at aA
 refine Y1 (args:=[.agg #[.int .i64 aZ,.int .i64 bA,.slice aR bO.length aS]]) (fn:=Tryz.f178) rfl ?_
 obtain⟨x1,cH,aA⟩:=l0 aA
 refine Tr.mono (e0f _ [.int .i64 aZ,.int .i64 bA,.slice aR bO.length aS] (aZ,bA,bO) (z0 bD bE aT) _  cH) ?_
 rintro v3 k2 ⟨bP,bV,bW,bX,rfl,aU,aV,cT⟩
 obtain⟨cI,cJ⟩:=x1
 dsimp only at aA aU aV
 obtain⟨aD,aF,aJ,bJ,aK,bB,rfl,rfl,aL,aM,aB⟩:=B0 aU
 obtain⟨rfl,bK⟩:=Sl.len aB
 try dsimp only at aA
 obtain⟨rfl,bY⟩:=Sl.len aV
 obtain⟨x4,cK,aA⟩:=l0 aA
 refine Tr.mono (b0c _ [.int .i64 aD,.int .i64 aF,.slice aJ bB.length aK] (aD,aF,bB) (z0 aL aM aB) _  cK) ?_
 rintro v6 k5 ⟨bQ,bZ,cA,cC,rfl,aW,aX,cL⟩
 obtain⟨cM,cN⟩:=x4
 dsimp only at aA aW aX
 obtain⟨aG,aH,aN,bL,aO,bC,rfl,rfl,aP,aQ,aC⟩:=B0 aW
 obtain⟨rfl,bM⟩:=Sl.len aC
 try dsimp only at aA
 obtain⟨rfl,cD⟩:=Sl.len aX
 obtain⟨x7,cO,aA⟩:=l0 aA
 refine Tr.mono (m03 _ [.int .i64 aG,.int .i64 aH,.slice aN bC.length aO] (aG,aH,bC) (z0 aP aQ aC) _  cO) ?_
 rintro v9 k8 ⟨cP,rfl,cQ,cR⟩
 obtain⟨bR,bS,bF,cE,bG,cS,rfl,rfl,bH,bI,aY⟩:=B0 cQ
 obtain⟨rfl,cG⟩:=Sl.len aY
 try dsimp only at aA
 have hE:=oJ aA;subst hE
 exact⟨([.int .i64 bR,.int .i64 bS,.slice bF cS.length bG]),rfl,(z0 bH bI aY),((cT.trans cL).trans cR)⟩
theorem b04(h:Hp)(aN:List Value)(p0:j0)(rp0:W0.R h aN p0)(ap1:Option Addr)(np1 cp1:Nat)(p1:C0)(rp1:J0.R h [.slice ap1 np1 cp1] p1)(r:Bool)(aA:n9 p0 p1=some r):
  Tr Tryz.prog 66 #[.agg aN.toArray,.slice ap1 np1 cp1] h fun v h'=>v = .bool r∧h'=h:=by
 obtain⟨aB,aC,aD,aP,aF,aL,rfl,rfl,aH,aJ,aG⟩:=B0 rp0
 obtain⟨rfl,aQ⟩:=Sl.len aG
 obtain⟨rfl,lp1⟩:=Sl.len rp1
 unfold n9 at aA
 dsimp only at aA
 refine Tr.forget (Y1 (args:=[.agg #[.int .i64 aB,.int .i64 aC,.slice aD aL.length aF],.slice ap1 p1.length cp1]) (fn:=Tryz.f66) rfl ?_)
 refine Or.inr (Or.inr (Or.inr (Or.inl (aI (aI (by kernel_rfl) (by kernel_rfl)) ?_))))
 obtain⟨x1,aT,aA⟩:=l0 aA
 refine Or.inr (eX (fun v hh=>∃(a:Option Addr) (c:Nat),v = .slice a x1.length c∧J0.R hh [.slice a x1.length c] x1∧x1.length≤9223372036854775807) (aI (fun v h1 h2 sb q=>by obtain⟨a,c,e,r,l⟩:=q;exact⟨a,c,e,J0.mono sb r,l⟩) (aI ?_ ?_)))
 ·intro k2 s3
  refine Tr.mono (W01 _ ap1 p1.length cp1 p1 (J0.mono s3 rp1) _ aT) ?_
  rintro _ kk ⟨aU,aZ,aV,rfl,aR,sb⟩
  obtain⟨rfl,aW⟩:=Sl.len aR
  exact aI c8 (aI sb ⟨aU,aV,rfl,aR,aW⟩)
 obtain⟨x4,aX,aA⟩:=l0 aA
 obtain⟨aK,aM⟩:=x4
 try dsimp only at aA
 obtain⟨q5,aY,aA⟩:=l0 aA
 have aS:M0 aK:=O1 aY
 refine Or.inl (eX (.val (.tuple #[.int .i64 aK,.bool aM])) (aI ?_ ?_))
 ·intro k6 s7
  rintro _ ⟨az8,cz8,rfl,rz8,lz8⟩
  exact Tr.val (X06 _ [.int .i64 aB,.int .i64 aC,.slice aD aL.length aF] (aB,aC,aL) (z0 aH aJ (F0.mono s7 aG)) 0 (by decide) az8 x1.length cz8 x1 rz8 _ aX) (aI rfl (aI rfl rfl))
 refine Or.inl (eX (.val (.int .i64 aK)) (aI ?_ ?_))
 ·intro k9 s10
  exact aI rfl (aI rfl rfl)
 refine Or.inl (eX (.val (.bool aM)) (aI ?_ ?_))
 ·intro k11 s12
  exact aI rfl (aI rfl rfl)
 intro k13 s14
 rintro _ ⟨az15,cz15,rfl,rz15,lz15⟩
 obtain⟨x16,aO,aA⟩:=l0 aA
 refine Tr.val (T6 _ [.int .i64 aB,.int .i64 aC,.slice aD aL.length aF] (aB,aC,aL) (z0 aH aJ (F0.mono s14 aG)) _  aO) ?_
 have hE:=oJ aA;subst hE
 exact aI rfl s14
theorem a08(h:Hp)(aL:List Value)(p0:j0)(rp0:W0.R h aL p0)(r:Bool)(aG:W8 p0=some r):
  Tr Tryz.prog 132 #[.agg aL.toArray] h fun v h'=>v = .bool r∧h'=h:=by
 obtain⟨aA,aB,aC,aM,aD,aK,rfl,rfl,aH,aJ,aF⟩:=B0 rp0
 obtain⟨rfl,aN⟩:=Sl.len aF
 unfold W8 at aG
 dsimp only at aG
 refine Tr.forget (Y1 (args:=[.agg #[.int .i64 aA,.int .i64 aB,.slice aC aK.length aD]]) (fn:=Tryz.f132) rfl ?_)
 refine aI (by kernel_rfl) ?_
 obtain⟨x1,aP,aG⟩:=l0 aG
 refine Or.inl (eX (.val (.bool x1)) (aI ?_ ?_))
 ·intro k2 s3
  exact Tr.val (T6 _ [.int .i64 aA,.int .i64 aB,.slice aC aK.length aD] (aA,aB,aK) (z0 aH aJ (F0.mono s3 aF)) _ aP) (aI rfl (aI rfl rfl))
 obtain⟨x4,aQ,aG⟩:=l0 aG
 refine Or.inr (eX (fun v hh=>∃(a:Option Addr) (c:Nat),v = .slice a x4.length c∧F0.R hh [.slice a x4.length c] x4∧x4.length≤9223372036854775807) (aI (fun v h1 h2 sb q=>by obtain⟨a,c,e,r,l⟩:=q;exact⟨a,c,e,F0.mono sb r,l⟩) (aI ?_ ?_)))
 ·intro k5 s6 hq
  refine Tr.mono (D08 _ [.int .i64 aA,.int .i64 aB,.slice aC aK.length aD] (aA,aB,aK) (z0 aH aJ (F0.mono s6 aF)) _ (F1 aQ hq)) ?_
  rintro _ kk ⟨aR,aU,aS,rfl,aO,sb⟩
  obtain⟨rfl,aT⟩:=Sl.len aO
  exact aI c8 (aI sb ⟨aR,aS,rfl,aO,aT⟩)
 obtain⟨q7,aV,aG⟩:=l0 aG
 refine Or.inl (eX (.val (.int .i64 ((x4.length:Nat):Int))) (aI ?_ ?_))
 ·intro k8 s9 hq
  rintro _ ⟨az10,cz10,rfl,rz10,lz10⟩
  exact aI rfl (aI rfl rfl)
 refine Or.inl (eX (.val (.bool (decide (((x4.length:Nat):Int)=0)))) (aI ?_ ?_))
 ·intro k11 s12 hq
  exact aI rfl (aI rfl rfl)
 intro k13 s14
 have hE:=oJ aG;subst hE
 exact aI rfl s14
theorem Y06(h:Hp)(bM:List Value)(p0:j0)(rp0:W0.R h bM p0)(p1:Int)(ip1:M0 p1)(r:j0×Bool)(aA:n7 p0 p1=some r):
  Tr Tryz.prog 131 #[.agg bM.toArray,.int .i64 p1] h fun v h'=>∃(cs0:List Value),v = .tuple #[.agg cs0.toArray,.bool r.2]∧W0.R h' cs0 r.1∧Sub h h':=by
 obtain⟨aF,aB,aG,cC,aH,aW,rfl,rfl,aM,aN,aJ⟩:=B0 rp0
 obtain⟨rfl,cD⟩:=Sl.len aJ
 unfold n7 at aA
 dsimp only at aA
 refine Y1 (args:=[.agg #[.int .i64 aF,.int .i64 aB,.slice aG aW.length aH],.int .i64 p1]) (fn:=Tryz.f131) rfl ?_
 obtain⟨x1,cM,aA⟩:=l0 aA
 refine Tr.val (t6 _ [.int .i64 aF,.int .i64 aB,.slice aG aW.length aH] (aF,aB,aW) (z0 aM aN aJ) _  cM) ?_
 obtain⟨x2,cN,aA⟩:=l0 aA
 refine eX (.bool x2) (aI (fun q=>Q4 _ p1 ip1 0 (by decide) (IntKind.i64.wrap (aB-1)) (N0 _) _  (F1 cN q)) ?_)
 refine aI (fun bN=>?_) (fun bN=>?_)
 ·replace aA:=ifP aA bN
  obtain⟨x4,cO,aA⟩:=l0 aA
  refine Tr.mono (j7 _ [.int .i64 aF,.int .i64 aB,.slice aG aW.length aH] (aF,aB,aW) (z0 aM aN aJ) _  cO) ?_
  rintro v6 k5 ⟨cP,rfl,cQ,cR⟩
  obtain⟨bO,bP,bD,cE,bE,cS,rfl,rfl,bF,bG,aV⟩:=B0 cQ
  obtain⟨rfl,cG⟩:=Sl.len aV
  try dsimp only at aA
  have hE:=oJ aA;subst hE
  exact⟨([.int .i64 bO,.int .i64 bP,.slice bD cS.length bE]),rfl,(z0 bF bG aV),cR⟩
 ·replace aA:=ifN aA bN
  obtain⟨X7,bQ,aA⟩:=l0 aA
  refine eX { vars:=[7],boxes:=[],owns:=[0],fuel:=true } (eX (fun vs os h'=>∃(u8:Int) (wu9:List (List Value)) (u9:List Int),vs.tail = [.int .i64 u8]∧os = [wu9]∧Sub h h'∧M0 u8∧F2 (Wp.int.R h') wu9 u9∧A4 aB p1 (K1 vs) u8 u9=some X7) (eX (fun _ _=>0) ?_))
  refine aI (eX S0 ⟨0,([[.int .i64 p1]]:List (List Value)),[p1],rfl,rfl,(Sub.refl _),(by decide),(show F2 (Wp.int.R h) ([[.int .i64 p1]]:List (List Value)) [p1] from⟨⟨rfl,ip1⟩,trivial⟩),bQ⟩) ?_
  rintro v_0 wu9 m11 k10 ⟨u8,zzu9,u9,bR,bS,cH,iu8,fu9,aC⟩
  cases bR
  cases bS
  replace aC:A4 aB p1 m11 u8 u9=some X7:=aC
  obtain _|m11:=m11
  ·cases (show(none:Option _)=some X7 from aC)
  rw[A4.eq_2]at aC
  refine aI (fun aX=>?_) (fun aX=>?_)
  ·replace aC:=ifP aC aX
   refine aI (fun aY=>?_) (fun aY=>?_)
   ·replace aC:=ifP aC aY
    obtain⟨q14,bT,aC⟩:=l0 aC
    refine aI (L1 bT (by first|rw[F2.length fu9,F2.length (show F2 (Wp.int.R k10) ([[.int .i64 u8]]:List (List Value)) [u8] from⟨⟨rfl,iu8⟩,trivial⟩)]|exact congrArg (·+1) (F2.length fu9))) ?_
    refine aI rfl (aI (by trivial) (aI (by trivial) (eX m11 (aI ⟨(IntKind.i64.wrap (u8+1)),(wu9++([[.int .i64 u8]]:List (List Value))),(u9 ++ [u8]),rfl,rfl,cH,(N0 _),(F2.append fu9 (show F2 (Wp.int.R k10) ([[.int .i64 u8]]:List (List Value)) [u8] from⟨⟨rfl,iu8⟩,trivial⟩)),aC⟩ (nS _)))))
   ·replace aC:=ifN aC aY
    refine aI rfl (aI (by trivial) (aI (by trivial) (eX m11 (aI ⟨(IntKind.i64.wrap (u8+1)),wu9,u9,rfl,rfl,cH,(N0 _),fu9,aC⟩ (nS _)))))
  ·replace aC:=ifN aC aX
   have hE:=oJ aC;subst hE
   try dsimp only[T0,V0]at aA
   refine Or.inl ?_
   intro v15 k16 f17
   obtain⟨az18,cz18,rfl,rz18,sz18,lz18⟩:=Z0.out (r:=Wp.int.toRp) f17 fu9
   obtain⟨x19,bU,aA⟩:=l0 aA
   refine Tr.mono (X01 _ [.int .i64 aF,.int .i64 aB,.slice aG aW.length aH] (aF,aB,aW) (z0 aM aN (F0.mono (cH.trans sz18) aJ)) az18 u9.length cz18 u9 rz18 _  bU) ?_
   rintro v21 k20 ⟨bL,rfl,aO,bV⟩
   obtain⟨cI,cJ⟩:=x19
   dsimp only at aA aO
   obtain⟨aK,aL,aP,bH,aQ,aU,rfl,rfl,aR,aS,aD⟩:=B0 aO
   obtain⟨rfl,bI⟩:=Sl.len aD
   try dsimp only at aA
   obtain⟨x22,bW,aA⟩:=l0 aA
   refine Tr.mono (n06 _ [.int .i64 aK,.int .i64 aL,.slice aP aU.length aQ] (aK,aL,aU) (z0 aR aS aD) _  bW) ?_
   rintro v24 k23 ⟨cK,rfl,bX,bY⟩
   obtain⟨bJ,bK,aZ,bZ,bA,cL,rfl,rfl,bB,bC,aT⟩:=B0 bX
   obtain⟨rfl,cA⟩:=Sl.len aT
   try dsimp only at aA
   have hE:=oJ aA;subst hE
   exact⟨([.int .i64 bJ,.int .i64 bK,.slice aZ cL.length bA]),rfl,(z0 bB bC aT),(((cH.trans sz18).trans bV).trans bY)⟩
set_option maxHeartbeats 0
theorem f0f(h:Hp)(bF:List Value)(p0:j0)(rp0:W0.R h bF p0)(r:I0)(aG:S01 p0=some r):
  Tr Tryz.prog 179 #[.agg bF.toArray] h fun v h'=>∃(a0:Option Addr) (n0 c0:Nat),v = .slice a0 n0 c0∧F0.R h' [.slice a0 n0 c0] r∧Sub h h':=by
 obtain⟨aB,aC,aK,dA,aL,aJ,rfl,rfl,aM,aO,aN⟩:=B0 rp0
 obtain⟨rfl,dB⟩:=Sl.len aN
 unfold S01 at aG
 dsimp only at aG
 refine Y1 (args:=[.agg #[.int .i64 aB,.int .i64 aC,.slice aK aJ.length aL]]) (fn:=Tryz.f179) rfl ?_
 obtain⟨x1,dL,aG⟩:=l0 aG
 refine Tr.val (t6 _ [.int .i64 aB,.int .i64 aC,.slice aK aJ.length aL] (aB,aC,aJ) (z0 aM aO aN) _  dL) ?_
 refine aI (fun bG=>?_) (fun bG=>?_)
 ·replace aG:=ifP aG bG
  intro v3 k4 f5
  obtain⟨az6,cz6,rfl,rz6,sz6,lz6⟩:=Z0.out (r:=P0.toRp) f5 (show F2 (P0.R h) ([]:List (List Value)) ([]:I0) from trivial)
  have hE:=oJ aG;subst hE
  exact⟨az6,(([]:I0)).length,cz6,rfl,rz6,sz6⟩
 ·replace aG:=ifN aG bG
  obtain⟨x7,dM,aG⟩:=l0 aG
  refine Tr.mono (i02 _ aB aM _  dM) ?_
  rintro v9 k8 ⟨dC,dV,dD,rfl,aT,dN⟩
  obtain⟨rfl,dW⟩:=Sl.len aT
  obtain⟨X14,aU,aG⟩:=l0 aG
  refine eX { vars:=[3,6],boxes:=[],owns:=[1],fuel:=true,pubs:=[3,9] } (eX (fun vs os h'=>∃(au15:Option Addr) (nu15 cu15:Nat) (u15:I0) (u16:Int) (wu17:List (List Value)) (u17:List Int),vs.tail = [.slice au15 nu15 cu15,.int .i64 u16]∧os = [wu17]∧Sub k8 h'∧F0.R h' [.slice au15 nu15 cu15] u15∧M0 u16∧F2 (Wp.int.R h') wu17 u17∧E8 x7 aB aC aJ (K1 vs) u15 u16 u17=some X14) (eX (fun _ _=>0) ?_))
  intro v10 k11 f12
  obtain⟨az13,cz13,rfl,rz13,sz13,lz13⟩:=Z0.out (r:=P0.toRp) f12 (F2.up (r:=P0.toRp) dN (show F2 (P0.R h) ([]:List (List Value)) ([]:I0) from trivial))
  refine aI (eX S0 ⟨az13,(([]:I0)).length,cz13,([]:I0),0,([[.int .i64 0]]:List (List Value)),[0],rfl,rfl,sz13,rz13,(by decide),(F2.up (r:=Wp.int.toRp) (dN.trans sz13) (show F2 (Wp.int.R h) ([[.int .i64 0]]:List (List Value)) [0] from⟨⟨rfl,(by decide)⟩,trivial⟩)),aU⟩) ?_
  rintro v_0 v_1 wu17 m19 k18 ⟨au15,nu15,cu15,u15,u16,zzu17,u17,aV,aW,aX,ru15,iu16,fu17,aD⟩
  cases aV
  cases aW
  replace aD:E8 x7 aB aC aJ m19 u15 u16 u17=some X14:=aD
  obtain _|m19:=m19
  ·cases (show(none:Option _)=some X14 from aD)
  rw[E8.eq_2]at aD
  obtain⟨rfl,lu15⟩:=Sl.len ru15
  obtain⟨m20,gm20,aD⟩:=l0 aD
  obtain rfl:wu17.length=m20:=(F2.length fu17).trans (oJ gm20)
  obtain⟨q21,dO,aD⟩:=l0 aD
  refine aI (fun aP=>?_) (fun aP=>?_)
  ·replace aD:=ifP aD aP
   obtain⟨X23,aY,aD⟩:=l0 aD
   refine eX { vars:=[3,7],boxes:=[],owns:=[1],fuel:=true } (eX (fun vs os h'=>∃(au24:Option Addr) (nu24 cu24:Nat) (u24:I0) (u25:Int) (wu26:List (List Value)) (u26:List Int),vs.tail = [.slice au24 nu24 cu24,.int .i64 u25]∧os = [wu26]∧Sub k18 h'∧F0.R h' [.slice au24 nu24 cu24] u24∧M0 u25∧F2 (Wp.int.R h') wu26 u26∧M5 x7 u16 aB aC aJ (K1 vs) u24 u25 u26=some X23) (eX (fun _ _=>0) ?_))
   refine aI (eX S0 ⟨au15,u15.length,cu15,u15,0,wu17,u17,rfl,rfl,(Sub.refl _),ru15,(by decide),fu17,aY⟩) ?_
   rintro v_0 v_1 wu26 m28 k27 ⟨au24,nu24,cu24,u24,u25,zzu26,u26,aZ,bA,aH,ru24,iu25,fu26,aA⟩
   cases aZ
   cases bA
   replace aA:M5 x7 u16 aB aC aJ m28 u24 u25 u26=some X23:=aA
   obtain _|m28:=m28
   ·cases (show(none:Option _)=some X23 from aA)
   rw[M5.eq_2]at aA
   obtain⟨rfl,lu24⟩:=Sl.len ru24
   refine aI (fun aQ=>?_) (fun aQ=>?_)
   ·replace aA:=ifP aA aQ
    refine Or.inl (aI (aI (by kernel_rfl) (by kernel_rfl)) ?_)
    obtain⟨x30,bH,aA⟩:=l0 aA
    obtain⟨bI,dE,bJ,bK⟩:=G4 fu26 bH
    refine aI bI ?_
    obtain⟨rfl,bL⟩:=bK
    refine eX _ (aI bJ ?_)
    obtain⟨x31,bM,aA⟩:=l0 aA
    obtain⟨bN,dF,bO,bP⟩:=Sl.getI (r:=Wp.int.toRp) (J0.mono (aX.trans aH) aT) bM (by decide)
    refine aI bN ?_
    obtain⟨rfl,bQ⟩:=bP
    refine eX _ (aI bO ?_)
    obtain⟨x32,bR,aA⟩:=l0 aA
    refine eX (.int .i64 x32) (aI (d9 _ [.int .i64 aB,.int .i64 aC,.slice aK aJ.length aL] (aB,aC,aJ) (z0 aM aO (F0.mono ((dN.trans aX).trans aH) aN)) x30 bL x31 bQ _  bR) ?_)
    obtain⟨q33,bS,aA⟩:=l0 aA
    have aF:M0 x32:=O1 bS
    obtain⟨x34,bT,aA⟩:=l0 aA
    refine eX (.bool x34) (aI ?_ ?_)
    ·intro hq
     intro v35 k36 f37
     obtain⟨az38,cz38,rfl,rz38,sz38,lz38⟩:=Z0.out (r:=Wp.int.toRp) f37 fu26
     exact h02 _ az38 u26.length cz38 u26 rz38 x32 aF _ (F1 bT hq)
    refine aI (fun aR=>?_) (fun aR=>?_)
    ·replace aA:=ifP aA aR
     refine aI rfl (aI (by trivial) (aI (by trivial) (eX m28 (aI ⟨au24,u24.length,cu24,u24,(IntKind.i64.wrap (u25+1)),wu26,u26,rfl,rfl,aH,ru24,(N0 _),fu26,aA⟩ (nS _)))))
    ·replace aA:=ifN aA aR
     obtain⟨q40,bU,aA⟩:=l0 aA
     refine aI (L1 bU (by first|rw[F2.length fu26,F2.length (show F2 (Wp.int.R k27) ([[.int .i64 x32]]:List (List Value)) [x32] from⟨⟨rfl,aF⟩,trivial⟩)]|exact congrArg (·+1) (F2.length fu26))) ?_
     obtain⟨x41,bV,aA⟩:=l0 aA
     obtain⟨bW,dG,bX,bY⟩:=Sl.getI (r:=Wp.int.toRp) (J0.mono (aX.trans aH) aT) bV (by decide)
     refine aI bW ?_
     obtain⟨rfl,dP⟩:=bY
     refine eX _ (aI bX ?_)
     refine aI (fun aS=>?_) (fun aS=>?_)
     ·replace aA:=ifP aA aS
      refine Or.inr (Or.inr (Or.inr (Or.inr (eX 11 (aI (aI (by kernel_rfl) (by kernel_rfl)) ?_)))))
      obtain⟨x43,bZ,aA⟩:=l0 aA
      obtain⟨cA,dH,cC,cD⟩:=G4 (F2.append fu26 (show F2 (Wp.int.R k27) ([[.int .i64 x32]]:List (List Value)) [x32] from⟨⟨rfl,aF⟩,trivial⟩)) bZ
      obtain⟨rfl,cE⟩:=cD
      refine Or.inl ?_
      apply eX
      refine aI ?_ ?_
      ·intro k44 s45
       exact aI cA (aI rfl (aI rfl rfl))
      refine Or.inl (eX (.val (.int .i64 x43)) (aI ?_ ?_))
      ·intro k46 s47
       exact eX _ (aI cC (aI rfl (aI rfl rfl)))
      obtain⟨x48,cG,aA⟩:=l0 aA
      obtain⟨cH,dI,cI,cJ⟩:=Sl.getI (r:=Wp.int.toRp) (J0.mono (aX.trans aH) aT) cG (by decide)
      obtain⟨rfl,cK⟩:=cJ
      refine Or.inl (eX (.hel (.slice dC x7.length dD) u25 1 0) (aI ?_ ?_))
      ·intro k49 s50
       exact aI cH (aI rfl (aI rfl rfl))
      refine Or.inl (eX (.val (.int .i64 x48)) (aI ?_ ?_))
      ·intro k51 s52
       exact eX _ (aI (w9.up s52 cI) (aI rfl (aI rfl rfl)))
      refine Or.inl (eX (.agg [.val (.int .i64 x43),.val (.int .i64 x48),.val (.int .i64 x32)]) (aI ?_ ?_))
      ·intro k53 s54
       exact aI rfl (aI rfl rfl)
      intro k55 s56
      obtain⟨x57,cL,aA⟩:=l0 aA
      refine Tr.mono (u00 _ au24 u24.length cu24 u24 (F0.mono s56 ru24) [.int .i64 x43,.int .i64 x48,.int .i64 x32] (x43,x48,x32) (D1 cE cK aF) _  cL) ?_
      rintro v59 k58 ⟨cM,dQ,cN,rfl,bB,bC⟩
      obtain⟨rfl,dR⟩:=Sl.len bB
      refine aI rfl (aI (by trivial) (aI (by trivial) (eX m28 (aI ⟨cM,x57.length,cN,x57,(IntKind.i64.wrap (u25+1)),(wu26++([[.int .i64 x32]]:List (List Value))),(u26 ++ [x32]),rfl,rfl,((aH.trans s56).trans bC),bB,(N0 _),(F2.up (r:=Wp.int.toRp) (s56.trans bC) (F2.append fu26 (show F2 (Wp.int.R k27) ([[.int .i64 x32]]:List (List Value)) [x32] from⟨⟨rfl,aF⟩,trivial⟩))),aA⟩ (nS _)))))
     ·replace aA:=ifN aA aS
      refine Or.inr (Or.inr (Or.inr (Or.inr (eX 12 (aI (aI (by kernel_rfl) (by kernel_rfl)) ?_)))))
      obtain⟨x60,cO,aA⟩:=l0 aA
      obtain⟨cP,dJ,cQ,cR⟩:=Sl.getI (r:=Wp.int.toRp) (J0.mono (aX.trans aH) aT) cO (by decide)
      obtain⟨rfl,dS⟩:=cR
      refine Or.inl (eX (.hel (.slice dC x7.length dD) u25 1 0) (aI ?_ ?_))
      ·intro k61 s62
       exact aI cP (aI rfl (aI rfl rfl))
      refine Or.inl (eX (.val (.int .i64 x60)) (aI ?_ ?_))
      ·intro k63 s64
       exact eX _ (aI (w9.up s64 cQ) (aI rfl (aI rfl rfl)))
      refine Or.inl (eX (.val (.int .i64 (IntKind.i64.wrap (0-x60)))) (aI ?_ ?_))
      ·intro k65 s66
       exact aI rfl (aI rfl rfl)
      obtain⟨x67,cS,aA⟩:=l0 aA
      obtain⟨cT,dK,cU,cV⟩:=G4 (F2.append fu26 (show F2 (Wp.int.R k27) ([[.int .i64 x32]]:List (List Value)) [x32] from⟨⟨rfl,aF⟩,trivial⟩)) cS
      obtain⟨rfl,cW⟩:=cV
      refine Or.inl ?_
      apply eX
      refine aI ?_ ?_
      ·intro k68 s69
       exact aI cT (aI rfl (aI rfl rfl))
      refine Or.inl (eX (.val (.int .i64 x67)) (aI ?_ ?_))
      ·intro k70 s71
       exact eX _ (aI cU (aI rfl (aI rfl rfl)))
      refine Or.inl (eX (.agg [.val (.int .i64 x32),.val (.int .i64 (IntKind.i64.wrap (0-x60))),.val (.int .i64 x67)]) (aI ?_ ?_))
      ·intro k72 s73
       exact aI rfl (aI rfl rfl)
      intro k74 s75
      obtain⟨x76,cX,aA⟩:=l0 aA
      refine Tr.mono (u00 _ au24 u24.length cu24 u24 (F0.mono s75 ru24) [.int .i64 x32,.int .i64 (IntKind.i64.wrap (0-x60)),.int .i64 x67] (x32,(IntKind.i64.wrap (0-x60)),x67) (D1 aF (N0 _) cW) _  cX) ?_
      rintro v78 k77 ⟨cY,dT,cZ,rfl,bD,bE⟩
      obtain⟨rfl,dU⟩:=Sl.len bD
      refine aI rfl (aI (by trivial) (aI (by trivial) (eX m28 (aI ⟨cY,x76.length,cZ,x76,(IntKind.i64.wrap (u25+1)),(wu26++([[.int .i64 x32]]:List (List Value))),(u26 ++ [x32]),rfl,rfl,((aH.trans s75).trans bE),bD,(N0 _),(F2.up (r:=Wp.int.toRp) (s75.trans bE) (F2.append fu26 (show F2 (Wp.int.R k27) ([[.int .i64 x32]]:List (List Value)) [x32] from⟨⟨rfl,aF⟩,trivial⟩))),aA⟩ (nS _)))))
   ·replace aA:=ifN aA aQ
    have hE:=oJ aA;subst hE
    try dsimp only[T0,V0]at aD
    refine aI rfl (aI (by trivial) (aI (by trivial) (eX m19 (aI ⟨au24,u24.length,cu24,u24,(IntKind.i64.wrap (u16+1)),wu26,u26,rfl,rfl,(aX.trans aH),ru24,(N0 _),fu26,aD⟩ (nS _)))))
  ·replace aD:=ifN aD aP
   have hE:=oJ aD;subst hE
   try dsimp only[T0,V0]at aG
   have hE:=oJ aG;subst hE
   exact⟨au15,u15.length,cu15,rfl,ru15,(dN.trans aX)⟩
theorem O0a(h:Hp)(bJ:List Value)(p0:j0)(rp0:W0.R h bJ p0)(r:I0)(aR:n00 p0=some r):
  Tr Tryz.prog 124 #[.agg bJ.toArray] h fun v h'=>∃(a0:Option Addr) (n0 c0:Nat),v = .slice a0 n0 c0∧F0.R h' [.slice a0 n0 c0] r∧Sub h h':=by
 obtain⟨aJ,aK,aM,cD,aN,aL,rfl,rfl,aS,aT,aG⟩:=B0 rp0
 obtain⟨rfl,cE⟩:=Sl.len aG
 unfold n00 at aR
 dsimp only at aR
 refine Y1 (args:=[.agg #[.int .i64 aJ,.int .i64 aK,.slice aM aL.length aN]]) (fn:=Tryz.f124) rfl ?_
 obtain⟨x1,cK,aR⟩:=l0 aR
 refine Tr.mono (f0f _ [.int .i64 aJ,.int .i64 aK,.slice aM aL.length aN] (aJ,aK,aL) (z0 aS aT aG) _  cK) ?_
 rintro v3 k2 ⟨cM,cN,cO,rfl,cG,cP⟩
 obtain⟨rfl,cQ⟩:=Sl.len cG
 obtain⟨X4,bK,aR⟩:=l0 aR
 refine eX { vars:=[5],boxes:=[],owns:=[0],fuel:=true } (eX (fun vs os h'=>∃(u5:Int) (wu6:List (List Value)) (u6:List H0),vs.tail = [.int .i64 u5]∧os = [wu6]∧Sub k2 h'∧M0 u5∧F2 (P0.R h') wu6 u6∧T4 aL aJ aK x1 (K1 vs) u5 u6=some X4) (eX (fun _ _=>0) ?_))
 refine aI (eX S0 ⟨0,[],([]:I0),rfl,rfl,(Sub.refl _),(by decide),(show F2 (P0.R k2) ([]:List (List Value)) ([]:I0) from trivial),bK⟩) ?_
 rintro v_0 wu6 m8 k7 ⟨u5,zzu6,u6,bL,bM,bI,iu5,fu6,aA⟩
 cases bL
 cases bM
 replace aA:T4 aL aJ aK x1 m8 u5 u6=some X4:=aA
 obtain _|m8:=m8
 ·cases (show(none:Option _)=some X4 from aA)
 rw[T4.eq_2]at aA
 obtain⟨x9,cL,aA⟩:=l0 aA
 refine eX (.bool x9) (aI (fun q=>t6 _ [.int .i64 aJ,.int .i64 aK,.slice aM aL.length aN] (aJ,aK,aL) (z0 aS aT (F0.mono (cP.trans bI) aG)) _  (F1 cL q)) ?_)
 refine aI (fun bA=>?_) (fun bA=>?_)
 ·replace aA:=ifP aA bA
  obtain⟨X11,bD,aA⟩:=l0 aA
  refine eX { vars:=[6,7],boxes:=[],owns:=[],fuel:=true } (eX (fun vs os h'=>∃(u12:Bool) (u13:Int),vs.tail = [.bool u12,.int .i64 u13]∧os = []∧Sub k7 h'∧M0 u13∧P5 x1 aL u5 (K1 vs) u12 u13=some X11) (eX (fun _ _=>0) ?_))
  refine aI (eX S0 ⟨false,0,rfl,rfl,(Sub.refl _),(by decide),bD⟩) ?_
  rintro v_0 v_1 m15 k14 ⟨u12,u13,bE,bF,aB,iu13,aH⟩
  cases bE
  cases bF
  replace aH:P5 x1 aL u5 m15 u12 u13=some X11:=aH
  obtain _|m15:=m15
  ·cases (show(none:Option _)=some X11 from aH)
  rw[P5.eq_2]at aH
  refine aI (fun bB=>?_) (fun bB=>?_)
  ·replace aH:=ifP aH bB
   refine Or.inl (aI (aI (by kernel_rfl) (by kernel_rfl)) ?_)
   obtain⟨x17,bN,aH⟩:=l0 aH
   obtain⟨cH,bG,bO⟩:=Sl.getG (r:=P0.toRp) (F0.mono (bI.trans aB) cG) bN (by decide) (A0b k14)
   refine aI (fun q=>(bG q).1) ?_
   obtain⟨aU,aV,aW,rfl,rfl,bP,bQ,bR⟩:=I1 bO
   try dsimp only at aH
   refine eX _ (aI (fun q=>(bG q).2) ?_)
   obtain⟨x18,bS,aH⟩:=l0 aH
   obtain⟨cI,bH,bT⟩:=Sl.getG (r:=P0.toRp) (F0.mono ((cP.trans bI).trans aB) aG) bS (by decide) (A0b k14)
   refine aI (fun q=>(bH q).1) ?_
   obtain⟨aX,aY,aZ,rfl,rfl,bU,bV,bW⟩:=I1 bT
   try dsimp only at aH
   refine eX _ (aI (fun q=>(bH q).2) ?_)
   refine eX (eqE (aU,aV,aW) (aX,aY,aZ)) (aI (fun _=>(r0d _ _ _ rfl _ _ _ _ _ _)) ?_)
   refine aI rfl (aI (by trivial) (aI (by trivial) (eX m15 (aI ⟨(bif u12 then true else(eqE (aU,aV,aW) (aX,aY,aZ))),(IntKind.i64.wrap (u13+1)),rfl,rfl,aB,(N0 _),aH⟩ (nS _)))))
  ·replace aH:=ifN aH bB
   have hE:=oJ aH;subst hE
   try dsimp only[T0,V0]at aA
   refine aI (fun bC=>?_) (fun bC=>?_)
   ·replace aA:=ifP aA bC
    obtain⟨x20,bX,aA⟩:=l0 aA
    obtain⟨bY,cJ,bZ,cA⟩:=Sl.getI (r:=P0.toRp) (F0.mono ((cP.trans bI).trans aB) aG) bX (by decide)
    refine aI bY ?_
    obtain⟨aC,aD,aF,rfl,rfl,aO,aP,aQ⟩:=I1 cA
    try dsimp only at aA
    refine eX _ (aI bZ ?_)
    obtain⟨q21,cC,aA⟩:=l0 aA
    refine aI (L1 cC (by first|rw[F2.length (F2.up (r:=P0.toRp) aB fu6),F2.length (show F2 (P0.R k14) ([[.int .i64 aC,.int .i64 aD,.int .i64 aF]]:List (List Value)) [(aC,aD,aF)] from⟨(D1 aO aP aQ),trivial⟩)]|exact congrArg (·+1) (F2.length (F2.up (r:=P0.toRp) aB fu6)))) ?_
    refine aI rfl (aI (by trivial) (aI (by trivial) (eX m8 (aI ⟨(IntKind.i64.wrap (u5+1)),(wu6++([[.int .i64 aC,.int .i64 aD,.int .i64 aF]]:List (List Value))),(u6 ++ [(aC,aD,aF)]),rfl,rfl,(bI.trans aB),(N0 _),(F2.append (F2.up (r:=P0.toRp) aB fu6) (show F2 (P0.R k14) ([[.int .i64 aC,.int .i64 aD,.int .i64 aF]]:List (List Value)) [(aC,aD,aF)] from⟨(D1 aO aP aQ),trivial⟩)),aA⟩ (nS _)))))
   ·replace aA:=ifN aA bC
    refine aI rfl (aI (by trivial) (aI (by trivial) (eX m8 (aI ⟨(IntKind.i64.wrap (u5+1)),wu6,u6,rfl,rfl,(bI.trans aB),(N0 _),(F2.up (r:=P0.toRp) aB fu6),aA⟩ (nS _)))))
 ·replace aA:=ifN aA bA
  have hE:=oJ aA;subst hE
  try dsimp only[T0,V0]at aR
  intro v29 k30 f31
  obtain⟨az32,cz32,rfl,rz32,sz32,lz32⟩:=Z0.out (r:=P0.toRp) f31 fu6
  have hE:=oJ aR;subst hE
  exact⟨az32,u6.length,cz32,rfl,rz32,((cP.trans bI).trans sz32)⟩
theorem A0f(h:Hp)(bJ:List Value)(p0:j0)(rp0:W0.R h bJ p0)(bK:List Value)(p1:H0)(rp1:P0.R h bK p1)(r:C0)(aB:t02 p0 p1=some r):
  Tr Tryz.prog 125 #[.agg bJ.toArray,.agg bK.toArray] h fun v h'=>∃(a0:Option Addr) (n0 c0:Nat),v = .slice a0 n0 c0∧J0.R h' [.slice a0 n0 c0] r∧Sub h h':=by
 obtain⟨aC,aD,aG,cO,aH,aL,rfl,rfl,aJ,aK,aF⟩:=B0 rp0
 obtain⟨rfl,cP⟩:=Sl.len aF
 obtain⟨aM,aA,aN,rfl,rfl,aQ,aO,aR⟩:=I1 rp1
 unfold t02 at aB
 dsimp only at aB
 refine Y1 (args:=[.agg #[.int .i64 aC,.int .i64 aD,.slice aG aL.length aH],.agg #[.int .i64 aM,.int .i64 aA,.int .i64 aN]]) (fn:=Tryz.f125) rfl ?_
 obtain⟨X1,bL,aB⟩:=l0 aB
 refine eX { vars:=[5,6],boxes:=[],owns:=[],fuel:=true } (eX (fun vs os h'=>∃(u2:Bool) (u3:Int),vs.tail = [.bool u2,.int .i64 u3]∧os = []∧Sub h h'∧M0 u3∧l8 aL aM aA aN (K1 vs) u2 u3=some X1) (eX (fun _ _=>0) ?_))
 refine aI (eX S0 ⟨false,0,rfl,rfl,(Sub.refl _),(by decide),bL⟩) ?_
 rintro v_0 v_1 m5 k4 ⟨u2,u3,bM,bN,aU,iu3,aP⟩
 cases bM
 cases bN
 replace aP:l8 aL aM aA aN m5 u2 u3=some X1:=aP
 obtain _|m5:=m5
 ·cases (show(none:Option _)=some X1 from aP)
 rw[l8.eq_2]at aP
 refine aI (fun bO=>?_) (fun bO=>?_)
 ·replace aP:=ifP aP bO
  refine Or.inl (aI (aI (by kernel_rfl) (by kernel_rfl)) ?_)
  obtain⟨x7,cU,aP⟩:=l0 aP
  obtain⟨cV,cQ,cW⟩:=Sl.getG (r:=P0.toRp) (F0.mono aU aF) cU (by decide) (A0b k4)
  refine aI (fun q=>(cQ q).1) ?_
  obtain⟨aV,aW,aX,rfl,rfl,cR,cS,cT⟩:=I1 cW
  try dsimp only at aP
  refine eX _ (aI (fun q=>(cQ q).2) ?_)
  refine eX (eqE (aV,aW,aX) (aM,aA,aN)) (aI (fun _=>(r0d _ _ _ rfl _ _ _ _ _ _)) ?_)
  refine aI rfl (aI (by trivial) (aI (by trivial) (eX m5 (aI ⟨(bif u2 then true else(eqE (aV,aW,aX) (aM,aA,aN))),(IntKind.i64.wrap (u3+1)),rfl,rfl,aU,(N0 _),aP⟩ (nS _)))))
 ·replace aP:=ifN aP bO
  have hE:=oJ aP;subst hE
  try dsimp only[T0,V0]at aB
  obtain⟨x8,cX,aB⟩:=l0 aB
  refine Tr.val (t6 _ [.int .i64 aC,.int .i64 aD,.slice aG aL.length aH] (aC,aD,aL) (z0 aJ aK (F0.mono aU aF)) _  cX) ?_
  refine aI (fun bP=>?_) (fun bP=>?_)
  ·replace aB:=ifP aB bP
   intro v10 k11 f12
   obtain⟨az13,cz13,rfl,rz13,sz13,lz13⟩:=Z0.out (r:=Wp.int.toRp) f12 (show F2 (Wp.int.R k4) ([]:List (List Value)) ([]:C0) from trivial)
   have hE:=oJ aB;subst hE
   exact⟨az13,(([]:C0)).length,cz13,rfl,rz13,(aU.trans sz13)⟩
  ·replace aB:=ifN aB bP
   refine Or.inr (Or.inr (Or.inl (aI (aI (by kernel_rfl) (by kernel_rfl)) ?_)))
   refine Or.inr ?_
   refine Or.inr ?_
   refine Or.inr ?_
   refine Or.inr ?_
   refine Or.inr ?_
   refine Or.inr ?_
   refine Or.inr ?_
   refine Or.inr (eX 0 (eX 1 (aI (aI rfl (aI rfl rfl)) ?_)))
   refine aI ?_ ?_
   ·skip
    obtain⟨x14,aY,aB⟩:=l0 aB
    refine Tr.mono (x02 _ [.int .i64 aC,.int .i64 aD,.slice aG aL.length aH] (aC,aD,aL) (z0 aJ aK (F0.mono aU aF)) aM aQ _  aY) ?_
    rintro v16 k15 ⟨aY,cY,cZ,rfl,wx14⟩
    have dA:Sub k4 k15:=wx14.sub
    have bQ:=wx14.r
    obtain⟨rfl,dB⟩:=Sl.len bQ
    refine aI trivial (aI (by first|exact trivial|exact rfl) ?_)
    refine aI trivial (aI (by first|exact trivial|exact rfl) ?_)
    obtain⟨q17,bR,aB⟩:=l0 aB
    obtain⟨vsz18,rxz18,lnz18,apz18⟩:=New.app wx14 (Sub.refl _)
    refine eX vsz18 (aI rxz18 (aI (L1 bR (by first|rw[lnz18,F2.length (show F2 (Wp.int.R k15) ([[.int .i64 aA]]:List (List Value)) [aA] from⟨⟨rfl,aO⟩,trivial⟩)]|(rw[lnz18];rfl))) ?_))
    intro vz18 kz18 happz18
    obtain⟨wz18,gz18,oz18,nz18,cz18,rfl⟩:=apz18 _ _ _ _ _ (F3.ofPlain (a06 _) (show F2 (Wp.int.R k15) ([[.int .i64 aA]]:List (List Value)) [aA] from⟨⟨rfl,aO⟩,trivial⟩)) d7.ofPlain happz18
    have rz18:=wz18.r
    obtain⟨ez18,lz18⟩:=Sl.len rz18
    subst ez18
    refine aI trivial (aI (by first|exact trivial|exact rfl) ?_)
    obtain⟨x19,aS,aB⟩:=l0 aB
    refine Tr.mono (x02 _ [.int .i64 aC,.int .i64 aD,.slice aG aL.length aH] (aC,aD,aL) (z0 aJ aK (F0.mono (aU.trans wz18.sub) aF)) aN aR _  aS) ?_
    rintro v21 k20 ⟨aS,dC,bS,rfl,wx19⟩
    have bT:Sub kz18 k20:=wx19.sub
    have aZ:=wx19.r
    obtain⟨rfl,dD⟩:=Sl.len aZ
    refine aI trivial (aI (by first|exact trivial|exact rfl) ?_)
    obtain⟨x22,bU,aB⟩:=l0 aB
    refine Tr.mono (A01 _ (some ⟨aS,0,none⟩) x19.length bS x19 aZ _  bU) ?_
    rintro v24 k23 ⟨bV,dE,bW,rfl,bA,bB⟩
    obtain⟨rfl,dF⟩:=Sl.len bA
    refine aI trivial (aI (by first|exact trivial|exact rfl) ?_)
    obtain⟨x25,bX,aB⟩:=l0 aB
    refine Tr.mono (W03 _ (some ⟨gz18,oz18,none⟩) (x14 ++ [aA]).length cz18 (x14 ++ [aA]) (J0.mono (bT.trans bB) rz18) bV x22.length bW x22 bA _  bX) ?_
    rintro v27 k26 ⟨bY,dG,bZ,rfl,bC,cA⟩
    obtain⟨rfl,dH⟩:=Sl.len bC
    refine aI trivial (aI (by first|exact trivial|exact rfl) ?_)
    refine aI trivial (aI (by first|exact trivial|exact rfl) ?_)
    have hE:=oJ aB;subst hE
    exact⟨bY,x25.length,bZ,rfl,bC,((((aU.trans wz18.sub).trans bT).trans bB).trans cA)⟩
   ·skip
    refine aI trivial (aI (by first|exact trivial|exact rfl) ?_)
    obtain⟨x28,bD,aB⟩:=l0 aB
    refine Tr.mono (x02 _ [.int .i64 aC,.int .i64 aD,.slice aG aL.length aH] (aC,aD,aL) (z0 aJ aK (F0.mono aU aF)) aM aQ _  bD) ?_
    rintro v30 k29 ⟨bD,dI,dJ,rfl,wx28⟩
    have bE:Sub k4 k29:=wx28.sub
    have cC:=wx28.r
    obtain⟨rfl,dK⟩:=Sl.len cC
    refine aI trivial (aI (by first|exact trivial|exact rfl) ?_)
    obtain⟨q31,cD,aB⟩:=l0 aB
    obtain⟨vsz32,rxz32,lnz32,apz32⟩:=New.app wx28 (Sub.refl _)
    refine eX vsz32 (aI rxz32 (aI (L1 cD (by first|rw[lnz32,F2.length (F2.up (r:=Wp.int.toRp) bE (show F2 (Wp.int.R k4) ([[.int .i64 aA]]:List (List Value)) [aA] from⟨⟨rfl,aO⟩,trivial⟩))]|(rw[lnz32];rfl))) ?_))
    intro vz32 kz32 happz32
    obtain⟨wz32,gz32,oz32,nz32,cz32,rfl⟩:=apz32 _ _ _ _ _ (F3.ofPlain (a06 _) (F2.up (r:=Wp.int.toRp) bE (show F2 (Wp.int.R k4) ([[.int .i64 aA]]:List (List Value)) [aA] from⟨⟨rfl,aO⟩,trivial⟩))) d7.ofPlain happz32
    have rz32:=wz32.r
    obtain⟨ez32,lz32⟩:=Sl.len rz32
    subst ez32
    refine aI trivial (aI (by first|exact trivial|exact rfl) ?_)
    obtain⟨x33,aT,aB⟩:=l0 aB
    refine Tr.mono (x02 _ [.int .i64 aC,.int .i64 aD,.slice aG aL.length aH] (aC,aD,aL) (z0 aJ aK (F0.mono (aU.trans wz32.sub) aF)) aN aR _  aT) ?_
    rintro v35 k34 ⟨aT,dL,cE,rfl,wx33⟩
    have cG:Sub kz32 k34:=wx33.sub
    have bF:=wx33.r
    obtain⟨rfl,dM⟩:=Sl.len bF
    refine aI trivial (aI (by first|exact trivial|exact rfl) ?_)
    obtain⟨x36,cH,aB⟩:=l0 aB
    refine Tr.mono (A01 _ (some ⟨aT,0,none⟩) x33.length cE x33 bF _  cH) ?_
    rintro v38 k37 ⟨cI,dN,cJ,rfl,bG,bH⟩
    obtain⟨rfl,dO⟩:=Sl.len bG
    refine aI trivial (aI (by first|exact trivial|exact rfl) ?_)
    obtain⟨x39,cK,aB⟩:=l0 aB
    refine Tr.mono (W03 _ (some ⟨gz32,oz32,none⟩) (x28 ++ [aA]).length cz32 (x28 ++ [aA]) (J0.mono (cG.trans bH) rz32) cI x36.length cJ x36 bG _  cK) ?_
    rintro v41 k40 ⟨cL,dP,cM,rfl,bI,cN⟩
    obtain⟨rfl,dQ⟩:=Sl.len bI
    refine aI trivial (aI (by first|exact trivial|exact rfl) ?_)
    refine aI trivial (aI (by first|exact trivial|exact rfl) ?_)
    have hE:=oJ aB;subst hE
    exact⟨cL,x39.length,cM,rfl,bI,((((aU.trans wz32.sub).trans cG).trans bH).trans cN)⟩
theorem g0f(h:Hp)(aY:List Value)(p0:j0)(rp0:W0.R h aY p0)(r:P1)(aD:T01 p0=some r):
  Tr Tryz.prog 64 #[.agg aY.toArray] h fun v h'=>∃(a0:Option Addr) (n0 c0:Nat),v = .slice a0 n0 c0∧Q2.R h' [.slice a0 n0 c0] r∧Sub h h':=by
 obtain⟨aA,aB,aF,bJ,aG,aJ,rfl,rfl,aK,aL,aH⟩:=B0 rp0
 obtain⟨rfl,bK⟩:=Sl.len aH
 unfold T01 at aD
 dsimp only at aD
 refine Y1 (args:=[.agg #[.int .i64 aA,.int .i64 aB,.slice aF aJ.length aG]]) (fn:=Tryz.f64) rfl ?_
 obtain⟨x1,bN,aD⟩:=l0 aD
 refine Tr.val (T6 _ [.int .i64 aA,.int .i64 aB,.slice aF aJ.length aG] (aA,aB,aJ) (z0 aK aL aH) _  bN) ?_
 refine aI (fun aZ=>?_) (fun aZ=>?_)
 ·replace aD:=ifP aD aZ
  intro v3 k4 f5
  obtain⟨az6,cz6,rfl,rz6,sz6,lz6⟩:=Z0.out (r:=J0.toRp) f5 (show F2 (J0.R h) ([]:List (List Value)) ([]:P1) from trivial)
  have hE:=oJ aD;subst hE
  exact⟨az6,(([]:P1)).length,cz6,rfl,rz6,sz6⟩
 ·replace aD:=ifN aD aZ
  obtain⟨x7,bO,aD⟩:=l0 aD
  refine Tr.mono (O0a _ [.int .i64 aA,.int .i64 aB,.slice aF aJ.length aG] (aA,aB,aJ) (z0 aK aL aH) _  bO) ?_
  rintro v9 k8 ⟨bP,bT,bQ,rfl,bL,bR⟩
  obtain⟨rfl,bU⟩:=Sl.len bL
  obtain⟨X10,aU,aD⟩:=l0 aD
  refine eX { vars:=[5],boxes:=[],owns:=[0],fuel:=true } (eX (fun vs os h'=>∃(u11:Int) (wu12:List (List Value)) (u12:List C0),vs.tail = [.int .i64 u11]∧os = [wu12]∧Sub k8 h'∧M0 u11∧F2 (J0.R h') wu12 u12∧J7 x7 aA aB aJ (K1 vs) u11 u12=some X10) (eX (fun _ _=>0) ?_))
  refine aI (eX S0 ⟨0,[],([]:P1),rfl,rfl,(Sub.refl _),(by decide),(F2.up (r:=J0.toRp) bR (show F2 (J0.R h) ([]:List (List Value)) ([]:P1) from trivial)),aU⟩) ?_
  rintro v_0 wu12 m14 k13 ⟨u11,zzu12,u12,aV,aW,aP,iu11,fu12,aC⟩
  cases aV
  cases aW
  replace aC:J7 x7 aA aB aJ m14 u11 u12=some X10:=aC
  obtain _|m14:=m14
  ·cases (show(none:Option _)=some X10 from aC)
  rw[J7.eq_2]at aC
  refine aI (fun aQ=>?_) (fun aQ=>?_)
  ·replace aC:=ifP aC aQ
   refine Or.inr (Or.inr (Or.inr (Or.inl (aI (aI (by kernel_rfl) (by kernel_rfl)) ?_))))
   obtain⟨x16,bA,aC⟩:=l0 aC
   obtain⟨bB,bM,bC,bD⟩:=Sl.getI (r:=P0.toRp) (F0.mono aP bL) bA (by decide)
   obtain⟨aM,aN,aO,rfl,rfl,aR,aS,aT⟩:=I1 bD
   try dsimp only at aC
   refine Or.inl (eX (.hel (.slice bP x7.length bQ) u11 3 0) (aI ?_ ?_))
   ·intro k17 s18
    exact aI bB (aI rfl (aI rfl rfl))
   refine Or.inl (eX (.agg [.val (.int .i64 aM),.val (.int .i64 aN),.val (.int .i64 aO)]) (aI ?_ ?_))
   ·intro k19 s20
    exact eX _ (aI (w9.up s20 bC) (aI rfl (aI rfl rfl)))
   obtain⟨x21,bE,aC⟩:=l0 aC
   refine Or.inr (eX (fun v hh=>∃(a:Option Addr) (c:Nat),v = .slice a x21.length c∧J0.R hh [.slice a x21.length c] x21∧x21.length≤9223372036854775807) (aI (fun v h1 h2 sb q=>by obtain⟨a,c,e,r,l⟩:=q;exact⟨a,c,e,J0.mono sb r,l⟩) (aI ?_ ?_)))
   ·intro k22 s23
    refine Tr.mono (A0f _ [.int .i64 aA,.int .i64 aB,.slice aF aJ.length aG] (aA,aB,aJ) (z0 aK aL (F0.mono ((bR.trans aP).trans s23) aH)) [.int .i64 aM,.int .i64 aN,.int .i64 aO] (aM,aN,aO) (D1 aR aS aT) _ bE) ?_
    rintro _ kk ⟨bF,bS,bG,rfl,aX,sb⟩
    obtain⟨rfl,bH⟩:=Sl.len aX
    exact aI c8 (aI sb ⟨bF,bG,rfl,aX,bH⟩)
   refine Or.inr (eX (fun v hh=>∃(a:Option Addr) (c:Nat),v = .slice a x21.length c∧J0.R hh [.slice a x21.length c] x21∧x21.length≤9223372036854775807) (aI (fun v h1 h2 sb q=>by obtain⟨a,c,e,r,l⟩:=q;exact⟨a,c,e,J0.mono sb r,l⟩) (aI ?_ ?_)))
   ·intro k24 s25
    rintro _ ⟨az26,cz26,rfl,rz26,lz26⟩
    exact aI c8 (aI (Sub.refl _) ⟨az26,cz26,rfl,rz26,lz26⟩)
   intro k27 s28
   rintro _ ⟨az29,cz29,rfl,rz29,lz29⟩
   rintro _ ⟨az30,cz30,rfl,rz30,lz30⟩
   obtain⟨q31,bI,aC⟩:=l0 aC
   refine aI (L1 bI (by first|rw[F2.length (F2.up (r:=J0.toRp) s28 fu12),F2.length (show F2 (J0.R k27) ([[.slice az29 x21.length cz29]]:List (List Value)) [x21] from⟨rz29,trivial⟩)]|exact congrArg (·+1) (F2.length (F2.up (r:=J0.toRp) s28 fu12)))) ?_
   refine aI rfl (aI (by trivial) (aI (by trivial) (eX m14 (aI ⟨(IntKind.i64.wrap (u11+1)),(wu12++([[.slice az29 x21.length cz29]]:List (List Value))),(u12 ++ [x21]),rfl,rfl,(aP.trans s28),(N0 _),(F2.append (F2.up (r:=J0.toRp) s28 fu12) (show F2 (J0.R k27) ([[.slice az29 x21.length cz29]]:List (List Value)) [x21] from⟨rz29,trivial⟩)),aC⟩ (nS _)))))
  ·replace aC:=ifN aC aQ
   have hE:=oJ aC;subst hE
   try dsimp only[T0,V0]at aD
   intro v32 k33 f34
   obtain⟨az35,cz35,rfl,rz35,sz35,lz35⟩:=Z0.out (r:=J0.toRp) f34 fu12
   have hE:=oJ aD;subst hE
   exact⟨az35,u12.length,cz35,rfl,rz35,((bR.trans aP).trans sz35)⟩
theorem P0a(h:Hp)(aO:List Value)(p0:j0)(rp0:W0.R h aO p0)(p1:Int)(ip1:M0 p1)(ap2:Option Addr)(np2 cp2:Nat)(p2:C0)(rp2:J0.R h [.slice ap2 np2 cp2] p2)(r:Int)(aB:o00 p0 p1 p2=some r):
  Tr Tryz.prog 127 #[.agg aO.toArray,.int .i64 p1,.slice ap2 np2 cp2] h fun v h'=>v = .int .i64 r∧h'=h:=by
 obtain⟨aD,aC,aF,bC,aG,aJ,rfl,rfl,aK,aL,aH⟩:=B0 rp0
 obtain⟨rfl,bD⟩:=Sl.len aH
 obtain⟨rfl,lp2⟩:=Sl.len rp2
 unfold o00 at aB
 dsimp only at aB
 refine Tr.forget (Y1 (args:=[.agg #[.int .i64 aD,.int .i64 aC,.slice aF aJ.length aG],.int .i64 p1,.slice ap2 p2.length cp2]) (fn:=Tryz.f127) rfl ?_)
 obtain⟨x1,bF,aB⟩:=l0 aB
 refine Tr.val (t6 _ [.int .i64 aD,.int .i64 aC,.slice aF aJ.length aG] (aD,aC,aJ) (z0 aK aL aH) _  bF) ?_
 obtain⟨x2,bG,aB⟩:=l0 aB
 refine eX (.bool x2) (aI (fun q=>Q4 _ p1 ip1 0 (by decide) (IntKind.i64.wrap (aC-1)) (N0 _) _  (F1 bG q)) ?_)
 refine aI (fun aP=>?_) (fun aP=>?_)
 ·replace aB:=ifP aB aP
  have hE:=oJ aB;subst hE
  exact aI rfl (Sub.refl _)
 ·replace aB:=ifN aB aP
  obtain⟨X4,aQ,aB⟩:=l0 aB
  refine eX { vars:=[1,7],boxes:=[],owns:=[],fuel:=true } (eX (fun vs os h'=>∃(u5:Int) (u6:Int),vs.tail = [.int .i64 u5,.int .i64 u6]∧os = []∧Sub h h'∧M0 u5∧M0 u6∧Q5 p2 aD aC aJ (K1 vs) u5 u6=some X4) (eX (fun _ _=>0) ?_))
  refine aI (eX S0 ⟨p1,0,rfl,rfl,(Sub.refl _),ip1,(by decide),aQ⟩) ?_
  rintro v_0 v_1 m8 k7 ⟨u5,u6,aR,aS,aN,iu5,iu6,aA⟩
  cases aR
  cases aS
  replace aA:Q5 p2 aD aC aJ m8 u5 u6=some X4:=aA
  obtain _|m8:=m8
  ·cases (show(none:Option _)=some X4 from aA)
  rw[Q5.eq_2]at aA
  refine aI (fun aT=>?_) (fun aT=>?_)
  ·replace aA:=ifP aA aT
   refine Or.inl (aI (aI (by kernel_rfl) (by kernel_rfl)) ?_)
   obtain⟨x10,aU,aA⟩:=l0 aA
   obtain⟨aV,bE,aW,aX⟩:=Sl.getI (r:=Wp.int.toRp) (J0.mono aN rp2) aU (by decide)
   refine aI aV ?_
   obtain⟨rfl,aY⟩:=aX
   refine eX _ (aI aW ?_)
   obtain⟨x11,aZ,aA⟩:=l0 aA
   refine eX (.int .i64 x11) (aI (d9 _ [.int .i64 aD,.int .i64 aC,.slice aF aJ.length aG] (aD,aC,aJ) (z0 aK aL (F0.mono aN aH)) u5 iu5 x10 aY _  aZ) ?_)
   obtain⟨q12,bA,aA⟩:=l0 aA
   have bB:M0 x11:=O1 bA
   refine aI (fun aM=>?_) (fun aM=>?_)
   ·replace aA:=ifP aA aM
    have hE:=oJ aA;subst hE
    try dsimp only[S3,W3]at aB
    have hE:=oJ aB;subst hE
    exact aI rfl aN
   ·replace aA:=ifN aA aM
    refine aI rfl (aI (by trivial) (aI (by trivial) (eX m8 (aI ⟨x11,(IntKind.i64.wrap (u6+1)),rfl,rfl,aN,bB,(N0 _),aA⟩ (nS _)))))
  ·replace aA:=ifN aA aT
   have hE:=oJ aA;subst hE
   try dsimp only[T0,V0]at aB
   have hE:=oJ aB;subst hE
   exact aI rfl aN
theorem G05(h:Hp)(dI:List Value)(p0:j0)(rp0:W0.R h dI p0)(ap1:Option Addr)(np1 cp1:Nat)(p1:C0)(rp1:J0.R h [.slice ap1 np1 cp1] p1)(r:j0×Bool)(aC:E4 p0 p1=some r):
  Tr Tryz.prog 67 #[.agg dI.toArray,.slice ap1 np1 cp1] h fun v h'=>∃(cs0:List Value),v = .tuple #[.agg cs0.toArray,.bool r.2]∧W0.R h' cs0 r.1∧Sub h h':=by
 obtain⟨aJ,aH,aM,dX,aN,bD,rfl,rfl,aO,aL,aP⟩:=B0 rp0
 obtain⟨rfl,dY⟩:=Sl.len aP
 obtain⟨rfl,lp1⟩:=Sl.len rp1
 unfold E4 at aC
 dsimp only at aC
 refine Y1 (args:=[.agg #[.int .i64 aJ,.int .i64 aH,.slice aM bD.length aN],.slice ap1 p1.length cp1]) (fn:=Tryz.f67) rfl ?_
 obtain⟨x1,eG,aC⟩:=l0 aC
 refine Tr.val (T6 _ [.int .i64 aJ,.int .i64 aH,.slice aM bD.length aN] (aJ,aH,bD) (z0 aO aL aP) _  eG) ?_
 obtain⟨x2,eH,aC⟩:=l0 aC
 refine eX (.bool x2) (aI (fun q=>F03 _ aJ aO ap1 p1.length cp1 p1 rp1 _  (F1 eH q)) ?_)
 refine aI (fun dJ=>?_) (fun dJ=>?_)
 ·replace aC:=ifP aC dJ
  have hE:=oJ aC;subst hE
  exact⟨([.int .i64 0,.int .i64 0,.slice none 0 0]),rfl,(z0 (by decide) (by decide) (z0b P0 h)),(Sub.refl _)⟩
 ·replace aC:=ifN aC dJ
  obtain⟨x4,eI,aC⟩:=l0 aC
  refine Tr.val (P0a _ [.int .i64 aJ,.int .i64 aH,.slice aM bD.length aN] (aJ,aH,bD) (z0 aO aL aP) 0 (by decide) ap1 p1.length cp1 p1 rp1 _  eI) ?_
  obtain⟨q5,eJ,aC⟩:=l0 aC
  have eN:M0 x4:=O1 eJ
  refine Or.inr (Or.inr (Or.inr (Or.inl (aI (aI (by kernel_rfl) (by kernel_rfl)) ?_))))
  obtain⟨x6,eK,aC⟩:=l0 aC
  refine Or.inr (eX (fun v hh=>∃(a:Option Addr) (c:Nat),v = .slice a x6.length c∧J0.R hh [.slice a x6.length c] x6∧x6.length≤9223372036854775807) (aI (fun v h1 h2 sb q=>by obtain⟨a,c,e,r,l⟩:=q;exact⟨a,c,e,J0.mono sb r,l⟩) (aI ?_ ?_)))
  ·intro k7 s8
   obtain⟨qx6,vsx6,eL,fx6⟩:=Sl.cutI (r:=Wp.int.toRp) (J0.mono s8 rp1) eK
   refine aI qx6 (eX vsx6 (aI eL ?_))
   intro v hv _
   obtain⟨a,c,rfl,r⟩:=fx6 v hv
   exact aI c8 (aI (Sub.refl _) ⟨a,c,rfl,r,(Sl.len r).2⟩)
  obtain⟨x9,eM,aC⟩:=l0 aC
  obtain⟨bE,cQ⟩:=x9
  try dsimp only at aC
  obtain⟨q10,dK,aC⟩:=l0 aC
  have cD:M0 bE:=O1 dK
  refine Or.inl (eX (.val (.tuple #[.int .i64 bE,.bool cQ])) (aI ?_ ?_))
  ·intro k11 s12
   rintro _ ⟨az13,cz13,rfl,rz13,lz13⟩
   exact Tr.val (X06 _ [.int .i64 aJ,.int .i64 aH,.slice aM bD.length aN] (aJ,aH,bD) (z0 aO aL (F0.mono s12 aP)) 0 (by decide) az13 x6.length cz13 x6 rz13 _ eM) (aI rfl (aI rfl rfl))
  refine Or.inl (eX (.val (.int .i64 bE)) (aI ?_ ?_))
  ·intro k14 s15
   exact aI rfl (aI rfl rfl)
  refine Or.inl (eX (.val (.bool cQ)) (aI ?_ ?_))
  ·intro k16 s17
   exact aI rfl (aI rfl rfl)
  intro k18 s19
  rintro _ ⟨az20,cz20,rfl,rz20,lz20⟩
  obtain⟨x21,dL,aC⟩:=l0 aC
  refine Tr.mono (j7 _ [.int .i64 aJ,.int .i64 aH,.slice aM bD.length aN] (aJ,aH,bD) (z0 aO aL (F0.mono s19 aP)) _  dL) ?_
  rintro v23 k22 ⟨dZ,rfl,dM,aZ⟩
  obtain⟨cE,cG,cH,dN,cI,cR,rfl,rfl,cJ,cK,bF⟩:=B0 dM
  obtain⟨rfl,dO⟩:=Sl.len bF
  try dsimp only at aC
  refine aI (fun cL=>?_) (fun cL=>?_)
  ·replace aC:=ifP aC cL
   obtain⟨x25,dP,aC⟩:=l0 aC
   refine Tr.mono (a0c _ [.int .i64 aJ,.int .i64 aH,.slice aM bD.length aN] (aJ,aH,bD) (z0 aO aL (F0.mono (s19.trans aZ) aP)) _  dP) ?_
   rintro v27 k26 ⟨dC,rfl,bG,bW⟩
   obtain⟨eA,eB⟩:=x25
   dsimp only at aC bG
   obtain⟨aX,aY,bH,cS,bI,bX,rfl,rfl,bJ,bK,aU⟩:=B0 bG
   obtain⟨rfl,cT⟩:=Sl.len aU
   try dsimp only at aC
   refine aI (fun cM=>?_) (fun cM=>?_)
   ·replace aC:=ifP aC cM
    have hE:=oJ aC;subst hE
    exact⟨([.int .i64 0,.int .i64 0,.slice none 0 0]),rfl,(z0 (by decide) (by decide) (z0b P0 k26)),((s19.trans aZ).trans bW)⟩
   ·replace aC:=ifN aC cM
    refine Or.inr (Or.inr (Or.inr (Or.inr (eX 12 (aI (aI (by kernel_rfl) (by kernel_rfl)) ?_)))))
    obtain⟨x29,dQ,aC⟩:=l0 aC
    refine Or.inr (eX (fun v hh=>∃(a:Option Addr) (c:Nat),v = .slice a x29.length c∧J0.R hh [.slice a x29.length c] x29∧x29.length≤9223372036854775807) (aI (fun v h1 h2 sb q=>by obtain⟨a,c,e,r,l⟩:=q;exact⟨a,c,e,J0.mono sb r,l⟩) (aI ?_ ?_)))
    ·intro k30 s31
     obtain⟨qx29,vsx29,dR,fx29⟩:=Sl.cutI (r:=Wp.int.toRp) (J0.mono (((s19.trans aZ).trans bW).trans s31) rp1) dQ
     refine aI qx29 (eX vsx29 (aI dR ?_))
     intro v hv _
     obtain⟨a,c,rfl,r⟩:=fx29 v hv
     exact aI c8 (aI (Sub.refl _) ⟨a,c,rfl,r,(Sl.len r).2⟩)
    obtain⟨x32,dS,aC⟩:=l0 aC
    obtain⟨cU,bL⟩:=x32
    try dsimp only at aC
    obtain⟨aD,aF,aK⟩:=cU
    try dsimp only at aC
    refine Or.inr (eX (fun v hh=>∃(aG:Value),v = .tuple #[aG,.bool bL]∧(fun v hh=>∃(aA:Option Addr) (aB:Nat),v = .agg #[.int .i64 aD,.int .i64 aF,.slice aA aK.length aB]∧M0 aD∧M0 aF∧F0.R hh [.slice aA aK.length aB] aK∧aK.length≤9223372036854775807) aG hh) (aI (fun v h1 h2 sb q=>by obtain⟨aG,e,aT⟩:=q;exact⟨aG,e,(by obtain⟨aA,aB,e,f0,f1,f2,f3⟩:=aT;exact⟨aA,aB,e,f0,f1,F0.mono sb f2,f3⟩)⟩) (aI ?_ ?_)))
    ·intro k33 s34
     rintro _ ⟨az35,cz35,rfl,rz35,lz35⟩
     refine Tr.mono (Y07 _ [.int .i64 aX,.int .i64 aY,.slice bH bX.length bI] (aX,aY,bX) (z0 bJ bK (F0.mono s34 aU)) bE cD az35 x29.length cz35 x29 rz35 aH aL _ dS) ?_
     rintro _ kk ⟨dD,rfl,cN,sb⟩
     obtain⟨cV,cW,aQ,cP,aR,cX,rfl,ey,bA,bB,aS⟩:=B0 cN
     cases ey
     obtain⟨rfl,bC⟩:=Sl.len aS
     exact aI c8 (aI sb ⟨(.agg #[.int .i64 aD,.int .i64 aF,.slice aQ aK.length aR]),rfl,⟨aQ,aR,rfl,bA,bB,aS,bC⟩⟩)
    refine Or.inr (eX (fun v hh=>∃(aG:Value),v = .tuple #[aG,.bool bL]∧(fun v hh=>∃(aA:Option Addr) (aB:Nat),v = .agg #[.int .i64 aD,.int .i64 aF,.slice aA aK.length aB]∧M0 aD∧M0 aF∧F0.R hh [.slice aA aK.length aB] aK∧aK.length≤9223372036854775807) aG hh) (aI (fun v h1 h2 sb q=>by obtain⟨aG,e,aT⟩:=q;exact⟨aG,e,(by obtain⟨aA,aB,e,f0,f1,f2,f3⟩:=aT;exact⟨aA,aB,e,f0,f1,F0.mono sb f2,f3⟩)⟩) (aI ?_ ?_)))
    ·intro k36 s37
     rintro _ ⟨_,rfl,⟨az38p02,cz38p02,rfl,iz38p00,iz38p01,rz38p02,lz38p02⟩⟩
     exact aI c8 (aI (Sub.refl _) ⟨(.agg #[.int .i64 aD,.int .i64 aF,.slice az38p02 aK.length cz38p02]),rfl,⟨az38p02,cz38p02,rfl,iz38p00,iz38p01,rz38p02,lz38p02⟩⟩)
    refine Or.inr (eX (fun v hh=>∃(aA:Option Addr) (aB:Nat),v = .agg #[.int .i64 aD,.int .i64 aF,.slice aA aK.length aB]∧M0 aD∧M0 aF∧F0.R hh [.slice aA aK.length aB] aK∧aK.length≤9223372036854775807) (aI (fun v h1 h2 sb q=>by obtain⟨aA,aB,e,f0,f1,f2,f3⟩:=q;exact⟨aA,aB,e,f0,f1,F0.mono sb f2,f3⟩) (aI ?_ ?_)))
    ·intro k39 s40
     rintro _ ⟨_,rfl,⟨az41p02,cz41p02,rfl,iz41p00,iz41p01,rz41p02,lz41p02⟩⟩
     exact aI c8 (aI (Sub.refl _) ⟨az41p02,cz41p02,rfl,iz41p00,iz41p01,rz41p02,lz41p02⟩)
    refine Or.inl (eX (.val (.bool bL)) (aI ?_ ?_))
    ·intro k42 s43
     rintro _ ⟨_,rfl,⟨az44p02,cz44p02,rfl,iz44p00,iz44p01,rz44p02,lz44p02⟩⟩
     exact aI rfl (aI rfl rfl)
    intro k45 s46
    rintro _ ⟨az472,cz472,rfl,iz470,iz471,rz472,lz472⟩
    rintro _ _
    rintro _ _
    rintro _ _
    refine aI (fun cO=>?_) (fun cO=>?_)
    ·replace aC:=ifP aC cO
     have hE:=oJ aC;subst hE
     exact⟨([.int .i64 0,.int .i64 0,.slice none 0 0]),rfl,(z0 (by decide) (by decide) (z0b P0 k45)),(((s19.trans aZ).trans bW).trans s46)⟩
    ·replace aC:=ifN aC cO
     obtain⟨x49,dT,aC⟩:=l0 aC
     refine Tr.mono (Y06 _ [.int .i64 aD,.int .i64 aF,.slice az472 aK.length cz472] (aD,aF,aK) (z0 iz470 iz471 rz472) aH aL _  dT) ?_
     rintro v51 k50 ⟨dE,rfl,bM,dU⟩
     obtain⟨eC,eD⟩:=x49
     dsimp only at aC bM
     obtain⟨bY,bZ,bN,cY,bO,dF,rfl,rfl,bP,bQ,aV⟩:=B0 bM
     obtain⟨rfl,cZ⟩:=Sl.len aV
     try dsimp only at aC
     have hE:=oJ aC;subst hE
     exact⟨([.int .i64 bY,.int .i64 bZ,.slice bN dF.length bO]),rfl,(z0 bP bQ aV),((((s19.trans aZ).trans bW).trans s46).trans dU)⟩
  ·replace aC:=ifN aC cL
   obtain⟨x52,dV,aC⟩:=l0 aC
   refine Tr.mono (Y06 _ [.int .i64 cE,.int .i64 cG,.slice cH cR.length cI] (cE,cG,cR) (z0 cJ cK bF) bE cD _  dV) ?_
   rintro v54 k53 ⟨dG,rfl,bR,dW⟩
   obtain⟨eE,eF⟩:=x52
   dsimp only at aC bR
   obtain⟨cA,cC,bS,dA,bT,dH,rfl,rfl,bU,bV,aW⟩:=B0 bR
   obtain⟨rfl,dB⟩:=Sl.len aW
   try dsimp only at aC
   have hE:=oJ aC;subst hE
   exact⟨([.int .i64 cA,.int .i64 cC,.slice bS dH.length bT]),rfl,(z0 bU bV aW),((s19.trans aZ).trans dW)⟩
theorem Q0a(h:Hp)(p0:Int)(ip0:M0 p0)(ap1:Option Addr)(np1 cp1:Nat)(p1:P1)(rp1:Q2.R h [.slice ap1 np1 cp1] p1)(r:j0×Bool)(aA:q00 p0 p1=some r):
  Tr Tryz.prog 121 #[.int .i64 p0,.slice ap1 np1 cp1] h fun v h'=>∃(cs0:List Value),v = .tuple #[.agg cs0.toArray,.bool r.2]∧W0.R h' cs0 r.1∧Sub h h':=by
 obtain⟨rfl,lp1⟩:=Sl.len rp1
 unfold q00 at aA
 refine Y1 (args:=[.int .i64 p0,.slice ap1 p1.length cp1]) (fn:=Tryz.f121) rfl ?_
 obtain⟨x1,aZ,aA⟩:=l0 aA
 refine Tr.mono (U0c _ p0 ip0 ap1 p1.length cp1 p1 rp1 _  aZ) ?_
 rintro v3 k2 ⟨aT,rfl,aK,bA⟩
 obtain⟨bB,bC⟩:=x1
 dsimp only at aA aK
 obtain⟨aC,aD,aF,aR,aG,aM,rfl,rfl,aH,aJ,aB⟩:=B0 aK
 obtain⟨rfl,aS⟩:=Sl.len aB
 try dsimp only at aA
 refine aI (fun aU=>?_) (fun aU=>?_)
 ·replace aA:=ifP aA aU
  have hE:=oJ aA;subst hE
  exact⟨([.int .i64 0,.int .i64 0,.slice none 0 0]),rfl,(z0 (by decide) (by decide) (z0b P0 k2)),bA⟩
 ·replace aA:=ifN aA aU
  obtain⟨x5,bD,aA⟩:=l0 aA
  refine Tr.mono (n06 _ [.int .i64 aC,.int .i64 aD,.slice aF aM.length aG] (aC,aD,aM) (z0 aH aJ aB) _  bD) ?_
  rintro v7 k6 ⟨bE,rfl,bF,bG⟩
  obtain⟨aV,aW,aN,aX,aO,bH,rfl,rfl,aP,aQ,aL⟩:=B0 bF
  obtain⟨rfl,aY⟩:=Sl.len aL
  try dsimp only at aA
  have hE:=oJ aA;subst hE
  exact⟨([.int .i64 aV,.int .i64 aW,.slice aN bH.length aO]),rfl,(z0 aP aQ aL),(bA.trans bG)⟩
theorem r9(h:Hp)(aW:List Value)(p0:j0)(rp0:W0.R h aW p0)(ap1:Option Addr)(np1 cp1:Nat)(p1:P1)(rp1:Q2.R h [.slice ap1 np1 cp1] p1)(r:Bool)(aC:U4 p0 p1=some r):
  Tr Tryz.prog 61 #[.agg aW.toArray,.slice ap1 np1 cp1] h fun v h'=>v = .bool r∧h'=h:=by
 obtain⟨aB,aD,aF,aZ,aG,aT,rfl,rfl,aH,aQ,aJ⟩:=B0 rp0
 obtain⟨rfl,bA⟩:=Sl.len aJ
 obtain⟨rfl,lp1⟩:=Sl.len rp1
 unfold U4 at aC
 dsimp only at aC
 refine Tr.forget (Y1 (args:=[.agg #[.int .i64 aB,.int .i64 aD,.slice aF aT.length aG],.slice ap1 p1.length cp1]) (fn:=Tryz.f61) rfl ?_)
 obtain⟨x1,bB,aC⟩:=l0 aC
 refine Tr.mono (Q0a _ aB aH ap1 p1.length cp1 p1 rp1 _  bB) ?_
 rintro v3 k2 ⟨aX,rfl,aR,aY⟩
 obtain⟨bC,bD⟩:=x1
 dsimp only at aC aR
 obtain⟨aK,aL,aM,aU,aN,aS,rfl,rfl,aO,aP,aA⟩:=B0 aR
 obtain⟨rfl,aV⟩:=Sl.len aA
 try dsimp only at aC
 obtain⟨x4,bE,aC⟩:=l0 aC
 refine eX (.bool x4) (aI (fun q=>T6 _ [.int .i64 aB,.int .i64 aD,.slice aF aT.length aG] (aB,aD,aT) (z0 aH aQ (F0.mono aY aJ)) _  (F1 bE q)) ?_)
 obtain⟨x5,bF,aC⟩:=l0 aC
 refine eX (.bool x5) (aI (fun q=>V04 _ [.int .i64 aB,.int .i64 aD,.slice aF aT.length aG] (aB,aD,aT) (z0 aH aQ (F0.mono aY aJ)) [.int .i64 aK,.int .i64 aL,.slice aM aS.length aN] (aK,aL,aS) (z0 aO aP aA) _  (F1 bF q)) ?_)
 have hE:=oJ aC;subst hE
 exact aI rfl aY
theorem F09(h:Hp)(aN:List Value)(p0:j0)(rp0:W0.R h aN p0)(ap1:Option Addr)(np1 cp1:Nat)(p1:P1)(rp1:Q2.R h [.slice ap1 np1 cp1] p1)(r:Bool)(aH:T9 p0 p1=some r):
  Tr Tryz.prog 65 #[.agg aN.toArray,.slice ap1 np1 cp1] h fun v h'=>v = .bool r∧h'=h:=by
 obtain⟨aB,aC,aD,aU,aF,aJ,rfl,rfl,aK,aL,aG⟩:=B0 rp0
 obtain⟨rfl,aV⟩:=Sl.len aG
 obtain⟨rfl,lp1⟩:=Sl.len rp1
 unfold T9 at aH
 dsimp only at aH
 refine Tr.forget (Y1 (args:=[.agg #[.int .i64 aB,.int .i64 aC,.slice aD aJ.length aF],.slice ap1 p1.length cp1]) (fn:=Tryz.f65) rfl ?_)
 obtain⟨X1,aO,aH⟩:=l0 aH
 refine eX { vars:=[5],boxes:=[],owns:=[],fuel:=true } (eX (fun vs os h'=>∃(u2:Int),vs.tail = [.int .i64 u2]∧os = []∧Sub h h'∧M0 u2∧A5 p1 aB aC aJ (K1 vs) u2=some X1) (eX (fun _ _=>0) ?_))
 refine aI (eX S0 ⟨0,rfl,rfl,(Sub.refl _),(by decide),aO⟩) ?_
 rintro v_0 m4 k3 ⟨u2,aP,aQ,aM,iu2,aA⟩
 cases aP
 cases aQ
 replace aA:A5 p1 aB aC aJ m4 u2=some X1:=aA
 obtain _|m4:=m4
 ·cases (show(none:Option _)=some X1 from aA)
 rw[A5.eq_2]at aA
 refine aI (fun aR=>?_) (fun aR=>?_)
 ·replace aA:=ifP aA aR
  refine Or.inl (aI (aI (by kernel_rfl) (by kernel_rfl)) ?_)
  obtain⟨x6,aW,aA⟩:=l0 aA
  obtain⟨aX,aY,aZ,aS⟩:=Sl.getI (r:=J0.toRp) (Q2.mono aM rp1) aW (by decide)
  refine aI aX ?_
  obtain⟨bA,bE,bB,rfl⟩:=Wp.slice_cell aS
  obtain⟨rfl,bF⟩:=Sl.len aS
  refine eX _ (aI aZ ?_)
  obtain⟨x7,bC,aA⟩:=l0 aA
  refine eX (.bool x7) (aI (b04 _ [.int .i64 aB,.int .i64 aC,.slice aD aJ.length aF] (aB,aC,aJ) (z0 aK aL (F0.mono aM aG)) bA x6.length bB x6 aS _  bC) ?_)
  refine aI (fun aT=>?_) (fun aT=>?_)
  ·replace aA:=ifP aA aT
   have hE:=oJ aA;subst hE
   try dsimp only[S3,W3]at aH
   have hE:=oJ aH;subst hE
   exact aI rfl aM
  ·replace aA:=ifN aA aT
   refine aI rfl (aI (by trivial) (aI (by trivial) (eX m4 (aI ⟨(IntKind.i64.wrap (u2+1)),rfl,rfl,aM,(N0 _),aA⟩ (nS _)))))
 ·replace aA:=ifN aA aR
  have hE:=oJ aA;subst hE
  try dsimp only[T0,V0]at aH
  obtain⟨x9,bD,aH⟩:=l0 aH
  refine Tr.val (T6 _ [.int .i64 aB,.int .i64 aC,.slice aD aJ.length aF] (aB,aC,aJ) (z0 aK aL (F0.mono aM aG)) _  bD) ?_
  have hE:=oJ aH;subst hE
  exact aI rfl aM
theorem B0f(h:Hp)(aK:List Value)(p0:j0)(rp0:W0.R h aK p0)(r:Int)(aA:q01 p0=some r):
  Tr Tryz.prog 69 #[.agg aK.toArray] h fun v h'=>v = .int .i64 r∧h'=h:=by
 obtain⟨aF,aG,aB,aN,aC,aL,rfl,rfl,aH,aJ,aD⟩:=B0 rp0
 obtain⟨rfl,aO⟩:=Sl.len aD
 unfold q01 at aA
 dsimp only at aA
 refine Tr.forget (Y1 (args:=[.agg #[.int .i64 aF,.int .i64 aG,.slice aB aL.length aC]]) (fn:=Tryz.f69) rfl ?_)
 obtain⟨x1,aP,aA⟩:=l0 aA
 refine Tr.val (T6 _ [.int .i64 aF,.int .i64 aG,.slice aB aL.length aC] (aF,aG,aL) (z0 aH aJ aD) _  aP) ?_
 refine aI (fun aM=>?_) (fun aM=>?_)
 ·replace aA:=ifP aA aM
  have hE:=oJ aA;subst hE
  exact aI rfl (Sub.refl _)
 ·replace aA:=ifN aA aM
  have hE:=oJ aA;subst hE
  exact aI rfl (Sub.refl _)
theorem h0f(h:Hp)(aK:List Value)(p0:j0)(rp0:W0.R h aK p0)(r:Int)(aA:U01 p0=some r):
  Tr Tryz.prog 70 #[.agg aK.toArray] h fun v h'=>v = .int .i64 r∧h'=h:=by
 obtain⟨aF,aG,aB,aN,aC,aL,rfl,rfl,aH,aJ,aD⟩:=B0 rp0
 obtain⟨rfl,aO⟩:=Sl.len aD
 unfold U01 at aA
 dsimp only at aA
 refine Tr.forget (Y1 (args:=[.agg #[.int .i64 aF,.int .i64 aG,.slice aB aL.length aC]]) (fn:=Tryz.f70) rfl ?_)
 obtain⟨x1,aP,aA⟩:=l0 aA
 refine Tr.val (a08 _ [.int .i64 aF,.int .i64 aG,.slice aB aL.length aC] (aF,aG,aL) (z0 aH aJ aD) _  aP) ?_
 refine aI (fun aM=>?_) (fun aM=>?_)
 ·replace aA:=ifP aA aM
  have hE:=oJ aA;subst hE
  exact aI rfl (Sub.refl _)
 ·replace aA:=ifN aA aM
  have hE:=oJ aA;subst hE
  exact aI rfl (Sub.refl _)
theorem R0a(h:Hp)(cA:List Value)(p0:S00)(rp0:u01.R h cA p0)(r:Bool)(aC:r00 p0=some r):
  Tr Tryz.prog 15 #[.agg cA.toArray] h fun v h'=>v = .bool r∧h'=h:=by
 obtain⟨cC,bL,aP,dD,aQ,bB,aU,dE,aV,bF,bH,dF,bI,cD,aG,aH,aJ,dG,aK,aS,cE,rfl,rfl,dH,bJ,aR,aW,bK,aN,aO,aL,dI⟩:=n01 rp0
 obtain⟨rfl,dJ⟩:=Sl.len aR
 obtain⟨rfl,dK⟩:=Sl.len aW
 obtain⟨rfl,dL⟩:=Sl.len bK
 obtain⟨rfl,dM⟩:=Sl.len aL
 unfold r00 at aC
 dsimp only at aC
 refine Tr.forget (Y1 (args:=[.agg #[.int .i64 cC,.int .i64 bL,.slice aP bB.length aQ,.slice aU bF.length aV,.slice bH cD.length bI,.int .i64 aG,.int .i64 aH,.slice aJ aS.length aK,.int .i64 cE]]) (fn:=Tryz.f15) rfl ?_)
 obtain⟨x1,dO,aC⟩:=l0 aC
 refine Tr.val (V06 _ bL bJ aP bB.length aQ bB aR _  dO) ?_
 obtain⟨x2,dP,aC⟩:=l0 aC
 refine eX (.bool x2) (aI (fun q=>F03 _ bL bJ aU bF.length aV bF aW _  (F1 dP q)) ?_)
 obtain⟨x3,dQ,aC⟩:=l0 aC
 refine eX (.bool x3) (aI (fun q=>T6 _ [.int .i64 aG,.int .i64 aH,.slice aJ aS.length aK] (aG,aH,aS) (z0 aN aO aL) _  (F1 dQ q)) ?_)
 refine aI (fun cG=>?_) (fun cG=>?_)
 ·replace aC:=ifP aC cG
  have hE:=oJ aC;subst hE
  exact aI rfl (Sub.refl _)
 ·replace aC:=ifN aC cG
  refine aI (fun cH=>?_) (fun cH=>?_)
  ·replace aC:=ifP aC cH
   refine Or.inr (Or.inr (Or.inr (Or.inl (aI (aI (by kernel_rfl) (by kernel_rfl)) ?_))))
   obtain⟨x6,dR,aC⟩:=l0 aC
   refine Or.inl (eX (.val (.bool x6)) (aI ?_ ?_))
   ·intro k7 s8
    exact Tr.val (r9 _ [.int .i64 aG,.int .i64 aH,.slice aJ aS.length aK] (aG,aH,aS) (z0 aN aO (F0.mono s8 aL)) aP bB.length aQ bB (Q2.mono s8 aR) _ dR) (aI rfl (aI rfl rfl))
   obtain⟨x9,dS,aC⟩:=l0 aC
   refine Or.inr (eX (fun v hh=>∃(a:Option Addr) (c:Nat),v = .slice a x9.length c∧Q2.R hh [.slice a x9.length c] x9∧x9.length≤9223372036854775807) (aI (fun v h1 h2 sb q=>by obtain⟨a,c,e,r,l⟩:=q;exact⟨a,c,e,Q2.mono sb r,l⟩) (aI ?_ ?_)))
   ·intro k10 s11 hq
    refine Tr.mono (g0f _ [.int .i64 aG,.int .i64 aH,.slice aJ aS.length aK] (aG,aH,aS) (z0 aN aO (F0.mono s11 aL)) _ (F1 dS hq)) ?_
    rintro _ kk ⟨dT,eA,dU,rfl,dN,sb⟩
    obtain⟨rfl,dV⟩:=Sl.len dN
    exact aI c8 (aI sb ⟨dT,dU,rfl,dN,dV⟩)
   obtain⟨x12,cI,aC⟩:=l0 aC
   refine Or.inr (eX (fun v hh=>∃(a:Option Addr) (c:Nat),v = .slice a x12.length c∧J0.R hh [.slice a x12.length c] x12∧x12.length≤9223372036854775807) (aI (fun v h1 h2 sb q=>by obtain⟨a,c,e,r,l⟩:=q;exact⟨a,c,e,J0.mono sb r,l⟩) (aI ?_ ?_)))
   ·intro k13 s14 hq
    rintro _ ⟨az15,cz15,rfl,rz15,lz15⟩
    refine Tr.mono (Y0c _ az15 x9.length cz15 x9 rz15 bH cD.length bI cD (J0.mono s14 bK) _ (F1 cI hq)) ?_
    rintro _ kk ⟨cJ,dW,cK,rfl,bT,sb⟩
    obtain⟨rfl,cL⟩:=Sl.len bT
    exact aI c8 (aI sb ⟨cJ,cK,rfl,bT,cL⟩)
   obtain⟨x16,cM,aC⟩:=l0 aC
   refine Or.inl (eX (.val (.bool x16)) (aI ?_ ?_))
   ·intro k17 s18 hq
    rintro _ ⟨az19,cz19,rfl,rz19,lz19⟩
    exact Tr.val (L0a _ az19 x12.length cz19 x12 rz19 aU bF.length aV bF (J0.mono s18 aW) _ (F1 cM hq)) (aI rfl (aI rfl rfl))
   intro k20 s21
   have hE:=oJ aC;subst hE
   exact aI rfl s21
  ·replace aC:=ifN aC cH
   refine aI (fun bM=>?_) (fun bM=>?_)
   ·replace aC:=ifP aC bM
    obtain⟨x23,cN,aC⟩:=l0 aC
    refine Tr.val (F09 _ [.int .i64 aG,.int .i64 aH,.slice aJ aS.length aK] (aG,aH,aS) (z0 aN aO aL) aP bB.length aQ bB aR _  cN) ?_
    obtain⟨x24,cO,aC⟩:=l0 aC
    refine eX (.bool x24) (aI (fun q=>b04 _ [.int .i64 aG,.int .i64 aH,.slice aJ aS.length aK] (aG,aH,aS) (z0 aN aO aL) aU bF.length aV bF aW _  (F1 cO q)) ?_)
    have hE:=oJ aC;subst hE
    exact aI rfl (Sub.refl _)
   ·replace aC:=ifN aC bM
    refine aI (fun bN=>?_) (fun bN=>?_)
    ·replace aC:=ifP aC bN
     obtain⟨x26,cP,aC⟩:=l0 aC
     refine Tr.val (r9 _ [.int .i64 aG,.int .i64 aH,.slice aJ aS.length aK] (aG,aH,aS) (z0 aN aO aL) aP bB.length aQ bB aR _  cP) ?_
     obtain⟨x27,cQ,aC⟩:=l0 aC
     refine eX (.bool x27) (aI (fun q=>b04 _ [.int .i64 aG,.int .i64 aH,.slice aJ aS.length aK] (aG,aH,aS) (z0 aN aO aL) aU bF.length aV bF aW _  (F1 cQ q)) ?_)
     have hE:=oJ aC;subst hE
     exact aI rfl (Sub.refl _)
    ·replace aC:=ifN aC bN
     refine aI (fun bO=>?_) (fun bO=>?_)
     ·replace aC:=ifP aC bO
      refine Or.inr (Or.inr (Or.inr (Or.inr (eX 10 (aI (aI (by kernel_rfl) (by kernel_rfl)) ?_)))))
      obtain⟨x29,cR,aC⟩:=l0 aC
      refine Or.inr (eX (fun v hh=>∃(a:Option Addr) (c:Nat),v = .slice a x29.length c∧J0.R hh [.slice a x29.length c] x29∧x29.length≤9223372036854775807) (aI (fun v h1 h2 sb q=>by obtain⟨a,c,e,r,l⟩:=q;exact⟨a,c,e,J0.mono sb r,l⟩) (aI ?_ ?_)))
      ·intro k30 s31
       refine Tr.mono (A01 _ aU bF.length aV bF (J0.mono s31 aW) _ cR) ?_
       rintro _ kk ⟨cS,dX,cT,rfl,bU,sb⟩
       obtain⟨rfl,cU⟩:=Sl.len bU
       exact aI c8 (aI sb ⟨cS,cT,rfl,bU,cU⟩)
      obtain⟨x32,cV,aC⟩:=l0 aC
      obtain⟨bV,bG⟩:=x32
      try dsimp only at aC
      obtain⟨aD,aF,aT⟩:=bV
      try dsimp only at aC
      refine Or.inr (eX (fun v hh=>∃(aM:Value),v = .tuple #[aM,.bool bG]∧(fun v hh=>∃(aA:Option Addr) (aB:Nat),v = .agg #[.int .i64 aD,.int .i64 aF,.slice aA aT.length aB]∧M0 aD∧M0 aF∧F0.R hh [.slice aA aT.length aB] aT∧aT.length≤9223372036854775807) aM hh) (aI (fun v h1 h2 sb q=>by obtain⟨aM,e,bA⟩:=q;exact⟨aM,e,(by obtain⟨aA,aB,e,f0,f1,f2,f3⟩:=bA;exact⟨aA,aB,e,f0,f1,F0.mono sb f2,f3⟩)⟩) (aI ?_ ?_)))
      ·intro k33 s34
       rintro _ ⟨az35,cz35,rfl,rz35,lz35⟩
       refine Tr.mono (G05 _ [.int .i64 aG,.int .i64 aH,.slice aJ aS.length aK] (aG,aH,aS) (z0 aN aO (F0.mono s34 aL)) az35 x29.length cz35 x29 rz35 _ cV) ?_
       rintro _ kk ⟨bZ,rfl,bP,sb⟩
       obtain⟨bW,bX,aX,bS,aY,bY,rfl,ey,bC,bD,aZ⟩:=B0 bP
       cases ey
       obtain⟨rfl,bE⟩:=Sl.len aZ
       exact aI c8 (aI sb ⟨(.agg #[.int .i64 aD,.int .i64 aF,.slice aX aT.length aY]),rfl,⟨aX,aY,rfl,bC,bD,aZ,bE⟩⟩)
      refine Or.inr (eX (fun v hh=>∃(aM:Value),v = .tuple #[aM,.bool bG]∧(fun v hh=>∃(aA:Option Addr) (aB:Nat),v = .agg #[.int .i64 aD,.int .i64 aF,.slice aA aT.length aB]∧M0 aD∧M0 aF∧F0.R hh [.slice aA aT.length aB] aT∧aT.length≤9223372036854775807) aM hh) (aI (fun v h1 h2 sb q=>by obtain⟨aM,e,bA⟩:=q;exact⟨aM,e,(by obtain⟨aA,aB,e,f0,f1,f2,f3⟩:=bA;exact⟨aA,aB,e,f0,f1,F0.mono sb f2,f3⟩)⟩) (aI ?_ ?_)))
      ·intro k36 s37
       rintro _ ⟨_,rfl,⟨az38p02,cz38p02,rfl,iz38p00,iz38p01,rz38p02,lz38p02⟩⟩
       exact aI c8 (aI (Sub.refl _) ⟨(.agg #[.int .i64 aD,.int .i64 aF,.slice az38p02 aT.length cz38p02]),rfl,⟨az38p02,cz38p02,rfl,iz38p00,iz38p01,rz38p02,lz38p02⟩⟩)
      refine Or.inr (eX (fun v hh=>∃(aA:Option Addr) (aB:Nat),v = .agg #[.int .i64 aD,.int .i64 aF,.slice aA aT.length aB]∧M0 aD∧M0 aF∧F0.R hh [.slice aA aT.length aB] aT∧aT.length≤9223372036854775807) (aI (fun v h1 h2 sb q=>by obtain⟨aA,aB,e,f0,f1,f2,f3⟩:=q;exact⟨aA,aB,e,f0,f1,F0.mono sb f2,f3⟩) (aI ?_ ?_)))
      ·intro k39 s40
       rintro _ ⟨_,rfl,⟨az41p02,cz41p02,rfl,iz41p00,iz41p01,rz41p02,lz41p02⟩⟩
       exact aI c8 (aI (Sub.refl _) ⟨az41p02,cz41p02,rfl,iz41p00,iz41p01,rz41p02,lz41p02⟩)
      refine Or.inl (eX (.val (.bool bG)) (aI ?_ ?_))
      ·intro k42 s43
       rintro _ ⟨_,rfl,⟨az44p02,cz44p02,rfl,iz44p00,iz44p01,rz44p02,lz44p02⟩⟩
       exact aI rfl (aI rfl rfl)
      intro k45 s46
      rintro _ ⟨az472,cz472,rfl,iz470,iz471,rz472,lz472⟩
      rintro _ _
      rintro _ _
      rintro _ _
      obtain⟨x48,cW,aC⟩:=l0 aC
      refine eX (.bool x48) (aI (fun q=>r9 _ [.int .i64 aD,.int .i64 aF,.slice az472 aT.length cz472] (aD,aF,aT) (z0 iz470 iz471 rz472) aP bB.length aQ bB (Q2.mono s46 aR) _  (F1 cW q)) ?_)
      have hE:=oJ aC;subst hE
      exact aI rfl s46
     ·replace aC:=ifN aC bO
      refine aI (fun bQ=>?_) (fun bQ=>?_)
      ·replace aC:=ifP aC bQ
       refine Or.inl (aI (aI (by kernel_rfl) (by kernel_rfl)) ?_)
       obtain⟨x50,cX,aC⟩:=l0 aC
       refine eX (.bool x50) (aI (r9 _ [.int .i64 aG,.int .i64 aH,.slice aJ aS.length aK] (aG,aH,aS) (z0 aN aO aL) aP bB.length aQ bB aR _  cX) ?_)
       obtain⟨x51,cY,aC⟩:=l0 aC
       refine eX (.int .i64 x51) (aI (fun q=>B0f _ [.int .i64 aG,.int .i64 aH,.slice aJ aS.length aK] (aG,aH,aS) (z0 aN aO aL) _  (F1 cY q)) ?_)
       obtain⟨q52,cZ,aC⟩:=l0 aC
       have dY:M0 x51:=O1 cZ
       have hE:=oJ aC;subst hE
       exact aI rfl (Sub.refl _)
      ·replace aC:=ifN aC bQ
       refine aI (fun bR=>?_) (fun bR=>?_)
       ·replace aC:=ifP aC bR
        refine Or.inl (aI (aI (by kernel_rfl) (by kernel_rfl)) ?_)
        obtain⟨x54,dA,aC⟩:=l0 aC
        refine eX (.bool x54) (aI (r9 _ [.int .i64 aG,.int .i64 aH,.slice aJ aS.length aK] (aG,aH,aS) (z0 aN aO aL) aP bB.length aQ bB aR _  dA) ?_)
        obtain⟨x55,dB,aC⟩:=l0 aC
        refine eX (.int .i64 x55) (aI (fun q=>h0f _ [.int .i64 aG,.int .i64 aH,.slice aJ aS.length aK] (aG,aH,aS) (z0 aN aO aL) _  (F1 dB q)) ?_)
        obtain⟨q56,dC,aC⟩:=l0 aC
        have dZ:M0 x55:=O1 dC
        have hE:=oJ aC;subst hE
        exact aI rfl (Sub.refl _)
       ·replace aC:=ifN aC bR
        have hE:=oJ aC;subst hE
        exact aI rfl (Sub.refl _)
theorem K7(h:Hp)(aH:List Value)(p0:j0)(rp0:W0.R h aH p0)(r:j0)(aB:U3 p0=some r):
  Tr Tryz.prog 158 #[.agg aH.toArray] h fun v h'=>∃(g0:Nat) (n0 c0:Nat),v = .agg ([.int .i64 r.1,.int .i64 r.2.1,.slice (some ⟨g0,0,none⟩) n0 c0]:List Value).toArray∧New W0 h h' [.int .i64 r.1,.int .i64 r.2.1,.slice (some ⟨g0,0,none⟩) n0 c0] r:=by
 obtain⟨aJ,aK,aC,aM,aD,aL,rfl,rfl,aF,aG,aA⟩:=B0 rp0
 obtain⟨rfl,aN⟩:=Sl.len aA
 unfold U3 at aB
 dsimp only at aB
 refine Y1 (args:=[.agg #[.int .i64 aJ,.int .i64 aK,.slice aC aL.length aD]]) (fn:=Tryz.f158) rfl ?_
 refine Or.inr (Or.inr (Or.inl (aI (aI (by kernel_rfl) (by kernel_rfl)) ?_)))
 refine Or.inr ?_
 refine Or.inr ?_
 refine Or.inr ?_
 refine Or.inr ?_
 refine Or.inl (eX 0 (aI (aI rfl rfl) ?_))
 refine aI trivial (aI (by first|exact trivial|exact rfl) ?_)
 obtain⟨vsy1,ey1,fy1⟩:=Sl.rows (r:=P0.toRp) aA
 refine eX vsy1 (aI ey1 ?_)
 obtain⟨q2,aO,aB⟩:=l0 aB
 refine aI (L1 aO (by first|rw[F2.length (show F2 (P0.R h) ([]:List (List Value)) ([]:I0) from trivial),F2.length fy1]|exact congrArg (·+1) (F2.length (show F2 (P0.R h) ([]:List (List Value)) ([]:I0) from trivial)))) ?_
 refine aI trivial (aI (by first|exact trivial|exact rfl) ?_)
 refine aI trivial (aI (by first|exact trivial|exact rfl) ?_)
 refine aI trivial (aI (by first|exact trivial|exact rfl) ?_)
 intro v3 k4 f5
 obtain⟨gz6,cz6,rfl,rz6,sz6,lz6⟩:=Z0.outS (r:=P0.toRp) f5 (F2.append (show F2 (P0.R h) ([]:List (List Value)) ([]:I0) from trivial) fy1)
 have hE:=oJ aB;subst hE
 exact⟨gz6,((([]:I0)++aL)).length,cz6,rfl,(New.pair (New.int aF) (New.pair (New.int aG) (Z0.newPlain (r:=P0) f5 (F2.append (show F2 (P0.R h) ([]:List (List Value)) ([]:I0) from trivial) fy1) (D09 _))))⟩
theorem Z0c(h:Hp)(aK:List Value)(p0:j0)(rp0:W0.R h aK p0)(p1:Int)(ip1:M0 p1)(r:Int)(aD:Y00 p0 p1=some r):
  Tr Tryz.prog 190 #[.agg aK.toArray,.int .i64 p1] h fun v h'=>v = .int .i64 r∧h'=h:=by
 obtain⟨aL,aM,aG,aT,aH,aJ,rfl,rfl,aU,aV,aB⟩:=B0 rp0
 obtain⟨rfl,aW⟩:=Sl.len aB
 unfold Y00 at aD
 dsimp only at aD
 refine Tr.forget (Y1 (args:=[.agg #[.int .i64 aL,.int .i64 aM,.slice aG aJ.length aH],.int .i64 p1]) (fn:=Tryz.f190) rfl ?_)
 obtain⟨X1,aN,aD⟩:=l0 aD
 refine eX { vars:=[5,11],boxes:=[],owns:=[],fuel:=true } (eX (fun vs os h'=>∃(u2:Int) (u3:Int),vs.tail = [.int .i64 u2,.int .i64 u3]∧os = []∧Sub h h'∧M0 u2∧M0 u3∧j5 aJ p1 (K1 vs) u2 u3=some X1) (eX (fun _ _=>0) ?_))
 refine aI (eX S0 ⟨0,0,rfl,rfl,(Sub.refl _),(by decide),(by decide),aN⟩) ?_
 rintro v_0 v_1 m5 k4 ⟨u2,u3,aO,aP,aF,iu2,iu3,aA⟩
 cases aO
 cases aP
 replace aA:j5 aJ p1 m5 u2 u3=some X1:=aA
 obtain _|m5:=m5
 ·cases (show(none:Option _)=some X1 from aA)
 rw[j5.eq_2]at aA
 refine aI (fun aQ=>?_) (fun aQ=>?_)
 ·replace aA:=ifP aA aQ
  obtain⟨x7,bA,aA⟩:=l0 aA
  obtain⟨bB,bC,bD,bE⟩:=Sl.getI (r:=P0.toRp) (F0.mono aF aB) bA (by decide)
  refine aI bB ?_
  obtain⟨bF,bG,bH,rfl,rfl,aX,aY,aZ⟩:=I1 bE
  try dsimp only at aA
  refine eX _ (aI bD ?_)
  refine aI (fun aR=>?_) (fun aR=>?_)
  ·replace aA:=ifP aA aR
   refine aI (fun aS=>?_) (fun aS=>?_)
   ·replace aA:=ifP aA aS
    refine aI rfl (aI (by trivial) (aI (by trivial) (eX m5 (aI ⟨(IntKind.i64.wrap ((IntKind.i64.wrap (u2+1))+1)),(IntKind.i64.wrap (u3+1)),rfl,rfl,aF,(N0 _),(N0 _),aA⟩ (nS _)))))
   ·replace aA:=ifN aA aS
    refine aI rfl (aI (by trivial) (aI (by trivial) (eX m5 (aI ⟨(IntKind.i64.wrap (u2+1)),(IntKind.i64.wrap (u3+1)),rfl,rfl,aF,(N0 _),(N0 _),aA⟩ (nS _)))))
  ·replace aA:=ifN aA aR
   refine aI (fun aC=>?_) (fun aC=>?_)
   ·replace aA:=ifP aA aC
    refine aI rfl (aI (by trivial) (aI (by trivial) (eX m5 (aI ⟨(IntKind.i64.wrap (u2+1)),(IntKind.i64.wrap (u3+1)),rfl,rfl,aF,(N0 _),(N0 _),aA⟩ (nS _)))))
   ·replace aA:=ifN aA aC
    refine aI rfl (aI (by trivial) (aI (by trivial) (eX m5 (aI ⟨u2,(IntKind.i64.wrap (u3+1)),rfl,rfl,aF,iu2,(N0 _),aA⟩ (nS _)))))
 ·replace aA:=ifN aA aQ
  have hE:=oJ aA;subst hE
  try dsimp only[T0,V0]at aD
  have hE:=oJ aD;subst hE
  exact aI rfl aF
theorem j02(h:Hp)(ap0:Option Addr)(np0 cp0:Nat)(p0:I0)(rp0:F0.R h [.slice ap0 np0 cp0] p0)(ap1:Option Addr)(np1 cp1:Nat)(p1:I0)(rp1:F0.R h [.slice ap1 np1 cp1] p1)(r:Bool)(aB:L2 p0 p1=some r):
  Tr Tryz.prog 160 #[.slice ap0 np0 cp0,.slice ap1 np1 cp1] h fun v h'=>v = .bool r∧h'=h:=by
 obtain⟨rfl,lp0⟩:=Sl.len rp0
 obtain⟨rfl,lp1⟩:=Sl.len rp1
 unfold L2 at aB
 refine Tr.forget (Y1 (args:=[.slice ap0 p0.length cp0,.slice ap1 p1.length cp1]) (fn:=Tryz.f160) rfl ?_)
 refine aI (fun aD=>?_) (fun aD=>?_)
 ·replace aB:=ifP aB aD
  have hE:=oJ aB;subst hE
  exact aI rfl (Sub.refl _)
 ·replace aB:=ifN aB aD
  obtain⟨X2,aF,aB⟩:=l0 aB
  refine eX { vars:=[13],boxes:=[],owns:=[],fuel:=true } (eX (fun vs os h'=>∃(u3:Int),vs.tail = [.int .i64 u3]∧os = []∧Sub h h'∧M0 u3∧G1 p0 p1 (K1 vs) u3=some X2) (eX (fun _ _=>0) ?_))
  refine aI (eX S0 ⟨0,rfl,rfl,(Sub.refl _),(by decide),aF⟩) ?_
  rintro v_0 m5 k4 ⟨u3,aG,aH,aC,iu3,aA⟩
  cases aG
  cases aH
  replace aA:G1 p0 p1 m5 u3=some X2:=aA
  obtain _|m5:=m5
  ·cases (show(none:Option _)=some X2 from aA)
  rw[G1.eq_2]at aA
  refine aI (fun aJ=>?_) (fun aJ=>?_)
  ·replace aA:=ifP aA aJ
   refine Or.inl (aI (aI (by kernel_rfl) (by kernel_rfl)) ?_)
   obtain⟨x7,aX,aA⟩:=l0 aA
   obtain⟨aY,aZ,bA,bB⟩:=Sl.getI (r:=P0.toRp) (F0.mono aC rp0) aX (by decide)
   refine aI aY ?_
   obtain⟨aK,aL,aM,rfl,rfl,aR,aS,aT⟩:=I1 bB
   try dsimp only at aA
   refine eX _ (aI bA ?_)
   obtain⟨x8,bC,aA⟩:=l0 aA
   obtain⟨bD,bE,bF,bG⟩:=Sl.getI (r:=P0.toRp) (F0.mono aC rp1) bC (by decide)
   refine aI bD ?_
   obtain⟨aN,aO,aP,rfl,rfl,aU,aV,aW⟩:=I1 bG
   try dsimp only at aA
   refine eX _ (aI bF ?_)
   refine eX (!eqE (aK,aL,aM) (aN,aO,aP)) (aI (a0i _ _ _ rfl _ _ _ _ _ _) ?_)
   refine aI (fun aQ=>?_) (fun aQ=>?_)
   ·replace aA:=ifP aA aQ
    have hE:=oJ aA;subst hE
    try dsimp only[S3,W3]at aB
    have hE:=oJ aB;subst hE
    exact aI rfl aC
   ·replace aA:=ifN aA aQ
    refine aI rfl (aI (by trivial) (aI (by trivial) (eX m5 (aI ⟨(IntKind.i64.wrap (u3+1)),rfl,rfl,aC,(N0 _),aA⟩ (nS _)))))
  ·replace aA:=ifN aA aJ
   have hE:=oJ aA;subst hE
   try dsimp only[T0,V0]at aB
   have hE:=oJ aB;subst hE
   exact aI rfl aC
theorem W04(h:Hp)(aJ:List Value)(p0:j0)(rp0:W0.R h aJ p0)(aK:List Value)(p1:j0)(rp1:W0.R h aK p1)(r:Bool)(aH:B8 p0 p1=some r):
  Tr Tryz.prog 98 #[.agg aJ.toArray,.agg aK.toArray] h fun v h'=>v = .bool r∧h'=h:=by
 obtain⟨aL,aM,aA,aR,aB,aN,rfl,rfl,aS,aT,aC⟩:=B0 rp0
 obtain⟨rfl,aU⟩:=Sl.len aC
 obtain⟨aO,aP,aD,aV,aF,aQ,rfl,rfl,aW,aX,aG⟩:=B0 rp1
 obtain⟨rfl,aY⟩:=Sl.len aG
 unfold B8 at aH
 dsimp only at aH
 refine Tr.forget (Y1 (args:=[.agg #[.int .i64 aL,.int .i64 aM,.slice aA aN.length aB],.agg #[.int .i64 aO,.int .i64 aP,.slice aD aQ.length aF]]) (fn:=Tryz.f98) rfl ?_)
 obtain⟨x1,aZ,aH⟩:=l0 aH
 refine eX (.bool x1) (aI (fun q=>j02 _ aA aN.length aB aN aC aD aQ.length aF aQ aG _  (F1 aZ q)) ?_)
 have hE:=oJ aH;subst hE
 exact aI rfl (Sub.refl _)
theorem E08(h:Hp)(aM:List Value)(p0:j0)(rp0:W0.R h aM p0)(p1:Int)(ip1:M0 p1)(r:(List Bool))(aC:p9 p0 p1=some r):
  Tr Tryz.prog 189 #[.agg aM.toArray,.int .i64 p1] h fun v h'=>∃(a0:Option Addr) (n0 c0:Nat),v = .slice a0 n0 c0∧(Wp.slice Wp.bool).R h' [.slice a0 n0 c0] r∧Sub h h':=by
 obtain⟨aN,aO,aJ,bT,aK,aD,rfl,rfl,bU,bV,aF⟩:=B0 rp0
 obtain⟨rfl,bW⟩:=Sl.len aF
 unfold p9 at aC
 dsimp only at aC
 refine Y1 (args:=[.agg #[.int .i64 aN,.int .i64 aO,.slice aJ aD.length aK],.int .i64 p1]) (fn:=Tryz.f189) rfl ?_
 obtain⟨q1,cH,aC⟩:=l0 aC
 refine aI (O1 cH) ?_
 obtain⟨x2,cI,aC⟩:=l0 aC
 obtain⟨cJ,cK,cL,cM⟩:=G4 (F2.rep (p:=Wp.bool.R h) (a:=[.bool false]) (b:=false) rfl (aO.toNat)) cI
 refine aI cJ ?_
 obtain rfl:=cM
 refine eX _ (aI cL ?_)
 obtain⟨X3,aP,aC⟩:=l0 aC
 refine eX { vars:=[6],boxes:=[],owns:=[0],fuel:=true,kept:=[0] } (eX (fun vs os h'=>∃(u4:Bool) (wu5:List (List Value)) (u5:List Bool),vs.tail = [.bool u4]∧os = [wu5]∧Sub h h'∧F2 (Wp.bool.R h') wu5 u5∧L4 aD (K1 vs) u4 u5=some X3) (eX (fun _ _=>0) ?_))
 refine aI (eX S0 ⟨true,((List.replicate aO.toNat ([.bool false]:List Value)).set p1.toNat [.bool true]),((List.replicate aO.toNat (false:Bool)).set p1.toNat true),rfl,rfl,(Sub.refl _),(F2.set (p:=Wp.bool.R h) (a:=[.bool true]) (b:=true) rfl p1.toNat (F2.rep (p:=Wp.bool.R h) (a:=[.bool false]) (b:=false) rfl (aO.toNat))),aP⟩) ?_
 rintro v_0 wu5 m7 k6 ⟨u4,zzu5,u5,aQ,aR,cN,fu5,aB⟩
 cases aQ
 cases aR
 replace aB:L4 aD m7 u4 u5=some X3:=aB
 obtain _|m7:=m7
 ·cases (show(none:Option _)=some X3 from aB)
 rw[L4.eq_2]at aB
 refine aI (fun aS=>?_) (fun aS=>?_)
 ·replace aB:=ifP aB aS
  obtain⟨X9,aT,aB⟩:=l0 aB
  refine eX { vars:=[6,19],boxes:=[],owns:=[0],fuel:=true,kept:=[0] } (eX (fun vs os h'=>∃(u10:Bool) (u11:Int) (wu12:List (List Value)) (u12:List Bool),vs.tail = [.bool u10,.int .i64 u11]∧os = [wu12]∧Sub k6 h'∧M0 u11∧F2 (Wp.bool.R h') wu12 u12∧O3 aD (K1 vs) u10 u11 u12=some X9) (eX (fun _ _=>0) ?_))
  refine aI (eX S0 ⟨false,0,wu5,u5,rfl,rfl,(Sub.refl _),(by decide),fu5,aT⟩) ?_
  rintro v_0 v_1 wu12 m14 k13 ⟨u10,u11,zzu12,u12,aU,aV,aL,iu11,fu12,aA⟩
  cases aU
  cases aV
  replace aA:O3 aD m14 u10 u11 u12=some X9:=aA
  obtain _|m14:=m14
  ·cases (show(none:Option _)=some X9 from aA)
  rw[O3.eq_2]at aA
  refine aI (fun aG=>?_) (fun aG=>?_)
  ·replace aA:=ifP aA aG
   obtain⟨x16,aW,aA⟩:=l0 aA
   obtain⟨aX,bX,aY,aZ⟩:=Sl.getI (r:=P0.toRp) (F0.mono (cN.trans aL) aF) aW (by decide)
   refine aI aX ?_
   obtain⟨bY,bZ,cA,rfl,rfl,bA,bB,bC⟩:=I1 aZ
   try dsimp only at aA
   refine eX _ (aI aY ?_)
   refine Or.inl (aI (aI (by kernel_rfl) (by kernel_rfl)) ?_)
   obtain⟨x17,bD,aA⟩:=l0 aA
   obtain⟨bE,cC,bF,bG⟩:=G4 fu12 bD
   refine aI bE ?_
   obtain rfl:=bG
   refine eX _ (aI bF ?_)
   obtain⟨x18,bH,aA⟩:=l0 aA
   obtain⟨bI,cD,bJ,bK⟩:=G4 fu12 bH
   refine aI bI ?_
   obtain rfl:=bK
   refine eX _ (aI bJ ?_)
   refine aI (fun aH=>?_) (fun aH=>?_)
   ·replace aA:=ifP aA aH
    obtain⟨x20,bL,aA⟩:=l0 aA
    obtain⟨bM,cE,bN,bO⟩:=G4 fu12 bL
    refine aI bM ?_
    obtain rfl:=bO
    refine eX _ (aI bN ?_)
    obtain⟨x21,bP,aA⟩:=l0 aA
    obtain⟨bQ,cG,bR,bS⟩:=G4 (F2.set (p:=Wp.bool.R k13) (a:=[.bool true]) (b:=true) rfl bY.toNat fu12) bP
    refine aI bQ ?_
    obtain rfl:=bS
    refine eX _ (aI bR ?_)
    refine aI rfl (aI (by trivial) (aI (by trivial) (eX m14 (aI ⟨true,(IntKind.i64.wrap (u11+1)),((wu12.set bY.toNat [.bool true]).set cA.toNat [.bool true]),((u12.set bY.toNat true).set cA.toNat true),rfl,rfl,aL,(N0 _),(F2.set (p:=Wp.bool.R k13) (a:=[.bool true]) (b:=true) rfl cA.toNat (F2.set (p:=Wp.bool.R k13) (a:=[.bool true]) (b:=true) rfl bY.toNat fu12)),aA⟩ (nS _)))))
   ·replace aA:=ifN aA aH
    refine aI rfl (aI (by trivial) (aI (by trivial) (eX m14 (aI ⟨u10,(IntKind.i64.wrap (u11+1)),wu12,u12,rfl,rfl,aL,(N0 _),fu12,aA⟩ (nS _)))))
  ·replace aA:=ifN aA aG
   have hE:=oJ aA;subst hE
   try dsimp only[T0,V0]at aB
   refine aI rfl (aI (by trivial) (aI (by trivial) (eX m7 (aI ⟨u10,wu12,u12,rfl,rfl,(cN.trans aL),fu12,aB⟩ (nS _)))))
 ·replace aB:=ifN aB aS
  have hE:=oJ aB;subst hE
  try dsimp only[T0,V0]at aC
  intro v27 k28 f29
  obtain⟨az30,cz30,rfl,rz30,sz30,lz30⟩:=Z0.out (r:=Wp.bool.toRp) f29 fu5
  have hE:=oJ aC;subst hE
  exact⟨az30,u5.length,cz30,rfl,rz30,(cN.trans sz30)⟩
theorem b08(h:Hp)(p0:Int)(ip0:M0 p0)(r:C0)(aB:Q8 p0=some r):
  Tr Tryz.prog 193 #[.int .i64 p0] h fun v h'=>∃(a0:Option Addr) (n0 c0:Nat),v = .slice a0 n0 c0∧J0.R h' [.slice a0 n0 c0] r∧Sub h h':=by
 unfold Q8 at aB
 refine Y1 (args:=[.int .i64 p0]) (fn:=Tryz.f193) rfl ?_
 obtain⟨X1,aC,aB⟩:=l0 aB
 refine eX { vars:=[4],boxes:=[],owns:=[0],fuel:=true } (eX (fun vs os h'=>∃(u2:Int) (wu3:List (List Value)) (u3:List Int),vs.tail = [.int .i64 u2]∧os = [wu3]∧Sub h h'∧M0 u2∧F2 (Wp.int.R h') wu3 u3∧w7 p0 (K1 vs) u2 u3=some X1) (eX (fun _ _=>0) ?_))
 refine aI (eX S0 ⟨1,[],([]:C0),rfl,rfl,(Sub.refl _),(by decide),(show F2 (Wp.int.R h) ([]:List (List Value)) ([]:C0) from trivial),aC⟩) ?_
 rintro v_0 wu3 m5 k4 ⟨u2,zzu3,u3,aD,aF,aH,iu2,fu3,aA⟩
 cases aD
 cases aF
 replace aA:w7 p0 m5 u2 u3=some X1:=aA
 obtain _|m5:=m5
 ·cases (show(none:Option _)=some X1 from aA)
 rw[w7.eq_2]at aA
 refine aI (fun aG=>?_) (fun aG=>?_)
 ·replace aA:=ifP aA aG
  obtain⟨q7,aJ,aA⟩:=l0 aA
  refine aI (L1 aJ (by first|rw[F2.length fu3,F2.length (show F2 (Wp.int.R k4) ([[.int .i64 u2],[.int .i64 (IntKind.i64.wrap (0-u2))]]:List (List Value)) [u2,(IntKind.i64.wrap (0-u2))] from⟨⟨rfl,iu2⟩,⟨⟨rfl,(N0 _)⟩,trivial⟩⟩)]|exact congrArg (·+2) (F2.length fu3))) ?_
  refine aI rfl (aI (by trivial) (aI (by trivial) (eX m5 (aI ⟨(IntKind.i64.wrap (u2+1)),(wu3++([[.int .i64 u2],[.int .i64 (IntKind.i64.wrap (0-u2))]]:List (List Value))),(u3 ++ [u2,(IntKind.i64.wrap (0-u2))]),rfl,rfl,aH,(N0 _),(F2.append fu3 (show F2 (Wp.int.R k4) ([[.int .i64 u2],[.int .i64 (IntKind.i64.wrap (0-u2))]]:List (List Value)) [u2,(IntKind.i64.wrap (0-u2))] from⟨⟨rfl,iu2⟩,⟨⟨rfl,(N0 _)⟩,trivial⟩⟩)),aA⟩ (nS _)))))
 ·replace aA:=ifN aA aG
  have hE:=oJ aA;subst hE
  try dsimp only[T0,V0]at aB
  intro v8 k9 f10
  obtain⟨az11,cz11,rfl,rz11,sz11,lz11⟩:=Z0.out (r:=Wp.int.toRp) f10 fu3
  have hE:=oJ aB;subst hE
  exact⟨az11,u3.length,cz11,rfl,rz11,(aH.trans sz11)⟩
theorem H03(h:Hp)(ap0:Option Addr)(np0 cp0:Nat)(p0:I0)(rp0:F0.R h [.slice ap0 np0 cp0] p0)(r:I0)(aA:D9 p0=some r):
  Tr Tryz.prog 232 #[.slice ap0 np0 cp0] h fun v h'=>∃(a0:Option Addr) (n0 c0:Nat),v = .slice a0 n0 c0∧New F0 h h' [.slice a0 n0 c0] r:=by
 obtain⟨rfl,lp0⟩:=Sl.len rp0
 unfold D9 at aA
 refine Y1 (args:=[.slice ap0 p0.length cp0]) (fn:=Tryz.f232) rfl ?_
 obtain⟨vsy1,ey1,fy1⟩:=Sl.rows (r:=P0.toRp) rp0
 refine eX vsy1 (aI ey1 ?_)
 obtain⟨q2,aB,aA⟩:=l0 aA
 refine aI (L1 aB (by first|rw[F2.length (show F2 (P0.R h) ([]:List (List Value)) ([]:I0) from trivial),F2.length fy1]|exact congrArg (·+1) (F2.length (show F2 (P0.R h) ([]:List (List Value)) ([]:I0) from trivial)))) ?_
 refine Or.inl ?_
 intro v3 k4 f5
 obtain⟨q6,aC,aA⟩:=l0 aA
 refine Tr.mono (W0j _ f5 (F2.append (show F2 (P0.R h) ([]:List (List Value)) ([]:I0) from trivial) fy1) (O1 aC)) ?_
 rintro _ kz7 ⟨rfl,vsz7,fz7,qz7⟩
 obtain⟨az7,cz7,rfl,rz7,sz7,lz7⟩:=Z0.out (r:=P0.toRp) fz7 qz7
 refine Tr.mono (X0j _ fz7 qz7) ?_
 rintro _ kz8 ⟨vsz8,fz8,qz8⟩
 obtain⟨az8,cz8,rfl,rz8,sz8,lz8⟩:=Z0.out (r:=P0.toRp) fz8 qz8
 have hE:=oJ aA;subst hE
 exact⟨az8,((k03 eqE (b06 O0 (([]:I0)++p0)))).length,cz8,rfl,(Z0.newPlain (r:=P0) fz8 qz8 (D09 _))⟩
theorem c08(h:Hp)(bA:List Value)(p0:j0)(rp0:W0.R h bA p0)(ap1:Option Addr)(np1 cp1:Nat)(p1:C0)(rp1:J0.R h [.slice ap1 np1 cp1] p1)(r:j0)(aC:J01 p0 p1=some r):
  Tr Tryz.prog 191 #[.agg bA.toArray,.slice ap1 np1 cp1] h fun v h'=>∃(cs0:List Value),v = .agg cs0.toArray∧New W0 h h' cs0 r:=by
 obtain⟨aM,bB,aN,cT,aO,aP,rfl,rfl,aQ,cU,aH⟩:=B0 rp0
 obtain⟨rfl,cV⟩:=Sl.len aH
 obtain⟨rfl,lp1⟩:=Sl.len rp1
 unfold J01 at aC
 dsimp only at aC
 refine Y1 (args:=[.agg #[.int .i64 aM,.int .i64 bB,.slice aN aP.length aO],.slice ap1 p1.length cp1]) (fn:=Tryz.f191) rfl ?_
 obtain⟨q1,dG,aC⟩:=l0 aC
 refine aI (O1 dG) ?_
 obtain⟨m2,gm2,aC⟩:=l0 aC
 obtain rfl:(List.replicate bB.toNat ([.int .i64 0]:List Value)).length=m2:=(F2.length (F2.rep (p:=Wp.int.R h) (a:=[.int .i64 0]) (b:=0) ⟨rfl,(by decide)⟩ (bB.toNat))).trans (oJ gm2)
 obtain⟨q3,dQ,aC⟩:=l0 aC
 obtain⟨X4,bC,aC⟩:=l0 aC
 refine eX { vars:=[17],boxes:=[],owns:=[0],fuel:=true,kept:=[0] } (eX (fun vs os h'=>∃(u5:Int) (wu6:List (List Value)) (u6:List Int),vs.tail = [.int .i64 u5]∧os = [wu6]∧Sub h h'∧M0 u5∧F2 (Wp.int.R h') wu6 u6∧F9 ((List.replicate bB.toNat ([.int .i64 0]:List Value))).length (K1 vs) u5 u6=some X4) (eX (fun _ _=>0) ?_))
 refine aI (eX S0 ⟨0,(List.replicate bB.toNat ([.int .i64 0]:List Value)),(List.replicate bB.toNat (0:Int)),rfl,rfl,(Sub.refl _),(by decide),(F2.rep (p:=Wp.int.R h) (a:=[.int .i64 0]) (b:=0) ⟨rfl,(by decide)⟩ (bB.toNat)),bC⟩) ?_
 rintro v_0 wu6 m8 k7 ⟨u5,zzu6,u6,bD,bE,dH,iu5,fu6,aA⟩
 cases bD
 cases bE
 replace aA:F9 ((List.replicate bB.toNat ([.int .i64 0]:List Value))).length m8 u5 u6=some X4:=aA
 obtain _|m8:=m8
 ·cases (show(none:Option _)=some X4 from aA)
 rw[F9.eq_2]at aA
 refine aI (fun bF=>?_) (fun bF=>?_)
 ·replace aA:=ifP aA bF
  obtain⟨x10,bG,aA⟩:=l0 aA
  obtain⟨bH,cW,bI,bJ⟩:=G4 fu6 bG
  refine aI bH ?_
  obtain⟨rfl,dI⟩:=bJ
  refine eX _ (aI bI ?_)
  refine aI rfl (aI (by trivial) (aI (by trivial) (eX m8 (aI ⟨(IntKind.i64.wrap (u5+1)),(wu6.set u5.toNat [.int .i64 (-1)]),(u6.set u5.toNat (-1)),rfl,rfl,dH,(N0 _),(F2.set (p:=Wp.int.R k7) (a:=[.int .i64 (-1)]) (b:=(-1)) ⟨rfl,(by decide)⟩ u5.toNat fu6),aA⟩ (nS _)))))
 ·replace aA:=ifN aA bF
  have hE:=oJ aA;subst hE
  try dsimp only[T0,V0]at aC
  obtain⟨X11,aR,aC⟩:=l0 aC
  refine eX { vars:=[26],boxes:=[],owns:=[0],fuel:=true,kept:=[0] } (eX (fun vs os h'=>∃(u12:Int) (wu13:List (List Value)) (u13:List Int),vs.tail = [.int .i64 u12]∧os = [wu13]∧Sub k7 h'∧M0 u12∧F2 (Wp.int.R h') wu13 u13∧E9 p1 (K1 vs) u12 u13=some X11) (eX (fun _ _=>0) ?_))
  refine aI (eX S0 ⟨0,wu6,u6,rfl,rfl,(Sub.refl _),(by decide),fu6,aR⟩) ?_
  rintro v_0 wu13 m15 k14 ⟨u12,zzu13,u13,aS,aT,aG,iu12,fu13,aA⟩
  cases aS
  cases aT
  replace aA:E9 p1 m15 u12 u13=some X11:=aA
  obtain _|m15:=m15
  ·cases (show(none:Option _)=some X11 from aA)
  rw[E9.eq_2]at aA
  refine aI (fun aJ=>?_) (fun aJ=>?_)
  ·replace aA:=ifP aA aJ
   obtain⟨x17,bK,aA⟩:=l0 aA
   obtain⟨bL,cX,bM,bN⟩:=Sl.getI (r:=Wp.int.toRp) (J0.mono (dH.trans aG) rp1) bK (by decide)
   refine aI bL ?_
   obtain⟨rfl,dJ⟩:=bN
   refine eX _ (aI bM ?_)
   obtain⟨x18,bO,aA⟩:=l0 aA
   obtain⟨bP,cY,bQ,bR⟩:=G4 fu13 bO
   refine aI bP ?_
   obtain⟨rfl,dK⟩:=bR
   refine eX _ (aI bQ ?_)
   refine aI rfl (aI (by trivial) (aI (by trivial) (eX m15 (aI ⟨(IntKind.i64.wrap (u12+1)),(wu13.set x17.toNat [.int .i64 u12]),(u13.set x17.toNat u12),rfl,rfl,aG,(N0 _),(F2.set (p:=Wp.int.R k14) (a:=[.int .i64 u12]) (b:=u12) ⟨rfl,iu12⟩ x17.toNat fu13),aA⟩ (nS _)))))
  ·replace aA:=ifN aA aJ
   have hE:=oJ aA;subst hE
   try dsimp only[T0,V0]at aC
   obtain⟨X19,aU,aC⟩:=l0 aC
   refine eX { vars:=[44],boxes:=[2],owns:=[1],fuel:=true,nilsB:=[(2,2,115,3,24)] } (eX (fun vs os h'=>∃(u20:Int) (u21:Int) (u22:Int) (wu23:List (List Value)) (u23:List H0),vs.tail = [.int .i64 u20,.int .i64 u21,.int .i64 u22]∧os = [wu23]∧Sub k14 h'∧M0 u20∧M0 u21∧M0 u22∧F2 (P0.R h') wu23 u23∧J8 aP u13 (K1 vs) u20 u21 u22 u23=some X19) (eX (fun _ _=>0) ?_))
   refine aI (eX S0 ⟨0,aM,((p1.length:Nat):Int),[],([]:I0),rfl,rfl,(Sub.refl _),(by decide),aQ,(o0o lp1),(show F2 (P0.R k14) [] [] from trivial),aU⟩) ?_
   rintro v_0 v_1 v_2 wu23 m25 k24 ⟨u20,u21,u22,zzu23,u23,aV,aW,aD,iu20,iu21,iu22,fu23,aA⟩
   cases aV
   cases aW
   replace aA:J8 aP u13 m25 u20 u21 u22 u23=some X19:=aA
   obtain _|m25:=m25
   ·cases (show(none:Option _)=some X19 from aA)
   rw[J8.eq_2]at aA
   refine aI (fun aK=>?_) (fun aK=>?_)
   ·replace aA:=ifP aA aK
    obtain⟨x27,bS,aA⟩:=l0 aA
    obtain⟨bT,cZ,bU,bV⟩:=Sl.getI (r:=P0.toRp) (F0.mono ((dH.trans aG).trans aD) aH) bS (by decide)
    refine aI bT ?_
    obtain⟨dA,aB,dB,rfl,rfl,bW,aF,bX⟩:=I1 bV
    try dsimp only at aA
    refine eX _ (aI bU ?_)
    obtain⟨x28,bY,aA⟩:=l0 aA
    obtain⟨bZ,dC,cA,cC⟩:=G4 (F2.up (r:=Wp.int.toRp) aD fu13) bY
    refine aI bZ ?_
    obtain⟨rfl,dL⟩:=cC
    refine eX _ (aI cA ?_)
    obtain⟨x29,cD,aA⟩:=l0 aA
    obtain⟨dD,aX,cE⟩:=Q03 (F2.up (r:=Wp.int.toRp) aD fu13) cD (c04 k24)
    refine aI (fun q=>(aX q).1) ?_
    obtain⟨rfl,dM⟩:=cE
    refine eX _ (aI (fun q=>(aX q).2) ?_)
    refine aI (fun aL=>?_) (fun aL=>?_)
    ·replace aA:=ifP aA aL
     refine Or.inr (Or.inr (Or.inl (aI (aI (by kernel_rfl) (by kernel_rfl)) ?_)))
     obtain⟨x31,cG,aA⟩:=l0 aA
     obtain⟨cH,dE,cI,cJ⟩:=G4 (F2.up (r:=Wp.int.toRp) aD fu13) cG
     obtain⟨rfl,aY⟩:=cJ
     refine Or.inl ?_
     apply eX
     refine aI ?_ ?_
     ·intro k32 s33
      exact aI cH (aI rfl (aI rfl rfl))
     refine Or.inl (eX (.val (.int .i64 x31)) (aI ?_ ?_))
     ·intro k34 s35
      exact eX _ (aI cI (aI rfl (aI rfl rfl)))
     obtain⟨x36,cK,aA⟩:=l0 aA
     obtain⟨cL,dF,cM,cN⟩:=G4 (F2.up (r:=Wp.int.toRp) aD fu13) cK
     obtain⟨rfl,aZ⟩:=cN
     refine Or.inl ?_
     apply eX
     refine aI ?_ ?_
     ·intro k37 s38
      exact aI cL (aI rfl (aI rfl rfl))
     refine Or.inl (eX (.val (.int .i64 x36)) (aI ?_ ?_))
     ·intro k39 s40
      exact eX _ (aI cM (aI rfl (aI rfl rfl)))
     refine Or.inl (eX (.agg [.val (.int .i64 x31),.val (.int .i64 aB),.val (.int .i64 x36)]) (aI ?_ ?_))
     ·intro k41 s42
      exact aI rfl (aI rfl rfl)
     refine Or.inr ?_
     refine Or.inr ?_
     refine Or.inr ?_
     refine Or.inl (eX 0 (aI (aI rfl rfl) ?_))
     refine aI trivial (aI (by first|exact trivial|exact rfl) ?_)
     obtain⟨q43,cO,aA⟩:=l0 aA
     refine aI (L1 cO (by first|rw[F2.length fu23,F2.length (show F2 (P0.R k24) ([[.int .i64 x31,.int .i64 aB,.int .i64 x36]]:List (List Value)) [(x31,aB,x36)] from⟨(D1 aY aF aZ),trivial⟩)]|exact congrArg (·+1) (F2.length fu23))) ?_
     refine aI trivial (aI (by first|exact trivial|exact rfl) ?_)
     refine aI trivial (aI (by first|exact trivial|exact rfl) ?_)
     refine aI rfl (aI (by trivial) (aI (by trivial) (eX m25 (aI ⟨(IntKind.i64.wrap (u20+1)),u21,u22,(wu23++([[.int .i64 x31,.int .i64 aB,.int .i64 x36]]:List (List Value))),(u23 ++ [(x31,aB,x36)]),rfl,rfl,aD,(N0 _),iu21,iu22,(F2.append fu23 (show F2 (P0.R k24) ([[.int .i64 x31,.int .i64 aB,.int .i64 x36]]:List (List Value)) [(x31,aB,x36)] from⟨(D1 aY aF aZ),trivial⟩)),aA⟩ (nS _)))))
    ·replace aA:=ifN aA aL
     refine aI rfl (aI (by trivial) (aI (by trivial) (eX m25 (aI ⟨(IntKind.i64.wrap (u20+1)),u21,u22,wu23,u23,rfl,rfl,aD,(N0 _),iu21,iu22,fu23,aA⟩ (nS _)))))
   ·replace aA:=ifN aA aK
    have hE:=oJ aA;subst hE
    try dsimp only[T0,V0]at aC
    refine Or.inl ?_
    intro v44 k45 f46
    obtain⟨az47,cz47,rfl,rz47,sz47,lz47⟩:=Z0.out (r:=P0.toRp) f46 fu23
    obtain⟨x48,cP,aC⟩:=l0 aC
    refine Tr.mono (H03 _ az47 u23.length cz47 u23 rz47 _  cP) ?_
    rintro v50 k49 ⟨cQ,dN,cR,rfl,wx48⟩
    have dO:Sub k45 k49:=wx48.sub
    have cS:=wx48.r
    obtain⟨rfl,dP⟩:=Sl.len cS
    have hE:=oJ aC;subst hE
    exact⟨([.int .i64 u21,.int .i64 u22,.slice cQ x48.length cR]),rfl,(New.pair (New.int iu21) (New.pair (New.int iu22) (New.from wx48 (((dH.trans aG).trans aD).trans sz47))))⟩
theorem g03(h:Hp)(bA:List Value)(p0:j0)(rp0:W0.R h bA p0)(p1:Int)(ip1:M0 p1)(r:C0×P1)(aG:P6 p0 p1=some r):
  Tr Tryz.prog 140 #[.agg bA.toArray,.int .i64 p1] h fun v h'=>∃(a0:Option Addr) (n0 c0:Nat) (a1:Option Addr) (n1 c1:Nat),v = .tuple #[.slice a0 n0 c0,.slice a1 n1 c1]∧J0.R h' [.slice a0 n0 c0] r.1∧Q2.R h' [.slice a1 n1 c1] r.2∧Sub h h':=by
 obtain⟨aC,aD,aK,cH,aL,aF,rfl,rfl,aM,aS,aN⟩:=B0 rp0
 obtain⟨rfl,cI⟩:=Sl.len aN
 unfold P6 at aG
 dsimp only at aG
 refine Y1 (args:=[.agg #[.int .i64 aC,.int .i64 aD,.slice aK aF.length aL],.int .i64 p1]) (fn:=Tryz.f140) rfl ?_
 obtain⟨q1,cP,aG⟩:=l0 aG
 refine aI (O1 cP) ?_
 obtain⟨x2,cQ,aG⟩:=l0 aG
 obtain⟨cR,cS,cT,cU⟩:=G4 (F2.rep (p:=Wp.opt.R h) (a:=[.slice none 0 0]) (b:=none) (r0q h) (aD.toNat)) cQ
 refine aI cR ?_
 obtain⟨dO,dP,dQ,rfl,ox2,qx2⟩:=cU
 obtain⟨rfl,dR⟩:=Sl.len qx2
 intro v3 k4 f5
 obtain⟨gz6,cz6,rfl,rz6,sz6,lz6⟩:=Z0.outS (r:=Wp.int.toRp) f5 (show F2 (Wp.int.R h) ([]:List (List Value)) ([]:C0) from trivial)
 refine eX _ (aI cT ?_)
 obtain⟨X7,bB,aG⟩:=l0 aG
 refine eX { vars:=[8],boxes:=[],owns:=[0,2],fuel:=true,kept:=[0] } (eX (fun vs os h'=>∃(u8:Int) (wu9:List (List Value)) (u9:List (Option C0)) (wu10:List (List Value)) (u10:List Int),vs.tail = [.int .i64 u8]∧os = [wu9,wu10]∧Sub k4 h'∧M0 u8∧F2 (Wp.opt.R h') wu9 u9∧F2 (Wp.int.R h') wu10 u10∧R4 aC aD aF (K1 vs) u8 u9 u10=some X7) (eX (fun _ _=>0) ?_))
 refine aI (eX S0 ⟨0,((List.replicate aD.toNat ([.slice none 0 0]:List Value)).set p1.toNat [.slice (some ⟨gz6,0,none⟩) (([]:C0)).length cz6]),((List.replicate aD.toNat (none:Option C0)).set p1.toNat (some ([]:C0))),([[.int .i64 p1]]:List (List Value)),[p1],rfl,rfl,(Sub.refl _),(by decide),(F2.set (p:=Wp.opt.R k4) (a:=[.slice (some ⟨gz6,0,none⟩) (([]:C0)).length cz6]) (b:=some ([]:C0)) (s0q rz6) p1.toNat (F2.up (r:=Wp.opt.toRp) sz6 (F2.rep (p:=Wp.opt.R h) (a:=[.slice none 0 0]) (b:=none) (r0q h) (aD.toNat)))),(show F2 (Wp.int.R k4) ([[.int .i64 p1]]:List (List Value)) [p1] from⟨⟨rfl,ip1⟩,trivial⟩),bB⟩) ?_
 rintro v_0 wu9 wu10 m12 k11 ⟨u8,zzu9,u9,zzu10,u10,bC,bD,cJ,iu8,fu9,fu10,aB⟩
 cases bC
 cases bD
 replace aB:R4 aC aD aF m12 u8 u9 u10=some X7:=aB
 obtain _|m12:=m12
 ·cases (show(none:Option _)=some X7 from aB)
 rw[R4.eq_2]at aB
 obtain⟨m13,gm13,aB⟩:=l0 aB
 obtain rfl:wu10.length=m13:=(F2.length fu10).trans (oJ gm13)
 obtain⟨q14,cV,aB⟩:=l0 aB
 refine aI (fun aO=>?_) (fun aO=>?_)
 ·replace aB:=ifP aB aO
  obtain⟨x16,bE,aB⟩:=l0 aB
  obtain⟨bF,cK,bG,bH⟩:=G4 fu10 bE
  refine aI bF ?_
  obtain⟨rfl,bI⟩:=bH
  refine eX _ (aI bG ?_)
  obtain⟨x17,bJ,aB⟩:=l0 aB
  refine Tr.mono (b08 _ aC aM _  bJ) ?_
  rintro v19 k18 ⟨cW,cX,cY,rfl,aT,aH⟩
  obtain⟨rfl,cZ⟩:=Sl.len aT
  obtain⟨X20,aU,aB⟩:=l0 aB
  refine eX { vars:=[36],boxes:=[],owns:=[0,2],fuel:=true,kept:=[0] } (eX (fun vs os h'=>∃(u21:Int) (wu22:List (List Value)) (u22:List (Option C0)) (wu23:List (List Value)) (u23:List Int),vs.tail = [.int .i64 u21]∧os = [wu22,wu23]∧Sub k18 h'∧M0 u21∧F2 (Wp.opt.R h') wu22 u22∧F2 (Wp.int.R h') wu23 u23∧V2 x17 aC aD aF x16 (K1 vs) u21 u22 u23=some X20) (eX (fun _ _=>0) ?_))
  refine aI (eX S0 ⟨0,wu9,u9,wu10,u10,rfl,rfl,(Sub.refl _),(by decide),(F2.up (r:=Wp.opt.toRp) aH fu9),(F2.up (r:=Wp.int.toRp) aH fu10),aU⟩) ?_
  rintro v_0 wu22 wu23 m25 k24 ⟨u21,zzu22,u22,zzu23,u23,aV,aW,aJ,iu21,fu22,fu23,aA⟩
  cases aV
  cases aW
  replace aA:V2 x17 aC aD aF x16 m25 u21 u22 u23=some X20:=aA
  obtain _|m25:=m25
  ·cases (show(none:Option _)=some X20 from aA)
  rw[V2.eq_2]at aA
  refine aI (fun aP=>?_) (fun aP=>?_)
  ·replace aA:=ifP aA aP
   obtain⟨x27,bK,aA⟩:=l0 aA
   obtain⟨bL,cL,bM,bN⟩:=Sl.getI (r:=Wp.int.toRp) (J0.mono aJ aT) bK (by decide)
   refine aI bL ?_
   obtain⟨rfl,aQ⟩:=bN
   refine eX _ (aI bM ?_)
   obtain⟨x28,bO,aA⟩:=l0 aA
   refine Tr.val (B01 _ [.int .i64 aC,.int .i64 aD,.slice aK aF.length aL] (aC,aD,aF) (z0 aM aS (F0.mono (((sz6.trans cJ).trans aH).trans aJ) aN)) x16 bI x27 aQ _  bO) ?_
   obtain⟨q29,bP,aA⟩:=l0 aA
   have aX:M0 x28:=O1 bP
   obtain⟨x30,bQ,aA⟩:=l0 aA
   obtain⟨cM,aY,bR⟩:=Q03 fu22 bQ (n0r k24)
   refine aI (fun q=>(aY q).1) ?_
   obtain⟨dA,dB,dC,rfl,ox30,qx30⟩:=bR
   obtain⟨rfl,dD⟩:=Sl.len qx30
   refine eX _ (aI (fun q=>(aY q).2) ?_)
   refine eX (x30.isNone) (aI (fun _=>by rw[←ox30];exact m0r _ _ _ rfl _ _ _) ?_)
   refine aI (fun aR=>?_) (fun aR=>?_)
   ·replace aA:=ifP aA aR
    obtain⟨x32,bS,aA⟩:=l0 aA
    obtain⟨bT,cN,bU,bV⟩:=G4 fu22 bS
    refine aI bT ?_
    obtain⟨bW,dE,bX,rfl,ox32,qx32⟩:=bV
    obtain⟨rfl,dF⟩:=Sl.len qx32
    refine eX _ (aI bU ?_)
    obtain⟨x33,aZ,aA⟩:=l0 aA
    refine Tr.mono (a0d _ bW (x32.getD []).length bX (x32.getD []) qx32 _  aZ) ?_
    rintro v35 k34 ⟨aZ,dG,dH,rfl,wx33⟩
    have dI:Sub k24 k34:=wx33.sub
    have bY:=wx33.r
    obtain⟨rfl,dJ⟩:=Sl.len bY
    obtain⟨q36,bZ,aA⟩:=l0 aA
    obtain⟨vsz37,rxz37,lnz37,apz37⟩:=New.app wx33 (Sub.refl _)
    refine eX vsz37 (aI rxz37 (aI (L1 bZ (by first|rw[lnz37,F2.length (show F2 (Wp.int.R k34) ([[.int .i64 x27]]:List (List Value)) [x27] from⟨⟨rfl,aQ⟩,trivial⟩)]|(rw[lnz37];rfl))) ?_))
    intro vz37 kz37 happz37
    obtain⟨wz37,gz37,oz37,nz37,cz37,rfl⟩:=apz37 _ _ _ _ _ (F3.ofPlain (a06 _) (show F2 (Wp.int.R k34) ([[.int .i64 x27]]:List (List Value)) [x27] from⟨⟨rfl,aQ⟩,trivial⟩)) d7.ofPlain happz37
    have rz37:=wz37.r
    obtain⟨ez37,lz37⟩:=Sl.len rz37
    subst ez37
    obtain⟨x38,cA,aA⟩:=l0 aA
    obtain⟨cC,cO,cD,cE⟩:=G4 (F2.up (r:=Wp.opt.toRp) wz37.sub fu22) cA
    refine aI cC ?_
    obtain⟨dK,dL,dM,rfl,ox38,qx38⟩:=cE
    obtain⟨rfl,dN⟩:=Sl.len qx38
    refine eX _ (aI cD ?_)
    obtain⟨q39,cG,aA⟩:=l0 aA
    refine aI (L1 cG (by first|rw[F2.length (F2.up (r:=Wp.int.toRp) wz37.sub fu23),F2.length (show F2 (Wp.int.R kz37) ([[.int .i64 x28]]:List (List Value)) [x28] from⟨⟨rfl,aX⟩,trivial⟩)]|exact congrArg (·+1) (F2.length (F2.up (r:=Wp.int.toRp) wz37.sub fu23)))) ?_
    refine aI rfl (aI (by trivial) (aI (by trivial) (eX m25 (aI ⟨(IntKind.i64.wrap (u21+1)),(wu22.set x28.toNat [.slice (some ⟨gz37,oz37,none⟩) (x33 ++ [x27]).length cz37]),(u22.set x28.toNat (some (x33 ++ [x27]))),(wu23++([[.int .i64 x28]]:List (List Value))),(u23 ++ [x28]),rfl,rfl,(aJ.trans wz37.sub),(N0 _),(F2.set (p:=Wp.opt.R kz37) (a:=[.slice (some ⟨gz37,oz37,none⟩) (x33 ++ [x27]).length cz37]) (b:=some (x33 ++ [x27])) (s0q rz37) x28.toNat (F2.up (r:=Wp.opt.toRp) wz37.sub fu22)),(F2.append (F2.up (r:=Wp.int.toRp) wz37.sub fu23) (show F2 (Wp.int.R kz37) ([[.int .i64 x28]]:List (List Value)) [x28] from⟨⟨rfl,aX⟩,trivial⟩)),aA⟩ (nS _)))))
   ·replace aA:=ifN aA aR
    refine aI rfl (aI (by trivial) (aI (by trivial) (eX m25 (aI ⟨(IntKind.i64.wrap (u21+1)),wu22,u22,wu23,u23,rfl,rfl,aJ,(N0 _),fu22,fu23,aA⟩ (nS _)))))
  ·replace aA:=ifN aA aP
   have hE:=oJ aA;subst hE
   try dsimp only[T0,V0]at aB
   refine aI rfl (aI (by trivial) (aI (by trivial) (eX m12 (aI ⟨(IntKind.i64.wrap (u8+1)),wu22,u22,wu23,u23,rfl,rfl,((cJ.trans aH).trans aJ),(N0 _),fu22,fu23,aB⟩ (nS _)))))
 ·replace aB:=ifN aB aO
  have hE:=oJ aB;subst hE
  try dsimp only[T0,V0]at aG
  intro v45 k46 f47
  obtain⟨az48,cz48,rfl,rz48,sz48,lz48⟩:=Z0.out (r:=Wp.int.toRp) f47 fu10
  intro v49 k50 f51
  obtain⟨az52,cz52,rfl,rz52,sz52,lz52⟩:=Z0.out (r:=J0.toRp) f51 (F2.ofOpt (F2.up (r:=Wp.opt.toRp) sz48 fu9))
  have hE:=oJ aG;subst hE
  exact⟨az48,u10.length,cz48,az52,(List.map (fun o:Option C0=>o.getD ([]:C0)) u9).length,cz52,rfl,(J0.mono sz52 rz48),rz52,(((sz6.trans cJ).trans sz48).trans sz52)⟩
theorem d07(h:Hp)(aP:List Value)(p0:j0)(rp0:W0.R h aP p0)(r:C0)(aA:r8 p0=some r):
  Tr Tryz.prog 192 #[.agg aP.toArray] h fun v h'=>∃(a0:Option Addr) (n0 c0:Nat),v = .slice a0 n0 c0∧J0.R h' [.slice a0 n0 c0] r∧Sub h h':=by
 obtain⟨aB,aC,aD,aR,aF,aM,rfl,rfl,aJ,aK,aG⟩:=B0 rp0
 obtain⟨rfl,aS⟩:=Sl.len aG
 unfold r8 at aA
 dsimp only at aA
 refine Y1 (args:=[.agg #[.int .i64 aB,.int .i64 aC,.slice aD aM.length aF]]) (fn:=Tryz.f192) rfl ?_
 obtain⟨x1,aZ,aA⟩:=l0 aA
 refine Tr.val (f00 _ [.int .i64 aB,.int .i64 aC,.slice aD aM.length aF] (aB,aC,aM) (z0 aJ aK aG) _  aZ) ?_
 refine aI (fun aQ=>?_) (fun aQ=>?_)
 ·replace aA:=ifP aA aQ
  intro v3 k4 f5
  obtain⟨az6,cz6,rfl,rz6,sz6,lz6⟩:=Z0.out (r:=Wp.int.toRp) f5 (show F2 (Wp.int.R h) ([]:List (List Value)) ([]:C0) from trivial)
  have hE:=oJ aA;subst hE
  exact⟨az6,(([]:C0)).length,cz6,rfl,rz6,sz6⟩
 ·replace aA:=ifN aA aQ
  obtain⟨x7,bA,aA⟩:=l0 aA
  refine Tr.mono (g03 _ [.int .i64 aB,.int .i64 aC,.slice aD aM.length aF] (aB,aC,aM) (z0 aJ aK aG) 0 (by decide) _  bA) ?_
  rintro v9 k8 ⟨aN,aT,aO,aU,aV,aW,rfl,aH,aL,bB⟩
  obtain⟨bC,bD⟩:=x7
  dsimp only at aA aH aL
  obtain⟨rfl,aX⟩:=Sl.len aH
  obtain⟨rfl,aY⟩:=Sl.len aL
  have hE:=oJ aA;subst hE
  exact⟨aN,bC.length,aO,rfl,aH,bB⟩
theorem n03(h:Hp)(aX:List Value)(p0:j0)(rp0:W0.R h aX p0)(r:j0)(aA:Y6 p0=some r):
  Tr Tryz.prog 138 #[.agg aX.toArray] h fun v h'=>∃(cs0:List Value),v = .agg cs0.toArray∧New W0 h h' cs0 r:=by
 obtain⟨aB,aC,aD,bH,aF,aK,rfl,rfl,aH,aJ,aG⟩:=B0 rp0
 obtain⟨rfl,bI⟩:=Sl.len aG
 unfold Y6 at aA
 dsimp only at aA
 refine Y1 (args:=[.agg #[.int .i64 aB,.int .i64 aC,.slice aD aK.length aF]]) (fn:=Tryz.f138) rfl ?_
 obtain⟨x1,bP,aA⟩:=l0 aA
 refine Tr.val (f00 _ [.int .i64 aB,.int .i64 aC,.slice aD aK.length aF] (aB,aC,aK) (z0 aH aJ aG) _  bP) ?_
 refine aI (fun aY=>?_) (fun aY=>?_)
 ·replace aA:=ifP aA aY
  obtain⟨x3,bQ,aA⟩:=l0 aA
  refine Tr.mono (K7 _ [.int .i64 aB,.int .i64 aC,.slice aD aK.length aF] (aB,aC,aK) (z0 aH aJ aG) _  bQ) ?_
  rintro v5 k4 ⟨aQ,bJ,aR,rfl,wx3⟩
  have bV:Sub h k4:=wx3.sub
  have bK:=wx3.r
  obtain⟨aZ,bA,bR⟩:=x3
  dsimp only at aA wx3 bK
  obtain⟨_,_,_,_,_,_,ecx3,exx3,aS,aT,aU⟩:=B0 bK
  cases ecx3
  cases exx3
  obtain⟨rfl,bL⟩:=Sl.len aU
  try dsimp only at aA
  have we6:=New.sndI (New.sndI (wx3))
  have hE:=oJ aA;subst hE
  exact⟨([.int .i64 aZ,.int .i64 bA,.slice (some ⟨aQ,0,none⟩) bR.length aR]),rfl,(New.pair (New.int aS) (New.pair (New.int aT) we6))⟩
 ·replace aA:=ifN aA aY
  refine Or.inr (Or.inr (Or.inl (aI (aI (by kernel_rfl) (by kernel_rfl)) ?_)))
  refine Or.inr ?_
  refine Or.inr ?_
  refine Or.inr ?_
  refine Or.inl (eX 2 (aI (aI rfl rfl) ?_))
  obtain⟨x7,bS,aA⟩:=l0 aA
  refine Tr.mono (d07 _ [.int .i64 aB,.int .i64 aC,.slice aD aK.length aF] (aB,aC,aK) (z0 aH aJ aG) _  bS) ?_
  rintro v9 k8 ⟨bT,bW,bU,rfl,bM,bB⟩
  obtain⟨rfl,bX⟩:=Sl.len bM
  refine aI (aI rfl bB) (aI (by first|exact trivial|exact rfl) ?_)
  obtain⟨x10,bC,aA⟩:=l0 aA
  refine Tr.mono (c08 _ [.int .i64 aB,.int .i64 aC,.slice aD aK.length aF] (aB,aC,aK) (z0 aH aJ (F0.mono bB aG)) bT x7.length bU x7 bM _  bC) ?_
  rintro v12 k11 ⟨bN,rfl,wx10⟩
  have bD:Sub k8 k11:=wx10.sub
  have bE:=wx10.r
  obtain⟨aV,aW,aL,bF,aM,bO,rfl,rfl,aN,aO,aP⟩:=B0 bE
  obtain⟨rfl,bG⟩:=Sl.len aP
  try dsimp only at aA
  have we13:=New.sndI (New.sndI (wx10))
  refine aI (aI rfl bD) (aI (by first|exact trivial|exact rfl) ?_)
  refine aI trivial (aI (by first|exact trivial|exact rfl) ?_)
  have hE:=oJ aA;subst hE
  exact⟨([.int .i64 aV,.int .i64 aW,.slice aL bO.length aM]),rfl,(New.pair (New.int aN) (New.pair (New.int aO) (New.from we13 bB)))⟩
end Go.Proofs.YtcakocbgbelmeaaGreat
