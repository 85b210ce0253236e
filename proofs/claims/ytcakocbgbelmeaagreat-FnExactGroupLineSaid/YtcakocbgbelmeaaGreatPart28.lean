/- Texts of the claim, joined: The walks of batch g1 and others. -/
import Derived.Test.YtcakocbgbelmeaaGreatPart18
import Derived.Test.YtcakocbgbelmeaaGreatChecked
import Derived.Test.YtcakocbgbelmeaaGreatH35
import Derived.Test.YtcakocbgbelmeaaGreatPart25
import Derived.Test.YtcakocbgbelmeaaGreatPart21
import Derived.Test.YtcakocbgbelmeaaGreatPart27
namespace Go.Proofs.YtcakocbgbelmeaaGreat
open Go.H
set_option linter.unusedVariables false
set_option linter.unusedSimpArgs false
set_option maxRecDepth 10000
theorem H4 (h:Hp) (aK:List Value) (p0:l0) (rp0:K1.R h aK p0) (r:l0) (aB:Z2 p0=some r) :
  Tr Tryz.prog 128 #[.agg aK.toArray] h fun v h'=>∃(cs0:List Value),v = .agg cs0.toArray∧K1.R h' cs0 r∧Sub h h':=by
 obtain⟨aC,aD,aF,aM,aG,aL,rfl,rfl,aH,aJ,aA⟩:=F0 rp0
 obtain⟨rfl,aN⟩:=Sl.len aA
 unfold Z2 at aB
 dsimp only at aB
 refine C2 (args:=[.agg #[.int .i64 aC,.int .i64 aD,.slice aF aL.length aG]]) (fn:=Tryz.f128) rfl ?_
 refine Or.inr (Or.inr (Or.inl (aI (aI (by kernel_rfl) (by kernel_rfl)) ?_)))
 refine Or.inr ?_
 refine Or.inr ?_
 refine Or.inr ?_
 refine Or.inr ?_
 refine Or.inl (eX 0 (aI (aI rfl rfl) ?_))
 refine aI trivial (aI (by first|exact trivial|exact rfl) ?_)
 obtain⟨vsy1,ey1,fy1⟩:=Sl.rows (r:=C1.toRp) aA
 refine eX vsy1 (aI ey1 ?_)
 obtain⟨q2,aO,aB⟩:=j0 aB
 refine aI (P1 aO (by first|rw[F2.length (show F2 (C1.R h) ([]:List (List Value)) ([]:T0) from trivial),F2.length fy1]|exact congrArg (·+1) (F2.length (show F2 (C1.R h) ([]:List (List Value)) ([]:T0) from trivial)))) ?_
 refine aI trivial (aI (by first|exact trivial|exact rfl) ?_)
 refine aI trivial (aI (by first|exact trivial|exact rfl) ?_)
 refine aI trivial (aI (by first|exact trivial|exact rfl) ?_)
 intro v3 k4 f5
 obtain⟨az6,cz6,rfl,rz6,sz6,lz6⟩:=j1.out (r:=C1.toRp) f5 (F2.append (show F2 (C1.R h) ([]:List (List Value)) ([]:T0) from trivial) fy1)
 have hE:=oJ aB;subst hE
 exact⟨([.int .i64 aC,.int .i64 aD,.slice az6 ((([]:T0)++aL)).length cz6]),rfl,(z0 aH aJ rz6),sz6⟩
theorem M00 (h:Hp) (ap0:Option Addr) (np0 cp0:Nat) (p0:T0) (rp0:S0.R h [.slice ap0 np0 cp0] p0) (bT:List Value) (p1:K0) (rp1:C1.R h bT p1) (r:T0) (aV:R7 p0 p1=some r) :
  Tr Tryz.prog 184 #[.slice ap0 np0 cp0,.agg bT.toArray] h fun v h'=>∃(a0:Option Addr) (n0 c0:Nat),v = .slice a0 n0 c0∧S0.R h' [.slice a0 n0 c0] r∧Sub h h':=by
 obtain⟨rfl,lp0⟩:=Sl.len rp0
 obtain⟨aA,aB,aC,rfl,rfl,aF,aG,aH⟩:=M1 rp1
 unfold R7 at aV
 dsimp only at aV
 refine C2 (args:=[.slice ap0 p0.length cp0,.agg #[.int .i64 aA,.int .i64 aB,.int .i64 aC]]) (fn:=Tryz.f184) rfl ?_
 obtain⟨X1,bU,aV⟩:=j0 aV
 refine eX { vars:=[6,7],boxes:=[],owns:=[0],fuel:=true } (eX (fun vs os h'=>∃(u2:Bool) (u3:Int) (wu4:List (List Value)) (u4:List K0),vs.tail = [.bool u2,.int .i64 u3]∧os = [wu4]∧Sub h h'∧H0 u3∧F2 (C1.R h') wu4 u4∧M4 p0 aA aB aC (H1 vs) u2 u3 u4=some X1) (eX (fun _ _=>0) ?_))
 refine aI (eX N0 ⟨false,0,[],([]:T0),rfl,rfl,(Sub.refl _),(by decide),(show F2 (C1.R h) ([]:List (List Value)) ([]:T0) from trivial),bU⟩) ?_
 rintro v_0 v_1 wu4 m6 k5 ⟨u2,u3,zzu4,u4,bV,bW,bI,iu3,fu4,aD⟩
 cases bV
 cases bW
 replace aD:M4 p0 aA aB aC m6 u2 u3 u4=some X1:=aD
 obtain _|m6:=m6
 ·cases (show(none:Option _)=some X1 from aD)
 rw[M4.eq_2]at aD
 refine aI (fun bX=>?_) (fun bX=>?_)
 ·replace aD:=ifP aD bX
  refine Or.inl (aI (aI (by kernel_rfl) (by kernel_rfl)) ?_)
  obtain⟨x8,dC,aD⟩:=j0 aD
  obtain⟨dD,dE,dF,dG⟩:=Sl.getI (r:=C1.toRp) (S0.mono bI rp0) dC (by decide)
  refine aI dD ?_
  obtain⟨bN,bO,bP,rfl,rfl,bQ,bR,bS⟩:=M1 dG
  try dsimp only at aD
  refine eX _ (aI dF ?_)
  obtain⟨x9,dH,aD⟩:=j0 aD
  refine eX (.int .i64 x9) (aI (T03 _ [.int .i64 aA,.int .i64 aB,.int .i64 aC] (aA,aB,aC) (G1 aF aG aH) [.int .i64 bN,.int .i64 bO,.int .i64 bP] (bN,bO,bP) (G1 bQ bR bS) _  dH) ?_)
  obtain⟨q10,bY,aD⟩:=j0 aD
  have dI:H0 x9:=M0 bY
  refine aI (fun bJ=>?_) (fun bJ=>?_)
  ·replace aD:=ifP aD bJ
   refine aI (fun bK=>?_) (fun bK=>?_)
   ·replace aD:=ifP aD bK
    obtain⟨q13,bZ,aD⟩:=j0 aD
    refine aI (P1 bZ (by first|rw[F2.length fu4,F2.length (show F2 (C1.R k5) ([[.int .i64 aA,.int .i64 aB,.int .i64 aC]]:List (List Value)) [(aA,aB,aC)] from⟨(G1 aF aG aH),trivial⟩)]|exact congrArg (·+1) (F2.length fu4))) ?_
    obtain⟨x14,cA,aD⟩:=j0 aD
    obtain⟨cC,cY,cD,cE⟩:=Sl.getI (r:=C1.toRp) (S0.mono bI rp0) cA (by decide)
    refine aI cC ?_
    obtain⟨aJ,aK,aL,rfl,rfl,aW,aX,aY⟩:=M1 cE
    try dsimp only at aD
    refine eX _ (aI cD ?_)
    obtain⟨q15,cG,aD⟩:=j0 aD
    refine aI (P1 cG (by first|rw[F2.length (F2.append fu4 (show F2 (C1.R k5) ([[.int .i64 aA,.int .i64 aB,.int .i64 aC]]:List (List Value)) [(aA,aB,aC)] from⟨(G1 aF aG aH),trivial⟩)),F2.length (show F2 (C1.R k5) ([[.int .i64 aJ,.int .i64 aK,.int .i64 aL]]:List (List Value)) [(aJ,aK,aL)] from⟨(G1 aW aX aY),trivial⟩)]|exact congrArg (·+1) (F2.length (F2.append fu4 (show F2 (C1.R k5) ([[.int .i64 aA,.int .i64 aB,.int .i64 aC]]:List (List Value)) [(aA,aB,aC)] from⟨(G1 aF aG aH),trivial⟩))))) ?_
    refine aI rfl (aI (by repeat first|exact trivial|refine aI rfl ?_) (aI (by repeat first|exact trivial|refine aI rfl ?_) (eX m6 (aI ⟨true,(IntKind.i64.wrap (u3+1)),((wu4++([[.int .i64 aA,.int .i64 aB,.int .i64 aC]]:List (List Value)))++([[.int .i64 aJ,.int .i64 aK,.int .i64 aL]]:List (List Value))),((u4 ++ [(aA,aB,aC)]) ++ [(aJ,aK,aL)]),rfl,rfl,bI,(I0 _),(F2.append (F2.append fu4 (show F2 (C1.R k5) ([[.int .i64 aA,.int .i64 aB,.int .i64 aC]]:List (List Value)) [(aA,aB,aC)] from⟨(G1 aF aG aH),trivial⟩)) (show F2 (C1.R k5) ([[.int .i64 aJ,.int .i64 aK,.int .i64 aL]]:List (List Value)) [(aJ,aK,aL)] from⟨(G1 aW aX aY),trivial⟩)),aD⟩ (nS _)))))
   ·replace aD:=ifN aD bK
    obtain⟨x16,cH,aD⟩:=j0 aD
    obtain⟨cI,cZ,cJ,cK⟩:=Sl.getI (r:=C1.toRp) (S0.mono bI rp0) cH (by decide)
    refine aI cI ?_
    obtain⟨aM,aN,aO,rfl,rfl,aZ,bA,bB⟩:=M1 cK
    try dsimp only at aD
    refine eX _ (aI cJ ?_)
    obtain⟨q17,cL,aD⟩:=j0 aD
    refine aI (P1 cL (by first|rw[F2.length fu4,F2.length (show F2 (C1.R k5) ([[.int .i64 aM,.int .i64 aN,.int .i64 aO]]:List (List Value)) [(aM,aN,aO)] from⟨(G1 aZ bA bB),trivial⟩)]|exact congrArg (·+1) (F2.length fu4))) ?_
    refine aI rfl (aI (by repeat first|exact trivial|refine aI rfl ?_) (aI (by repeat first|exact trivial|refine aI rfl ?_) (eX m6 (aI ⟨true,(IntKind.i64.wrap (u3+1)),(wu4++([[.int .i64 aM,.int .i64 aN,.int .i64 aO]]:List (List Value))),(u4 ++ [(aM,aN,aO)]),rfl,rfl,bI,(I0 _),(F2.append fu4 (show F2 (C1.R k5) ([[.int .i64 aM,.int .i64 aN,.int .i64 aO]]:List (List Value)) [(aM,aN,aO)] from⟨(G1 aZ bA bB),trivial⟩)),aD⟩ (nS _)))))
  ·replace aD:=ifN aD bJ
   refine aI (fun bL=>?_) (fun bL=>?_)
   ·replace aD:=ifP aD bL
    obtain⟨q19,cM,aD⟩:=j0 aD
    refine aI (P1 cM (by first|rw[F2.length fu4,F2.length (show F2 (C1.R k5) ([[.int .i64 aA,.int .i64 aB,.int .i64 aC]]:List (List Value)) [(aA,aB,aC)] from⟨(G1 aF aG aH),trivial⟩)]|exact congrArg (·+1) (F2.length fu4))) ?_
    obtain⟨x20,cN,aD⟩:=j0 aD
    obtain⟨cO,dA,cP,cQ⟩:=Sl.getI (r:=C1.toRp) (S0.mono bI rp0) cN (by decide)
    refine aI cO ?_
    obtain⟨aP,aQ,aR,rfl,rfl,bC,bD,bE⟩:=M1 cQ
    try dsimp only at aD
    refine eX _ (aI cP ?_)
    obtain⟨q21,cR,aD⟩:=j0 aD
    refine aI (P1 cR (by first|rw[F2.length (F2.append fu4 (show F2 (C1.R k5) ([[.int .i64 aA,.int .i64 aB,.int .i64 aC]]:List (List Value)) [(aA,aB,aC)] from⟨(G1 aF aG aH),trivial⟩)),F2.length (show F2 (C1.R k5) ([[.int .i64 aP,.int .i64 aQ,.int .i64 aR]]:List (List Value)) [(aP,aQ,aR)] from⟨(G1 bC bD bE),trivial⟩)]|exact congrArg (·+1) (F2.length (F2.append fu4 (show F2 (C1.R k5) ([[.int .i64 aA,.int .i64 aB,.int .i64 aC]]:List (List Value)) [(aA,aB,aC)] from⟨(G1 aF aG aH),trivial⟩))))) ?_
    refine aI rfl (aI (by repeat first|exact trivial|refine aI rfl ?_) (aI (by repeat first|exact trivial|refine aI rfl ?_) (eX m6 (aI ⟨true,(IntKind.i64.wrap (u3+1)),((wu4++([[.int .i64 aA,.int .i64 aB,.int .i64 aC]]:List (List Value)))++([[.int .i64 aP,.int .i64 aQ,.int .i64 aR]]:List (List Value))),((u4 ++ [(aA,aB,aC)]) ++ [(aP,aQ,aR)]),rfl,rfl,bI,(I0 _),(F2.append (F2.append fu4 (show F2 (C1.R k5) ([[.int .i64 aA,.int .i64 aB,.int .i64 aC]]:List (List Value)) [(aA,aB,aC)] from⟨(G1 aF aG aH),trivial⟩)) (show F2 (C1.R k5) ([[.int .i64 aP,.int .i64 aQ,.int .i64 aR]]:List (List Value)) [(aP,aQ,aR)] from⟨(G1 bC bD bE),trivial⟩)),aD⟩ (nS _)))))
   ·replace aD:=ifN aD bL
    obtain⟨x22,cS,aD⟩:=j0 aD
    obtain⟨cT,dB,cU,cV⟩:=Sl.getI (r:=C1.toRp) (S0.mono bI rp0) cS (by decide)
    refine aI cT ?_
    obtain⟨aS,aT,aU,rfl,rfl,bF,bG,bH⟩:=M1 cV
    try dsimp only at aD
    refine eX _ (aI cU ?_)
    obtain⟨q23,cW,aD⟩:=j0 aD
    refine aI (P1 cW (by first|rw[F2.length fu4,F2.length (show F2 (C1.R k5) ([[.int .i64 aS,.int .i64 aT,.int .i64 aU]]:List (List Value)) [(aS,aT,aU)] from⟨(G1 bF bG bH),trivial⟩)]|exact congrArg (·+1) (F2.length fu4))) ?_
    refine aI rfl (aI (by repeat first|exact trivial|refine aI rfl ?_) (aI (by repeat first|exact trivial|refine aI rfl ?_) (eX m6 (aI ⟨u2,(IntKind.i64.wrap (u3+1)),(wu4++([[.int .i64 aS,.int .i64 aT,.int .i64 aU]]:List (List Value))),(u4 ++ [(aS,aT,aU)]),rfl,rfl,bI,(I0 _),(F2.append fu4 (show F2 (C1.R k5) ([[.int .i64 aS,.int .i64 aT,.int .i64 aU]]:List (List Value)) [(aS,aT,aU)] from⟨(G1 bF bG bH),trivial⟩)),aD⟩ (nS _)))))
 ·replace aD:=ifN aD bX
  have hE:=oJ aD;subst hE
  try dsimp only[P0,Q0]at aV
  refine aI (fun bM=>?_) (fun bM=>?_)
  ·replace aV:=ifP aV bM
   obtain⟨q25,cX,aV⟩:=j0 aV
   refine aI (P1 cX (by first|rw[F2.length fu4,F2.length (show F2 (C1.R k5) ([[.int .i64 aA,.int .i64 aB,.int .i64 aC]]:List (List Value)) [(aA,aB,aC)] from⟨(G1 aF aG aH),trivial⟩)]|exact congrArg (·+1) (F2.length fu4))) ?_
   intro v26 k27 f28
   obtain⟨az29,cz29,rfl,rz29,sz29,lz29⟩:=j1.out (r:=C1.toRp) f28 (F2.append fu4 (show F2 (C1.R k5) ([[.int .i64 aA,.int .i64 aB,.int .i64 aC]]:List (List Value)) [(aA,aB,aC)] from⟨(G1 aF aG aH),trivial⟩))
   have hE:=oJ aV;subst hE
   exact⟨az29,((u4 ++ [(aA,aB,aC)])).length,cz29,rfl,rz29,(bI.trans sz29)⟩
  ·replace aV:=ifN aV bM
   intro v30 k31 f32
   obtain⟨az33,cz33,rfl,rz33,sz33,lz33⟩:=j1.out (r:=C1.toRp) f32 fu4
   have hE:=oJ aV;subst hE
   exact⟨az33,u4.length,cz33,rfl,rz33,(bI.trans sz33)⟩
theorem C0d (h:Hp) (aL:List Value) (p0:l0) (rp0:K1.R h aL p0) (p1:Int) (ip1:H0 p1) (r:Int) (aG:f00 p0 p1=some r) :
  Tr Tryz.prog 220 #[.agg aL.toArray,.int .i64 p1] h fun v h'=>v = .int .i64 r∧h'=h:=by
 obtain⟨aM,aN,aH,bA,aJ,aK,rfl,rfl,bB,bC,aB⟩:=F0 rp0
 obtain⟨rfl,bD⟩:=Sl.len aB
 unfold f00 at aG
 dsimp only at aG
 refine Tr.forget (C2 (args:=[.agg #[.int .i64 aM,.int .i64 aN,.slice aH aK.length aJ],.int .i64 p1]) (fn:=Tryz.f220) rfl ?_)
 obtain⟨X1,aO,aG⟩:=j0 aG
 refine eX { vars:=[5,6],boxes:=[],owns:=[],fuel:=true } (eX (fun vs os h'=>∃(u2:Int) (u3:Int),vs.tail = [.int .i64 u2,.int .i64 u3]∧os = []∧Sub h h'∧H0 u2∧H0 u3∧N3 aK p1 (H1 vs) u2 u3=some X1) (eX (fun _ _=>0) ?_))
 refine aI (eX N0 ⟨0,0,rfl,rfl,(Sub.refl _),(by decide),(by decide),aO⟩) ?_
 rintro v_0 v_1 m5 k4 ⟨u2,u3,aP,aQ,aC,iu2,iu3,aA⟩
 cases aP
 cases aQ
 replace aA:N3 aK p1 m5 u2 u3=some X1:=aA
 obtain _|m5:=m5
 ·cases (show(none:Option _)=some X1 from aA)
 rw[N3.eq_2]at aA
 refine aI (fun aR=>?_) (fun aR=>?_)
 ·replace aA:=ifP aA aR
  obtain⟨x7,bO,aA⟩:=j0 aA
  obtain⟨bP,bQ,bR,bS⟩:=Sl.getI (r:=C1.toRp) (S0.mono aC aB) bO (by decide)
  refine aI bP ?_
  obtain⟨bT,bU,bV,rfl,rfl,bE,bF,bG⟩:=M1 bS
  try dsimp only at aA
  refine eX _ (aI bR ?_)
  refine aI (fun aS=>?_) (fun aS=>?_)
  ·replace aA:=ifP aA aS
   obtain⟨x9,bW,aA⟩:=j0 aA
   obtain⟨bX,bY,bZ,cA⟩:=Sl.getI (r:=C1.toRp) (S0.mono aC aB) bW (by decide)
   refine aI bX ?_
   obtain⟨cC,cD,cE,rfl,rfl,bH,bI,bJ⟩:=M1 cA
   try dsimp only at aA
   refine eX _ (aI bZ ?_)
   refine aI (fun aD=>?_) (fun aD=>?_)
   ·replace aA:=ifP aA aD
    refine aI rfl (aI (by repeat first|exact trivial|refine aI rfl ?_) (aI (by repeat first|exact trivial|refine aI rfl ?_) (eX m5 (aI ⟨(IntKind.i64.wrap ((IntKind.i64.wrap (u2+1))+1)),(IntKind.i64.wrap (u3+1)),rfl,rfl,aC,(I0 _),(I0 _),aA⟩ (nS _)))))
   ·replace aA:=ifN aA aD
    refine aI rfl (aI (by repeat first|exact trivial|refine aI rfl ?_) (aI (by repeat first|exact trivial|refine aI rfl ?_) (eX m5 (aI ⟨(IntKind.i64.wrap (u2+1)),(IntKind.i64.wrap (u3+1)),rfl,rfl,aC,(I0 _),(I0 _),aA⟩ (nS _)))))
  ·replace aA:=ifN aA aS
   obtain⟨x11,aT,aA⟩:=j0 aA
   obtain⟨aU,bK,aV,aW⟩:=Sl.getI (r:=C1.toRp) (S0.mono aC aB) aT (by decide)
   refine aI aU ?_
   obtain⟨bL,bM,bN,rfl,rfl,aX,aY,aZ⟩:=M1 aW
   try dsimp only at aA
   refine eX _ (aI aV ?_)
   refine aI (fun aF=>?_) (fun aF=>?_)
   ·replace aA:=ifP aA aF
    refine aI rfl (aI (by repeat first|exact trivial|refine aI rfl ?_) (aI (by repeat first|exact trivial|refine aI rfl ?_) (eX m5 (aI ⟨(IntKind.i64.wrap (u2+1)),(IntKind.i64.wrap (u3+1)),rfl,rfl,aC,(I0 _),(I0 _),aA⟩ (nS _)))))
   ·replace aA:=ifN aA aF
    refine aI rfl (aI (by repeat first|exact trivial|refine aI rfl ?_) (aI (by repeat first|exact trivial|refine aI rfl ?_) (eX m5 (aI ⟨u2,(IntKind.i64.wrap (u3+1)),rfl,rfl,aC,iu2,(I0 _),aA⟩ (nS _)))))
 ·replace aA:=ifN aA aR
  have hE:=oJ aA;subst hE
  try dsimp only[P0,Q0]at aG
  have hE:=oJ aG;subst hE
  exact aI rfl aC
theorem J09 (h:Hp) (bJ:List Value) (p0:l0) (rp0:K1.R h bJ p0) (p1:Int) (ip1:H0 p1) (r:D0) (aB:K9 p0 p1=some r) :
  Tr Tryz.prog 219 #[.agg bJ.toArray,.int .i64 p1] h fun v h'=>∃(a0:Option Addr) (n0 c0:Nat),v = .slice a0 n0 c0∧J0.R h' [.slice a0 n0 c0] r∧Sub h h':=by
 obtain⟨aP,aL,aN,cE,aO,aG,rfl,rfl,aY,aZ,aH⟩:=F0 rp0
 obtain⟨rfl,cG⟩:=Sl.len aH
 unfold K9 at aB
 dsimp only at aB
 refine C2 (args:=[.agg #[.int .i64 aP,.int .i64 aL,.slice aN aG.length aO],.int .i64 p1]) (fn:=Tryz.f219) rfl ?_
 obtain⟨x1,cJ,aB⟩:=j0 aB
 refine Tr.val (A6 _ [.int .i64 aP,.int .i64 aL,.slice aN aG.length aO] (aP,aL,aG) (z0 aY aZ aH) _  cJ) ?_
 obtain⟨x2,cK,aB⟩:=j0 aB
 refine eX (.bool x2) (aI (fun q=>w6 _ p1 ip1 0 (by decide) (IntKind.i64.wrap (aL-1)) (I0 _) _  (Q2 cK q)) ?_)
 refine aI (fun bK=>?_) (fun bK=>?_)
 ·replace aB:=ifP aB bK
  intro v4 k5 f6
  obtain⟨az7,cz7,rfl,rz7,sz7,lz7⟩:=j1.out (r:=Wp.int.toRp) f6 (show F2 (Wp.int.R h) ([]:List (List Value)) ([]:D0) from trivial)
  have hE:=oJ aB;subst hE
  exact⟨az7,(([]:D0)).length,cz7,rfl,rz7,sz7⟩
 ·replace aB:=ifN aB bK
  obtain⟨X12,bA,aB⟩:=j0 aB
  refine eX { vars:=[5,6],boxes:=[],owns:=[],fuel:=true,pubs:=[5,22] } (eX (fun vs os h'=>∃(au13:Option Addr) (nu13 cu13:Nat) (u13:D0) (u14:Int),vs.tail = [.slice au13 nu13 cu13,.int .i64 u14]∧os = []∧Sub h h'∧J0.R h' [.slice au13 nu13 cu13] u13∧H0 u14∧G5 aG (H1 vs) u13 u14=some X12) (eX (fun _ _=>0) ?_))
  intro v8 k9 f10
  obtain⟨az11,cz11,rfl,rz11,sz11,lz11⟩:=j1.out (r:=Wp.int.toRp) f10 (show F2 (Wp.int.R h) ([[.int .i64 p1]]:List (List Value)) [p1] from⟨⟨rfl,ip1⟩,trivial⟩)
  refine aI (eX N0 ⟨az11,([p1]).length,cz11,[p1],0,rfl,rfl,sz11,rz11,(by decide),bA⟩) ?_
  rintro v_0 v_1 m16 k15 ⟨au13,nu13,cu13,u13,u14,bB,bC,bL,ru13,iu14,aF⟩
  cases bB
  cases bC
  replace aF:G5 aG m16 u13 u14=some X12:=aF
  obtain _|m16:=m16
  ·cases (show(none:Option _)=some X12 from aF)
  rw[G5.eq_2]at aF
  obtain⟨rfl,lu13⟩:=Sl.len ru13
  refine aI (fun aQ=>?_) (fun aQ=>?_)
  ·replace aF:=ifP aF aQ
   obtain⟨X18,bD,aF⟩:=j0 aF
   refine eX { vars:=[5,7],boxes:=[],owns:=[],fuel:=true } (eX (fun vs os h'=>∃(au19:Option Addr) (nu19 cu19:Nat) (u19:D0) (u20:Int),vs.tail = [.slice au19 nu19 cu19,.int .i64 u20]∧os = []∧Sub k15 h'∧J0.R h' [.slice au19 nu19 cu19] u19∧H0 u20∧K3 aG (H1 vs) u19 u20=some X18) (eX (fun _ _=>0) ?_))
   refine aI (eX N0 ⟨au13,u13.length,cu13,u13,0,rfl,rfl,(Sub.refl _),ru13,(by decide),bD⟩) ?_
   rintro v_0 v_1 m22 k21 ⟨au19,nu19,cu19,u19,u20,bE,bF,aR,ru19,iu20,aA⟩
   cases bE
   cases bF
   replace aA:K3 aG m22 u19 u20=some X18:=aA
   obtain _|m22:=m22
   ·cases (show(none:Option _)=some X18 from aA)
   rw[K3.eq_2]at aA
   obtain⟨rfl,lu19⟩:=Sl.len ru19
   refine aI (fun aS=>?_) (fun aS=>?_)
   ·replace aA:=ifP aA aS
    obtain⟨x24,bM,aA⟩:=j0 aA
    obtain⟨bN,cH,bO,bP⟩:=Sl.getI (r:=C1.toRp) (S0.mono (bL.trans aR) aH) bM (by decide)
    refine aI bN ?_
    obtain⟨aJ,cI,aK,rfl,rfl,aC,bQ,aD⟩:=M1 bP
    try dsimp only at aA
    refine eX _ (aI bO ?_)
    obtain⟨x25,bR,aA⟩:=j0 aA
    refine Tr.val (M02 _ au19 u19.length cu19 u19 ru19 aJ aC _  bR) ?_
    refine aI (fun aT=>?_) (fun aT=>?_)
    ·replace aA:=ifP aA aT
     obtain⟨x27,bS,aA⟩:=j0 aA
     refine Tr.mono (U01 _ au19 u19.length cu19 u19 ru19 aK aD _  bS) ?_
     rintro v29 k28 ⟨aU,cL,aV,rfl,aM,bG⟩
     obtain⟨rfl,cM⟩:=Sl.len aM
     obtain⟨x30,bT,aA⟩:=j0 aA
     refine Tr.val (M02 _ aU x27.length aV x27 aM aK aD _  bT) ?_
     refine aI (fun aW=>?_) (fun aW=>?_)
     ·replace aA:=ifP aA aW
      obtain⟨x32,bU,aA⟩:=j0 aA
      refine Tr.mono (U01 _ aU x27.length aV x27 aM aJ aC _  bU) ?_
      rintro v34 k33 ⟨bV,cN,bW,rfl,bH,bX⟩
      obtain⟨rfl,cO⟩:=Sl.len bH
      refine aI rfl (aI (by repeat first|exact trivial|refine aI rfl ?_) (aI (by repeat first|exact trivial|refine aI rfl ?_) (eX m22 (aI ⟨bV,x32.length,bW,x32,(IntKind.i64.wrap (u20+1)),rfl,rfl,((aR.trans bG).trans bX),bH,(I0 _),aA⟩ (nS _)))))
     ·replace aA:=ifN aA aW
      refine aI rfl (aI (by repeat first|exact trivial|refine aI rfl ?_) (aI (by repeat first|exact trivial|refine aI rfl ?_) (eX m22 (aI ⟨aU,x27.length,aV,x27,(IntKind.i64.wrap (u20+1)),rfl,rfl,(aR.trans bG),aM,(I0 _),aA⟩ (nS _)))))
    ·replace aA:=ifN aA aT
     obtain⟨x35,bY,aA⟩:=j0 aA
     refine Tr.val (M02 _ au19 u19.length cu19 u19 ru19 aK aD _  bY) ?_
     refine aI (fun aX=>?_) (fun aX=>?_)
     ·replace aA:=ifP aA aX
      obtain⟨x37,bZ,aA⟩:=j0 aA
      refine Tr.mono (U01 _ au19 u19.length cu19 u19 ru19 aJ aC _  bZ) ?_
      rintro v39 k38 ⟨cA,cP,cC,rfl,bI,cD⟩
      obtain⟨rfl,cQ⟩:=Sl.len bI
      refine aI rfl (aI (by repeat first|exact trivial|refine aI rfl ?_) (aI (by repeat first|exact trivial|refine aI rfl ?_) (eX m22 (aI ⟨cA,x37.length,cC,x37,(IntKind.i64.wrap (u20+1)),rfl,rfl,(aR.trans cD),bI,(I0 _),aA⟩ (nS _)))))
     ·replace aA:=ifN aA aX
      refine aI rfl (aI (by repeat first|exact trivial|refine aI rfl ?_) (aI (by repeat first|exact trivial|refine aI rfl ?_) (eX m22 (aI ⟨au19,u19.length,cu19,u19,(IntKind.i64.wrap (u20+1)),rfl,rfl,aR,ru19,(I0 _),aA⟩ (nS _)))))
   ·replace aA:=ifN aA aS
    have hE:=oJ aA;subst hE
    try dsimp only[P0,Q0]at aF
    refine aI rfl (aI (by repeat first|exact trivial|refine aI rfl ?_) (aI (by repeat first|exact trivial|refine aI rfl ?_) (eX m16 (aI ⟨au19,u19.length,cu19,u19,(IntKind.i64.wrap (u14+1)),rfl,rfl,(bL.trans aR),ru19,(I0 _),aF⟩ (nS _)))))
  ·replace aF:=ifN aF aQ
   have hE:=oJ aF;subst hE
   try dsimp only[P0,Q0]at aB
   have hE:=oJ aB;subst hE
   exact⟨au13,u13.length,cu13,rfl,ru13,bL⟩
theorem f0g (h:Hp) (aO:List Value) (p0:l0) (rp0:K1.R h aO p0) (r:Int) (aH:c02 p0=some r) :
  Tr Tryz.prog 175 #[.agg aO.toArray] h fun v h'=>v = .int .i64 r∧h'=h:=by
 obtain⟨aB,aC,aD,aV,aF,aJ,rfl,rfl,aK,aL,aG⟩:=F0 rp0
 obtain⟨rfl,aW⟩:=Sl.len aG
 unfold c02 at aH
 dsimp only at aH
 refine Tr.forget (C2 (args:=[.agg #[.int .i64 aB,.int .i64 aC,.slice aD aJ.length aF]]) (fn:=Tryz.f175) rfl ?_)
 obtain⟨x1,aY,aH⟩:=j0 aH
 refine Tr.mono (J09 _ [.int .i64 aB,.int .i64 aC,.slice aD aJ.length aF] (aB,aC,aJ) (z0 aK aL aG) 0 (by decide) _  aY) ?_
 rintro v3 k2 ⟨aZ,bC,bA,rfl,aX,bD⟩
 obtain⟨rfl,bE⟩:=Sl.len aX
 obtain⟨X4,aP,aH⟩:=j0 aH
 refine eX { vars:=[4],boxes:=[],owns:=[],fuel:=true } (eX (fun vs os h'=>∃(u5:Int),vs.tail = [.int .i64 u5]∧os = []∧Sub k2 h'∧H0 u5∧n8 aC aB aJ x1 (H1 vs) u5=some X4) (eX (fun _ _=>0) ?_))
 refine aI (eX N0 ⟨1,rfl,rfl,(Sub.refl _),(by decide),aP⟩) ?_
 rintro v_0 m7 k6 ⟨u5,aQ,aR,aN,iu5,aA⟩
 cases aQ
 cases aR
 replace aA:n8 aC aB aJ x1 m7 u5=some X4:=aA
 obtain _|m7:=m7
 ·cases (show(none:Option _)=some X4 from aA)
 rw[n8.eq_2]at aA
 refine aI (fun aS=>?_) (fun aS=>?_)
 ·replace aA:=ifP aA aS
  obtain⟨x9,bB,aA⟩:=j0 aA
  refine Tr.val (C0d _ [.int .i64 aB,.int .i64 aC,.slice aD aJ.length aF] (aB,aC,aJ) (z0 aK aL (S0.mono (bD.trans aN) aG)) u5 iu5 _  bB) ?_
  obtain⟨q10,aT,aA⟩:=j0 aA
  have bF:H0 x9:=M0 aT
  obtain⟨x11,aU,aA⟩:=j0 aA
  refine eX (.bool x11) (aI (fun q=>M02 _ aZ x1.length bA x1 (J0.mono aN aX) u5 iu5 _  (Q2 aU q)) ?_)
  refine aI (fun aM=>?_) (fun aM=>?_)
  ·replace aA:=ifP aA aM
   have hE:=oJ aA;subst hE
   try dsimp only[G2,I2]at aH
   have hE:=oJ aH;subst hE
   exact aI rfl (bD.trans aN)
  ·replace aA:=ifN aA aM
   refine aI rfl (aI (by repeat first|exact trivial|refine aI rfl ?_) (aI (by repeat first|exact trivial|refine aI rfl ?_) (eX m7 (aI ⟨(IntKind.i64.wrap (u5+1)),rfl,rfl,aN,(I0 _),aA⟩ (nS _)))))
 ·replace aA:=ifN aA aS
  have hE:=oJ aA;subst hE
  try dsimp only[P0,Q0]at aH
  have hE:=oJ aH;subst hE
  exact aI rfl (bD.trans aN)
theorem I03 (h:Hp) (bO:List Value) (p0:l0) (rp0:K1.R h bO p0) (ap1:Option Addr) (np1 cp1:Nat) (p1:D0) (rp1:J0.R h [.slice ap1 np1 cp1] p1) (r:l0×Bool) (aB:w7 p0 p1=some r) :
  Tr Tryz.prog 185 #[.agg bO.toArray,.slice ap1 np1 cp1] h fun v h'=>∃(cs0:List Value),v = .tuple #[.agg cs0.toArray,.bool r.2]∧K1.R h' cs0 r.1∧Sub h h':=by
 obtain⟨aC,aD,aJ,dR,aK,aG,rfl,rfl,aL,aM,aF⟩:=F0 rp0
 obtain⟨rfl,dS⟩:=Sl.len aF
 obtain⟨rfl,lp1⟩:=Sl.len rp1
 unfold w7 at aB
 dsimp only at aB
 refine C2 (args:=[.agg #[.int .i64 aC,.int .i64 aD,.slice aJ aG.length aK],.slice ap1 p1.length cp1]) (fn:=Tryz.f185) rfl ?_
 obtain⟨x1,eJ,aB⟩:=j0 aB
 refine Tr.val (A6 _ [.int .i64 aC,.int .i64 aD,.slice aJ aG.length aK] (aC,aD,aG) (z0 aL aM aF) _  eJ) ?_
 refine aI (fun bP=>?_) (fun bP=>?_)
 ·replace aB:=ifP aB bP
  obtain⟨x3,eK,aB⟩:=j0 aB
  refine Tr.mono (H4 _ [.int .i64 aC,.int .i64 aD,.slice aJ aG.length aK] (aC,aD,aG) (z0 aL aM aF) _  eK) ?_
  rintro v5 k4 ⟨eL,rfl,eM,eN⟩
  obtain⟨bQ,bR,aZ,dT,bA,eO,rfl,rfl,bB,bC,aP⟩:=F0 eM
  obtain⟨rfl,dU⟩:=Sl.len aP
  try dsimp only at aB
  have hE:=oJ aB;subst hE
  exact⟨([.int .i64 bQ,.int .i64 bR,.slice aZ eO.length bA]),rfl,(z0 bB bC aP),eN⟩
 ·replace aB:=ifN aB bP
  obtain⟨q6,eP,aB⟩:=j0 aB
  refine aI (M0 eP) ?_
  obtain⟨X7,bS,aB⟩:=j0 aB
  refine eX { vars:=[8],boxes:=[],owns:=[0],fuel:=true,kept:=[0] } (eX (fun vs os h'=>∃(u8:Int) (wu9:List (List Value)) (u9:List Int),vs.tail = [.int .i64 u8]∧os = [wu9]∧Sub h h'∧H0 u8∧F2 (Wp.int.R h') wu9 u9∧N4 p1 aD aC aG (H1 vs) u8 u9=some X7) (eX (fun _ _=>0) ?_))
  refine aI (eX N0 ⟨0,(List.replicate aD.toNat ([.int .i64 0]:List Value)),(List.replicate aD.toNat (0:Int)),rfl,rfl,(Sub.refl _),(by decide),(F2.rep (p:=Wp.int.R h) (a:=[.int .i64 0]) (b:=0) ⟨rfl,(by decide)⟩ (aD.toNat)),bS⟩) ?_
  rintro v_0 wu9 m11 k10 ⟨u8,zzu9,u9,bT,bU,bD,iu8,fu9,aA⟩
  cases bT
  cases bU
  replace aA:N4 p1 aD aC aG m11 u8 u9=some X7:=aA
  obtain _|m11:=m11
  ·cases (show(none:Option _)=some X7 from aA)
  rw[N4.eq_2]at aA
  refine aI (fun aQ=>?_) (fun aQ=>?_)
  ·replace aA:=ifP aA aQ
   refine Or.inl (aI (aI (by kernel_rfl) (by kernel_rfl)) ?_)
   obtain⟨x13,bV,aA⟩:=j0 aA
   obtain⟨bW,dV,bX,bY⟩:=Sl.getI (r:=Wp.int.toRp) (J0.mono bD rp1) bV (by decide)
   refine aI bW ?_
   obtain⟨rfl,bZ⟩:=bY
   refine eX _ (aI bX ?_)
   obtain⟨x14,cA,aA⟩:=j0 aA
   refine eX (.bool x14) (aI (w6 _ x13 bZ 0 (by decide) (IntKind.i64.wrap (aD-1)) (I0 _) _  cA) ?_)
   obtain⟨x15,cC,aA⟩:=j0 aA
   obtain⟨dW,bE,cD⟩:=Sl.getG (r:=Wp.int.toRp) (J0.mono bD rp1) cC (by decide) (O03 k10)
   refine aI (fun q=>(bE q).1) ?_
   obtain⟨rfl,eQ⟩:=cD
   refine eX _ (aI (fun q=>(bE q).2) ?_)
   obtain⟨x16,cE,aA⟩:=j0 aA
   obtain⟨dX,bF,cG⟩:=x0a fu9 cE (O03 k10)
   refine aI (fun q=>(bF q).1) ?_
   obtain⟨rfl,eR⟩:=cG
   refine eX _ (aI (fun q=>(bF q).2) ?_)
   refine aI (fun aR=>?_) (fun aR=>?_)
   ·replace aA:=ifP aA aR
    obtain⟨x18,cH,aA⟩:=j0 aA
    refine Tr.mono (H4 _ [.int .i64 aC,.int .i64 aD,.slice aJ aG.length aK] (aC,aD,aG) (z0 aL aM (S0.mono bD aF)) _  cH) ?_
    rintro v20 k19 ⟨dY,rfl,cI,cJ⟩
    obtain⟨bG,bH,aS,cK,aT,dZ,rfl,rfl,aU,aV,aN⟩:=F0 cI
    obtain⟨rfl,cL⟩:=Sl.len aN
    try dsimp only at aA
    have hE:=oJ aA;subst hE
    try dsimp only[G2,I2]at aB
    have hE:=oJ aB;subst hE
    exact⟨([.int .i64 bG,.int .i64 bH,.slice aS dZ.length aT]),rfl,(z0 aU aV aN),(bD.trans cJ)⟩
   ·replace aA:=ifN aA aR
    obtain⟨x21,cM,aA⟩:=j0 aA
    obtain⟨cN,eA,cO,cP⟩:=Sl.getI (r:=Wp.int.toRp) (J0.mono bD rp1) cM (by decide)
    refine aI cN ?_
    obtain⟨rfl,eT⟩:=cP
    refine eX _ (aI cO ?_)
    obtain⟨x22,cQ,aA⟩:=j0 aA
    obtain⟨cR,eB,cS,cT⟩:=J4 fu9 cQ
    refine aI cR ?_
    obtain⟨rfl,eU⟩:=cT
    refine eX _ (aI cS ?_)
    refine aI rfl (aI (by repeat first|exact trivial|refine aI rfl ?_) (aI (by repeat first|exact trivial|refine aI rfl ?_) (eX m11 (aI ⟨(IntKind.i64.wrap (u8+1)),(wu9.set x21.toNat [.int .i64 (IntKind.i64.wrap (u8+1))]),(u9.set x21.toNat (IntKind.i64.wrap (u8+1))),rfl,rfl,bD,(I0 _),(F2.set (p:=Wp.int.R k10) (a:=[.int .i64 (IntKind.i64.wrap (u8+1))]) (b:=(IntKind.i64.wrap (u8+1))) ⟨rfl,(I0 _)⟩ x21.toNat fu9),aA⟩ (nS _)))))
  ·replace aA:=ifN aA aQ
   have hE:=oJ aA;subst hE
   try dsimp only[P0,Q0]at aB
   obtain⟨X23,bI,aB⟩:=j0 aB
   refine eX { vars:=[9],boxes:=[2],owns:=[],fuel:=true } (eX (fun vs os h'=>∃(u24:Int) (u25:Int) (u26:Int) (au27:Option Addr) (nu27 cu27:Nat) (u27:T0),vs.tail = [.int .i64 u24,.int .i64 u25,.int .i64 u26,.slice au27 nu27 cu27]∧os = []∧Sub k10 h'∧H0 u24∧H0 u25∧H0 u26∧S0.R h' [.slice au27 nu27 cu27] u27∧V3 aG u9 (H1 vs) u24 u25 u26 u27=some X23) (eX (fun _ _=>0) ?_))
   refine aI (eX N0 ⟨0,aC,((p1.length:Nat):Int),none,0,0,[],rfl,rfl,(Sub.refl _),(by decide),aL,(d0m lp1),(X0f C1 k10),bI⟩) ?_
   rintro v_0 v_1 v_2 v_3 m29 k28 ⟨u24,u25,u26,au27,nu27,cu27,u27,bJ,bK,aH,iu24,iu25,iu26,ru27,aA⟩
   cases bJ
   cases bK
   replace aA:V3 aG u9 m29 u24 u25 u26 u27=some X23:=aA
   obtain _|m29:=m29
   ·cases (show(none:Option _)=some X23 from aA)
   rw[V3.eq_2]at aA
   obtain⟨rfl,lu27⟩:=Sl.len ru27
   refine aI (fun aW=>?_) (fun aW=>?_)
   ·replace aA:=ifP aA aW
    obtain⟨x31,cU,aA⟩:=j0 aA
    obtain⟨cV,eC,cW,cX⟩:=Sl.getI (r:=C1.toRp) (S0.mono (bD.trans aH) aF) cU (by decide)
    refine aI cV ?_
    obtain⟨eD,aO,eE,rfl,rfl,cY,aX,cZ⟩:=M1 cX
    try dsimp only at aA
    refine eX _ (aI cW ?_)
    obtain⟨x32,dA,aA⟩:=j0 aA
    obtain⟨dB,eF,dC,dD⟩:=J4 (F2.up (r:=Wp.int.toRp) aH fu9) dA
    refine aI dB ?_
    obtain⟨rfl,eV⟩:=dD
    refine eX _ (aI dC ?_)
    obtain⟨x33,dE,aA⟩:=j0 aA
    obtain⟨eG,bL,dF⟩:=x0a (F2.up (r:=Wp.int.toRp) aH fu9) dE (O03 k28)
    refine aI (fun q=>(bL q).1) ?_
    obtain⟨rfl,eY⟩:=dF
    refine eX _ (aI (fun q=>(bL q).2) ?_)
    refine aI (fun aY=>?_) (fun aY=>?_)
    ·replace aA:=ifP aA aY
     refine Or.inr (Or.inr (Or.inl (aI (aI (by kernel_rfl) (by kernel_rfl)) ?_)))
     obtain⟨x35,dG,aA⟩:=j0 aA
     obtain⟨dH,eH,dI,dJ⟩:=J4 (F2.up (r:=Wp.int.toRp) aH fu9) dG
     obtain⟨rfl,eZ⟩:=dJ
     refine Or.inl ?_
     apply eX
     refine aI ?_ ?_
     ·intro k36 s37
      exact aI dH (aI rfl (aI rfl rfl))
     refine Or.inl (eX (.val (.int .i64 x35)) (aI ?_ ?_))
     ·intro k38 s39
      exact eX _ (aI dI (aI rfl (aI rfl rfl)))
     refine Or.inl (eX (.val (.int .i64 (IntKind.i64.wrap (x35-1)))) (aI ?_ ?_))
     ·intro k40 s41
      exact aI rfl (aI rfl rfl)
     obtain⟨x42,dK,aA⟩:=j0 aA
     obtain⟨dL,eI,dM,dN⟩:=J4 (F2.up (r:=Wp.int.toRp) aH fu9) dK
     obtain⟨rfl,fA⟩:=dN
     refine Or.inl ?_
     apply eX
     refine aI ?_ ?_
     ·intro k43 s44
      exact aI dL (aI rfl (aI rfl rfl))
     refine Or.inl (eX (.val (.int .i64 x42)) (aI ?_ ?_))
     ·intro k45 s46
      exact eX _ (aI dM (aI rfl (aI rfl rfl)))
     refine Or.inl (eX (.val (.int .i64 (IntKind.i64.wrap (x42-1)))) (aI ?_ ?_))
     ·intro k47 s48
      exact aI rfl (aI rfl rfl)
     refine Or.inl (eX (.agg [.val (.int .i64 (IntKind.i64.wrap (x35-1))),.val (.int .i64 aO),.val (.int .i64 (IntKind.i64.wrap (x42-1)))]) (aI ?_ ?_))
     ·intro k49 s50
      exact aI rfl (aI rfl rfl)
     refine Or.inr ?_
     refine Or.inr ?_
     refine Or.inl (eX 1 (aI (aI rfl rfl) ?_))
     obtain⟨x51,dO,aA⟩:=j0 aA
     refine Tr.mono (M00 _ au27 u27.length cu27 u27 ru27 [.int .i64 (IntKind.i64.wrap (x35-1)),.int .i64 aO,.int .i64 (IntKind.i64.wrap (x42-1))] ((IntKind.i64.wrap (x35-1)),aO,(IntKind.i64.wrap (x42-1))) (G1 (I0 _) aX (I0 _)) _  dO) ?_
     rintro v53 k52 ⟨dP,fB,dQ,rfl,bM,bN⟩
     obtain⟨rfl,fC⟩:=Sl.len bM
     refine aI (aI rfl bN) (aI (by first|exact trivial|exact rfl) ?_)
     refine aI trivial (aI (by first|exact trivial|exact rfl) ?_)
     refine aI rfl (aI (by repeat first|exact trivial|refine aI rfl ?_) (aI (by repeat first|exact trivial|refine aI rfl ?_) (eX m29 (aI ⟨(IntKind.i64.wrap (u24+1)),u25,u26,dP,x51.length,dQ,x51,rfl,rfl,(aH.trans bN),(I0 _),iu25,iu26,bM,aA⟩ (nS _)))))
    ·replace aA:=ifN aA aY
     refine aI rfl (aI (by repeat first|exact trivial|refine aI rfl ?_) (aI (by repeat first|exact trivial|refine aI rfl ?_) (eX m29 (aI ⟨(IntKind.i64.wrap (u24+1)),u25,u26,au27,u27.length,cu27,u27,rfl,rfl,aH,(I0 _),iu25,iu26,ru27,aA⟩ (nS _)))))
   ·replace aA:=ifN aA aW
    have hE:=oJ aA;subst hE
    try dsimp only[P0,Q0]at aB
    have hE:=oJ aB;subst hE
    exact⟨([.int .i64 u25,.int .i64 u26,.slice au27 u27.length cu27]),rfl,(z0 iu25 iu26 ru27),(bD.trans aH)⟩
theorem i06 (h:Hp) (p0:Int) (ip0:H0 p0) (r:D0) (aB:E8 p0=some r) :
  Tr Tryz.prog 225 #[.int .i64 p0] h fun v h'=>∃(a0:Option Addr) (n0 c0:Nat),v = .slice a0 n0 c0∧J0.R h' [.slice a0 n0 c0] r∧Sub h h':=by
 unfold E8 at aB
 refine C2 (args:=[.int .i64 p0]) (fn:=Tryz.f225) rfl ?_
 obtain⟨X1,aC,aB⟩:=j0 aB
 refine eX { vars:=[4],boxes:=[],owns:=[0],fuel:=true } (eX (fun vs os h'=>∃(u2:Int) (wu3:List (List Value)) (u3:List Int),vs.tail = [.int .i64 u2]∧os = [wu3]∧Sub h h'∧H0 u2∧F2 (Wp.int.R h') wu3 u3∧o6 p0 (H1 vs) u2 u3=some X1) (eX (fun _ _=>0) ?_))
 refine aI (eX N0 ⟨1,[],([]:D0),rfl,rfl,(Sub.refl _),(by decide),(show F2 (Wp.int.R h) ([]:List (List Value)) ([]:D0) from trivial),aC⟩) ?_
 rintro v_0 wu3 m5 k4 ⟨u2,zzu3,u3,aD,aF,aH,iu2,fu3,aA⟩
 cases aD
 cases aF
 replace aA:o6 p0 m5 u2 u3=some X1:=aA
 obtain _|m5:=m5
 ·cases (show(none:Option _)=some X1 from aA)
 rw[o6.eq_2]at aA
 refine aI (fun aG=>?_) (fun aG=>?_)
 ·replace aA:=ifP aA aG
  obtain⟨q7,aJ,aA⟩:=j0 aA
  refine aI (P1 aJ (by first|rw[F2.length fu3,F2.length (show F2 (Wp.int.R k4) ([[.int .i64 u2]]:List (List Value)) [u2] from⟨⟨rfl,iu2⟩,trivial⟩)]|exact congrArg (·+1) (F2.length fu3))) ?_
  obtain⟨q8,aK,aA⟩:=j0 aA
  refine aI (P1 aK (by first|rw[F2.length (F2.append fu3 (show F2 (Wp.int.R k4) ([[.int .i64 u2]]:List (List Value)) [u2] from⟨⟨rfl,iu2⟩,trivial⟩)),F2.length (show F2 (Wp.int.R k4) ([[.int .i64 (IntKind.i64.wrap (0-u2))]]:List (List Value)) [(IntKind.i64.wrap (0-u2))] from⟨⟨rfl,(I0 _)⟩,trivial⟩)]|exact congrArg (·+1) (F2.length (F2.append fu3 (show F2 (Wp.int.R k4) ([[.int .i64 u2]]:List (List Value)) [u2] from⟨⟨rfl,iu2⟩,trivial⟩))))) ?_
  refine aI rfl (aI (by repeat first|exact trivial|refine aI rfl ?_) (aI (by repeat first|exact trivial|refine aI rfl ?_) (eX m5 (aI ⟨(IntKind.i64.wrap (u2+1)),((wu3++([[.int .i64 u2]]:List (List Value)))++([[.int .i64 (IntKind.i64.wrap (0-u2))]]:List (List Value))),((u3 ++ [u2]) ++ [(IntKind.i64.wrap (0-u2))]),rfl,rfl,aH,(I0 _),(F2.append (F2.append fu3 (show F2 (Wp.int.R k4) ([[.int .i64 u2]]:List (List Value)) [u2] from⟨⟨rfl,iu2⟩,trivial⟩)) (show F2 (Wp.int.R k4) ([[.int .i64 (IntKind.i64.wrap (0-u2))]]:List (List Value)) [(IntKind.i64.wrap (0-u2))] from⟨⟨rfl,(I0 _)⟩,trivial⟩)),aA⟩ (nS _)))))
 ·replace aA:=ifN aA aG
  have hE:=oJ aA;subst hE
  try dsimp only[P0,Q0]at aB
  intro v9 k10 f11
  obtain⟨az12,cz12,rfl,rz12,sz12,lz12⟩:=j1.out (r:=Wp.int.toRp) f11 fu3
  have hE:=oJ aB;subst hE
  exact⟨az12,u3.length,cz12,rfl,rz12,(aH.trans sz12)⟩
theorem d07 (h:Hp) (aZ:List Value) (p0:l0) (rp0:K1.R h aZ p0) (r:D0) (aF:r8 p0=some r) :
  Tr Tryz.prog 222 #[.agg aZ.toArray] h fun v h'=>∃(a0:Option Addr) (n0 c0:Nat),v = .slice a0 n0 c0∧J0.R h' [.slice a0 n0 c0] r∧Sub h h':=by
 obtain⟨aB,aC,aH,bP,aJ,aG,rfl,rfl,aK,aN,aL⟩:=F0 rp0
 obtain⟨rfl,bQ⟩:=Sl.len aL
 unfold r8 at aF
 dsimp only at aF
 refine C2 (args:=[.agg #[.int .i64 aB,.int .i64 aC,.slice aH aG.length aJ]]) (fn:=Tryz.f222) rfl ?_
 obtain⟨x1,bU,aF⟩:=j0 aF
 refine Tr.val (a01 _ [.int .i64 aB,.int .i64 aC,.slice aH aG.length aJ] (aB,aC,aG) (z0 aK aN aL) _  bU) ?_
 refine aI (fun bA=>?_) (fun bA=>?_)
 ·replace aF:=ifP aF bA
  intro v3 k4 f5
  obtain⟨az6,cz6,rfl,rz6,sz6,lz6⟩:=j1.out (r:=Wp.int.toRp) f5 (show F2 (Wp.int.R h) ([]:List (List Value)) ([]:D0) from trivial)
  have hE:=oJ aF;subst hE
  exact⟨az6,(([]:D0)).length,cz6,rfl,rz6,sz6⟩
 ·replace aF:=ifN aF bA
  obtain⟨x7,bV,aF⟩:=j0 aF
  refine Tr.mono (i06 _ aB aK _  bV) ?_
  rintro v9 k8 ⟨bY,bZ,cA,rfl,bR,bW⟩
  obtain⟨rfl,cC⟩:=Sl.len bR
  obtain⟨X10,aS,aF⟩:=j0 aF
  refine eX { vars:=[5],boxes:=[],owns:=[0],fuel:=true } (eX (fun vs os h'=>∃(u11:Int) (wu12:List (List Value)) (u12:List Int),vs.tail = [.int .i64 u11]∧os = [wu12]∧Sub k8 h'∧H0 u11∧F2 (Wp.int.R h') wu12 u12∧s5 x7 aB aC aG (H1 vs) u11 u12=some X10) (eX (fun _ _=>0) ?_))
  refine aI (eX N0 ⟨0,([[.int .i64 0]]:List (List Value)),[0],rfl,rfl,(Sub.refl _),(by decide),(F2.up (r:=Wp.int.toRp) bW (show F2 (Wp.int.R h) ([[.int .i64 0]]:List (List Value)) [0] from⟨⟨rfl,(by decide)⟩,trivial⟩)),aS⟩) ?_
  rintro v_0 wu12 m14 k13 ⟨u11,zzu12,u12,aT,aU,aV,iu11,fu12,aD⟩
  cases aT
  cases aU
  replace aD:s5 x7 aB aC aG m14 u11 u12=some X10:=aD
  obtain _|m14:=m14
  ·cases (show(none:Option _)=some X10 from aD)
  rw[s5.eq_2]at aD
  obtain⟨m15,gm15,aD⟩:=j0 aD
  obtain rfl:wu12.length=m15:=(F2.length fu12).trans (oJ gm15)
  obtain⟨q16,bX,aD⟩:=j0 aD
  refine aI (fun aO=>?_) (fun aO=>?_)
  ·replace aD:=ifP aD aO
   obtain⟨X18,aW,aD⟩:=j0 aD
   refine eX { vars:=[6],boxes:=[],owns:=[0],fuel:=true } (eX (fun vs os h'=>∃(u19:Int) (wu20:List (List Value)) (u20:List Int),vs.tail = [.int .i64 u19]∧os = [wu20]∧Sub k13 h'∧H0 u19∧F2 (Wp.int.R h') wu20 u20∧O3 x7 u11 aB aC aG (H1 vs) u19 u20=some X18) (eX (fun _ _=>0) ?_))
   refine aI (eX N0 ⟨0,wu12,u12,rfl,rfl,(Sub.refl _),(by decide),fu12,aW⟩) ?_
   rintro v_0 wu20 m22 k21 ⟨u19,zzu20,u20,aX,aY,aM,iu19,fu20,aA⟩
   cases aX
   cases aY
   replace aA:O3 x7 u11 aB aC aG m22 u19 u20=some X18:=aA
   obtain _|m22:=m22
   ·cases (show(none:Option _)=some X18 from aA)
   rw[O3.eq_2]at aA
   refine aI (fun aP=>?_) (fun aP=>?_)
   ·replace aA:=ifP aA aP
    refine Or.inl (aI (aI (by kernel_rfl) (by kernel_rfl)) ?_)
    obtain⟨x24,bB,aA⟩:=j0 aA
    obtain⟨bC,bS,bD,bE⟩:=J4 fu20 bB
    refine aI bC ?_
    obtain⟨rfl,bF⟩:=bE
    refine eX _ (aI bD ?_)
    obtain⟨x25,bG,aA⟩:=j0 aA
    obtain⟨bH,bT,bI,bJ⟩:=Sl.getI (r:=Wp.int.toRp) (J0.mono (aV.trans aM) bR) bG (by decide)
    refine aI bH ?_
    obtain⟨rfl,bK⟩:=bJ
    refine eX _ (aI bI ?_)
    obtain⟨x26,bL,aA⟩:=j0 aA
    refine eX (.int .i64 x26) (aI (N02 _ [.int .i64 aB,.int .i64 aC,.slice aH aG.length aJ] (aB,aC,aG) (z0 aK aN (S0.mono ((bW.trans aV).trans aM) aL)) x24 bF x25 bK _  bL) ?_)
    obtain⟨q27,bM,aA⟩:=j0 aA
    have aQ:H0 x26:=M0 bM
    obtain⟨x28,bN,aA⟩:=j0 aA
    refine eX (.bool x28) (aI ?_ ?_)
    ·intro hq
     intro v29 k30 f31
     obtain⟨az32,cz32,rfl,rz32,sz32,lz32⟩:=j1.out (r:=Wp.int.toRp) f31 fu20
     exact M02 _ az32 u20.length cz32 u20 rz32 x26 aQ _ (Q2 bN hq)
    refine aI (fun aR=>?_) (fun aR=>?_)
    ·replace aA:=ifP aA aR
     obtain⟨q34,bO,aA⟩:=j0 aA
     refine aI (P1 bO (by first|rw[F2.length fu20,F2.length (show F2 (Wp.int.R k21) ([[.int .i64 x26]]:List (List Value)) [x26] from⟨⟨rfl,aQ⟩,trivial⟩)]|exact congrArg (·+1) (F2.length fu20))) ?_
     refine aI rfl (aI (by repeat first|exact trivial|refine aI rfl ?_) (aI (by repeat first|exact trivial|refine aI rfl ?_) (eX m22 (aI ⟨(IntKind.i64.wrap (u19+1)),(wu20++([[.int .i64 x26]]:List (List Value))),(u20 ++ [x26]),rfl,rfl,aM,(I0 _),(F2.append fu20 (show F2 (Wp.int.R k21) ([[.int .i64 x26]]:List (List Value)) [x26] from⟨⟨rfl,aQ⟩,trivial⟩)),aA⟩ (nS _)))))
    ·replace aA:=ifN aA aR
     refine aI rfl (aI (by repeat first|exact trivial|refine aI rfl ?_) (aI (by repeat first|exact trivial|refine aI rfl ?_) (eX m22 (aI ⟨(IntKind.i64.wrap (u19+1)),wu20,u20,rfl,rfl,aM,(I0 _),fu20,aA⟩ (nS _)))))
   ·replace aA:=ifN aA aP
    have hE:=oJ aA;subst hE
    try dsimp only[P0,Q0]at aD
    refine aI rfl (aI (by repeat first|exact trivial|refine aI rfl ?_) (aI (by repeat first|exact trivial|refine aI rfl ?_) (eX m14 (aI ⟨(IntKind.i64.wrap (u11+1)),wu20,u20,rfl,rfl,(aV.trans aM),(I0 _),fu20,aD⟩ (nS _)))))
  ·replace aD:=ifN aD aO
   have hE:=oJ aD;subst hE
   try dsimp only[P0,Q0]at aF
   intro v39 k40 f41
   obtain⟨az42,cz42,rfl,rz42,sz42,lz42⟩:=j1.out (r:=Wp.int.toRp) f41 fu12
   have hE:=oJ aF;subst hE
   exact⟨az42,u12.length,cz42,rfl,rz42,((bW.trans aV).trans sz42)⟩
theorem e07 (h:Hp) (bA:List Value) (p0:l0) (rp0:K1.R h bA p0) (r:l0) (aA:s8 p0=some r) :
  Tr Tryz.prog 176 #[.agg bA.toArray] h fun v h'=>∃(cs0:List Value),v = .agg cs0.toArray∧K1.R h' cs0 r∧Sub h h':=by
 obtain⟨aB,aC,aD,bG,aF,aR,rfl,rfl,aJ,aK,aG⟩:=F0 rp0
 obtain⟨rfl,bH⟩:=Sl.len aG
 unfold s8 at aA
 dsimp only at aA
 refine C2 (args:=[.agg #[.int .i64 aB,.int .i64 aC,.slice aD aR.length aF]]) (fn:=Tryz.f176) rfl ?_
 obtain⟨x1,bM,aA⟩:=j0 aA
 refine Tr.mono (d07 _ [.int .i64 aB,.int .i64 aC,.slice aD aR.length aF] (aB,aC,aR) (z0 aJ aK aG) _  bM) ?_
 rintro v3 k2 ⟨bN,bY,bO,rfl,bI,bJ⟩
 obtain⟨rfl,bZ⟩:=Sl.len bI
 refine aI (fun bB=>?_) (fun bB=>?_)
 ·replace aA:=ifP aA bB
  obtain⟨x5,bP,aA⟩:=j0 aA
  refine Tr.mono (H4 _ [.int .i64 aB,.int .i64 aC,.slice aD aR.length aF] (aB,aC,aR) (z0 aJ aK (S0.mono bJ aG)) _  bP) ?_
  rintro v7 k6 ⟨bQ,rfl,bR,bS⟩
  obtain⟨bC,bD,aU,bK,aV,bT,rfl,rfl,aW,aX,aP⟩:=F0 bR
  obtain⟨rfl,bL⟩:=Sl.len aP
  try dsimp only at aA
  have hE:=oJ aA;subst hE
  exact⟨([.int .i64 bC,.int .i64 bD,.slice aU bT.length aV]),rfl,(z0 aW aX aP),(bJ.trans bS)⟩
 ·replace aA:=ifN aA bB
  obtain⟨x8,bU,aA⟩:=j0 aA
  refine Tr.mono (I03 _ [.int .i64 aB,.int .i64 aC,.slice aD aR.length aF] (aB,aC,aR) (z0 aJ aK (S0.mono bJ aG)) bN x1.length bO x1 bI _  bU) ?_
  rintro v10 k9 ⟨bE,rfl,aQ,bV⟩
  obtain⟨bW,bX⟩:=x8
  dsimp only at aA aQ
  obtain⟨aS,aT,aL,aY,aM,bF,rfl,rfl,aN,aO,aH⟩:=F0 aQ
  obtain⟨rfl,aZ⟩:=Sl.len aH
  try dsimp only at aA
  have hE:=oJ aA;subst hE
  exact⟨([.int .i64 aS,.int .i64 aT,.slice aL bF.length aM]),rfl,(z0 aN aO aH),(bJ.trans bV)⟩
theorem D0d (h:Hp) (p0:Int) (ip0:H0 p0) (r:l0×Bool) (aA:R00 p0=some r) :
  Tr Tryz.prog 223 #[.int .i64 p0] h fun v h'=>∃(cs0:List Value),v = .tuple #[.agg cs0.toArray,.bool r.2]∧K1.R h' cs0 r.1∧Sub h h':=by
 unfold R00 at aA
 refine C2 (args:=[.int .i64 p0]) (fn:=Tryz.f223) rfl ?_
 obtain⟨x1,aC,aA⟩:=j0 aA
 refine Tr.val (w6 _ p0 ip0 1 (by decide) 3 (by decide) _  aC) ?_
 refine aI (fun aB=>?_) (fun aB=>?_)
 ·replace aA:=ifP aA aB
  have hE:=oJ aA;subst hE
  exact⟨([.int .i64 0,.int .i64 0,.slice none 0 0]),rfl,(z0 (by decide) (by decide) (X0f C1 h)),(Sub.refl _)⟩
 ·replace aA:=ifN aA aB
  have hE:=oJ aA;subst hE
  exact⟨([.int .i64 p0,.int .i64 1,.slice none 0 0]),rfl,(z0 ip0 (by decide) (X0f C1 h)),(Sub.refl _)⟩
theorem Z07 (h:Hp) (bG:List Value) (p0:l0) (rp0:K1.R h bG p0) (p1:Int) (ip1:H0 p1) (ap2:Option Addr) (np2 cp2:Nat) (p2:D0) (rp2:J0.R h [.slice ap2 np2 cp2] p2) (p3:Int) (ip3:H0 p3) (r:l0×Bool) (aB:M9 p0 p1 p2 p3=some r) :
  Tr Tryz.prog 130 #[.agg bG.toArray,.int .i64 p1,.slice ap2 np2 cp2,.int .i64 p3] h fun v h'=>∃(cs0:List Value),v = .tuple #[.agg cs0.toArray,.bool r.2]∧K1.R h' cs0 r.1∧Sub h h':=by
 obtain⟨aD,aC,aF,dB,aG,aV,rfl,rfl,aH,aL,aJ⟩:=F0 rp0
 obtain⟨rfl,dC⟩:=Sl.len aJ
 obtain⟨rfl,lp2⟩:=Sl.len rp2
 unfold M9 at aB
 dsimp only at aB
 refine C2 (args:=[.agg #[.int .i64 aD,.int .i64 aC,.slice aF aV.length aG],.int .i64 p1,.slice ap2 p2.length cp2,.int .i64 p3]) (fn:=Tryz.f130) rfl ?_
 obtain⟨x1,dL,aB⟩:=j0 aB
 refine Tr.mono (H4 _ [.int .i64 aD,.int .i64 aC,.slice aF aV.length aG] (aD,aC,aV) (z0 aH aL aJ) _  dL) ?_
 rintro v3 k2 ⟨dM,rfl,dN,bH⟩
 obtain⟨aW,aX,aM,dD,aN,bI,rfl,rfl,aO,aP,aK⟩:=F0 dN
 obtain⟨rfl,dE⟩:=Sl.len aK
 try dsimp only at aB
 obtain⟨x4,dO,aB⟩:=j0 aB
 refine Tr.val (A6 _ [.int .i64 aD,.int .i64 aC,.slice aF aV.length aG] (aD,aC,aV) (z0 aH aL (S0.mono bH aJ)) _  dO) ?_
 obtain⟨x5,dP,aB⟩:=j0 aB
 refine eX (.bool x5) (aI (fun q=>w6 _ p1 ip1 0 (by decide) (IntKind.i64.wrap (aC-1)) (I0 _) _  (Q2 dP q)) ?_)
 obtain⟨x6,dQ,aB⟩:=j0 aB
 refine eX (.bool x6) (aI (fun q=>w6 _ p3 ip3 0 (by decide) (IntKind.i64.wrap (aC-1)) (I0 _) _  (Q2 dQ q)) ?_)
 obtain⟨x7,dR,aB⟩:=j0 aB
 refine eX (.bool x7) (aI (fun q=>X08 _ aD aH ap2 p2.length cp2 p2 (J0.mono bH rp2) _  (Q2 dR q)) ?_)
 refine aI (fun bJ=>?_) (fun bJ=>?_)
 ·replace aB:=ifP aB bJ
  have hE:=oJ aB;subst hE
  exact⟨([.int .i64 aW,.int .i64 aX,.slice aM bI.length aN]),rfl,(z0 aO aP aK),bH⟩
 ·replace aB:=ifN aB bJ
  obtain⟨X9,bK,aB⟩:=j0 aB
  refine eX { vars:=[11,12],boxes:=[2],owns:=[],fuel:=true } (eX (fun vs os h'=>∃(u10:Int) (u11:Int) (u12:Int) (u13:Int) (au14:Option Addr) (nu14 cu14:Nat) (u14:T0),vs.tail = [.int .i64 u10,.int .i64 u11,.int .i64 u12,.int .i64 u13,.slice au14 nu14 cu14]∧os = []∧Sub k2 h'∧H0 u10∧H0 u11∧H0 u12∧H0 u13∧S0.R h' [.slice au14 nu14 cu14] u14∧B5 p2 p3 (H1 vs) u10 u11 u12 u13 u14=some X9) (eX (fun _ _=>0) ?_))
  refine aI (eX N0 ⟨p1,0,aW,aX,aM,bI.length,aN,bI,rfl,rfl,(Sub.refl _),ip1,(by decide),aO,aP,aK,bK⟩) ?_
  rintro v_0 v_1 v_2 v_3 v_4 m16 k15 ⟨u10,u11,u12,u13,au14,nu14,cu14,u14,bL,bM,aQ,iu10,iu11,iu12,iu13,ru14,aA⟩
  cases bL
  cases bM
  replace aA:B5 p2 p3 m16 u10 u11 u12 u13 u14=some X9:=aA
  obtain _|m16:=m16
  ·cases (show(none:Option _)=some X9 from aA)
  rw[B5.eq_2]at aA
  obtain⟨rfl,lu14⟩:=Sl.len ru14
  refine aI (fun aR=>?_) (fun aR=>?_)
  ·replace aA:=ifP aA aR
   refine aI (fun aS=>?_) (fun aS=>?_)
   ·replace aA:=ifP aA aS
    obtain⟨x19,bN,aA⟩:=j0 aA
    obtain⟨bO,dF,bP,bQ⟩:=Sl.getI (r:=Wp.int.toRp) (J0.mono (bH.trans aQ) rp2) bN (by decide)
    refine aI bO ?_
    obtain⟨rfl,dS⟩:=bQ
    refine eX _ (aI bP ?_)
    refine aI (fun aT=>?_) (fun aT=>?_)
    ·replace aA:=ifP aA aT
     refine Or.inr (Or.inr (Or.inl (aI (aI (by kernel_rfl) (by kernel_rfl)) ?_)))
     obtain⟨x21,bR,aA⟩:=j0 aA
     obtain⟨bS,dG,bT,bU⟩:=Sl.getI (r:=Wp.int.toRp) (J0.mono (bH.trans aQ) rp2) bR (by decide)
     obtain⟨rfl,bV⟩:=bU
     refine Or.inl (eX (.hel (.slice ap2 p2.length cp2) u11 1 0) (aI ?_ ?_))
     ·intro k22 s23
      exact aI bS (aI rfl (aI rfl rfl))
     refine Or.inl (eX (.val (.int .i64 x21)) (aI ?_ ?_))
     ·intro k24 s25
      exact eX _ (aI (A8.up s25 bT) (aI rfl (aI rfl rfl)))
     refine Or.inl (eX (.agg [.val (.int .i64 u10),.val (.int .i64 x21),.val (.int .i64 u13)]) (aI ?_ ?_))
     ·intro k26 s27
      exact aI rfl (aI rfl rfl)
     refine Or.inr ?_
     refine Or.inr ?_
     refine Or.inl (eX 1 (aI (aI rfl rfl) ?_))
     obtain⟨x28,bW,aA⟩:=j0 aA
     refine Tr.mono (M00 _ au14 u14.length cu14 u14 ru14 [.int .i64 u10,.int .i64 x21,.int .i64 u13] (u10,x21,u13) (G1 iu10 bV iu13) _  bW) ?_
     rintro v30 k29 ⟨bX,dT,bY,rfl,aY,aZ⟩
     obtain⟨rfl,dU⟩:=Sl.len aY
     refine aI (aI rfl aZ) (aI (by first|exact trivial|exact rfl) ?_)
     refine aI trivial (aI (by first|exact trivial|exact rfl) ?_)
     refine aI rfl (aI (by repeat first|exact trivial|refine aI rfl ?_) (aI (by repeat first|exact trivial|refine aI rfl ?_) (eX m16 (aI ⟨u13,(IntKind.i64.wrap (u11+1)),u12,(IntKind.i64.wrap (u13+1)),bX,x28.length,bY,x28,rfl,rfl,(aQ.trans aZ),iu13,(I0 _),iu12,(I0 _),aY,aA⟩ (nS _)))))
    ·replace aA:=ifN aA aT
     refine Or.inr (Or.inr (Or.inl (aI (aI (by kernel_rfl) (by kernel_rfl)) ?_)))
     obtain⟨x31,bZ,aA⟩:=j0 aA
     obtain⟨cA,dH,cC,cD⟩:=Sl.getI (r:=Wp.int.toRp) (J0.mono (bH.trans aQ) rp2) bZ (by decide)
     obtain⟨rfl,dV⟩:=cD
     refine Or.inl (eX (.hel (.slice ap2 p2.length cp2) u11 1 0) (aI ?_ ?_))
     ·intro k32 s33
      exact aI cA (aI rfl (aI rfl rfl))
     refine Or.inl (eX (.val (.int .i64 x31)) (aI ?_ ?_))
     ·intro k34 s35
      exact eX _ (aI (A8.up s35 cC) (aI rfl (aI rfl rfl)))
     refine Or.inl (eX (.val (.int .i64 (IntKind.i64.wrap (0-x31)))) (aI ?_ ?_))
     ·intro k36 s37
      exact aI rfl (aI rfl rfl)
     refine Or.inl (eX (.agg [.val (.int .i64 u13),.val (.int .i64 (IntKind.i64.wrap (0-x31))),.val (.int .i64 u10)]) (aI ?_ ?_))
     ·intro k38 s39
      exact aI rfl (aI rfl rfl)
     refine Or.inr ?_
     refine Or.inr ?_
     refine Or.inl (eX 1 (aI (aI rfl rfl) ?_))
     obtain⟨x40,cE,aA⟩:=j0 aA
     refine Tr.mono (M00 _ au14 u14.length cu14 u14 ru14 [.int .i64 u13,.int .i64 (IntKind.i64.wrap (0-x31)),.int .i64 u10] (u13,(IntKind.i64.wrap (0-x31)),u10) (G1 iu13 (I0 _) iu10) _  cE) ?_
     rintro v42 k41 ⟨cG,dW,cH,rfl,bA,bB⟩
     obtain⟨rfl,dX⟩:=Sl.len bA
     refine aI (aI rfl bB) (aI (by first|exact trivial|exact rfl) ?_)
     refine aI trivial (aI (by first|exact trivial|exact rfl) ?_)
     refine aI rfl (aI (by repeat first|exact trivial|refine aI rfl ?_) (aI (by repeat first|exact trivial|refine aI rfl ?_) (eX m16 (aI ⟨u13,(IntKind.i64.wrap (u11+1)),u12,(IntKind.i64.wrap (u13+1)),cG,x40.length,cH,x40,rfl,rfl,(aQ.trans bB),iu13,(I0 _),iu12,(I0 _),bA,aA⟩ (nS _)))))
   ·replace aA:=ifN aA aS
    obtain⟨x43,cI,aA⟩:=j0 aA
    obtain⟨cJ,dI,cK,cL⟩:=Sl.getI (r:=Wp.int.toRp) (J0.mono (bH.trans aQ) rp2) cI (by decide)
    refine aI cJ ?_
    obtain⟨rfl,dY⟩:=cL
    refine eX _ (aI cK ?_)
    refine aI (fun aU=>?_) (fun aU=>?_)
    ·replace aA:=ifP aA aU
     refine Or.inr (Or.inr (Or.inl (aI (aI (by kernel_rfl) (by kernel_rfl)) ?_)))
     obtain⟨x45,cM,aA⟩:=j0 aA
     obtain⟨cN,dJ,cO,cP⟩:=Sl.getI (r:=Wp.int.toRp) (J0.mono (bH.trans aQ) rp2) cM (by decide)
     obtain⟨rfl,cQ⟩:=cP
     refine Or.inl (eX (.hel (.slice ap2 p2.length cp2) u11 1 0) (aI ?_ ?_))
     ·intro k46 s47
      exact aI cN (aI rfl (aI rfl rfl))
     refine Or.inl (eX (.val (.int .i64 x45)) (aI ?_ ?_))
     ·intro k48 s49
      exact eX _ (aI (A8.up s49 cO) (aI rfl (aI rfl rfl)))
     refine Or.inl (eX (.agg [.val (.int .i64 u10),.val (.int .i64 x45),.val (.int .i64 p3)]) (aI ?_ ?_))
     ·intro k50 s51
      exact aI rfl (aI rfl rfl)
     refine Or.inr ?_
     refine Or.inr ?_
     refine Or.inl (eX 1 (aI (aI rfl rfl) ?_))
     obtain⟨x52,cR,aA⟩:=j0 aA
     refine Tr.mono (M00 _ au14 u14.length cu14 u14 ru14 [.int .i64 u10,.int .i64 x45,.int .i64 p3] (u10,x45,p3) (G1 iu10 cQ ip3) _  cR) ?_
     rintro v54 k53 ⟨cS,dZ,cT,rfl,bC,bD⟩
     obtain⟨rfl,eA⟩:=Sl.len bC
     refine aI (aI rfl bD) (aI (by first|exact trivial|exact rfl) ?_)
     refine aI trivial (aI (by first|exact trivial|exact rfl) ?_)
     refine aI rfl (aI (by repeat first|exact trivial|refine aI rfl ?_) (aI (by repeat first|exact trivial|refine aI rfl ?_) (eX m16 (aI ⟨p3,(IntKind.i64.wrap (u11+1)),u12,u13,cS,x52.length,cT,x52,rfl,rfl,(aQ.trans bD),ip3,(I0 _),iu12,iu13,bC,aA⟩ (nS _)))))
    ·replace aA:=ifN aA aU
     refine Or.inr (Or.inr (Or.inl (aI (aI (by kernel_rfl) (by kernel_rfl)) ?_)))
     obtain⟨x55,cU,aA⟩:=j0 aA
     obtain⟨cV,dK,cW,cX⟩:=Sl.getI (r:=Wp.int.toRp) (J0.mono (bH.trans aQ) rp2) cU (by decide)
     obtain⟨rfl,eB⟩:=cX
     refine Or.inl (eX (.hel (.slice ap2 p2.length cp2) u11 1 0) (aI ?_ ?_))
     ·intro k56 s57
      exact aI cV (aI rfl (aI rfl rfl))
     refine Or.inl (eX (.val (.int .i64 x55)) (aI ?_ ?_))
     ·intro k58 s59
      exact eX _ (aI (A8.up s59 cW) (aI rfl (aI rfl rfl)))
     refine Or.inl (eX (.val (.int .i64 (IntKind.i64.wrap (0-x55)))) (aI ?_ ?_))
     ·intro k60 s61
      exact aI rfl (aI rfl rfl)
     refine Or.inl (eX (.agg [.val (.int .i64 p3),.val (.int .i64 (IntKind.i64.wrap (0-x55))),.val (.int .i64 u10)]) (aI ?_ ?_))
     ·intro k62 s63
      exact aI rfl (aI rfl rfl)
     refine Or.inr ?_
     refine Or.inr ?_
     refine Or.inl (eX 1 (aI (aI rfl rfl) ?_))
     obtain⟨x64,cY,aA⟩:=j0 aA
     refine Tr.mono (M00 _ au14 u14.length cu14 u14 ru14 [.int .i64 p3,.int .i64 (IntKind.i64.wrap (0-x55)),.int .i64 u10] (p3,(IntKind.i64.wrap (0-x55)),u10) (G1 ip3 (I0 _) iu10) _  cY) ?_
     rintro v66 k65 ⟨cZ,eC,dA,rfl,bE,bF⟩
     obtain⟨rfl,eD⟩:=Sl.len bE
     refine aI (aI rfl bF) (aI (by first|exact trivial|exact rfl) ?_)
     refine aI trivial (aI (by first|exact trivial|exact rfl) ?_)
     refine aI rfl (aI (by repeat first|exact trivial|refine aI rfl ?_) (aI (by repeat first|exact trivial|refine aI rfl ?_) (eX m16 (aI ⟨p3,(IntKind.i64.wrap (u11+1)),u12,u13,cZ,x64.length,dA,x64,rfl,rfl,(aQ.trans bF),ip3,(I0 _),iu12,iu13,bE,aA⟩ (nS _)))))
  ·replace aA:=ifN aA aR
   have hE:=oJ aA;subst hE
   try dsimp only[P0,Q0]at aB
   have hE:=oJ aB;subst hE
   exact⟨([.int .i64 u12,.int .i64 u13,.slice au14 u14.length cu14]),rfl,(z0 iu12 iu13 ru14),(bH.trans aQ)⟩
theorem E0d (h:Hp) (aU:List Value) (p0:l0) (rp0:K1.R h aU p0) (ap1:Option Addr) (np1 cp1:Nat) (p1:D0) (rp1:J0.R h [.slice ap1 np1 cp1] p1) (r:l0×Bool) (aL:S00 p0 p1=some r) :
  Tr Tryz.prog 203 #[.agg aU.toArray,.slice ap1 np1 cp1] h fun v h'=>∃(cs0:List Value),v = .tuple #[.agg cs0.toArray,.bool r.2]∧K1.R h' cs0 r.1∧Sub h h':=by
 obtain⟨aM,aN,aG,aY,aH,aV,rfl,rfl,aQ,aR,aJ⟩:=F0 rp0
 obtain⟨rfl,aZ⟩:=Sl.len aJ
 obtain⟨rfl,lp1⟩:=Sl.len rp1
 unfold S00 at aL
 dsimp only at aL
 refine C2 (args:=[.agg #[.int .i64 aM,.int .i64 aN,.slice aG aV.length aH],.slice ap1 p1.length cp1]) (fn:=Tryz.f203) rfl ?_
 obtain⟨x1,bA,aL⟩:=j0 aL
 refine Tr.mono (Z07 _ [.int .i64 aM,.int .i64 aN,.slice aG aV.length aH] (aM,aN,aV) (z0 aQ aR aJ) 0 (by decide) ap1 p1.length cp1 p1 rp1 0 (by decide) _  bA) ?_
 rintro v3 k2 ⟨aW,rfl,aK,bB⟩
 obtain⟨bC,bD⟩:=x1
 dsimp only at aL aK
 obtain⟨aO,aP,aB,aS,aC,aX,rfl,rfl,aD,aF,aA⟩:=F0 aK
 obtain⟨rfl,aT⟩:=Sl.len aA
 try dsimp only at aL
 have hE:=oJ aL;subst hE
 exact⟨([.int .i64 aO,.int .i64 aP,.slice aB aX.length aC]),rfl,(z0 aD aF aA),bB⟩
theorem F0d (h:Hp) (p0:Int) (ip0:H0 p0) (ap1:Option Addr) (np1 cp1:Nat) (p1:J1) (rp1:T1.R h [.slice ap1 np1 cp1] p1) (r:l0×Bool) (aM:T00 p0 p1=some r) :
  Tr Tryz.prog 177 #[.int .i64 p0,.slice ap1 np1 cp1] h fun v h'=>∃(cs0:List Value),v = .tuple #[.agg cs0.toArray,.bool r.2]∧K1.R h' cs0 r.1∧Sub h h':=by
 obtain⟨rfl,lp1⟩:=Sl.len rp1
 unfold T00 at aM
 refine C2 (args:=[.int .i64 p0,.slice ap1 p1.length cp1]) (fn:=Tryz.f177) rfl ?_
 obtain⟨x1,bZ,aM⟩:=j0 aM
 refine Tr.val (X06 _ p0 ip0 ap1 p1.length cp1 p1 rp1 _  bZ) ?_
 refine aI (fun bO=>?_) (fun bO=>?_)
 ·replace aM:=ifP aM bO
  have hE:=oJ aM;subst hE
  exact⟨([.int .i64 0,.int .i64 0,.slice none 0 0]),rfl,(z0 (by decide) (by decide) (X0f C1 h)),(Sub.refl _)⟩
 ·replace aM:=ifN aM bO
  obtain⟨x3,cA,aM⟩:=j0 aM
  refine Tr.mono (D0d _ p0 ip0 _  cA) ?_
  rintro v5 k4 ⟨bP,rfl,aX,cH⟩
  obtain⟨cC,cD⟩:=x3
  dsimp only at aM aX
  obtain⟨aY,aZ,aT,bL,aU,bA,rfl,rfl,aV,aW,aO⟩:=F0 aX
  obtain⟨rfl,bM⟩:=Sl.len aO
  try dsimp only at aM
  obtain⟨X6,bQ,aM⟩:=j0 aM
  refine eX { vars:=[8],boxes:=[1],owns:=[],fuel:=true } (eX (fun vs os h'=>∃(u7:Int) (u8:Int) (u9:Int) (au10:Option Addr) (nu10 cu10:Nat) (u10:T0),vs.tail = [.int .i64 u7,.int .i64 u8,.int .i64 u9,.slice au10 nu10 cu10]∧os = []∧Sub k4 h'∧H0 u7∧H0 u8∧H0 u9∧S0.R h' [.slice au10 nu10 cu10] u10∧U6 p1 (H1 vs) u7 u8 u9 u10=some X6) (eX (fun _ _=>0) ?_))
  refine aI (eX N0 ⟨0,aY,aZ,aT,bA.length,aU,bA,rfl,rfl,(Sub.refl _),(by decide),aV,aW,aO,bQ⟩) ?_
  rintro v_0 v_1 v_2 v_3 m12 k11 ⟨u7,u8,u9,au10,nu10,cu10,u10,bR,bS,bX,iu7,iu8,iu9,ru10,aN⟩
  cases bR
  cases bS
  replace aN:U6 p1 m12 u7 u8 u9 u10=some X6:=aN
  obtain _|m12:=m12
  ·cases (show(none:Option _)=some X6 from aN)
  rw[U6.eq_2]at aN
  obtain⟨rfl,lu10⟩:=Sl.len ru10
  refine aI (fun bB=>?_) (fun bB=>?_)
  ·replace aN:=ifP aN bB
   refine Or.inr (Or.inr (Or.inr (Or.inr (eX 10 (aI (aI (by kernel_rfl) (by kernel_rfl)) ?_)))))
   obtain⟨x14,bT,aN⟩:=j0 aN
   obtain⟨bU,bY,bV,bC⟩:=Sl.getI (r:=J0.toRp) (T1.mono (cH.trans bX) rp1) bT (by decide)
   obtain⟨bF,cE,bG,rfl⟩:=Wp.slice_cell bC
   obtain⟨rfl,cG⟩:=Sl.len bC
   refine Or.inl (eX (.hel (.slice ap1 p1.length cp1) u7 1 0) (aI ?_ ?_))
   ·intro k15 s16
    exact aI bU (aI rfl (aI rfl rfl))
   refine Or.inl (eX (.val (.slice bF x14.length bG)) (aI ?_ ?_))
   ·intro k17 s18
    exact eX _ (aI (A8.up s18 bV) (aI rfl (aI rfl rfl)))
   obtain⟨x19,bW,aN⟩:=j0 aN
   obtain⟨bH,aS⟩:=x19
   try dsimp only at aN
   obtain⟨aC,aD,aG⟩:=bH
   try dsimp only at aN
   refine Or.inr (eX (fun v hh=>∃(aF:Value),v = .tuple #[aF,.bool aS]∧(fun v hh=>∃(aA:Option Addr) (aB:Nat),v = .agg #[.int .i64 aC,.int .i64 aD,.slice aA aG.length aB]∧H0 aC∧H0 aD∧S0.R hh [.slice aA aG.length aB] aG∧aG.length≤9223372036854775807) aF hh) (aI (fun v h1 h2 sb q=>by obtain⟨aF,e,aL⟩:=q;exact⟨aF,e,(by obtain⟨aA,aB,e,f0,f1,f2,f3⟩:=aL;exact⟨aA,aB,e,f0,f1,S0.mono sb f2,f3⟩)⟩) (aI ?_ ?_)))
   ·intro k20 s21
    refine Tr.mono (E0d _ [.int .i64 u8,.int .i64 u9,.slice au10 u10.length cu10] (u8,u9,u10) (z0 iu8 iu9 (S0.mono s21 ru10)) bF x14.length bG x14 (J0.mono s21 bC) _ bW) ?_
    rintro _ kk ⟨bN,rfl,bD,sb⟩
    obtain⟨bI,bJ,aH,bE,aJ,bK,rfl,ey,aP,aQ,aK⟩:=F0 bD
    cases ey
    obtain⟨rfl,aR⟩:=Sl.len aK
    exact aI Q05 (aI sb ⟨(.agg #[.int .i64 aC,.int .i64 aD,.slice aH aG.length aJ]),rfl,⟨aH,aJ,rfl,aP,aQ,aK,aR⟩⟩)
   refine Or.inr (eX (fun v hh=>∃(aF:Value),v = .tuple #[aF,.bool aS]∧(fun v hh=>∃(aA:Option Addr) (aB:Nat),v = .agg #[.int .i64 aC,.int .i64 aD,.slice aA aG.length aB]∧H0 aC∧H0 aD∧S0.R hh [.slice aA aG.length aB] aG∧aG.length≤9223372036854775807) aF hh) (aI (fun v h1 h2 sb q=>by obtain⟨aF,e,aL⟩:=q;exact⟨aF,e,(by obtain⟨aA,aB,e,f0,f1,f2,f3⟩:=aL;exact⟨aA,aB,e,f0,f1,S0.mono sb f2,f3⟩)⟩) (aI ?_ ?_)))
   ·intro k22 s23
    rintro _ ⟨_,rfl,⟨az24p02,cz24p02,rfl,iz24p00,iz24p01,rz24p02,lz24p02⟩⟩
    exact aI Q05 (aI (Sub.refl _) ⟨(.agg #[.int .i64 aC,.int .i64 aD,.slice az24p02 aG.length cz24p02]),rfl,⟨az24p02,cz24p02,rfl,iz24p00,iz24p01,rz24p02,lz24p02⟩⟩)
   refine Or.inr (eX (fun v hh=>∃(aA:Option Addr) (aB:Nat),v = .agg #[.int .i64 aC,.int .i64 aD,.slice aA aG.length aB]∧H0 aC∧H0 aD∧S0.R hh [.slice aA aG.length aB] aG∧aG.length≤9223372036854775807) (aI (fun v h1 h2 sb q=>by obtain⟨aA,aB,e,f0,f1,f2,f3⟩:=q;exact⟨aA,aB,e,f0,f1,S0.mono sb f2,f3⟩) (aI ?_ ?_)))
   ·intro k25 s26
    rintro _ ⟨_,rfl,⟨az27p02,cz27p02,rfl,iz27p00,iz27p01,rz27p02,lz27p02⟩⟩
    exact aI Q05 (aI (Sub.refl _) ⟨az27p02,cz27p02,rfl,iz27p00,iz27p01,rz27p02,lz27p02⟩)
   refine Or.inl (eX (.val (.bool aS)) (aI ?_ ?_))
   ·intro k28 s29
    rintro _ ⟨_,rfl,⟨az30p02,cz30p02,rfl,iz30p00,iz30p01,rz30p02,lz30p02⟩⟩
    exact aI rfl (aI rfl rfl)
   intro k31 s32
   rintro _ ⟨az332,cz332,rfl,iz330,iz331,rz332,lz332⟩
   rintro _ ⟨_,rfl,⟨az34p02,cz34p02,rfl,iz34p00,iz34p01,rz34p02,lz34p02⟩⟩
   rintro _ ⟨_,rfl,⟨az35p02,cz35p02,rfl,iz35p00,iz35p01,rz35p02,lz35p02⟩⟩
   refine aI rfl (aI (by repeat first|exact trivial|refine aI rfl ?_) (aI (by repeat first|exact trivial|refine aI rfl ?_) (eX m12 (aI ⟨(IntKind.i64.wrap (u7+1)),aC,aD,az332,aG.length,cz332,aG,rfl,rfl,(bX.trans s32),(I0 _),iz330,iz331,rz332,aN⟩ (nS _)))))
  ·replace aN:=ifN aN bB
   have hE:=oJ aN;subst hE
   try dsimp only[P0,Q0]at aM
   have hE:=oJ aM;subst hE
   exact⟨([.int .i64 u8,.int .i64 u9,.slice au10 u10.length cu10]),rfl,(z0 iu8 iu9 ru10),(cH.trans bX)⟩
theorem P0f (h:Hp) (aW:List Value) (p0:l0) (rp0:K1.R h aW p0) (r:P8) (aT:E01 p0=some r) :
  Tr Tryz.prog 280 #[.agg aW.toArray] h fun v h'=>∃(a0:Option Addr) (n0 c0:Nat),v = .slice a0 n0 c0∧P0h.R h' [.slice a0 n0 c0] r∧Sub h h':=by
 obtain⟨aX,aY,aU,bT,aV,aN,rfl,rfl,bU,bV,aM⟩:=F0 rp0
 obtain⟨rfl,bW⟩:=Sl.len aM
 unfold E01 at aT
 dsimp only at aT
 refine C2 (args:=[.agg #[.int .i64 aX,.int .i64 aY,.slice aU aN.length aV]]) (fn:=Tryz.f280) rfl ?_
 obtain⟨X1,aZ,aT⟩:=j0 aT
 refine eX { vars:=[4],boxes:=[],owns:=[0],fuel:=true } (eX (fun vs os h'=>∃(u2:Int) (wu3:List (List Value)) (u3:List Y4),vs.tail = [.int .i64 u2]∧os = [wu3]∧Sub h h'∧H0 u2∧F2 (W4.R h') wu3 u3∧A7 aN (H1 vs) u2 u3=some X1) (eX (fun _ _=>0) ?_))
 refine aI (eX N0 ⟨0,[],([]:P8),rfl,rfl,(Sub.refl _),(by decide),(show F2 (W4.R h) ([]:List (List Value)) ([]:P8) from trivial),aZ⟩) ?_
 rintro v_0 wu3 m5 k4 ⟨u2,zzu3,u3,bA,bB,cC,iu2,fu3,aL⟩
 cases bA
 cases bB
 replace aL:A7 aN m5 u2 u3=some X1:=aL
 obtain _|m5:=m5
 ·cases (show(none:Option _)=some X1 from aL)
 rw[A7.eq_2]at aL
 refine aI (fun bC=>?_) (fun bC=>?_)
 ·replace aL:=ifP aL bC
  obtain⟨X7,bD,aL⟩:=j0 aL
  refine eX { vars:=[5],boxes:=[],owns:=[0],fuel:=true } (eX (fun vs os h'=>∃(u8:Int) (wu9:List (List Value)) (u9:List Y4),vs.tail = [.int .i64 u8]∧os = [wu9]∧Sub k4 h'∧H0 u8∧F2 (W4.R h') wu9 u9∧I4 aN u2 (H1 vs) u8 u9=some X7) (eX (fun _ _=>0) ?_))
  refine aI (eX N0 ⟨(IntKind.i64.wrap (u2+1)),wu3,u3,rfl,rfl,(Sub.refl _),(I0 _),fu3,bD⟩) ?_
  rintro v_0 wu9 m11 k10 ⟨u8,zzu9,u9,bE,bF,aO,iu8,fu9,aH⟩
  cases bE
  cases bF
  replace aH:I4 aN u2 m11 u8 u9=some X7:=aH
  obtain _|m11:=m11
  ·cases (show(none:Option _)=some X7 from aH)
  rw[I4.eq_2]at aH
  refine aI (fun aP=>?_) (fun aP=>?_)
  ·replace aH:=ifP aH aP
   obtain⟨x13,bG,aH⟩:=j0 aH
   obtain⟨bH,bX,bI,bJ⟩:=Sl.getI (r:=C1.toRp) (S0.mono (cC.trans aO) aM) bG (by decide)
   refine aI bH ?_
   obtain⟨aC,bY,aA,rfl,rfl,aJ,bK,aF⟩:=M1 bJ
   try dsimp only at aH
   refine eX _ (aI bI ?_)
   obtain⟨x14,bL,aH⟩:=j0 aH
   obtain⟨bM,bZ,bN,bO⟩:=Sl.getI (r:=C1.toRp) (S0.mono (cC.trans aO) aM) bL (by decide)
   refine aI bM ?_
   obtain⟨aD,cA,aB,rfl,rfl,aK,bP,aG⟩:=M1 bO
   try dsimp only at aH
   refine eX _ (aI bN ?_)
   refine aI (fun aQ=>?_) (fun aQ=>?_)
   ·replace aH:=ifP aH aQ
    obtain⟨q16,bQ,aH⟩:=j0 aH
    refine aI (P1 bQ (by first|rw[F2.length fu9,F2.length (show F2 (W4.R k10) ([[.int .i64 (if aB<aA then aB else aA),.int .i64 (if aB>aA then aB else aA)]]:List (List Value)) [((if aB<aA then aB else aA),(if aB>aA then aB else aA))] from⟨(M2 (L7 aG aF) (L7 aG aF)),trivial⟩)]|exact congrArg (·+1) (F2.length fu9))) ?_
    refine aI (fun aR=>?_) (fun aR=>?_)
    ·replace aH:=ifP aH aR
     obtain⟨q18,bR,aH⟩:=j0 aH
     refine aI (P1 bR (by first|rw[F2.length (F2.append fu9 (show F2 (W4.R k10) ([[.int .i64 (if aB<aA then aB else aA),.int .i64 (if aB>aA then aB else aA)]]:List (List Value)) [((if aB<aA then aB else aA),(if aB>aA then aB else aA))] from⟨(M2 (L7 aG aF) (L7 aG aF)),trivial⟩)),F2.length (show F2 (W4.R k10) ([[.int .i64 (if aD<aC then aD else aC),.int .i64 (if aD>aC then aD else aC)]]:List (List Value)) [((if aD<aC then aD else aC),(if aD>aC then aD else aC))] from⟨(M2 (L7 aK aJ) (L7 aK aJ)),trivial⟩)]|exact congrArg (·+1) (F2.length (F2.append fu9 (show F2 (W4.R k10) ([[.int .i64 (if aB<aA then aB else aA),.int .i64 (if aB>aA then aB else aA)]]:List (List Value)) [((if aB<aA then aB else aA),(if aB>aA then aB else aA))] from⟨(M2 (L7 aG aF) (L7 aG aF)),trivial⟩))))) ?_
     refine aI rfl (aI (by repeat first|exact trivial|refine aI rfl ?_) (aI (by repeat first|exact trivial|refine aI rfl ?_) (eX m11 (aI ⟨(IntKind.i64.wrap (u8+1)),((wu9++([[.int .i64 (if aB<aA then aB else aA),.int .i64 (if aB>aA then aB else aA)]]:List (List Value)))++([[.int .i64 (if aD<aC then aD else aC),.int .i64 (if aD>aC then aD else aC)]]:List (List Value))),((u9 ++ [((if aB<aA then aB else aA),(if aB>aA then aB else aA))]) ++ [((if aD<aC then aD else aC),(if aD>aC then aD else aC))]),rfl,rfl,aO,(I0 _),(F2.append (F2.append fu9 (show F2 (W4.R k10) ([[.int .i64 (if aB<aA then aB else aA),.int .i64 (if aB>aA then aB else aA)]]:List (List Value)) [((if aB<aA then aB else aA),(if aB>aA then aB else aA))] from⟨(M2 (L7 aG aF) (L7 aG aF)),trivial⟩)) (show F2 (W4.R k10) ([[.int .i64 (if aD<aC then aD else aC),.int .i64 (if aD>aC then aD else aC)]]:List (List Value)) [((if aD<aC then aD else aC),(if aD>aC then aD else aC))] from⟨(M2 (L7 aK aJ) (L7 aK aJ)),trivial⟩)),aH⟩ (nS _)))))
    ·replace aH:=ifN aH aR
     refine aI rfl (aI (by repeat first|exact trivial|refine aI rfl ?_) (aI (by repeat first|exact trivial|refine aI rfl ?_) (eX m11 (aI ⟨(IntKind.i64.wrap (u8+1)),(wu9++([[.int .i64 (if aB<aA then aB else aA),.int .i64 (if aB>aA then aB else aA)]]:List (List Value))),(u9 ++ [((if aB<aA then aB else aA),(if aB>aA then aB else aA))]),rfl,rfl,aO,(I0 _),(F2.append fu9 (show F2 (W4.R k10) ([[.int .i64 (if aB<aA then aB else aA),.int .i64 (if aB>aA then aB else aA)]]:List (List Value)) [((if aB<aA then aB else aA),(if aB>aA then aB else aA))] from⟨(M2 (L7 aG aF) (L7 aG aF)),trivial⟩)),aH⟩ (nS _)))))
   ·replace aH:=ifN aH aQ
    refine aI (fun aS=>?_) (fun aS=>?_)
    ·replace aH:=ifP aH aS
     obtain⟨q20,bS,aH⟩:=j0 aH
     refine aI (P1 bS (by first|rw[F2.length fu9,F2.length (show F2 (W4.R k10) ([[.int .i64 (if aD<aC then aD else aC),.int .i64 (if aD>aC then aD else aC)]]:List (List Value)) [((if aD<aC then aD else aC),(if aD>aC then aD else aC))] from⟨(M2 (L7 aK aJ) (L7 aK aJ)),trivial⟩)]|exact congrArg (·+1) (F2.length fu9))) ?_
     refine aI rfl (aI (by repeat first|exact trivial|refine aI rfl ?_) (aI (by repeat first|exact trivial|refine aI rfl ?_) (eX m11 (aI ⟨(IntKind.i64.wrap (u8+1)),(wu9++([[.int .i64 (if aD<aC then aD else aC),.int .i64 (if aD>aC then aD else aC)]]:List (List Value))),(u9 ++ [((if aD<aC then aD else aC),(if aD>aC then aD else aC))]),rfl,rfl,aO,(I0 _),(F2.append fu9 (show F2 (W4.R k10) ([[.int .i64 (if aD<aC then aD else aC),.int .i64 (if aD>aC then aD else aC)]]:List (List Value)) [((if aD<aC then aD else aC),(if aD>aC then aD else aC))] from⟨(M2 (L7 aK aJ) (L7 aK aJ)),trivial⟩)),aH⟩ (nS _)))))
    ·replace aH:=ifN aH aS
     refine aI rfl (aI (by repeat first|exact trivial|refine aI rfl ?_) (aI (by repeat first|exact trivial|refine aI rfl ?_) (eX m11 (aI ⟨(IntKind.i64.wrap (u8+1)),wu9,u9,rfl,rfl,aO,(I0 _),fu9,aH⟩ (nS _)))))
  ·replace aH:=ifN aH aP
   have hE:=oJ aH;subst hE
   try dsimp only[P0,Q0]at aL
   refine aI rfl (aI (by repeat first|exact trivial|refine aI rfl ?_) (aI (by repeat first|exact trivial|refine aI rfl ?_) (eX m5 (aI ⟨(IntKind.i64.wrap (u2+1)),wu9,u9,rfl,rfl,(cC.trans aO),(I0 _),fu9,aL⟩ (nS _)))))
 ·replace aL:=ifN aL bC
  have hE:=oJ aL;subst hE
  try dsimp only[P0,Q0]at aT
  intro v25 k26 f27
  obtain⟨az28,cz28,rfl,rz28,sz28,lz28⟩:=j1.out (r:=W4.toRp) f27 fu3
  have hE:=oJ aT;subst hE
  exact⟨az28,u3.length,cz28,rfl,rz28,(cC.trans sz28)⟩
theorem B0c (h:Hp) (aN:List Value) (p0:l0) (rp0:K1.R h aN p0) (r:Y4×Bool) (aA:t9 p0=some r) :
  Tr Tryz.prog 261 #[.agg aN.toArray] h fun v h'=>∃(cs0:List Value),v = .tuple #[.agg cs0.toArray,.bool r.2]∧W4.R h' cs0 r.1∧Sub h h':=by
 obtain⟨aB,aC,aD,aS,aF,aK,rfl,rfl,aH,aJ,aG⟩:=F0 rp0
 obtain⟨rfl,aT⟩:=Sl.len aG
 unfold t9 at aA
 dsimp only at aA
 refine C2 (args:=[.agg #[.int .i64 aB,.int .i64 aC,.slice aD aK.length aF]]) (fn:=Tryz.f261) rfl ?_
 obtain⟨x1,aW,aA⟩:=j0 aA
 refine Tr.val (A6 _ [.int .i64 aB,.int .i64 aC,.slice aD aK.length aF] (aB,aC,aK) (z0 aH aJ aG) _  aW) ?_
 refine aI (fun aO=>?_) (fun aO=>?_)
 ·replace aA:=ifP aA aO
  have hE:=oJ aA;subst hE
  exact⟨([.int .i64 0,.int .i64 0]),rfl,(M2 (by decide) (by decide)),(Sub.refl _)⟩
 ·replace aA:=ifN aA aO
  obtain⟨x3,aX,aA⟩:=j0 aA
  refine Tr.mono (P0f _ [.int .i64 aB,.int .i64 aC,.slice aD aK.length aF] (aB,aC,aK) (z0 aH aJ aG) _  aX) ?_
  rintro v5 k4 ⟨bD,bE,bF,rfl,aU,aV⟩
  obtain⟨rfl,bG⟩:=Sl.len aU
  refine aI (fun aP=>?_) (fun aP=>?_)
  ·replace aA:=ifP aA aP
   have hE:=oJ aA;subst hE
   exact⟨([.int .i64 0,.int .i64 0]),rfl,(M2 (by decide) (by decide)),aV⟩
  ·replace aA:=ifN aA aP
   obtain⟨x7,aY,aA⟩:=j0 aA
   obtain⟨aZ,bA,bB,bC⟩:=Sl.getI (r:=W4.toRp) aU aY (by decide)
   refine aI aZ ?_
   obtain⟨aQ,aR,rfl,rfl,aL,aM⟩:=E02 bC
   try dsimp only at aA
   refine eX _ (aI bB ?_)
   have hE:=oJ aA;subst hE
   exact⟨([.int .i64 aQ,.int .i64 aR]),rfl,(M2 aL aM),aV⟩
theorem v0b (h:Hp) (p0:Int) (ip0:H0 p0) (aB:List Value) (p1:Y4) (rp1:W4.R h aB p1) (r:Int) (aA:O01 p0 p1=some r) :
  Tr Tryz.prog 281 #[.int .i64 p0,.agg aB.toArray] h fun v h'=>v = .int .i64 r∧h'=h:=by
 obtain⟨aC,aD,rfl,rfl,aJ,aK⟩:=E02 rp1
 unfold O01 at aA
 dsimp only at aA
 refine Tr.forget (C2 (args:=[.int .i64 p0,.agg #[.int .i64 aC,.int .i64 aD]]) (fn:=Tryz.f281) rfl ?_)
 refine aI (fun aF=>?_) (fun aF=>?_)
 ·replace aA:=ifP aA aF
  refine aI (fun aG=>?_) (fun aG=>?_)
  ·replace aA:=ifP aA aG
   have hE:=oJ aA;subst hE
   exact aI rfl (Sub.refl _)
  ·replace aA:=ifN aA aG
   have hE:=oJ aA;subst hE
   exact aI rfl (Sub.refl _)
 ·replace aA:=ifN aA aF
  refine aI (fun aH=>?_) (fun aH=>?_)
  ·replace aA:=ifP aA aH
   have hE:=oJ aA;subst hE
   exact aI rfl (Sub.refl _)
  ·replace aA:=ifN aA aH
   have hE:=oJ aA;subst hE
   exact aI rfl (Sub.refl _)
theorem a08 (h:Hp) (bE:List Value) (p0:l0) (rp0:K1.R h bE p0) (bF:List Value) (p1:Y4) (rp1:W4.R h bF p1) (r:l0×Bool) (aB:B7 p0 p1=some r) :
  Tr Tryz.prog 262 #[.agg bE.toArray,.agg bF.toArray] h fun v h'=>∃(cs0:List Value),v = .tuple #[.agg cs0.toArray,.bool r.2]∧K1.R h' cs0 r.1∧Sub h h':=by
 obtain⟨aG,aH,aJ,bZ,aK,aN,rfl,rfl,aL,aO,aF⟩:=F0 rp0
 obtain⟨rfl,cA⟩:=Sl.len aF
 obtain⟨aC,aD,rfl,rfl,aP,aQ⟩:=E02 rp1
 unfold B7 at aB
 dsimp only at aB
 refine C2 (args:=[.agg #[.int .i64 aG,.int .i64 aH,.slice aJ aN.length aK],.agg #[.int .i64 aC,.int .i64 aD]]) (fn:=Tryz.f262) rfl ?_
 obtain⟨x1,cH,aB⟩:=j0 aB
 refine Tr.val (A6 _ [.int .i64 aG,.int .i64 aH,.slice aJ aN.length aK] (aG,aH,aN) (z0 aL aO aF) _  cH) ?_
 refine aI (fun bG=>?_) (fun bG=>?_)
 ·replace aB:=ifP aB bG
  obtain⟨x3,cI,aB⟩:=j0 aB
  refine Tr.mono (H4 _ [.int .i64 aG,.int .i64 aH,.slice aJ aN.length aK] (aG,aH,aN) (z0 aL aO aF) _  cI) ?_
  rintro v5 k4 ⟨cJ,rfl,cK,cL⟩
  obtain⟨bH,bI,aW,cC,aX,cM,rfl,rfl,aY,aZ,aR⟩:=F0 cK
  obtain⟨rfl,cD⟩:=Sl.len aR
  try dsimp only at aB
  have hE:=oJ aB;subst hE
  exact⟨([.int .i64 bH,.int .i64 bI,.slice aW cM.length aX]),rfl,(z0 aY aZ aR),cL⟩
 ·replace aB:=ifN aB bG
  obtain⟨X6,bJ,aB⟩:=j0 aB
  refine eX { vars:=[7],boxes:=[3],owns:=[],fuel:=true } (eX (fun vs os h'=>∃(u7:Int) (u8:Int) (u9:Int) (au10:Option Addr) (nu10 cu10:Nat) (u10:T0),vs.tail = [.int .i64 u7,.int .i64 u8,.int .i64 u9,.slice au10 nu10 cu10]∧os = []∧Sub h h'∧H0 u7∧H0 u8∧H0 u9∧S0.R h' [.slice au10 nu10 cu10] u10∧P4 aN aC aD (H1 vs) u7 u8 u9 u10=some X6) (eX (fun _ _=>0) ?_))
  refine aI (eX N0 ⟨0,aG,(IntKind.i64.wrap (aH-1)),none,0,0,[],rfl,rfl,(Sub.refl _),(by decide),aL,(I0 _),(X0f C1 h),bJ⟩) ?_
  rintro v_0 v_1 v_2 v_3 m12 k11 ⟨u7,u8,u9,au10,nu10,cu10,u10,bK,bL,cE,iu7,iu8,iu9,ru10,aA⟩
  cases bK
  cases bL
  replace aA:P4 aN aC aD m12 u7 u8 u9 u10=some X6:=aA
  obtain _|m12:=m12
  ·cases (show(none:Option _)=some X6 from aA)
  rw[P4.eq_2]at aA
  obtain⟨rfl,lu10⟩:=Sl.len ru10
  refine aI (fun aS=>?_) (fun aS=>?_)
  ·replace aA:=ifP aA aS
   obtain⟨x14,bM,aA⟩:=j0 aA
   obtain⟨bN,cG,bO,bP⟩:=Sl.getI (r:=C1.toRp) (S0.mono cE aF) bM (by decide)
   refine aI bN ?_
   obtain⟨bA,aM,bB,rfl,rfl,aT,aU,aV⟩:=M1 bP
   try dsimp only at aA
   refine eX _ (aI bO ?_)
   refine Or.inr (Or.inr (Or.inl (aI (aI (by kernel_rfl) (by kernel_rfl)) ?_)))
   obtain⟨x15,bQ,aA⟩:=j0 aA
   obtain⟨q16,bR,aA⟩:=j0 aA
   have bS:H0 x15:=M0 bR
   refine Or.inl (eX (.val (.int .i64 x15)) (aI ?_ ?_))
   ·intro k17 s18
    exact Tr.val (v0b _ bA aT [.int .i64 aC,.int .i64 aD] (aC,aD) (M2 aP aQ) _ bQ) (aI rfl (aI rfl rfl))
   obtain⟨x19,bT,aA⟩:=j0 aA
   obtain⟨q20,bU,aA⟩:=j0 aA
   have bV:H0 x19:=M0 bU
   refine Or.inl (eX (.val (.int .i64 x19)) (aI ?_ ?_))
   ·intro k21 s22
    exact Tr.val (v0b _ bB aV [.int .i64 aC,.int .i64 aD] (aC,aD) (M2 aP aQ) _ bT) (aI rfl (aI rfl rfl))
   refine Or.inl (eX (.agg [.val (.int .i64 x15),.val (.int .i64 aM),.val (.int .i64 x19)]) (aI ?_ ?_))
   ·intro k23 s24
    exact aI rfl (aI rfl rfl)
   refine Or.inr ?_
   refine Or.inr ?_
   refine Or.inl (eX 1 (aI (aI rfl rfl) ?_))
   obtain⟨x25,bW,aA⟩:=j0 aA
   refine Tr.mono (M00 _ au10 u10.length cu10 u10 ru10 [.int .i64 x15,.int .i64 aM,.int .i64 x19] (x15,aM,x19) (G1 bS aU bV) _  bW) ?_
   rintro v27 k26 ⟨bX,cN,bY,rfl,bC,bD⟩
   obtain⟨rfl,cO⟩:=Sl.len bC
   refine aI (aI rfl bD) (aI (by first|exact trivial|exact rfl) ?_)
   refine aI trivial (aI (by first|exact trivial|exact rfl) ?_)
   refine aI rfl (aI (by repeat first|exact trivial|refine aI rfl ?_) (aI (by repeat first|exact trivial|refine aI rfl ?_) (eX m12 (aI ⟨(IntKind.i64.wrap (u7+1)),u8,u9,bX,x25.length,bY,x25,rfl,rfl,(cE.trans bD),(I0 _),iu8,iu9,bC,aA⟩ (nS _)))))
  ·replace aA:=ifN aA aS
   have hE:=oJ aA;subst hE
   try dsimp only[P0,Q0]at aB
   have hE:=oJ aB;subst hE
   exact⟨([.int .i64 u8,.int .i64 u9,.slice au10 u10.length cu10]),rfl,(z0 iu8 iu9 ru10),cE⟩
theorem G0d (h:Hp) (bF:List Value) (p0:l0) (rp0:K1.R h bF p0) (r:l0×Y4×Bool) (aA:U00 p0=some r) :
  Tr Tryz.prog 238 #[.agg bF.toArray] h fun v h'=>∃(cs0:List Value) (cs1:List Value),v = .tuple #[.agg cs0.toArray,.agg cs1.toArray,.bool r.2.2]∧K1.R h' cs0 r.1∧W4.R h' cs1 r.2.1∧Sub h h':=by
 obtain⟨aB,aC,aG,bM,aH,aW,rfl,rfl,aN,aO,aJ⟩:=F0 rp0
 obtain⟨rfl,bN⟩:=Sl.len aJ
 unfold U00 at aA
 dsimp only at aA
 refine C2 (args:=[.agg #[.int .i64 aB,.int .i64 aC,.slice aG aW.length aH]]) (fn:=Tryz.f238) rfl ?_
 obtain⟨x1,bR,aA⟩:=j0 aA
 refine Tr.mono (B0c _ [.int .i64 aB,.int .i64 aC,.slice aG aW.length aH] (aB,aC,aW) (z0 aN aO aJ) _  bR) ?_
 rintro v3 k2 ⟨bG,rfl,aT,bO⟩
 obtain⟨bS,bT⟩:=x1
 dsimp only at aA aT
 obtain⟨aD,aF,rfl,rfl,aK,aL⟩:=E02 aT
 try dsimp only at aA
 refine aI (fun bH=>?_) (fun bH=>?_)
 ·replace aA:=ifP aA bH
  obtain⟨x5,bU,aA⟩:=j0 aA
  refine Tr.mono (H4 _ [.int .i64 aB,.int .i64 aC,.slice aG aW.length aH] (aB,aC,aW) (z0 aN aO (S0.mono bO aJ)) _  bU) ?_
  rintro v7 k6 ⟨bV,rfl,bW,bX⟩
  obtain⟨bI,bJ,aZ,bP,bA,bY,rfl,rfl,bB,bC,aU⟩:=F0 bW
  obtain⟨rfl,bQ⟩:=Sl.len aU
  try dsimp only at aA
  have hE:=oJ aA;subst hE
  exact⟨([.int .i64 bI,.int .i64 bJ,.slice aZ bY.length bA]),([.int .i64 0,.int .i64 0]),rfl,(z0 bB bC aU),(M2 (by decide) (by decide)),(bO.trans bX)⟩
 ·replace aA:=ifN aA bH
  obtain⟨x8,bZ,aA⟩:=j0 aA
  refine Tr.mono (a08 _ [.int .i64 aB,.int .i64 aC,.slice aG aW.length aH] (aB,aC,aW) (z0 aN aO (S0.mono bO aJ)) [.int .i64 aD,.int .i64 aF] (aD,aF) (M2 aK aL) _  bZ) ?_
  rintro v10 k9 ⟨bK,rfl,aV,cA⟩
  obtain⟨cC,cD⟩:=x8
  dsimp only at aA aV
  obtain⟨aX,aY,aP,bD,aQ,bL,rfl,rfl,aR,aS,aM⟩:=F0 aV
  obtain⟨rfl,bE⟩:=Sl.len aM
  try dsimp only at aA
  refine Or.inr (Or.inr (Or.inl (aI (aI (by kernel_rfl) (by kernel_rfl)) ?_)))
  refine Or.inr ?_
  refine Or.inr ?_
  refine Or.inl (eX 0 (aI (aI rfl rfl) ?_))
  refine aI trivial (aI (by first|exact trivial|exact rfl) ?_)
  refine aI trivial (aI (by first|exact trivial|exact rfl) ?_)
  have hE:=oJ aA;subst hE
  exact⟨([.int .i64 aX,.int .i64 aY,.slice aP bL.length aQ]),([.int .i64 aD,.int .i64 aF]),rfl,(z0 aR aS aM),(M2 aK aL),(bO.trans cA)⟩
theorem E04 (h:Hp) (bL:List Value) (p0:l0) (rp0:K1.R h bL p0) (r:l0×P8) (aJ:S7 p0=some r) :
  Tr Tryz.prog 210 #[.agg bL.toArray] h fun v h'=>∃(cs0:List Value) (a1:Option Addr) (n1 c1:Nat),v = .tuple #[.agg cs0.toArray,.slice a1 n1 c1]∧K1.R h' cs0 r.1∧P0h.R h' [.slice a1 n1 c1] r.2∧Sub h h':=by
 obtain⟨aX,aY,aT,bV,aU,bM,rfl,rfl,bB,bC,aV⟩:=F0 rp0
 obtain⟨rfl,bW⟩:=Sl.len aV
 unfold S7 at aJ
 dsimp only at aJ
 refine C2 (args:=[.agg #[.int .i64 aX,.int .i64 aY,.slice aT bM.length aU]]) (fn:=Tryz.f210) rfl ?_
 obtain⟨x1,cE,aJ⟩:=j0 aJ
 refine Tr.mono (H4 _ [.int .i64 aX,.int .i64 aY,.slice aT bM.length aU] (aX,aY,bM) (z0 bB bC aV) _  cE) ?_
 rintro v3 k2 ⟨cG,rfl,cH,cI⟩
 obtain⟨bN,bO,bD,bX,bE,bP,rfl,rfl,bF,bG,aW⟩:=F0 cH
 obtain⟨rfl,bY⟩:=Sl.len aW
 try dsimp only at aJ
 obtain⟨X4,bQ,aJ⟩:=j0 aJ
 refine eX { vars:=[6],boxes:=[2],owns:=[0],fuel:=true } (eX (fun vs os h'=>∃(u5:Int) (u6:Int) (u7:Int) (au8:Option Addr) (nu8 cu8:Nat) (u8:T0) (wu9:List (List Value)) (u9:List Y4),vs.tail = [.int .i64 u5,.int .i64 u6,.int .i64 u7,.slice au8 nu8 cu8]∧os = [wu9]∧Sub k2 h'∧H0 u5∧H0 u6∧H0 u7∧S0.R h' [.slice au8 nu8 cu8] u8∧F2 (W4.R h') wu9 u9∧E6 (H1 vs) u5 u6 u7 u8 u9=some X4) (eX (fun _ _=>0) ?_))
 refine aI (eX N0 ⟨0,bN,bO,bD,bP.length,bE,bP,[],([]:P8),rfl,rfl,(Sub.refl _),(by decide),bF,bG,aW,(show F2 (W4.R k2) ([]:List (List Value)) ([]:P8) from trivial),bQ⟩) ?_
 rintro v_0 v_1 v_2 v_3 wu9 m11 k10 ⟨u5,u6,u7,au8,nu8,cu8,u8,zzu9,u9,bR,bS,bZ,iu5,iu6,iu7,ru8,fu9,aC⟩
 cases bR
 cases bS
 replace aC:E6 m11 u5 u6 u7 u8 u9=some X4:=aC
 obtain _|m11:=m11
 ·cases (show(none:Option _)=some X4 from aC)
 rw[E6.eq_2]at aC
 obtain⟨rfl,lu8⟩:=Sl.len ru8
 refine aI (fun aZ=>?_) (fun aZ=>?_)
 ·replace aC:=ifP aC aZ
  obtain⟨x13,bT,aC⟩:=j0 aC
  refine Tr.mono (G0d _ [.int .i64 u6,.int .i64 u7,.slice au8 u8.length cu8] (u6,u7,u8) (z0 iu6 iu7 ru8) _  bT) ?_
  rintro v15 k14 ⟨bJ,bK,rfl,aK,aL,aH⟩
  obtain⟨cA,cC,cD⟩:=x13
  dsimp only at aC aK aL
  obtain⟨aQ,aR,aM,bH,aN,aS,rfl,rfl,aO,aP,aD⟩:=F0 aK
  obtain⟨rfl,bI⟩:=Sl.len aD
  try dsimp only at aC
  obtain⟨aA,aB,rfl,rfl,aF,aG⟩:=E02 aL
  try dsimp only at aC
  refine aI (fun bA=>?_) (fun bA=>?_)
  ·replace aC:=ifP aC bA
   intro v17 k18 f19
   obtain⟨az20,cz20,rfl,rz20,sz20,lz20⟩:=j1.out (r:=W4.toRp) f19 (F2.up (r:=W4.toRp) aH fu9)
   have hE:=oJ aC;subst hE
   try dsimp only[G2,I2]at aJ
   have hE:=oJ aJ;subst hE
   exact⟨([.int .i64 u6,.int .i64 u7,.slice au8 u8.length cu8]),az20,u9.length,cz20,rfl,(z0 iu6 iu7 (S0.mono (aH.trans sz20) ru8)),rz20,(((cI.trans bZ).trans aH).trans sz20)⟩
  ·replace aC:=ifN aC bA
   obtain⟨q21,bU,aC⟩:=j0 aC
   refine aI (P1 bU (by first|rw[F2.length (F2.up (r:=W4.toRp) aH fu9),F2.length (show F2 (W4.R k14) ([[.int .i64 aA,.int .i64 aB]]:List (List Value)) [(aA,aB)] from⟨(M2 aF aG),trivial⟩)]|exact congrArg (·+1) (F2.length (F2.up (r:=W4.toRp) aH fu9)))) ?_
   refine aI rfl (aI (by repeat first|exact trivial|refine aI rfl ?_) (aI (by repeat first|exact trivial|refine aI rfl ?_) (eX m11 (aI ⟨(IntKind.i64.wrap (u5+1)),aQ,aR,aM,aS.length,aN,aS,(wu9++([[.int .i64 aA,.int .i64 aB]]:List (List Value))),(u9 ++ [(aA,aB)]),rfl,rfl,(bZ.trans aH),(I0 _),aO,aP,aD,(F2.append (F2.up (r:=W4.toRp) aH fu9) (show F2 (W4.R k14) ([[.int .i64 aA,.int .i64 aB]]:List (List Value)) [(aA,aB)] from⟨(M2 aF aG),trivial⟩)),aC⟩ (nS _)))))
 ·replace aC:=ifN aC aZ
  have hE:=oJ aC;subst hE
  try dsimp only[P0,Q0]at aJ
  intro v22 k23 f24
  obtain⟨az25,cz25,rfl,rz25,sz25,lz25⟩:=j1.out (r:=W4.toRp) f24 fu9
  have hE:=oJ aJ;subst hE
  exact⟨([.int .i64 u6,.int .i64 u7,.slice au8 u8.length cu8]),az25,u9.length,cz25,rfl,(z0 iu6 iu7 (S0.mono sz25 ru8)),rz25,((cI.trans bZ).trans sz25)⟩
theorem C0c (h:Hp) (aR:List Value) (p0:l0) (rp0:K1.R h aR p0) (r:l0×Bool) (aA:w9 p0=some r) :
  Tr Tryz.prog 129 #[.agg aR.toArray] h fun v h'=>∃(cs0:List Value),v = .tuple #[.agg cs0.toArray,.bool r.2]∧K1.R h' cs0 r.1∧Sub h h':=by
 obtain⟨aC,aB,aD,aV,aF,aO,rfl,rfl,aJ,aK,aG⟩:=F0 rp0
 obtain⟨rfl,aW⟩:=Sl.len aG
 unfold w9 at aA
 dsimp only at aA
 refine C2 (args:=[.agg #[.int .i64 aC,.int .i64 aB,.slice aD aO.length aF]]) (fn:=Tryz.f129) rfl ?_
 obtain⟨x1,aZ,aA⟩:=j0 aA
 refine Tr.mono (H4 _ [.int .i64 aC,.int .i64 aB,.slice aD aO.length aF] (aC,aB,aO) (z0 aJ aK aG) _  aZ) ?_
 rintro v3 k2 ⟨bA,rfl,bB,aS⟩
 obtain⟨aP,aT,aL,aX,aM,bC,rfl,rfl,aN,aQ,aH⟩:=F0 bB
 obtain⟨rfl,aY⟩:=Sl.len aH
 try dsimp only at aA
 obtain⟨x4,bD,aA⟩:=j0 aA
 refine Tr.val (A6 _ [.int .i64 aC,.int .i64 aB,.slice aD aO.length aF] (aC,aB,aO) (z0 aJ aK (S0.mono aS aG)) _  bD) ?_
 refine aI (fun aU=>?_) (fun aU=>?_)
 ·replace aA:=ifP aA aU
  have hE:=oJ aA;subst hE
  exact⟨([.int .i64 aP,.int .i64 aT,.slice aL bC.length aM]),rfl,(z0 aN aQ aH),aS⟩
 ·replace aA:=ifN aA aU
  have hE:=oJ aA;subst hE
  exact⟨([.int .i64 aP,.int .i64 (IntKind.i64.wrap (aB+1)),.slice aL bC.length aM]),rfl,(z0 aN (I0 _) aH),aS⟩
theorem b08 (h:Hp) (aZ:List Value) (p0:l0) (rp0:K1.R h aZ p0) (bA:List Value) (p1:K0) (rp1:C1.R h bA p1) (r:l0×Bool) (aA:N9 p0 p1=some r) :
  Tr Tryz.prog 240 #[.agg aZ.toArray,.agg bA.toArray] h fun v h'=>∃(cs0:List Value),v = .tuple #[.agg cs0.toArray,.bool r.2]∧K1.R h' cs0 r.1∧Sub h h':=by
 obtain⟨aF,aG,aB,bC,aC,aN,rfl,rfl,aH,aJ,aD⟩:=F0 rp0
 obtain⟨rfl,bD⟩:=Sl.len aD
 obtain⟨aK,aL,aM,rfl,rfl,aO,aP,aQ⟩:=M1 rp1
 unfold N9 at aA
 dsimp only at aA
 refine C2 (args:=[.agg #[.int .i64 aF,.int .i64 aG,.slice aB aN.length aC],.agg #[.int .i64 aK,.int .i64 aL,.int .i64 aM]]) (fn:=Tryz.f240) rfl ?_
 obtain⟨x1,bH,aA⟩:=j0 aA
 refine Tr.mono (H4 _ [.int .i64 aF,.int .i64 aG,.slice aB aN.length aC] (aF,aG,aN) (z0 aH aJ aD) _  bH) ?_
 rintro v3 k2 ⟨bI,rfl,bJ,aY⟩
 obtain⟨aU,aV,aW,bE,aX,bK,rfl,rfl,aR,aS,aT⟩:=F0 bJ
 obtain⟨rfl,bF⟩:=Sl.len aT
 try dsimp only at aA
 obtain⟨x4,bL,aA⟩:=j0 aA
 refine Tr.val (A6 _ [.int .i64 aF,.int .i64 aG,.slice aB aN.length aC] (aF,aG,aN) (z0 aH aJ (S0.mono aY aD)) _  bL) ?_
 obtain⟨x5,bM,aA⟩:=j0 aA
 refine eX (.bool x5) (aI (fun q=>c09 _ [.int .i64 aF,.int .i64 aG,.slice aB aN.length aC] (aF,aG,aN) (z0 aH aJ (S0.mono aY aD)) [.int .i64 aK,.int .i64 aL,.int .i64 aM] (aK,aL,aM) (G1 aO aP aQ) _  (Q2 bM q)) ?_)
 refine aI (fun bB=>?_) (fun bB=>?_)
 ·replace aA:=ifP aA bB
  have hE:=oJ aA;subst hE
  exact⟨([.int .i64 aU,.int .i64 aV,.slice aW bK.length aX]),rfl,(z0 aR aS aT),aY⟩
 ·replace aA:=ifN aA bB
  obtain⟨x7,bN,aA⟩:=j0 aA
  refine Tr.mono (M00 _ aB aN.length aC aN (S0.mono aY aD) [.int .i64 aK,.int .i64 aL,.int .i64 aM] (aK,aL,aM) (G1 aO aP aQ) _  bN) ?_
  rintro v9 k8 ⟨bO,bR,bP,rfl,bG,bQ⟩
  obtain⟨rfl,bS⟩:=Sl.len bG
  refine Or.inr (Or.inr (Or.inl (aI (aI (by kernel_rfl) (by kernel_rfl)) ?_)))
  refine Or.inr ?_
  refine Or.inl (eX 0 (aI (aI rfl rfl) ?_))
  refine aI trivial (aI (by first|exact trivial|exact rfl) ?_)
  have hE:=oJ aA;subst hE
  exact⟨([.int .i64 aU,.int .i64 aV,.slice bO x7.length bP]),rfl,(z0 aR aS bG),(aY.trans bQ)⟩
theorem D08 (h:Hp) (aU:List Value) (p0:l0) (rp0:K1.R h aU p0) (r:T0) (aP:a8 p0=some r) :
  Tr Tryz.prog 186 #[.agg aU.toArray] h fun v h'=>∃(a0:Option Addr) (n0 c0:Nat),v = .slice a0 n0 c0∧S0.R h' [.slice a0 n0 c0] r∧Sub h h':=by
 obtain⟨aB,aC,aH,bN,aJ,aF,rfl,rfl,aK,aM,aL⟩:=F0 rp0
 obtain⟨rfl,bO⟩:=Sl.len aL
 unfold a8 at aP
 dsimp only at aP
 refine C2 (args:=[.agg #[.int .i64 aB,.int .i64 aC,.slice aH aF.length aJ]]) (fn:=Tryz.f186) rfl ?_
 obtain⟨X1,aV,aP⟩:=j0 aP
 refine eX { vars:=[4],boxes:=[],owns:=[0],fuel:=true } (eX (fun vs os h'=>∃(u2:Int) (wu3:List (List Value)) (u3:List K0),vs.tail = [.int .i64 u2]∧os = [wu3]∧Sub h h'∧H0 u2∧F2 (C1.R h') wu3 u3∧c5 aC aB aF (H1 vs) u2 u3=some X1) (eX (fun _ _=>0) ?_))
 refine aI (eX N0 ⟨0,[],([]:T0),rfl,rfl,(Sub.refl _),(by decide),(show F2 (C1.R h) ([]:List (List Value)) ([]:T0) from trivial),aV⟩) ?_
 rintro v_0 wu3 m5 k4 ⟨u2,zzu3,u3,aW,aX,bR,iu2,fu3,aD⟩
 cases aW
 cases aX
 replace aD:c5 aC aB aF m5 u2 u3=some X1:=aD
 obtain _|m5:=m5
 ·cases (show(none:Option _)=some X1 from aD)
 rw[c5.eq_2]at aD
 obtain⟨x6,bS,aD⟩:=j0 aD
 refine eX (.bool x6) (aI (fun q=>a01 _ [.int .i64 aB,.int .i64 aC,.slice aH aF.length aJ] (aB,aC,aF) (z0 aK aM (S0.mono bR aL)) _  (Q2 bS q)) ?_)
 refine aI (fun aY=>?_) (fun aY=>?_)
 ·replace aD:=ifP aD aY
  obtain⟨x8,bT,aD⟩:=j0 aD
  refine Tr.mono (i06 _ aB aK _  bT) ?_
  rintro v10 k9 ⟨bV,bW,bX,rfl,aZ,bA⟩
  obtain⟨rfl,bY⟩:=Sl.len aZ
  obtain⟨X11,aQ,aD⟩:=j0 aD
  refine eX { vars:=[6],boxes:=[],owns:=[0],fuel:=true } (eX (fun vs os h'=>∃(u12:Int) (wu13:List (List Value)) (u13:List K0),vs.tail = [.int .i64 u12]∧os = [wu13]∧Sub k9 h'∧H0 u12∧F2 (C1.R h') wu13 u13∧Q3 x8 aB aC aF u2 (H1 vs) u12 u13=some X11) (eX (fun _ _=>0) ?_))
  refine aI (eX N0 ⟨0,wu3,u3,rfl,rfl,(Sub.refl _),(by decide),(F2.up (r:=C1.toRp) bA fu3),aQ⟩) ?_
  rintro v_0 wu13 m15 k14 ⟨u12,zzu13,u13,aR,aS,aG,iu12,fu13,aA⟩
  cases aR
  cases aS
  replace aA:Q3 x8 aB aC aF u2 m15 u12 u13=some X11:=aA
  obtain _|m15:=m15
  ·cases (show(none:Option _)=some X11 from aA)
  rw[Q3.eq_2]at aA
  refine aI (fun aN=>?_) (fun aN=>?_)
  ·replace aA:=ifP aA aN
   refine Or.inl (aI (aI (by kernel_rfl) (by kernel_rfl)) ?_)
   obtain⟨x17,bB,aA⟩:=j0 aA
   obtain⟨bC,bP,bD,bE⟩:=Sl.getI (r:=Wp.int.toRp) (J0.mono aG aZ) bB (by decide)
   refine aI bC ?_
   obtain⟨rfl,bF⟩:=bE
   refine eX _ (aI bD ?_)
   obtain⟨x18,bG,aA⟩:=j0 aA
   refine eX (.int .i64 x18) (aI (N02 _ [.int .i64 aB,.int .i64 aC,.slice aH aF.length aJ] (aB,aC,aF) (z0 aK aM (S0.mono ((bR.trans bA).trans aG) aL)) u2 iu2 x17 bF _  bG) ?_)
   obtain⟨q19,bH,aA⟩:=j0 aA
   have bU:H0 x18:=M0 bH
   refine aI (fun aO=>?_) (fun aO=>?_)
   ·replace aA:=ifP aA aO
    obtain⟨x21,bI,aA⟩:=j0 aA
    obtain⟨bJ,bQ,bK,bL⟩:=Sl.getI (r:=Wp.int.toRp) (J0.mono aG aZ) bI (by decide)
    refine aI bJ ?_
    obtain⟨rfl,aT⟩:=bL
    refine eX _ (aI bK ?_)
    obtain⟨q22,bM,aA⟩:=j0 aA
    refine aI (P1 bM (by first|rw[F2.length fu13,F2.length (show F2 (C1.R k14) ([[.int .i64 u2,.int .i64 x21,.int .i64 (-1)]]:List (List Value)) [(u2,x21,(-1))] from⟨(G1 iu2 aT (by decide)),trivial⟩)]|exact congrArg (·+1) (F2.length fu13))) ?_
    refine aI rfl (aI (by repeat first|exact trivial|refine aI rfl ?_) (aI (by repeat first|exact trivial|refine aI rfl ?_) (eX m15 (aI ⟨(IntKind.i64.wrap (u12+1)),(wu13++([[.int .i64 u2,.int .i64 x21,.int .i64 (-1)]]:List (List Value))),(u13 ++ [(u2,x21,(-1))]),rfl,rfl,aG,(I0 _),(F2.append fu13 (show F2 (C1.R k14) ([[.int .i64 u2,.int .i64 x21,.int .i64 (-1)]]:List (List Value)) [(u2,x21,(-1))] from⟨(G1 iu2 aT (by decide)),trivial⟩)),aA⟩ (nS _)))))
   ·replace aA:=ifN aA aO
    refine aI rfl (aI (by repeat first|exact trivial|refine aI rfl ?_) (aI (by repeat first|exact trivial|refine aI rfl ?_) (eX m15 (aI ⟨(IntKind.i64.wrap (u12+1)),wu13,u13,rfl,rfl,aG,(I0 _),fu13,aA⟩ (nS _)))))
  ·replace aA:=ifN aA aN
   have hE:=oJ aA;subst hE
   try dsimp only[P0,Q0]at aD
   refine aI rfl (aI (by repeat first|exact trivial|refine aI rfl ?_) (aI (by repeat first|exact trivial|refine aI rfl ?_) (eX m5 (aI ⟨(IntKind.i64.wrap (u2+1)),wu13,u13,rfl,rfl,((bR.trans bA).trans aG),(I0 _),fu13,aD⟩ (nS _)))))
 ·replace aD:=ifN aD aY
  have hE:=oJ aD;subst hE
  try dsimp only[P0,Q0]at aP
  intro v27 k28 f29
  obtain⟨az30,cz30,rfl,rz30,sz30,lz30⟩:=j1.out (r:=C1.toRp) f29 fu3
  have hE:=oJ aP;subst hE
  exact⟨az30,u3.length,cz30,rfl,rz30,(bR.trans sz30)⟩
set_option maxHeartbeats 0
theorem K09 (h:Hp) (gE:List Value) (p0:B0) (rp0:E1.R h gE p0) (gF:List Value) (p1:l0) (rp1:K1.R h gF p1) (r:l0×Bool×Bool) (aA:P9 p0 p1=some r) :
  Tr Tryz.prog 211 #[.agg gE.toArray,.agg gF.toArray] h fun v h'=>∃(cs0:List Value),v = .tuple #[.agg cs0.toArray,.bool r.2.1,.bool r.2.2]∧K1.R h' cs0 r.1∧Sub h h':=by
 obtain⟨bU,bH,jY,bI,eN,rfl,rfl,dA,bJ⟩:=D1 rp0
 obtain⟨rfl,jZ⟩:=Sl.len bJ
 obtain⟨aH,aD,aL,kA,aM,aS,rfl,rfl,aO,aJ,aN⟩:=F0 rp1
 obtain⟨rfl,kB⟩:=Sl.len aN
 unfold P9 at aA
 dsimp only at aA
 refine C2 (args:=[.agg #[.int .i64 bU,.slice bH eN.length bI],.agg #[.int .i64 aH,.int .i64 aD,.slice aL aS.length aM]]) (fn:=Tryz.f211) rfl ?_
 obtain⟨x1,lO,aA⟩:=j0 aA
 refine Tr.val (Y5 _ [.int .i64 bU,.slice bH eN.length bI] (bU,eN) (O0 dA bJ) _  lO) ?_
 obtain⟨x2,lP,aA⟩:=j0 aA
 refine eX (.bool x2) (aI (fun q=>a01 _ [.int .i64 aH,.int .i64 aD,.slice aL aS.length aM] (aH,aD,aS) (z0 aO aJ aN) _  (Q2 lP q)) ?_)
 refine aI (fun gG=>?_) (fun gG=>?_)
 ·replace aA:=ifP aA gG
  obtain⟨x4,lQ,aA⟩:=j0 aA
  refine Tr.mono (H4 _ [.int .i64 aH,.int .i64 aD,.slice aL aS.length aM] (aH,aD,aS) (z0 aO aJ aN) _  lQ) ?_
  rintro v6 k5 ⟨lR,rfl,lT,lU⟩
  obtain⟨gH,gI,eO,kC,eP,lV,rfl,rfl,eQ,eR,dB⟩:=F0 lT
  obtain⟨rfl,kD⟩:=Sl.len dB
  try dsimp only at aA
  have hE:=oJ aA;subst hE
  exact⟨([.int .i64 gH,.int .i64 gI,.slice eO lV.length eP]),rfl,(z0 eQ eR dB),lU⟩
 ·replace aA:=ifN aA gG
  obtain⟨x7,lW,aA⟩:=j0 aA
  obtain⟨dD,eT⟩:=x7
  try dsimp only at aA
  refine Tr.val (H09 _ [.int .i64 bU,.slice bH eN.length bI] (bU,eN) (O0 dA bJ) [.int .i64 aH,.int .i64 aD,.slice aL aS.length aM] (aH,aD,aS) (z0 aO aJ aN) _  lW) ?_
  obtain⟨q8,lX,aA⟩:=j0 aA
  have dC:H0 dD:=M0 lX
  obtain⟨q9,lY,aA⟩:=j0 aA
  have kE:H0 eT:=M0 lY
  refine aI (fun dE=>?_) (fun dE=>?_)
  ·replace aA:=ifP aA dE
   refine Or.inr (Or.inr (Or.inr (Or.inr (eX 13 (aI (aI (by kernel_rfl) (by kernel_rfl)) ?_)))))
   obtain⟨x11,gJ,aA⟩:=j0 aA
   obtain⟨gK,kF,gL,dF⟩:=Sl.getI (r:=J0.toRp) bJ gJ (by decide)
   obtain⟨eU,lZ,eV,rfl⟩:=Wp.slice_cell dF
   obtain⟨rfl,mA⟩:=Sl.len dF
   refine Or.inl (eX (.hel (.slice bH eN.length bI) eT 1 0) (aI ?_ ?_))
   ·intro k12 s13
    exact aI gK (aI rfl (aI rfl rfl))
   refine Or.inl (eX (.val (.slice eU x11.length eV)) (aI ?_ ?_))
   ·intro k14 s15
    exact eX _ (aI (A8.up s15 gL) (aI rfl (aI rfl rfl)))
   obtain⟨x16,gM,aA⟩:=j0 aA
   obtain⟨eY,bV⟩:=x16
   try dsimp only at aA
   obtain⟨aF,aG,aP⟩:=eY
   try dsimp only at aA
   refine Or.inr (eX (fun v hh=>∃(aK:Value),v = .tuple #[aK,.bool bV]∧(fun v hh=>∃(aB:Option Addr) (aC:Nat),v = .agg #[.int .i64 aF,.int .i64 aG,.slice aB aP.length aC]∧H0 aF∧H0 aG∧S0.R hh [.slice aB aP.length aC] aP∧aP.length≤9223372036854775807) aK hh) (aI (fun v h1 h2 sb q=>by obtain⟨aK,e,aY⟩:=q;exact⟨aK,e,(by obtain⟨aB,aC,e,f0,f1,f2,f3⟩:=aY;exact⟨aB,aC,e,f0,f1,S0.mono sb f2,f3⟩)⟩) (aI ?_ ?_)))
   ·intro k17 s18
    refine Tr.mono (Z07 _ [.int .i64 aH,.int .i64 aD,.slice aL aS.length aM] (aH,aD,aS) (z0 aO aJ (S0.mono s18 aN)) dD dC eU x11.length eV x11 (J0.mono s18 dF) dD dC _ gM) ?_
    rintro _ kk ⟨fW,rfl,dG,sb⟩
    obtain⟨eZ,fA,aV,eM,aW,fB,rfl,ey,bO,bP,aX⟩:=F0 dG
    cases ey
    obtain⟨rfl,bQ⟩:=Sl.len aX
    exact aI Q05 (aI sb ⟨(.agg #[.int .i64 aF,.int .i64 aG,.slice aV aP.length aW]),rfl,⟨aV,aW,rfl,bO,bP,aX,bQ⟩⟩)
   refine Or.inr (eX (fun v hh=>∃(aK:Value),v = .tuple #[aK,.bool bV]∧(fun v hh=>∃(aB:Option Addr) (aC:Nat),v = .agg #[.int .i64 aF,.int .i64 aG,.slice aB aP.length aC]∧H0 aF∧H0 aG∧S0.R hh [.slice aB aP.length aC] aP∧aP.length≤9223372036854775807) aK hh) (aI (fun v h1 h2 sb q=>by obtain⟨aK,e,aY⟩:=q;exact⟨aK,e,(by obtain⟨aB,aC,e,f0,f1,f2,f3⟩:=aY;exact⟨aB,aC,e,f0,f1,S0.mono sb f2,f3⟩)⟩) (aI ?_ ?_)))
   ·intro k19 s20
    rintro _ ⟨_,rfl,⟨az21p02,cz21p02,rfl,iz21p00,iz21p01,rz21p02,lz21p02⟩⟩
    exact aI Q05 (aI (Sub.refl _) ⟨(.agg #[.int .i64 aF,.int .i64 aG,.slice az21p02 aP.length cz21p02]),rfl,⟨az21p02,cz21p02,rfl,iz21p00,iz21p01,rz21p02,lz21p02⟩⟩)
   refine Or.inr (eX (fun v hh=>∃(aB:Option Addr) (aC:Nat),v = .agg #[.int .i64 aF,.int .i64 aG,.slice aB aP.length aC]∧H0 aF∧H0 aG∧S0.R hh [.slice aB aP.length aC] aP∧aP.length≤9223372036854775807) (aI (fun v h1 h2 sb q=>by obtain⟨aB,aC,e,f0,f1,f2,f3⟩:=q;exact⟨aB,aC,e,f0,f1,S0.mono sb f2,f3⟩) (aI ?_ ?_)))
   ·intro k22 s23
    rintro _ ⟨_,rfl,⟨az24p02,cz24p02,rfl,iz24p00,iz24p01,rz24p02,lz24p02⟩⟩
    exact aI Q05 (aI (Sub.refl _) ⟨az24p02,cz24p02,rfl,iz24p00,iz24p01,rz24p02,lz24p02⟩)
   refine Or.inl (eX (.val (.bool bV)) (aI ?_ ?_))
   ·intro k25 s26
    rintro _ ⟨_,rfl,⟨az27p02,cz27p02,rfl,iz27p00,iz27p01,rz27p02,lz27p02⟩⟩
    exact aI rfl (aI rfl rfl)
   intro k28 s29
   rintro _ ⟨az302,cz302,rfl,iz300,iz301,rz302,lz302⟩
   rintro _ ⟨_,rfl,⟨az31p02,cz31p02,rfl,iz31p00,iz31p01,rz31p02,lz31p02⟩⟩
   rintro _ ⟨_,rfl,⟨az32p02,cz32p02,rfl,iz32p00,iz32p01,rz32p02,lz32p02⟩⟩
   refine aI (fun dH=>?_) (fun dH=>?_)
   ·replace aA:=ifP aA dH
    obtain⟨x34,gN,aA⟩:=j0 aA
    refine Tr.mono (H4 _ [.int .i64 aH,.int .i64 aD,.slice aL aS.length aM] (aH,aD,aS) (z0 aO aJ (S0.mono s29 aN)) _  gN) ?_
    rintro v36 k35 ⟨kG,rfl,gO,gP⟩
    obtain⟨fC,fD,dI,gQ,dJ,kH,rfl,rfl,dK,dL,bW⟩:=F0 gO
    obtain⟨rfl,gR⟩:=Sl.len bW
    try dsimp only at aA
    have hE:=oJ aA;subst hE
    exact⟨([.int .i64 fC,.int .i64 fD,.slice dI kH.length dJ]),rfl,(z0 dK dL bW),(s29.trans gP)⟩
   ·replace aA:=ifN aA dH
    obtain⟨x37,gS,aA⟩:=j0 aA
    refine Tr.mono (E04 _ [.int .i64 aF,.int .i64 aG,.slice az302 aP.length cz302] (aF,aG,aP) (z0 iz300 iz301 rz302) _  gS) ?_
    rintro v39 k38 ⟨fX,gT,gU,gV,rfl,bX,bY,gW⟩
    obtain⟨kI,kJ⟩:=x37
    dsimp only at aA bX bY
    obtain⟨cU,cV,bZ,fE,cA,fY,rfl,rfl,cC,cD,aZ⟩:=F0 bX
    obtain⟨rfl,fF⟩:=Sl.len aZ
    try dsimp only at aA
    obtain⟨rfl,gX⟩:=Sl.len bY
    have hE:=oJ aA;subst hE
    exact⟨([.int .i64 cU,.int .i64 cV,.slice bZ fY.length cA]),rfl,(z0 cC cD aZ),(s29.trans gW)⟩
  ·replace aA:=ifN aA dE
   obtain⟨x40,gY,aA⟩:=j0 aA
   refine Tr.mono (D08 _ [.int .i64 aH,.int .i64 aD,.slice aL aS.length aM] (aH,aD,aS) (z0 aO aJ aN) _  gY) ?_
   rintro v42 k41 ⟨bR,mB,bS,rfl,bT,fG⟩
   obtain⟨rfl,mD⟩:=Sl.len bT
   refine aI (fun dM=>?_) (fun dM=>?_)
   ·replace aA:=ifP aA dM
    obtain⟨x44,gZ,aA⟩:=j0 aA
    refine Tr.mono (H4 _ [.int .i64 aH,.int .i64 aD,.slice aL aS.length aM] (aH,aD,aS) (z0 aO aJ (S0.mono fG aN)) _  gZ) ?_
    rintro v46 k45 ⟨kK,rfl,hJ,hU⟩
    obtain⟨fH,fJ,dN,hY,dO,kL,rfl,rfl,dP,dQ,cE⟩:=F0 hJ
    obtain⟨rfl,hZ⟩:=Sl.len cE
    try dsimp only at aA
    have hE:=oJ aA;subst hE
    exact⟨([.int .i64 fH,.int .i64 fJ,.slice dN kL.length dO]),rfl,(z0 dP dQ cE),(fG.trans hU)⟩
   ·replace aA:=ifN aA dM
    obtain⟨x47,iA,aA⟩:=j0 aA
    refine Tr.mono (C0c _ [.int .i64 aH,.int .i64 aD,.slice aL aS.length aM] (aH,aD,aS) (z0 aO aJ (S0.mono fG aN)) _  iA) ?_
    rintro v49 k48 ⟨fZ,rfl,cG,aU⟩
    obtain⟨kM,kN⟩:=x47
    dsimp only at aA cG
    obtain⟨aQ,aR,bA,fK,bB,bK,rfl,rfl,bC,bD,aT⟩:=F0 cG
    obtain⟨rfl,fL⟩:=Sl.len aT
    try dsimp only at aA
    refine aI (fun dR=>?_) (fun dR=>?_)
    ·replace aA:=ifP aA dR
     obtain⟨x51,iB,aA⟩:=j0 aA
     refine Tr.mono (H4 _ [.int .i64 aH,.int .i64 aD,.slice aL aS.length aM] (aH,aD,aS) (z0 aO aJ (S0.mono (fG.trans aU) aN)) _  iB) ?_
     rintro v53 k52 ⟨kO,rfl,iC,iD⟩
     obtain⟨fM,fN,dS,iE,dT,kP,rfl,rfl,dU,dV,cH⟩:=F0 iC
     obtain⟨rfl,iF⟩:=Sl.len cH
     try dsimp only at aA
     have hE:=oJ aA;subst hE
     exact⟨([.int .i64 fM,.int .i64 fN,.slice dS kP.length dT]),rfl,(z0 dU dV cH),((fG.trans aU).trans iD)⟩
    ·replace aA:=ifN aA dR
     refine Or.inr (Or.inr (Or.inr (Or.inr (eX 12 (aI (aI (by kernel_rfl) (by kernel_rfl)) ?_)))))
     obtain⟨x54,iG,aA⟩:=j0 aA
     obtain⟨iH,kQ,iI,iJ⟩:=Sl.getI (r:=C1.toRp) (S0.mono aU bT) iG (by decide)
     obtain⟨bL,kR,kS,rfl,rfl,dW,iK,iL⟩:=M1 iJ
     try dsimp only at aA
     refine Or.inl (eX (.hel (.slice bR x40.length bS) 0 3 0) (aI ?_ ?_))
     ·intro k55 s56
      exact aI iH (aI rfl (aI rfl rfl))
     refine Or.inl (eX (.val (.int .i64 bL)) (aI ?_ ?_))
     ·intro k57 s58
      exact eX _ (aI (A8.up s58 iI) (aI rfl (aI rfl rfl)))
     obtain⟨x59,iM,aA⟩:=j0 aA
     obtain⟨iN,kT,iO,iP⟩:=Sl.getI (r:=C1.toRp) (S0.mono aU bT) iM (by decide)
     obtain⟨kU,bM,kV,rfl,rfl,iQ,dX,iR⟩:=M1 iP
     try dsimp only at aA
     refine Or.inl (eX (.hel (.slice bR x40.length bS) 0 3 0) (aI ?_ ?_))
     ·intro k60 s61
      exact aI iN (aI rfl (aI rfl rfl))
     refine Or.inl (eX (.val (.int .i64 bM)) (aI ?_ ?_))
     ·intro k62 s63
      exact eX _ (aI (A8.up s63 iO) (aI rfl (aI rfl rfl)))
     refine Or.inl (eX (.agg [.val (.int .i64 bL),.val (.int .i64 bM),.val (.int .i64 aD)]) (aI ?_ ?_))
     ·intro k64 s65
      exact aI rfl (aI rfl rfl)
     intro k66 s67
     obtain⟨x68,iS,aA⟩:=j0 aA
     obtain⟨iT,kW,iU,iV⟩:=Sl.getI (r:=C1.toRp) (S0.mono (aU.trans s67) bT) iS (by decide)
     refine aI iT ?_
     obtain⟨kX,kY,kZ,rfl,rfl,iW,iX,iY⟩:=M1 iV
     try dsimp only at aA
     refine eX _ (aI iU ?_)
     refine aI (fun dY=>?_) (fun dY=>?_)
     ·replace aA:=ifP aA dY
      refine Or.inr (Or.inr (Or.inl (aI (aI (by kernel_rfl) (by kernel_rfl)) ?_)))
      obtain⟨x70,iZ,aA⟩:=j0 aA
      obtain⟨jA,lA,jB,jC⟩:=Sl.getI (r:=C1.toRp) (S0.mono (aU.trans s67) bT) iZ (by decide)
      obtain⟨lB,bE,lC,rfl,rfl,jD,jE,jF⟩:=M1 jC
      try dsimp only at aA
      refine Or.inl (eX (.hel (.slice bR x40.length bS) 0 3 0) (aI ?_ ?_))
      ·intro k71 s72
       exact aI jA (aI rfl (aI rfl rfl))
      refine Or.inl (eX (.hel (.slice bR x40.length bS) 0 3 1) (aI ?_ ?_))
      ·intro hh sb
       exact aI rfl (aI rfl rfl)
      refine Or.inl (eX (.val (.int .i64 bE)) (aI ?_ ?_))
      ·intro k73 s74
       exact eX _ (aI (A8.up s74 jB) (aI rfl (aI rfl rfl)))
      refine Or.inl (eX (.val (.int .i64 (IntKind.i64.wrap (0-bE)))) (aI ?_ ?_))
      ·intro k75 s76
       exact aI rfl (aI rfl rfl)
      obtain⟨x77,jG,aA⟩:=j0 aA
      obtain⟨jH,lD,jI,jJ⟩:=Sl.getI (r:=C1.toRp) (S0.mono (aU.trans s67) bT) jG (by decide)
      obtain⟨bN,lE,lF,rfl,rfl,dZ,jK,jL⟩:=M1 jJ
      try dsimp only at aA
      refine Or.inl (eX (.hel (.slice bR x40.length bS) 0 3 0) (aI ?_ ?_))
      ·intro k78 s79
       exact aI jH (aI rfl (aI rfl rfl))
      refine Or.inl (eX (.hel (.slice bR x40.length bS) 0 3 0) (aI ?_ ?_))
      ·intro hh sb
       exact aI rfl (aI rfl rfl)
      refine Or.inl (eX (.val (.int .i64 bN)) (aI ?_ ?_))
      ·intro k80 s81
       exact eX _ (aI (A8.up s81 jI) (aI rfl (aI rfl rfl)))
      refine Or.inl (eX (.agg [.val (.int .i64 aD),.val (.int .i64 (IntKind.i64.wrap (0-bE))),.val (.int .i64 bN)]) (aI ?_ ?_))
      ·intro k82 s83
       exact aI rfl (aI rfl rfl)
      refine Or.inr ?_
      refine Or.inl (eX 0 (aI (aI rfl rfl) ?_))
      refine aI trivial (aI (by first|exact trivial|exact rfl) ?_)
      obtain⟨x84,jM,aA⟩:=j0 aA
      refine Tr.mono (b08 _ [.int .i64 aQ,.int .i64 aR,.slice bA bK.length bB] (aQ,aR,bK) (z0 bC bD (S0.mono s67 aT)) [.int .i64 aD,.int .i64 (IntKind.i64.wrap (0-bE)),.int .i64 bN] (aD,(IntKind.i64.wrap (0-bE)),bN) (G1 aJ (I0 _) dZ) _  jM) ?_
      rintro v86 k85 ⟨gA,rfl,cI,eA⟩
      obtain⟨lG,lH⟩:=x84
      dsimp only at aA cI
      obtain⟨cW,cX,cJ,fO,cK,gB,rfl,rfl,cL,cM,bF⟩:=F0 cI
      obtain⟨rfl,fP⟩:=Sl.len bF
      try dsimp only at aA
      refine aI (fun eB=>?_) (fun eB=>?_)
      ·replace aA:=ifP aA eB
       obtain⟨x88,jN,aA⟩:=j0 aA
       refine Tr.mono (H4 _ [.int .i64 aH,.int .i64 aD,.slice aL aS.length aM] (aH,aD,aS) (z0 aO aJ (S0.mono (((fG.trans aU).trans s67).trans eA) aN)) _  jN) ?_
       rintro v90 k89 ⟨lI,rfl,jO,jP⟩
       obtain⟨fQ,fR,eC,jQ,eD,lJ,rfl,rfl,eE,eF,cN⟩:=F0 jO
       obtain⟨rfl,jR⟩:=Sl.len cN
       try dsimp only at aA
       have hE:=oJ aA;subst hE
       exact⟨([.int .i64 fQ,.int .i64 fR,.slice eC lJ.length eD]),rfl,(z0 eE eF cN),((((fG.trans aU).trans s67).trans eA).trans jP)⟩
      ·replace aA:=ifN aA eB
       have hE:=oJ aA;subst hE
       exact⟨([.int .i64 cW,.int .i64 cX,.slice cJ gB.length cK]),rfl,(z0 cL cM bF),(((fG.trans aU).trans s67).trans eA)⟩
     ·replace aA:=ifN aA dY
      obtain⟨x91,jS,aA⟩:=j0 aA
      refine Tr.mono (b08 _ [.int .i64 aQ,.int .i64 aR,.slice bA bK.length bB] (aQ,aR,bK) (z0 bC bD (S0.mono s67 aT)) [.int .i64 bL,.int .i64 bM,.int .i64 aD] (bL,bM,aD) (G1 dW dX aJ) _  jS) ?_
      rintro v93 k92 ⟨gC,rfl,cO,eG⟩
      obtain⟨lK,lL⟩:=x91
      dsimp only at aA cO
      obtain⟨cY,cZ,cP,fS,cQ,gD,rfl,rfl,cR,cS,bG⟩:=F0 cO
      obtain⟨rfl,fT⟩:=Sl.len bG
      try dsimp only at aA
      refine aI (fun eH=>?_) (fun eH=>?_)
      ·replace aA:=ifP aA eH
       obtain⟨x95,jT,aA⟩:=j0 aA
       refine Tr.mono (H4 _ [.int .i64 aH,.int .i64 aD,.slice aL aS.length aM] (aH,aD,aS) (z0 aO aJ (S0.mono (((fG.trans aU).trans s67).trans eG) aN)) _  jT) ?_
       rintro v97 k96 ⟨lM,rfl,jU,jV⟩
       obtain⟨fU,fV,eI,jW,eJ,lN,rfl,rfl,eK,eL,cT⟩:=F0 jU
       obtain⟨rfl,jX⟩:=Sl.len cT
       try dsimp only at aA
       have hE:=oJ aA;subst hE
       exact⟨([.int .i64 fU,.int .i64 fV,.slice eI lN.length eJ]),rfl,(z0 eK eL cT),((((fG.trans aU).trans s67).trans eG).trans jV)⟩
      ·replace aA:=ifN aA eH
       have hE:=oJ aA;subst hE
       exact⟨([.int .i64 cY,.int .i64 cZ,.slice cP gD.length cQ]),rfl,(z0 cR cS bG),(((fG.trans aU).trans s67).trans eG)⟩
theorem D0c (h:Hp) (bU:List Value) (p0:l0) (rp0:K1.R h bU p0) (r:l0×D0) (aH:B00 p0=some r) :
  Tr Tryz.prog 224 #[.agg bU.toArray] h fun v h'=>∃(cs0:List Value) (a1:Option Addr) (n1 c1:Nat),v = .tuple #[.agg cs0.toArray,.slice a1 n1 c1]∧K1.R h' cs0 r.1∧J0.R h' [.slice a1 n1 c1] r.2∧Sub h h':=by
 obtain⟨aB,aC,aJ,cO,aK,aG,rfl,rfl,aM,aN,aL⟩:=F0 rp0
 obtain⟨rfl,cP⟩:=Sl.len aL
 unfold B00 at aH
 dsimp only at aH
 refine C2 (args:=[.agg #[.int .i64 aB,.int .i64 aC,.slice aJ aG.length aK]]) (fn:=Tryz.f224) rfl ?_
 obtain⟨x1,cV,aH⟩:=j0 aH
 refine Tr.mono (H4 _ [.int .i64 aB,.int .i64 aC,.slice aJ aG.length aK] (aB,aC,aG) (z0 aM aN aL) _  cV) ?_
 rintro v3 k2 ⟨cW,rfl,cX,dA⟩
 obtain⟨bV,bW,bE,cQ,bF,bX,rfl,rfl,bG,bH,aX⟩:=F0 cX
 obtain⟨rfl,cR⟩:=Sl.len aX
 try dsimp only at aH
 obtain⟨X4,bY,aH⟩:=j0 aH
 refine eX { vars:=[6],boxes:=[],owns:=[0],fuel:=true } (eX (fun vs os h'=>∃(u5:Int) (wu6:List (List Value)) (u6:List Int),vs.tail = [.int .i64 u5]∧os = [wu6]∧Sub k2 h'∧H0 u5∧F2 (Wp.int.R h') wu6 u6∧t6 aC aB aG (H1 vs) u5 u6=some X4) (eX (fun _ _=>0) ?_))
 refine aI (eX N0 ⟨0,[],([]:D0),rfl,rfl,(Sub.refl _),(by decide),(show F2 (Wp.int.R k2) ([]:List (List Value)) ([]:D0) from trivial),bY⟩) ?_
 rintro v_0 wu6 m8 k7 ⟨u5,zzu6,u6,bZ,cA,bI,iu5,fu6,aA⟩
 cases bZ
 cases cA
 replace aA:t6 aC aB aG m8 u5 u6=some X4:=aA
 obtain _|m8:=m8
 ·cases (show(none:Option _)=some X4 from aA)
 rw[t6.eq_2]at aA
 obtain⟨x9,cY,aA⟩:=j0 aA
 refine eX (.bool x9) (aI (fun q=>A6 _ [.int .i64 aB,.int .i64 aC,.slice aJ aG.length aK] (aB,aC,aG) (z0 aM aN (S0.mono (dA.trans bI) aL)) _  (Q2 cY q)) ?_)
 refine aI (fun aY=>?_) (fun aY=>?_)
 ·replace aA:=ifP aA aY
  obtain⟨q11,cC,aA⟩:=j0 aA
  refine aI (P1 cC (by first|rw[F2.length fu6,F2.length (show F2 (Wp.int.R k7) ([[.int .i64 u5]]:List (List Value)) [u5] from⟨⟨rfl,iu5⟩,trivial⟩)]|exact congrArg (·+1) (F2.length fu6))) ?_
  refine aI rfl (aI (by repeat first|exact trivial|refine aI rfl ?_) (aI (by repeat first|exact trivial|refine aI rfl ?_) (eX m8 (aI ⟨(IntKind.i64.wrap (u5+1)),(wu6++([[.int .i64 u5]]:List (List Value))),(u6 ++ [u5]),rfl,rfl,bI,(I0 _),(F2.append fu6 (show F2 (Wp.int.R k7) ([[.int .i64 u5]]:List (List Value)) [u5] from⟨⟨rfl,iu5⟩,trivial⟩)),aA⟩ (nS _)))))
 ·replace aA:=ifN aA aY
  have hE:=oJ aA;subst hE
  try dsimp only[P0,Q0]at aH
  obtain⟨X16,bJ,aH⟩:=j0 aH
  refine eX { vars:=[5,7],boxes:=[2],owns:=[],fuel:=true,pubs:=[5] } (eX (fun vs os h'=>∃(au17:Option Addr) (nu17 cu17:Nat) (u17:D0) (u18:Int) (u19:Int) (u20:Int) (au21:Option Addr) (nu21 cu21:Nat) (u21:T0),vs.tail = [.slice au17 nu17 cu17,.int .i64 u18,.int .i64 u19,.int .i64 u20,.slice au21 nu21 cu21]∧os = []∧Sub k7 h'∧J0.R h' [.slice au17 nu17 cu17] u17∧H0 u18∧H0 u19∧H0 u20∧S0.R h' [.slice au21 nu21 cu21] u21∧s6 aB aC aG (H1 vs) u17 u18 u19 u20 u21=some X16) (eX (fun _ _=>0) ?_))
  intro v12 k13 f14
  obtain⟨az15,cz15,rfl,rz15,sz15,lz15⟩:=j1.out (r:=Wp.int.toRp) f14 fu6
  refine aI (eX N0 ⟨az15,u6.length,cz15,u6,0,bV,bW,bE,bX.length,bF,bX,rfl,rfl,sz15,rz15,(by decide),bG,bH,(S0.mono (bI.trans sz15) aX),bJ⟩) ?_
  rintro v_0 v_1 v_2 v_3 v_4 m23 k22 ⟨au17,nu17,cu17,u17,u18,u19,u20,au21,nu21,cu21,u21,bK,bL,aZ,ru17,iu18,iu19,iu20,ru21,aA⟩
  cases bK
  cases bL
  replace aA:s6 aB aC aG m23 u17 u18 u19 u20 u21=some X16:=aA
  obtain _|m23:=m23
  ·cases (show(none:Option _)=some X16 from aA)
  rw[s6.eq_2]at aA
  obtain⟨rfl,lu17⟩:=Sl.len ru17
  obtain⟨rfl,lu21⟩:=Sl.len ru21
  obtain⟨x24,cD,aA⟩:=j0 aA
  refine eX (.bool x24) (aI (fun q=>A6 _ [.int .i64 aB,.int .i64 aC,.slice aJ aG.length aK] (aB,aC,aG) (z0 aM aN (S0.mono ((dA.trans bI).trans aZ) aL)) _  (Q2 cD q)) ?_)
  refine aI (fun bA=>?_) (fun bA=>?_)
  ·replace aA:=ifP aA bA
   obtain⟨x26,cE,aA⟩:=j0 aA
   refine Tr.val (f0g _ [.int .i64 u19,.int .i64 u20,.slice au21 u21.length cu21] (u19,u20,u21) (z0 iu19 iu20 ru21) _  cE) ?_
   obtain⟨q27,cG,aA⟩:=j0 aA
   have cZ:H0 x26:=M0 cG
   refine aI (fun bB=>?_) (fun bB=>?_)
   ·replace aA:=ifP aA bB
    have hE:=oJ aA;subst hE
    try dsimp only[G2,I2]at aH
    have hE:=oJ aH;subst hE
    exact⟨([.int .i64 u19,.int .i64 u20,.slice au21 u21.length cu21]),au17,u17.length,cu17,rfl,(z0 iu19 iu20 ru21),ru17,((dA.trans bI).trans aZ)⟩
   ·replace aA:=ifN aA bB
    obtain⟨X29,bM,aA⟩:=j0 aA
    refine eX { vars:=[11],boxes:=[],owns:=[1,2],fuel:=true } (eX (fun vs os h'=>∃(u30:Int) (wu31:List (List Value)) (u31:List Int) (wu32:List (List Value)) (u32:List Int),vs.tail = [.int .i64 u30]∧os = [wu31,wu32]∧Sub k22 h'∧H0 u30∧F2 (Wp.int.R h') wu31 u31∧F2 (Wp.int.R h') wu32 u32∧P5 u20 x26 u17 (H1 vs) u30 u31 u32=some X29) (eX (fun _ _=>0) ?_))
    refine aI (eX N0 ⟨0,[],([]:D0),[],([]:D0),rfl,rfl,(Sub.refl _),(by decide),(show F2 (Wp.int.R k22) ([]:List (List Value)) ([]:D0) from trivial),(show F2 (Wp.int.R k22) ([]:List (List Value)) ([]:D0) from trivial),bM⟩) ?_
    rintro v_0 wu31 wu32 m34 k33 ⟨u30,zzu31,u31,zzu32,u32,bN,bO,aT,iu30,fu31,fu32,aD⟩
    cases bN
    cases bO
    replace aD:P5 u20 x26 u17 m34 u30 u31 u32=some X29:=aD
    obtain _|m34:=m34
    ·cases (show(none:Option _)=some X29 from aD)
    rw[P5.eq_2]at aD
    refine aI (fun bC=>?_) (fun bC=>?_)
    ·replace aD:=ifP aD bC
     refine aI (fun bD=>?_) (fun bD=>?_)
     ·replace aD:=ifP aD bD
      obtain⟨q37,cH,aD⟩:=j0 aD
      refine aI (P1 cH (by first|rw[F2.length fu31,F2.length (show F2 (Wp.int.R k33) ([[.int .i64 u30]]:List (List Value)) [u30] from⟨⟨rfl,iu30⟩,trivial⟩)]|exact congrArg (·+1) (F2.length fu31))) ?_
      obtain⟨x38,cI,aD⟩:=j0 aD
      obtain⟨cJ,cS,cK,cL⟩:=Sl.getI (r:=Wp.int.toRp) (J0.mono aT ru17) cI (by decide)
      refine aI cJ ?_
      obtain⟨rfl,bP⟩:=cL
      refine eX _ (aI cK ?_)
      obtain⟨q39,cM,aD⟩:=j0 aD
      refine aI (P1 cM (by first|rw[F2.length fu32,F2.length (show F2 (Wp.int.R k33) ([[.int .i64 x38]]:List (List Value)) [x38] from⟨⟨rfl,bP⟩,trivial⟩)]|exact congrArg (·+1) (F2.length fu32))) ?_
      refine aI rfl (aI (by repeat first|exact trivial|refine aI rfl ?_) (aI (by repeat first|exact trivial|refine aI rfl ?_) (eX m34 (aI ⟨(IntKind.i64.wrap (u30+1)),(wu31++([[.int .i64 u30]]:List (List Value))),(u31 ++ [u30]),(wu32++([[.int .i64 x38]]:List (List Value))),(u32 ++ [x38]),rfl,rfl,aT,(I0 _),(F2.append fu31 (show F2 (Wp.int.R k33) ([[.int .i64 u30]]:List (List Value)) [u30] from⟨⟨rfl,iu30⟩,trivial⟩)),(F2.append fu32 (show F2 (Wp.int.R k33) ([[.int .i64 x38]]:List (List Value)) [x38] from⟨⟨rfl,bP⟩,trivial⟩)),aD⟩ (nS _)))))
     ·replace aD:=ifN aD bD
      refine aI rfl (aI (by repeat first|exact trivial|refine aI rfl ?_) (aI (by repeat first|exact trivial|refine aI rfl ?_) (eX m34 (aI ⟨(IntKind.i64.wrap (u30+1)),wu31,u31,wu32,u32,rfl,rfl,aT,(I0 _),fu31,fu32,aD⟩ (nS _)))))
    ·replace aD:=ifN aD bC
     have hE:=oJ aD;subst hE
     try dsimp only[P0,Q0]at aA
     refine Or.inl ?_
     intro v40 k41 f42
     obtain⟨az43,cz43,rfl,rz43,sz43,lz43⟩:=j1.out (r:=Wp.int.toRp) f42 fu31
     obtain⟨x44,cN,aA⟩:=j0 aA
     refine Tr.mono (I03 _ [.int .i64 u19,.int .i64 u20,.slice au21 u21.length cu21] (u19,u20,u21) (z0 iu19 iu20 (S0.mono (aT.trans sz43) ru21)) az43 u31.length cz43 u31 rz43 _  cN) ?_
     rintro v46 k45 ⟨bT,rfl,aO,bQ⟩
     obtain⟨cT,cU⟩:=x44
     dsimp only at aA aO
     obtain⟨aU,aV,aP,bR,aQ,aW,rfl,rfl,aR,aS,aF⟩:=F0 aO
     obtain⟨rfl,bS⟩:=Sl.len aF
     try dsimp only at aA
     intro v47 k48 f49
     obtain⟨az50,cz50,rfl,rz50,sz50,lz50⟩:=j1.out (r:=Wp.int.toRp) f49 (F2.up (r:=Wp.int.toRp) (sz43.trans bQ) fu32)
     refine aI rfl (aI (by repeat first|exact trivial|refine aI rfl ?_) (aI (by repeat first|exact trivial|refine aI rfl ?_) (eX m23 (aI ⟨az50,u32.length,cz50,u32,(IntKind.i64.wrap (u18+1)),aU,aV,aP,aW.length,aQ,aW,rfl,rfl,((((aZ.trans aT).trans sz43).trans bQ).trans sz50),rz50,(I0 _),aR,aS,(S0.mono sz50 aF),aA⟩ (nS _)))))
  ·replace aA:=ifN aA bA
   have hE:=oJ aA;subst hE
   try dsimp only[P0,Q0]at aH
   have hE:=oJ aH;subst hE
   exact⟨([.int .i64 u19,.int .i64 u20,.slice au21 u21.length cu21]),au17,u17.length,cu17,rfl,(z0 iu19 iu20 ru21),ru17,((dA.trans bI).trans aZ)⟩
theorem E0c (h:Hp) (bN:List Value) (p0:l0) (rp0:K1.R h bN p0) (r:l0) (aA:B9 p0=some r) :
  Tr Tryz.prog 178 #[.agg bN.toArray] h fun v h'=>∃(cs0:List Value),v = .agg cs0.toArray∧K1.R h' cs0 r∧Sub h h':=by
 obtain⟨aZ,bA,aR,bT,aS,bO,rfl,rfl,bD,bE,aT⟩:=F0 rp0
 obtain⟨rfl,bU⟩:=Sl.len aT
 unfold B9 at aA
 dsimp only at aA
 refine C2 (args:=[.agg #[.int .i64 aZ,.int .i64 bA,.slice aR bO.length aS]]) (fn:=Tryz.f178) rfl ?_
 obtain⟨x1,cH,aA⟩:=j0 aA
 refine Tr.mono (E04 _ [.int .i64 aZ,.int .i64 bA,.slice aR bO.length aS] (aZ,bA,bO) (z0 bD bE aT) _  cH) ?_
 rintro v3 k2 ⟨bP,bV,bW,bX,rfl,aU,aV,cT⟩
 obtain⟨cI,cJ⟩:=x1
 dsimp only at aA aU aV
 obtain⟨aD,aF,aJ,bJ,aK,bB,rfl,rfl,aL,aM,aB⟩:=F0 aU
 obtain⟨rfl,bK⟩:=Sl.len aB
 try dsimp only at aA
 obtain⟨rfl,bY⟩:=Sl.len aV
 obtain⟨x4,cK,aA⟩:=j0 aA
 refine Tr.mono (D0c _ [.int .i64 aD,.int .i64 aF,.slice aJ bB.length aK] (aD,aF,bB) (z0 aL aM aB) _  cK) ?_
 rintro v6 k5 ⟨bQ,bZ,cA,cC,rfl,aW,aX,cL⟩
 obtain⟨cM,cN⟩:=x4
 dsimp only at aA aW aX
 obtain⟨aG,aH,aN,bL,aO,bC,rfl,rfl,aP,aQ,aC⟩:=F0 aW
 obtain⟨rfl,bM⟩:=Sl.len aC
 try dsimp only at aA
 obtain⟨rfl,cD⟩:=Sl.len aX
 obtain⟨x7,cO,aA⟩:=j0 aA
 refine Tr.mono (e07 _ [.int .i64 aG,.int .i64 aH,.slice aN bC.length aO] (aG,aH,bC) (z0 aP aQ aC) _  cO) ?_
 rintro v9 k8 ⟨cP,rfl,cQ,cR⟩
 obtain⟨bR,bS,bF,cE,bG,cS,rfl,rfl,bH,bI,aY⟩:=F0 cQ
 obtain⟨rfl,cG⟩:=Sl.len aY
 try dsimp only at aA
 have hE:=oJ aA;subst hE
 exact⟨([.int .i64 bR,.int .i64 bS,.slice bF cS.length bG]),rfl,(z0 bH bI aY),((cT.trans cL).trans cR)⟩
theorem O06 (h:Hp) (cI:List Value) (p0:B0) (rp0:E1.R h cI p0) (ap1:Option Addr) (np1 cp1:Nat) (p1:J1) (rp1:T1.R h [.slice ap1 np1 cp1] p1) (r:l0×Bool) (aB:U7 p0 p1=some r) :
  Tr Tryz.prog 165 #[.agg cI.toArray,.slice ap1 np1 cp1] h fun v h'=>∃(cs0:List Value),v = .tuple #[.agg cs0.toArray,.bool r.2]∧K1.R h' cs0 r.1∧Sub h h':=by
 obtain⟨aG,aP,cV,aQ,aX,rfl,rfl,aR,aS⟩:=D1 rp0
 obtain⟨rfl,cW⟩:=Sl.len aS
 obtain⟨rfl,lp1⟩:=Sl.len rp1
 unfold U7 at aB
 dsimp only at aB
 refine C2 (args:=[.agg #[.int .i64 aG,.slice aP aX.length aQ],.slice ap1 p1.length cp1]) (fn:=Tryz.f165) rfl ?_
 obtain⟨x1,dH,aB⟩:=j0 aB
 refine Tr.mono (F0d _ aG aR ap1 p1.length cp1 p1 rp1 _  dH) ?_
 rintro v3 k2 ⟨cJ,rfl,bG,cX⟩
 obtain⟨dI,dJ⟩:=x1
 dsimp only at aB bG
 obtain⟨aT,aU,aY,bZ,aZ,bJ,rfl,rfl,bA,bB,aM⟩:=F0 bG
 obtain⟨rfl,cA⟩:=Sl.len aM
 try dsimp only at aB
 obtain⟨x4,dK,aB⟩:=j0 aB
 refine eX (.bool x4) (aI (fun q=>Y5 _ [.int .i64 aG,.slice aP aX.length aQ] (aG,aX) (O0 aR (T1.mono cX aS)) _  (Q2 dK q)) ?_)
 refine aI (fun cK=>?_) (fun cK=>?_)
 ·replace aB:=ifP aB cK
  have hE:=oJ aB;subst hE
  exact⟨([.int .i64 0,.int .i64 0,.slice none 0 0]),rfl,(z0 (by decide) (by decide) (X0f C1 k2)),cX⟩
 ·replace aB:=ifN aB cK
  obtain⟨x6,dL,aB⟩:=j0 aB
  refine Tr.mono (E04 _ [.int .i64 aT,.int .i64 aU,.slice aY bJ.length aZ] (aT,aU,bJ) (z0 bA bB aM) _  dL) ?_
  rintro v8 k7 ⟨cL,cY,cZ,dA,rfl,bH,bI,cC⟩
  obtain⟨dM,dN⟩:=x6
  dsimp only at aB bH bI
  obtain⟨bK,bL,bC,cD,bD,bM,rfl,rfl,bE,bF,aN⟩:=F0 bH
  obtain⟨rfl,cE⟩:=Sl.len aN
  try dsimp only at aB
  obtain⟨rfl,dB⟩:=Sl.len bI
  obtain⟨X9,cM,aB⟩:=j0 aB
  refine eX { vars:=[10],boxes:=[3],owns:=[],fuel:=true } (eX (fun vs os h'=>∃(u10:Int) (u11:Int) (u12:Int) (au13:Option Addr) (nu13 cu13:Nat) (u13:T0),vs.tail = [.int .i64 u10,.int .i64 u11,.int .i64 u12,.slice au13 nu13 cu13]∧os = []∧Sub k7 h'∧H0 u10∧H0 u11∧H0 u12∧S0.R h' [.slice au13 nu13 cu13] u13∧D3 aG aX (H1 vs) u10 u11 u12 u13=some X9) (eX (fun _ _=>0) ?_))
  refine aI (eX N0 ⟨0,bK,bL,bC,bM.length,bD,bM,rfl,rfl,(Sub.refl _),(by decide),bE,bF,aN,cM⟩) ?_
  rintro v_0 v_1 v_2 v_3 m15 k14 ⟨u10,u11,u12,au13,nu13,cu13,u13,cN,cO,cG,iu10,iu11,iu12,ru13,aA⟩
  cases cN
  cases cO
  replace aA:D3 aG aX m15 u10 u11 u12 u13=some X9:=aA
  obtain _|m15:=m15
  ·cases (show(none:Option _)=some X9 from aA)
  rw[D3.eq_2]at aA
  obtain⟨rfl,lu13⟩:=Sl.len ru13
  refine aI (fun bN=>?_) (fun bN=>?_)
  ·replace aA:=ifP aA bN
   obtain⟨x17,cP,aA⟩:=j0 aA
   refine Tr.mono (K09 _ [.int .i64 aG,.slice aP aX.length aQ] (aG,aX) (O0 aR (T1.mono ((cX.trans cC).trans cG) aS)) [.int .i64 u11,.int .i64 u12,.slice au13 u13.length cu13] (u11,u12,u13) (z0 iu11 iu12 ru13) _  cP) ?_
   rintro v19 k18 ⟨cH,rfl,aV,bO⟩
   obtain⟨dC,dD,dE⟩:=x17
   dsimp only at aA aV
   obtain⟨aD,aF,aH,bV,aJ,aO,rfl,rfl,aK,aL,aC⟩:=F0 aV
   obtain⟨rfl,bW⟩:=Sl.len aC
   try dsimp only at aA
   refine aI (fun bP=>?_) (fun bP=>?_)
   ·replace aA:=ifP aA bP
    have hE:=oJ aA;subst hE
    try dsimp only[G2,I2]at aB
    have hE:=oJ aB;subst hE
    exact⟨([.int .i64 0,.int .i64 0,.slice none 0 0]),rfl,(z0 (by decide) (by decide) (X0f C1 k18)),(((cX.trans cC).trans cG).trans bO)⟩
   ·replace aA:=ifN aA bP
    refine aI (fun bQ=>?_) (fun bQ=>?_)
    ·replace aA:=ifP aA bQ
     obtain⟨x22,cQ,aA⟩:=j0 aA
     refine Tr.mono (E0c _ [.int .i64 aD,.int .i64 aF,.slice aH aO.length aJ] (aD,aF,aO) (z0 aK aL aC) _  cQ) ?_
     rintro v24 k23 ⟨dF,rfl,cR,cS⟩
     obtain⟨bX,bY,bR,cT,bS,dG,rfl,rfl,bT,bU,aW⟩:=F0 cR
     obtain⟨rfl,cU⟩:=Sl.len aW
     try dsimp only at aA
     have hE:=oJ aA;subst hE
     try dsimp only[G2,I2]at aB
     have hE:=oJ aB;subst hE
     exact⟨([.int .i64 bX,.int .i64 bY,.slice bR dG.length bS]),rfl,(z0 bT bU aW),((((cX.trans cC).trans cG).trans bO).trans cS)⟩
    ·replace aA:=ifN aA bQ
     refine aI rfl (aI (by repeat first|exact trivial|refine aI rfl ?_) (aI (by repeat first|exact trivial|refine aI rfl ?_) (eX m15 (aI ⟨(IntKind.i64.wrap (u10+1)),aD,aF,aH,aO.length,aJ,aO,rfl,rfl,(cG.trans bO),(I0 _),aK,aL,aC,aA⟩ (nS _)))))
  ·replace aA:=ifN aA bN
   have hE:=oJ aA;subst hE
   try dsimp only[P0,Q0]at aB
   have hE:=oJ aB;subst hE
   exact⟨([.int .i64 0,.int .i64 0,.slice none 0 0]),rfl,(z0 (by decide) (by decide) (X0f C1 k14)),((cX.trans cC).trans cG)⟩
theorem L09 (h:Hp) (aQ:List Value) (p0:B0) (rp0:E1.R h aQ p0) (ap1:Option Addr) (np1 cp1:Nat) (p1:J1) (rp1:T1.R h [.slice ap1 np1 cp1] p1) (r:Int) (aA:R9 p0 p1=some r) :
  Tr Tryz.prog 109 #[.agg aQ.toArray,.slice ap1 np1 cp1] h fun v h'=>v = .int .i64 r∧h'=h:=by
 obtain⟨aH,aC,aX,aD,aR,rfl,rfl,aJ,aF⟩:=D1 rp0
 obtain⟨rfl,aY⟩:=Sl.len aF
 obtain⟨rfl,lp1⟩:=Sl.len rp1
 unfold R9 at aA
 dsimp only at aA
 refine Tr.forget (C2 (args:=[.agg #[.int .i64 aH,.slice aC aR.length aD],.slice ap1 p1.length cp1]) (fn:=Tryz.f109) rfl ?_)
 obtain⟨x1,bA,aA⟩:=j0 aA
 refine Tr.mono (O06 _ [.int .i64 aH,.slice aC aR.length aD] (aH,aR) (O0 aJ aF) ap1 p1.length cp1 p1 rp1 _  bA) ?_
 rintro v3 k2 ⟨aS,rfl,aG,aZ⟩
 obtain⟨bB,bC⟩:=x1
 dsimp only at aA aG
 obtain⟨aT,aU,aK,aL,aM,aV,rfl,rfl,aN,aO,aB⟩:=F0 aG
 obtain⟨rfl,aP⟩:=Sl.len aB
 try dsimp only at aA
 refine aI (fun aW=>?_) (fun aW=>?_)
 ·replace aA:=ifP aA aW
  have hE:=oJ aA;subst hE
  exact aI rfl aZ
 ·replace aA:=ifN aA aW
  have hE:=oJ aA;subst hE
  exact aI rfl aZ
theorem M09 (h:Hp) (aH:List Value) (p0:B0) (rp0:E1.R h aH p0) (r:Int) (aD:S9 p0=some r) :
  Tr Tryz.prog 44 #[.agg aH.toArray] h fun v h'=>v = .int .i64 r∧h'=h:=by
 obtain⟨aF,aA,aK,aB,aJ,rfl,rfl,aG,aC⟩:=D1 rp0
 obtain⟨rfl,aL⟩:=Sl.len aC
 unfold S9 at aD
 dsimp only at aD
 refine Tr.forget (C2 (args:=[.agg #[.int .i64 aF,.slice aA aJ.length aB]]) (fn:=Tryz.f44) rfl ?_)
 refine Or.inr ?_
 intro v1 k2 f3
 obtain⟨az4,cz4,rfl,rz4,sz4,lz4⟩:=j1.out (r:=J0.toRp) f3 (show F2 (J0.R h) ([]:List (List Value)) ([]:J1) from trivial)
 obtain⟨x5,aM,aD⟩:=j0 aD
 refine Tr.val (L09 _ [.int .i64 aF,.slice aA aJ.length aB] (aF,aJ) (O0 aG (T1.mono sz4 aC)) az4 (([]:J1)).length cz4 ([]:J1) rz4 _  aM) (aI rfl ?_)
 obtain⟨q6,aN,aD⟩:=j0 aD
 have aO:H0 x5:=M0 aN
 have hE:=oJ aD;subst hE
 exact aI rfl (Sub.refl _)
theorem F0c (h:Hp) (aJ:List Value) (p0:B0) (rp0:E1.R h aJ p0) (r:ByteArray) (aA:E00 p0=some r) :
  Tr Tryz.prog 10 #[.agg aJ.toArray] h fun v h'=>v = .string r∧h'=h:=by
 obtain⟨aB,aC,bL,aD,aH,rfl,rfl,aG,aF⟩:=D1 rp0
 obtain⟨rfl,bM⟩:=Sl.len aF
 unfold E00 at aA
 dsimp only at aA
 refine Tr.forget (C2 (args:=[.agg #[.int .i64 aB,.slice aC aH.length aD]]) (fn:=Tryz.f10) rfl ?_)
 obtain⟨x1,bN,aA⟩:=j0 aA
 refine Tr.val (Y5 _ [.int .i64 aB,.slice aC aH.length aD] (aB,aH) (O0 aG aF) _  bN) ?_
 refine aI (fun aK=>?_) (fun aK=>?_)
 ·replace aA:=ifP aA aK
  have hE:=oJ aA;subst hE
  exact aI rfl (Sub.refl _)
 ·replace aA:=ifN aA aK
  obtain⟨x3,bO,aA⟩:=j0 aA
  refine Tr.val (I04 _ [.int .i64 aB,.slice aC aH.length aD] (aB,aH) (O0 aG aF) _  bO) ?_
  obtain⟨q4,bP,aA⟩:=j0 aA
  have bZ:x3.size≤9223372036854775807:=M0 bP
  obtain⟨q5,bQ,aA⟩:=j0 aA
  have jq5:=M0 bQ
  refine aI jq5 ?_
  obtain⟨x6,bR,aA⟩:=j0 aA
  refine Tr.val (M09 _ [.int .i64 aB,.slice aC aH.length aD] (aB,aH) (O0 aG aF) _  bR) ?_
  obtain⟨q7,bS,aA⟩:=j0 aA
  have bT:H0 x6:=M0 bS
  refine aI (fun aL=>?_) (fun aL=>?_)
  ·replace aA:=ifP aA aL
   obtain⟨x9,bU,aA⟩:=j0 aA
   refine Tr.val (R01 _ x6 bT _  bU) ?_
   obtain⟨q10,aM,aA⟩:=j0 aA
   have cA:x9.size≤9223372036854775807:=M0 aM
   obtain⟨q11,aN,aA⟩:=j0 aA
   have jq11:=M0 aN
   refine aI jq11 ?_
   refine Or.inl (aI (aI (by kernel_rfl) (by kernel_rfl)) ?_)
   obtain⟨q12,aO,aA⟩:=j0 aA
   have jq12:=M0 aO
   refine aI jq12 ?_
   obtain⟨x13,aP,aA⟩:=j0 aA
   refine eX (.int .i64 x13) (aI (S03 _ [.int .i64 aB,.slice aC aH.length aD] (aB,aH) (O0 aG aF) _  aP) ?_)
   obtain⟨q14,aQ,aA⟩:=j0 aA
   have aR:H0 x13:=M0 aQ
   obtain⟨x15,aS,aA⟩:=j0 aA
   refine eX (.string x15) (aI (R01 _ x13 aR _  aS) ?_)
   obtain⟨q16,aT,aA⟩:=j0 aA
   have bV:x15.size≤9223372036854775807:=M0 aT
   obtain⟨q17,aU,aA⟩:=j0 aA
   have jq17:=M0 aU
   refine aI jq17 ?_
   obtain⟨x18,aV,aA⟩:=j0 aA
   refine eX (.bool x18) (aI (Y07 _ [.int .i64 aB,.slice aC aH.length aD] (aB,aH) (O0 aG aF) _  aV) ?_)
   obtain⟨x19,aW,aA⟩:=j0 aA
   refine eX (.string x19) (aI (b09 _ x18 (⟨#[32,115,109,97,108,108]⟩:ByteArray) (by decide) _  aW) ?_)
   obtain⟨q20,aX,aA⟩:=j0 aA
   have bW:x19.size≤9223372036854775807:=M0 aX
   obtain⟨q21,aY,aA⟩:=j0 aA
   have jq21:=M0 aY
   refine aI jq21 ?_
   have hE:=oJ aA;subst hE
   exact aI rfl (Sub.refl _)
  ·replace aA:=ifN aA aL
   obtain⟨q22,aZ,aA⟩:=j0 aA
   have jq22:=M0 aZ
   refine aI jq22 ?_
   refine Or.inl (aI (aI (by kernel_rfl) (by kernel_rfl)) ?_)
   obtain⟨q23,bA,aA⟩:=j0 aA
   have jq23:=M0 bA
   refine aI jq23 ?_
   obtain⟨x24,bB,aA⟩:=j0 aA
   refine eX (.int .i64 x24) (aI (S03 _ [.int .i64 aB,.slice aC aH.length aD] (aB,aH) (O0 aG aF) _  bB) ?_)
   obtain⟨q25,bC,aA⟩:=j0 aA
   have bD:H0 x24:=M0 bC
   obtain⟨x26,bE,aA⟩:=j0 aA
   refine eX (.string x26) (aI (R01 _ x24 bD _  bE) ?_)
   obtain⟨q27,bF,aA⟩:=j0 aA
   have bX:x26.size≤9223372036854775807:=M0 bF
   obtain⟨q28,bG,aA⟩:=j0 aA
   have jq28:=M0 bG
   refine aI jq28 ?_
   obtain⟨x29,bH,aA⟩:=j0 aA
   refine eX (.bool x29) (aI (Y07 _ [.int .i64 aB,.slice aC aH.length aD] (aB,aH) (O0 aG aF) _  bH) ?_)
   obtain⟨x30,bI,aA⟩:=j0 aA
   refine eX (.string x30) (aI (b09 _ x29 (⟨#[32,115,109,97,108,108]⟩:ByteArray) (by decide) _  bI) ?_)
   obtain⟨q31,bJ,aA⟩:=j0 aA
   have bY:x30.size≤9223372036854775807:=M0 bJ
   obtain⟨q32,bK,aA⟩:=j0 aA
   have jq32:=M0 bK
   refine aI jq32 ?_
   have hE:=oJ aA;subst hE
   exact aI rfl (Sub.refl _)
theorem W02 (h:Hp) (bH:List Value) (p0:B0) (rp0:E1.R h bH p0) (r:J1) (aB:Z6 p0=some r) :
  Tr Tryz.prog 116 #[.agg bH.toArray] h fun v h'=>∃(a0:Option Addr) (n0 c0:Nat),v = .slice a0 n0 c0∧New T1 h h' [.slice a0 n0 c0] r:=by
 obtain⟨aM,aK,cC,aL,aN,rfl,rfl,aX,aF⟩:=D1 rp0
 obtain⟨rfl,cD⟩:=Sl.len aF
 unfold Z6 at aB
 dsimp only at aB
 refine C2 (args:=[.agg #[.int .i64 aM,.slice aK aN.length aL]]) (fn:=Tryz.f116) rfl ?_
 obtain⟨x1,cH,aB⟩:=j0 aB
 refine Tr.val (Z5 _ [.int .i64 aM,.slice aK aN.length aL] (aM,aN) (O0 aX aF) _  cH) ?_
 refine aI (fun bI=>?_) (fun bI=>?_)
 ·replace aB:=ifP aB bI
  intro v3 k4 f5
  have nz6:New (Wp.slice J0) h k4 [v3] ([]:J1):=(j1.fresh (r:=J0) f5 (show F3 (J0.W h) [] [] [] from trivial) (Sub.refl _) (d6.nil h))
  obtain⟨az6,cz6,rfl,rz6,sz6,lz6⟩:=j1.out (r:=J0.toRp) f5 (show F2 (J0.R h) ([]:List (List Value)) ([]:J1) from trivial)
  have hE:=oJ aB;subst hE
  exact⟨az6,(([]:J1)).length,cz6,rfl,nz6⟩
 ·replace aB:=ifN aB bI
  obtain⟨X7,bJ,aB⟩:=j0 aB
  refine eX { vars:=[17],boxes:=[],owns:=[0],fuel:=true } (eX (fun vs os h'=>∃(u8:Int) (wu9:List (List Value)) (u9:List D0),vs.tail = [.int .i64 u8]∧os = [wu9]∧Sub h h'∧H0 u8∧F2 (J0.R h') wu9 u9∧(∃ Bs,F3 (J0.W h') wu9 u9 Bs∧d6 h Bs.flatten)∧F4 aN (H1 vs) u8 u9=some X7) (eX (fun _ _=>0) ?_))
  refine aI (eX N0 ⟨0,[],([]:J1),rfl,rfl,(Sub.refl _),(by decide),(show F2 (J0.R h) ([]:List (List Value)) ([]:J1) from trivial),⟨_,(show F3 (J0.W h) [] [] [] from trivial),(d6.nil h)⟩,bJ⟩) ?_
  rintro v_0 wu9 m11 k10 ⟨u8,zzu9,u9,bK,bL,bM,iu8,fu9,⟨bbu9,ttu9,ffu9⟩,aA⟩
  cases bK
  cases bL
  replace aA:F4 aN m11 u8 u9=some X7:=aA
  obtain _|m11:=m11
  ·cases (show(none:Option _)=some X7 from aA)
  rw[F4.eq_2]at aA
  refine aI (fun aO=>?_) (fun aO=>?_)
  ·replace aA:=ifP aA aO
   obtain⟨x13,bN,aA⟩:=j0 aA
   obtain⟨bO,cE,bP,aJ⟩:=Sl.getI (r:=J0.toRp) (T1.mono bM aF) bN (by decide)
   refine aI bO ?_
   obtain⟨aY,cI,aZ,rfl⟩:=Wp.slice_cell aJ
   obtain⟨rfl,cJ⟩:=Sl.len aJ
   refine eX _ (aI bP ?_)
   obtain⟨x14,bQ,aA⟩:=j0 aA
   refine Tr.mono (s0b _ aY x13.length aZ x13 aJ _  bQ) ?_
   rintro v16 k15 ⟨bR,cK,bS,rfl,wx14⟩
   have aG:Sub k10 k15:=wx14.sub
   have bA:=wx14.r
   obtain⟨rfl,cL⟩:=Sl.len bA
   obtain⟨X17,bB,aA⟩:=j0 aA
   refine eX { vars:=[26],boxes:=[],owns:=[0],fuel:=true } (eX (fun vs os h'=>∃(u18:Int) (wu19:List (List Value)) (u19:List D0),vs.tail = [.int .i64 u18]∧os = [wu19]∧Sub k15 h'∧H0 u18∧F2 (J0.R h') wu19 u19∧(∃ Bs,F3 (J0.W h') wu19 u19 Bs∧d6 h Bs.flatten)∧P3 x13 x14 (H1 vs) u18 u19=some X17) (eX (fun _ _=>0) ?_))
   refine aI (eX N0 ⟨0,wu9,u9,rfl,rfl,(Sub.refl _),(by decide),(F2.up (r:=J0.toRp) aG fu9),⟨_,(F0e ttu9 aG),ffu9⟩,bB⟩) ?_
   rintro v_0 wu19 m21 k20 ⟨u18,zzu19,u19,bC,bD,aP,iu18,fu19,⟨bbu19,ttu19,ffu19⟩,aC⟩
   cases bC
   cases bD
   replace aC:P3 x13 x14 m21 u18 u19=some X17:=aC
   obtain _|m21:=m21
   ·cases (show(none:Option _)=some X17 from aC)
   rw[P3.eq_2]at aC
   refine aI (fun aQ=>?_) (fun aQ=>?_)
   ·replace aC:=ifP aC aQ
    obtain⟨x23,bT,aC⟩:=j0 aC
    obtain⟨bU,cG,bV,aR⟩:=J4 (F2.up (r:=J0.toRp) aP (show F2 (J0.R k15) ([[.slice aY x13.length aZ],[.slice bR x14.length bS]]:List (List Value)) [x13,x14] from⟨(J0.mono aG aJ),⟨bA,trivial⟩⟩)) bT
    refine aI bU ?_
    obtain⟨bW,cM,bX,rfl⟩:=Wp.slice_cell aR
    obtain⟨rfl,cN⟩:=Sl.len aR
    refine eX _ (aI bV ?_)
    obtain⟨X24,bE,aC⟩:=j0 aC
    refine eX { vars:=[32],boxes:=[],owns:=[0],fuel:=true } (eX (fun vs os h'=>∃(u25:Int) (wu26:List (List Value)) (u26:List D0),vs.tail = [.int .i64 u25]∧os = [wu26]∧Sub k20 h'∧H0 u25∧F2 (J0.R h') wu26 u26∧(∃ Bs,F3 (J0.W h') wu26 u26 Bs∧d6 h Bs.flatten)∧E4 x23 (H1 vs) u25 u26=some X24) (eX (fun _ _=>0) ?_))
    refine aI (eX N0 ⟨0,wu19,u19,rfl,rfl,(Sub.refl _),(by decide),fu19,⟨_,ttu19,ffu19⟩,bE⟩) ?_
    rintro v_0 wu26 m28 k27 ⟨u25,zzu26,u26,bF,bG,aS,iu25,fu26,⟨bbu26,ttu26,ffu26⟩,aD⟩
    cases bF
    cases bG
    replace aD:E4 x23 m28 u25 u26=some X24:=aD
    obtain _|m28:=m28
    ·cases (show(none:Option _)=some X24 from aD)
    rw[E4.eq_2]at aD
    refine aI (fun aT=>?_) (fun aT=>?_)
    ·replace aD:=ifP aD aT
     obtain⟨x30,bY,aD⟩:=j0 aD
     refine Tr.mono (t0b _ bW x23.length bX x23 (J0.mono aS aR) u25 iu25 _  bY) ?_
     rintro v32 k31 ⟨aU,cO,aV,rfl,wx30⟩
     have aH:Sub k27 k31:=wx30.sub
     have aW:=wx30.r
     obtain⟨rfl,cP⟩:=Sl.len aW
     obtain⟨q33,bZ,aD⟩:=j0 aD
     refine aI (P1 bZ (by first|rw[F2.length (F2.up (r:=J0.toRp) aH fu26),F2.length (show F2 (J0.R k31) ([[.slice aU x30.length aV]]:List (List Value)) [x30] from⟨aW,trivial⟩)]|exact congrArg (·+1) (F2.length (F2.up (r:=J0.toRp) aH fu26)))) ?_
     obtain⟨Bb34,wb34,fb34,_⟩:=wx30
     refine aI rfl (aI (by repeat first|exact trivial|refine aI rfl ?_) (aI (by repeat first|exact trivial|refine aI rfl ?_) (eX m28 (aI ⟨(IntKind.i64.wrap (u25+1)),(wu26++([[.slice aU x30.length aV]]:List (List Value))),(u26 ++ [x30]),rfl,rfl,(aS.trans aH),(I0 _),(F2.append (F2.up (r:=J0.toRp) aH fu26) (show F2 (J0.R k31) ([[.slice aU x30.length aV]]:List (List Value)) [x30] from⟨aW,trivial⟩)),⟨_,(F3.snoc wb34 (F0e ttu26 aH)),(r09 ttu26 (((bM.trans aG).trans aP).trans aS) ffu26 fb34)⟩,aD⟩ (nS _)))))
    ·replace aD:=ifN aD aT
     have hE:=oJ aD;subst hE
     try dsimp only[P0,Q0]at aC
     refine aI rfl (aI (by repeat first|exact trivial|refine aI rfl ?_) (aI (by repeat first|exact trivial|refine aI rfl ?_) (eX m21 (aI ⟨(IntKind.i64.wrap (u18+1)),wu26,u26,rfl,rfl,(aP.trans aS),(I0 _),fu26,⟨_,ttu26,ffu26⟩,aC⟩ (nS _)))))
   ·replace aC:=ifN aC aQ
    have hE:=oJ aC;subst hE
    try dsimp only[P0,Q0]at aA
    refine aI rfl (aI (by repeat first|exact trivial|refine aI rfl ?_) (aI (by repeat first|exact trivial|refine aI rfl ?_) (eX m11 (aI ⟨(IntKind.i64.wrap (u8+1)),wu19,u19,rfl,rfl,((bM.trans aG).trans aP),(I0 _),fu19,⟨_,ttu19,ffu19⟩,aA⟩ (nS _)))))
  ·replace aA:=ifN aA aO
   have hE:=oJ aA;subst hE
   try dsimp only[P0,Q0]at aB
   refine Or.inl ?_
   intro v43 k44 f45
   obtain⟨q46,cA,aB⟩:=j0 aB
   refine Tr.mono (n0i _ f45 ttu9 (M0 cA)) ?_
   rintro _ kz47 ⟨rfl,vsz47,Bsz47,fz47,tz47,pz47⟩
   have qz47:=F3.f2 (q:=J0.R k10) (fun _ _ _ h=>J0.toR h) tz47
   obtain⟨az47,cz47,rfl,rz47,sz47,lz47⟩:=j1.out (r:=J0.toRp) fz47 qz47
   have nz47:New (Wp.slice J0) h kz47 _ (w02 I1 u9):=j1.fresh (r:=J0) fz47 tz47 bM (d6.perm ffu9 pz47)
   refine Tr.mono (o0i _ fz47 tz47) ?_
   rintro _ kz48 ⟨vsz48,Bsz48,fz48,tz48,pz48⟩
   have qz48:=F3.f2 (q:=J0.R k10) (fun _ _ _ h=>J0.toR h) tz48
   obtain⟨az48,cz48,rfl,rz48,sz48,lz48⟩:=j1.out (r:=J0.toRp) fz48 qz48
   have nz48:New (Wp.slice J0) h kz48 _ (b00 eqW (w02 I1 u9)):=j1.fresh (r:=J0) fz48 tz48 bM (d6.sublist (d6.perm ffu9 pz47) pz48)
   have hE:=oJ aB;subst hE
   exact⟨az48,((b00 eqW (w02 I1 u9))).length,cz48,rfl,nz48⟩
theorem V03 (h:Hp) (aS:List Value) (p0:B0) (rp0:E1.R h aS p0) (r:Int) (aD:g8 p0=some r) :
  Tr Tryz.prog 54 #[.agg aS.toArray] h fun v h'=>v = .int .i64 r∧h'=h:=by
 obtain⟨aJ,aF,bP,aG,aT,rfl,rfl,aN,aH⟩:=D1 rp0
 obtain⟨rfl,bQ⟩:=Sl.len aH
 unfold g8 at aD
 dsimp only at aD
 refine Tr.forget (C2 (args:=[.agg #[.int .i64 aJ,.slice aF aT.length aG]]) (fn:=Tryz.f54) rfl ?_)
 obtain⟨x1,bT,aD⟩:=j0 aD
 refine Tr.mono (W02 _ [.int .i64 aJ,.slice aF aT.length aG] (aJ,aT) (O0 aN aH) _  bT) ?_
 rintro v3 k2 ⟨cC,cD,cE,rfl,wx1⟩
 have cG:Sub h k2:=wx1.sub
 have aU:=wx1.r
 obtain⟨rfl,cH⟩:=Sl.len aU
 obtain⟨X4,aV,aD⟩:=j0 aD
 refine eX { vars:=[3,13],boxes:=[],owns:=[],fuel:=true } (eX (fun vs os h'=>∃(u5:Int) (u6:Int),vs.tail = [.int .i64 u5,.int .i64 u6]∧os = []∧Sub k2 h'∧H0 u5∧H0 u6∧n5 x1 (H1 vs) u5 u6=some X4) (eX (fun _ _=>0) ?_))
 refine aI (eX N0 ⟨0,0,rfl,rfl,(Sub.refl _),(by decide),(by decide),aV⟩) ?_
 rintro v_0 v_1 m8 k7 ⟨u5,u6,aW,aX,aY,iu5,iu6,aA⟩
 cases aW
 cases aX
 replace aA:n5 x1 m8 u5 u6=some X4:=aA
 obtain _|m8:=m8
 ·cases (show(none:Option _)=some X4 from aA)
 rw[n5.eq_2]at aA
 refine aI (fun aZ=>?_) (fun aZ=>?_)
 ·replace aA:=ifP aA aZ
  obtain⟨x10,bA,aA⟩:=j0 aA
  obtain⟨bB,bR,bC,aK⟩:=Sl.getI (r:=J0.toRp) (T1.mono aY aU) bA (by decide)
  refine aI bB ?_
  obtain⟨bD,bU,bE,rfl⟩:=Wp.slice_cell aK
  obtain⟨rfl,bV⟩:=Sl.len aK
  refine eX _ (aI bC ?_)
  obtain⟨x11,bF,aA⟩:=j0 aA
  obtain⟨qx11,vsx11,bG,fx11⟩:=Sl.cutI (r:=J0.toRp) (T1.mono aY aU) bF
  refine aI qx11 (eX vsx11 (aI bG ?_))
  intro vx11 hvx11 _
  obtain⟨bW,bX,rfl,aO⟩:=fx11 vx11 hvx11
  have bY:=(Sl.len aO).2
  obtain⟨X12,aP,aA⟩:=j0 aA
  refine eX { vars:=[3,23],boxes:=[],owns:=[],fuel:=true } (eX (fun vs os h'=>∃(u13:Int) (u14:Int),vs.tail = [.int .i64 u13,.int .i64 u14]∧os = []∧Sub k7 h'∧H0 u13∧H0 u14∧l5 x11 x10 (H1 vs) u13 u14=some X12) (eX (fun _ _=>0) ?_))
  refine aI (eX N0 ⟨u5,0,rfl,rfl,(Sub.refl _),iu5,(by decide),aP⟩) ?_
  rintro v_0 v_1 m16 k15 ⟨u13,u14,aQ,aR,aC,iu13,iu14,aB⟩
  cases aQ
  cases aR
  replace aB:l5 x11 x10 m16 u13 u14=some X12:=aB
  obtain _|m16:=m16
  ·cases (show(none:Option _)=some X12 from aB)
  rw[l5.eq_2]at aB
  refine aI (fun aL=>?_) (fun aL=>?_)
  ·replace aB:=ifP aB aL
   obtain⟨x18,bH,aB⟩:=j0 aB
   obtain⟨bI,bS,bJ,aM⟩:=Sl.getI (r:=J0.toRp) (T1.mono aC aO) bH (by decide)
   refine aI bI ?_
   obtain⟨bK,bZ,bL,rfl⟩:=Wp.slice_cell aM
   obtain⟨rfl,cA⟩:=Sl.len aM
   refine eX _ (aI bJ ?_)
   obtain⟨x19,bM,aB⟩:=j0 aB
   refine Tr.val (a09 _ bD x10.length bE x10 (J0.mono aC aK) bK x18.length bL x18 aM _  bM) ?_
   obtain⟨q20,bN,aB⟩:=j0 aB
   have bO:H0 x19:=M0 bN
   refine aI rfl (aI (by repeat first|exact trivial|refine aI rfl ?_) (aI (by repeat first|exact trivial|refine aI rfl ?_) (eX m16 (aI ⟨(if x19>u13 then x19 else u13),(IntKind.i64.wrap (u14+1)),rfl,rfl,aC,(L7 bO iu13),(I0 _),aB⟩ (nS _)))))
  ·replace aB:=ifN aB aL
   have hE:=oJ aB;subst hE
   try dsimp only[P0,Q0]at aA
   refine aI rfl (aI (by repeat first|exact trivial|refine aI rfl ?_) (aI (by repeat first|exact trivial|refine aI rfl ?_) (eX m8 (aI ⟨u13,(IntKind.i64.wrap (u6+1)),rfl,rfl,(aY.trans aC),iu13,(I0 _),aA⟩ (nS _)))))
 ·replace aA:=ifN aA aZ
  have hE:=oJ aA;subst hE
  try dsimp only[P0,Q0]at aD
  have hE:=oJ aD;subst hE
  exact aI rfl (cG.trans aY)
theorem c08 (h:Hp) (aW:List Value) (p0:B0) (rp0:E1.R h aW p0) (r:Bool) (aC:D00 p0=some r) :
  Tr Tryz.prog 55 #[.agg aW.toArray] h fun v h'=>v = .bool r∧h'=h:=by
 obtain⟨aD,aF,bQ,aG,aQ,rfl,rfl,aK,aH⟩:=D1 rp0
 obtain⟨rfl,bR⟩:=Sl.len aH
 unfold D00 at aC
 dsimp only at aC
 refine Tr.forget (C2 (args:=[.agg #[.int .i64 aD,.slice aF aQ.length aG]]) (fn:=Tryz.f55) rfl ?_)
 obtain⟨x1,bU,aC⟩:=j0 aC
 refine Tr.val (Z5 _ [.int .i64 aD,.slice aF aQ.length aG] (aD,aQ) (O0 aK aH) _  bU) ?_
 refine aI (fun aX=>?_) (fun aX=>?_)
 ·replace aC:=ifP aC aX
  have hE:=oJ aC;subst hE
  exact aI rfl (Sub.refl _)
 ·replace aC:=ifN aC aX
  obtain⟨x3,bV,aC⟩:=j0 aC
  refine Tr.mono (W02 _ [.int .i64 aD,.slice aF aQ.length aG] (aD,aQ) (O0 aK aH) _  bV) ?_
  rintro v5 k4 ⟨cG,cH,cI,rfl,wx3⟩
  have cJ:Sub h k4:=wx3.sub
  have aY:=wx3.r
  obtain⟨rfl,cK⟩:=Sl.len aY
  obtain⟨X6,aZ,aC⟩:=j0 aC
  refine eX { vars:=[15],boxes:=[],owns:=[],fuel:=true } (eX (fun vs os h'=>∃(u7:Int),vs.tail = [.int .i64 u7]∧os = []∧Sub k4 h'∧H0 u7∧I7 x3 (H1 vs) u7=some X6) (eX (fun _ _=>0) ?_))
  refine aI (eX N0 ⟨0,rfl,rfl,(Sub.refl _),(by decide),aZ⟩) ?_
  rintro v_0 m9 k8 ⟨u7,bA,bB,aV,iu7,aB⟩
  cases bA
  cases bB
  replace aB:I7 x3 m9 u7=some X6:=aB
  obtain _|m9:=m9
  ·cases (show(none:Option _)=some X6 from aB)
  rw[I7.eq_2]at aB
  refine aI (fun aL=>?_) (fun aL=>?_)
  ·replace aB:=ifP aB aL
   obtain⟨x11,bC,aB⟩:=j0 aB
   obtain⟨bD,bS,bE,aM⟩:=Sl.getI (r:=J0.toRp) (T1.mono aV aY) bC (by decide)
   refine aI bD ?_
   obtain⟨bF,bW,bG,rfl⟩:=Wp.slice_cell aM
   obtain⟨rfl,bX⟩:=Sl.len aM
   refine eX _ (aI bE ?_)
   obtain⟨x12,bH,aB⟩:=j0 aB
   obtain⟨qx12,vsx12,bI,fx12⟩:=Sl.cutI (r:=J0.toRp) (T1.mono aV aY) bH
   refine aI qx12 (eX vsx12 (aI bI ?_))
   intro vx12 hvx12 _
   obtain⟨bY,bZ,rfl,aR⟩:=fx12 vx12 hvx12
   have cA:=(Sl.len aR).2
   obtain⟨X13,aS,aB⟩:=j0 aB
   refine eX { vars:=[25],boxes:=[],owns:=[],fuel:=true } (eX (fun vs os h'=>∃(u14:Int),vs.tail = [.int .i64 u14]∧os = []∧Sub k8 h'∧H0 u14∧H7 x12 x11 (H1 vs) u14=some X13) (eX (fun _ _=>0) ?_))
   refine aI (eX N0 ⟨0,rfl,rfl,(Sub.refl _),(by decide),aS⟩) ?_
   rintro v_0 m16 k15 ⟨u14,aT,aU,aJ,iu14,aA⟩
   cases aT
   cases aU
   replace aA:H7 x12 x11 m16 u14=some X13:=aA
   obtain _|m16:=m16
   ·cases (show(none:Option _)=some X13 from aA)
   rw[H7.eq_2]at aA
   refine aI (fun aN=>?_) (fun aN=>?_)
   ·replace aA:=ifP aA aN
    obtain⟨x18,bJ,aA⟩:=j0 aA
    obtain⟨bK,bT,bL,aO⟩:=Sl.getI (r:=J0.toRp) (T1.mono aJ aR) bJ (by decide)
    refine aI bK ?_
    obtain⟨bM,cC,bN,rfl⟩:=Wp.slice_cell aO
    obtain⟨rfl,cD⟩:=Sl.len aO
    refine eX _ (aI bL ?_)
    obtain⟨x19,bO,aA⟩:=j0 aA
    refine Tr.val (a09 _ bF x11.length bG x11 (J0.mono aJ aM) bM x18.length bN x18 aO _  bO) ?_
    obtain⟨q20,bP,aA⟩:=j0 aA
    have cE:H0 x19:=M0 bP
    refine aI (fun aP=>?_) (fun aP=>?_)
    ·replace aA:=ifP aA aP
     have hE:=oJ aA;subst hE
     try dsimp only[G2,I2]at aB
     have hE:=oJ aB;subst hE
     try dsimp only[G2,I2]at aC
     have hE:=oJ aC;subst hE
     exact aI rfl ((cJ.trans aV).trans aJ)
    ·replace aA:=ifN aA aP
     refine aI rfl (aI (by repeat first|exact trivial|refine aI rfl ?_) (aI (by repeat first|exact trivial|refine aI rfl ?_) (eX m16 (aI ⟨(IntKind.i64.wrap (u14+1)),rfl,rfl,aJ,(I0 _),aA⟩ (nS _)))))
   ·replace aA:=ifN aA aN
    have hE:=oJ aA;subst hE
    try dsimp only[P0,Q0]at aB
    refine aI rfl (aI (by repeat first|exact trivial|refine aI rfl ?_) (aI (by repeat first|exact trivial|refine aI rfl ?_) (eX m9 (aI ⟨(IntKind.i64.wrap (u7+1)),rfl,rfl,(aV.trans aJ),(I0 _),aB⟩ (nS _)))))
  ·replace aB:=ifN aB aL
   have hE:=oJ aB;subst hE
   try dsimp only[P0,Q0]at aC
   have hE:=oJ aC;subst hE
   exact aI rfl (cJ.trans aV)
end Go.Proofs.YtcakocbgbelmeaaGreat
