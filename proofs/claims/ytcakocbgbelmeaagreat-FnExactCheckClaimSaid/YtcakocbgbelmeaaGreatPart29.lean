/- Texts of the claim, joined: The walks of batch g4 and others. -/
import Derived.Test.YtcakocbgbelmeaaGreatPart18
import Derived.Test.YtcakocbgbelmeaaGreatChecked
import Derived.Test.YtcakocbgbelmeaaGreatH35
import Derived.Test.YtcakocbgbelmeaaGreatPart26
import Derived.Test.YtcakocbgbelmeaaGreatPart28
import Derived.Test.YtcakocbgbelmeaaGreatPart21
import Derived.Test.YtcakocbgbelmeaaGreatH41
import Derived.Test.YtcakocbgbelmeaaGreatSE
import Derived.Test.YtcakocbgbelmeaaGreatPart17
import Derived.Test.YtcakocbgbelmeaaGreatH36
namespace Go.Proofs.YtcakocbgbelmeaaGreat
open Go.H
set_option linter.unusedVariables false
set_option linter.unusedSimpArgs false
set_option maxRecDepth 10000
theorem o06(h:Hp)(cC:List Value)(p0:j0)(rp0:W0.R h cC p0)(r:j0×C0)(aC:z7 p0=some r):
  Tr Tryz.prog 137 #[.agg cC.toArray] h fun v h'=>∃(cs0:List Value) (a1:Option Addr) (n1 c1:Nat),v = .tuple #[.agg cs0.toArray,.slice a1 n1 c1]∧New W0 h h' cs0 r.1∧J0.R h' [.slice a1 n1 c1] r.2:=by
 obtain⟨aG,aF,aH,cT,aJ,bE,rfl,rfl,aM,aN,aK⟩:=B0 rp0
 obtain⟨rfl,cU⟩:=Sl.len aK
 unfold z7 at aC
 dsimp only at aC
 refine Y1 (args:=[.agg #[.int .i64 aG,.int .i64 aF,.slice aH bE.length aJ]]) (fn:=Tryz.f137) rfl ?_
 obtain⟨x1,dA,aC⟩:=l0 aC
 refine Tr.mono (K7 _ [.int .i64 aG,.int .i64 aF,.slice aH bE.length aJ] (aG,aF,bE) (z0 aM aN aK) _  dA) ?_
 rintro v3 k2 ⟨aO,cV,aP,rfl,wx1⟩
 have dB:Sub h k2:=wx1.sub
 have cW:=wx1.r
 obtain⟨bF,bG,cD⟩:=x1
 dsimp only at aC wx1 cW
 obtain⟨_,_,_,_,_,_,ecx1,exx1,aQ,aR,bH⟩:=B0 cW
 cases ecx1
 cases exx1
 obtain⟨rfl,cX⟩:=Sl.len bH
 try dsimp only at aC
 have we4:=New.sndI (New.sndI (wx1))
 obtain⟨x5,dC,aC⟩:=l0 aC
 refine Tr.val (N00 _ [.int .i64 aG,.int .i64 aF,.slice aH bE.length aJ] (aG,aF,bE) (z0 aM aN (F0.mono dB aK)) _  dC) ?_
 refine aI (fun cE=>?_) (fun cE=>?_)
 ·replace aC:=ifP aC cE
  intro v7 k8 f9
  obtain⟨az10,cz10,rfl,rz10,sz10,lz10⟩:=Z0.out (r:=Wp.int.toRp) f9 (show F2 (Wp.int.R k2) ([]:List (List Value)) ([]:C0) from trivial)
  have hE:=oJ aC;subst hE
  exact⟨([.int .i64 bF,.int .i64 bG,.slice (some ⟨aO,0,none⟩) cD.length aP]),az10,(([]:C0)).length,cz10,rfl,(New.pair (New.int aQ) (New.pair (New.int aR) (New.mono we4 sz10))),rz10⟩
 ·replace aC:=ifN aC cE
  obtain⟨X11,bI,aC⟩:=l0 aC
  refine eX { vars:=[6],boxes:=[],owns:=[0],fuel:=true } (eX (fun vs os h'=>∃(u12:Int) (wu13:List (List Value)) (u13:List Int),vs.tail = [.int .i64 u12]∧os = [wu13]∧Sub k2 h'∧M0 u12∧F2 (Wp.int.R h') wu13 u13∧i6 aF (K1 vs) u12 u13=some X11) (eX (fun _ _=>0) ?_))
  refine aI (eX S0 ⟨0,[],([]:C0),rfl,rfl,(Sub.refl _),(by decide),(show F2 (Wp.int.R k2) ([]:List (List Value)) ([]:C0) from trivial),bI⟩) ?_
  rintro v_0 wu13 m15 k14 ⟨u12,zzu13,u13,bJ,bK,aS,iu12,fu13,aA⟩
  cases bJ
  cases bK
  replace aA:i6 aF m15 u12 u13=some X11:=aA
  obtain _|m15:=m15
  ·cases (show(none:Option _)=some X11 from aA)
  rw[i6.eq_2]at aA
  refine aI (fun aT=>?_) (fun aT=>?_)
  ·replace aA:=ifP aA aT
   obtain⟨q17,cG,aA⟩:=l0 aA
   refine aI (L1 cG (by first|rw[F2.length fu13,F2.length (show F2 (Wp.int.R k14) ([[.int .i64 u12]]:List (List Value)) [u12] from⟨⟨rfl,iu12⟩,trivial⟩)]|exact congrArg (·+1) (F2.length fu13))) ?_
   refine aI rfl (aI (by trivial) (aI (by trivial) (eX m15 (aI ⟨(IntKind.i64.wrap (u12+1)),(wu13++([[.int .i64 u12]]:List (List Value))),(u13 ++ [u12]),rfl,rfl,aS,(N0 _),(F2.append fu13 (show F2 (Wp.int.R k14) ([[.int .i64 u12]]:List (List Value)) [u12] from⟨⟨rfl,iu12⟩,trivial⟩)),aA⟩ (nS _)))))
  ·replace aA:=ifN aA aT
   have hE:=oJ aA;subst hE
   try dsimp only[T0,V0]at aC
   obtain⟨X22,bL,aC⟩:=l0 aC
   refine eX { vars:=[5],boxes:=[2],owns:=[],fuel:=true,pubs:=[5] } (eX (fun vs os h'=>∃(au23:Option Addr) (nu23 cu23:Nat) (u23:C0) (u24:Int) (u25:Int) (au26:Option Addr) (nu26 cu26:Nat) (u26:I0),vs.tail = [.slice au23 nu23 cu23,.int .i64 u24,.int .i64 u25,.slice au26 nu26 cu26]∧os = []∧Sub h h'∧New J0 h h' [.slice au23 nu23 cu23] u23∧M0 u24∧M0 u25∧New F0 h h' [.slice au26 nu26 cu26] u26∧D5 (K1 vs) u23 u24 u25 u26=some X22) (eX (fun _ _=>0) ?_))
   intro v18 k19 f20
   obtain⟨az21,cz21,rfl,rz21,sz21,lz21⟩:=Z0.out (r:=Wp.int.toRp) f20 fu13
   refine aI (eX S0 ⟨az21,u13.length,cz21,u13,bF,bG,(some ⟨aO,0,none⟩),cD.length,aP,cD,rfl,rfl,((dB.trans aS).trans sz21),(New.from (Z0.newPlain (r:=Wp.int) f20 fu13 (a06 _)) (dB.trans aS)),aQ,aR,(New.mono we4 (aS.trans sz21)),bL⟩) ?_
   rintro v_0 v_1 v_2 v_3 m28 k27 ⟨au23,nu23,cu23,u23,u24,u25,au26,nu26,cu26,u26,bM,bN,dD,wwu23,iu24,iu25,wwu26,aA⟩
   cases bM
   cases bN
   replace aA:D5 m28 u23 u24 u25 u26=some X22:=aA
   obtain _|m28:=m28
   ·cases (show(none:Option _)=some X22 from aA)
   rw[D5.eq_2]at aA
   have ru23:=wwu23.r
   obtain⟨rfl,lu23⟩:=Sl.len ru23
   have ru26:=wwu26.r
   obtain⟨rfl,lu26⟩:=Sl.len ru26
   obtain⟨x29,cH,aA⟩:=l0 aA
   refine Tr.mono (E08 _ [.int .i64 u24,.int .i64 u25,.slice au26 u26.length cu26] (u24,u25,u26) (z0 iu24 iu25 ru26) 0 (by decide) _  cH) ?_
   rintro v31 k30 ⟨dE,dF,dG,rfl,bO,dH⟩
   obtain⟨rfl,dI⟩:=Sl.len bO
   obtain⟨X32,bP,aA⟩:=l0 aA
   refine eX { vars:=[8,9],boxes:=[],owns:=[],fuel:=true } (eX (fun vs os h'=>∃(u33:Int) (u34:Int),vs.tail = [.int .i64 u33,.int .i64 u34]∧os = []∧Sub k30 h'∧M0 u33∧M0 u34∧M3 u25 u24 u26 x29 (K1 vs) u33 u34=some X32) (eX (fun _ _=>0) ?_))
   refine aI (eX S0 ⟨0,1,rfl,rfl,(Sub.refl _),(by decide),(by decide),bP⟩) ?_
   rintro v_0 v_1 m36 k35 ⟨u33,u34,bQ,bR,aD,iu33,iu34,aB⟩
   cases bQ
   cases bR
   replace aB:M3 u25 u24 u26 x29 m36 u33 u34=some X32:=aB
   obtain _|m36:=m36
   ·cases (show(none:Option _)=some X32 from aB)
   rw[M3.eq_2]at aB
   refine aI (fun aU=>?_) (fun aU=>?_)
   ·replace aB:=ifP aB aU
    obtain⟨x38,cI,aB⟩:=l0 aB
    refine Tr.val (Z0c _ [.int .i64 u24,.int .i64 u25,.slice au26 u26.length cu26] (u24,u25,u26) (z0 iu24 iu25 (F0.mono (dH.trans aD) ru26)) u34 iu34 _  cI) ?_
    obtain⟨q39,cJ,aB⟩:=l0 aB
    have dJ:M0 x38:=O1 cJ
    obtain⟨x40,cK,aB⟩:=l0 aB
    obtain⟨cY,bS,cL⟩:=Sl.getG (r:=Wp.bool.toRp) ((Wp.slice Wp.bool).mono aD bO) cK (by decide) (p0o k35)
    refine aI (fun q=>(bS q).1) ?_
    obtain rfl:=cL
    refine eX _ (aI (fun q=>(bS q).2) ?_)
    refine aI (fun aV=>?_) (fun aV=>?_)
    ·replace aB:=ifP aB aV
     refine aI rfl (aI (by trivial) (aI (by trivial) (eX m36 (aI ⟨u34,(IntKind.i64.wrap (u34+1)),rfl,rfl,aD,iu34,(N0 _),aB⟩ (nS _)))))
    ·replace aB:=ifN aB aV
     refine aI rfl (aI (by trivial) (aI (by trivial) (eX m36 (aI ⟨u33,(IntKind.i64.wrap (u34+1)),rfl,rfl,aD,iu33,(N0 _),aB⟩ (nS _)))))
   ·replace aB:=ifN aB aU
    have hE:=oJ aB;subst hE
    try dsimp only[T0,V0]at aA
    refine aI (fun aW=>?_) (fun aW=>?_)
    ·replace aA:=ifP aA aW
     have hE:=oJ aA;subst hE
     try dsimp only[S3,W3]at aC
     have hE:=oJ aC;subst hE
     exact⟨([.int .i64 u24,.int .i64 u25,.slice au26 u26.length cu26]),au23,u23.length,cu23,rfl,(New.pair (New.int iu24) (New.pair (New.int iu25) (New.mono wwu26 (dH.trans aD)))),(J0.mono (dH.trans aD) ru23)⟩
    ·replace aA:=ifN aA aW
     obtain⟨X43,bT,aA⟩:=l0 aA
     refine eX { vars:=[11],boxes:=[],owns:=[1],fuel:=true } (eX (fun vs os h'=>∃(u44:Int) (wu45:List (List Value)) (u45:List Int),vs.tail = [.int .i64 u44]∧os = [wu45]∧Sub k35 h'∧M0 u44∧F2 (Wp.int.R h') wu45 u45∧C5 u25 u33 (K1 vs) u44 u45=some X43) (eX (fun _ _=>0) ?_))
     refine aI (eX S0 ⟨0,[],([]:C0),rfl,rfl,(Sub.refl _),(by decide),(show F2 (Wp.int.R k35) ([]:List (List Value)) ([]:C0) from trivial),bT⟩) ?_
     rintro v_0 wu45 m47 k46 ⟨u44,zzu45,u45,bU,bV,aL,iu44,fu45,aB⟩
     cases bU
     cases bV
     replace aB:C5 u25 u33 m47 u44 u45=some X43:=aB
     obtain _|m47:=m47
     ·cases (show(none:Option _)=some X43 from aB)
     rw[C5.eq_2]at aB
     refine aI (fun aX=>?_) (fun aX=>?_)
     ·replace aB:=ifP aB aX
      refine aI (fun aY=>?_) (fun aY=>?_)
      ·replace aB:=ifP aB aY
       obtain⟨q50,cM,aB⟩:=l0 aB
       refine aI (L1 cM (by first|rw[F2.length fu45,F2.length (show F2 (Wp.int.R k46) ([[.int .i64 u44]]:List (List Value)) [u44] from⟨⟨rfl,iu44⟩,trivial⟩)]|exact congrArg (·+1) (F2.length fu45))) ?_
       refine aI rfl (aI (by trivial) (aI (by trivial) (eX m47 (aI ⟨(IntKind.i64.wrap (u44+1)),(wu45++([[.int .i64 u44]]:List (List Value))),(u45 ++ [u44]),rfl,rfl,aL,(N0 _),(F2.append fu45 (show F2 (Wp.int.R k46) ([[.int .i64 u44]]:List (List Value)) [u44] from⟨⟨rfl,iu44⟩,trivial⟩)),aB⟩ (nS _)))))
      ·replace aB:=ifN aB aY
       refine aI rfl (aI (by trivial) (aI (by trivial) (eX m47 (aI ⟨(IntKind.i64.wrap (u44+1)),wu45,u45,rfl,rfl,aL,(N0 _),fu45,aB⟩ (nS _)))))
     ·replace aB:=ifN aB aX
      have hE:=oJ aB;subst hE
      try dsimp only[T0,V0]at aA
      refine Or.inl ?_
      intro v51 k52 f53
      obtain⟨az54,cz54,rfl,rz54,sz54,lz54⟩:=Z0.out (r:=Wp.int.toRp) f53 fu45
      obtain⟨x55,cN,aA⟩:=l0 aA
      refine Tr.mono (c08 _ [.int .i64 u24,.int .i64 u25,.slice au26 u26.length cu26] (u24,u25,u26) (z0 iu24 iu25 (F0.mono (((dH.trans aD).trans aL).trans sz54) ru26)) az54 u45.length cz54 u45 rz54 _  cN) ?_
      rintro v57 k56 ⟨cZ,rfl,wx55⟩
      have cO:Sub k52 k56:=wx55.sub
      have cP:=wx55.r
      obtain⟨bW,bX,aZ,cQ,bA,bY,rfl,rfl,bB,bC,bD⟩:=B0 cP
      obtain⟨rfl,cR⟩:=Sl.len bD
      try dsimp only at aA
      have we58:=New.sndI (New.sndI (wx55))
      obtain⟨x61,bZ,aA⟩:=l0 aA
      obtain⟨x62,cA,aA⟩:=l0 aA
      obtain⟨q63,cS,aA⟩:=l0 aA
      obtain⟨qaz64,baz64,eaz64,gz64,oz64,Az64,Cz64,usz64,vsz64,eqz64,qbz64,bbz64,lcz64,mcz64,rxz64,sxz64,luz64,lvz64,apz64⟩:=New.drop wwu23 ((((dH.trans aD).trans aL).trans sz54).trans cO) bZ cA (R0q lu23 bZ cA)
      subst eqz64
      refine Or.inr (Or.inr (Or.inl (aI (aI (by kernel_rfl) (by kernel_rfl)) ?_)))
      refine Or.inl (eX (.val (.slice (some ⟨gz64,oz64,none⟩) x61.length cu23)) (aI ?_ ?_))
      ·intro hh sb
       obtain⟨vs,e⟩:=eaz64 hh sb
       exact aI baz64 (eX vs (aI e (fun v _ hv=>aI (congrArg AV.val (qaz64 v hv)) (aI rfl rfl))))
      refine Or.inl (eX (.val (.int .i64 (IntKind.i64.wrap (u33+1)))) (aI ?_ ?_))
      ·intro k59 s60
       exact aI rfl (aI rfl rfl)
      refine Or.inl (eX (.val (.slice Az64 x62.length Cz64)) (aI ?_ ?_))
      ·intro hh sb
       obtain⟨vs,e⟩:=eaz64 hh sb
       exact aI bbz64 (eX vs (aI e (fun v _ hv=>aI (congrArg AV.val (qbz64 v hv)) (aI rfl rfl))))
      refine Or.inr ?_
      refine Or.inl (eX 0 (aI (aI rfl rfl) ?_))
      refine eX vsz64 (aI sxz64 (eX usz64 (aI rxz64 (aI (L1 cS (by rw[luz64,lvz64])) ?_))))
      intro vz64 kz64 happz64
      obtain⟨wz64,⟨az64,nz64,cz64,rfl⟩,kpz64⟩:=apz64 _ _ happz64
      have rz64:=wz64.r
      obtain⟨ez64,lz64⟩:=Sl.len rz64
      subst ez64
      refine aI trivial (aI (by first|exact trivial|exact rfl) ?_)
      have wy65:=kpz64 P0.slice _ _ _ we58 (((dH.trans aD).trans aL).trans sz54)
      refine aI rfl (aI (by trivial) (aI (by trivial) (eX m28 (aI ⟨az64,(x61++x62).length,cz64,(x61++x62),bW,bX,aZ,bY.length,bA,bY,rfl,rfl,wz64.sub,wz64,bB,bC,wy65,aA⟩ (nS _)))))
theorem G9(h:Hp)(bH:List Value)(p0:j0)(rp0:W0.R h bH p0)(r:Bool)(aB:L5 p0=some r):
  Tr Tryz.prog 74 #[.agg bH.toArray] h fun v h'=>v = .bool r∧h'=h:=by
 obtain⟨aC,aA,aD,bO,aF,aN,rfl,rfl,aH,aJ,aG⟩:=B0 rp0
 obtain⟨rfl,bP⟩:=Sl.len aG
 unfold L5 at aB
 dsimp only at aB
 refine Tr.forget (Y1 (args:=[.agg #[.int .i64 aC,.int .i64 aA,.slice aD aN.length aF]]) (fn:=Tryz.f74) rfl ?_)
 obtain⟨x1,bX,aB⟩:=l0 aB
 refine Tr.val (f00 _ [.int .i64 aC,.int .i64 aA,.slice aD aN.length aF] (aC,aA,aN) (z0 aH aJ aG) _  bX) ?_
 refine aI (fun bI=>?_) (fun bI=>?_)
 ·replace aB:=ifP aB bI
  have hE:=oJ aB;subst hE
  exact aI rfl (Sub.refl _)
 ·replace aB:=ifN aB bI
  obtain⟨x3,bY,aB⟩:=l0 aB
  refine Tr.mono (o06 _ [.int .i64 aC,.int .i64 aA,.slice aD aN.length aF] (aC,aA,aN) (z0 aH aJ aG) _  bY) ?_
  rintro v5 k4 ⟨bJ,bQ,bR,bS,rfl,aY,aR⟩
  obtain⟨bZ,cA⟩:=x3
  dsimp only at aB aY aR
  have cG:Sub h k4:=aY.sub
  have aZ:=aY.r
  obtain⟨bK,aS,bB,bC,bD,bL,rfl,rfl,bE,bF,aO⟩:=B0 aZ
  obtain⟨rfl,bG⟩:=Sl.len aO
  try dsimp only at aB
  obtain⟨rfl,bT⟩:=Sl.len aR
  refine Or.inr (Or.inr (Or.inr (Or.inl (aI (aI (by kernel_rfl) (by kernel_rfl)) ?_))))
  refine Or.inl (eX (.val (.bool (decide (aS=aA)))) (aI ?_ ?_))
  ·intro k6 s7
   exact aI rfl (aI rfl rfl)
  obtain⟨x8,cC,aB⟩:=l0 aB
  obtain⟨aP,aQ,bA⟩:=x8
  try dsimp only at aB
  refine Or.inr (eX (fun v hh=>∃(aK:Option Addr) (aL:Nat),v = .agg #[.int .i64 aP,.int .i64 aQ,.slice aK bA.length aL]∧M0 aP∧M0 aQ∧F0.R hh [.slice aK bA.length aL] bA∧bA.length≤9223372036854775807) (aI (fun v h1 h2 sb q=>by obtain⟨aK,aL,e,f0,f1,f2,f3⟩:=q;exact⟨aK,aL,e,f0,f1,F0.mono sb f2,f3⟩) (aI ?_ ?_)))
  ·intro k9 s10 hq
   refine Tr.mono (n03 _ [.int .i64 aC,.int .i64 aA,.slice aD aN.length aF] (aC,aA,aN) (z0 aH aJ (F0.mono (cG.trans s10) aG)) _ (F1 cC hq)) ?_
   rintro _ kk ⟨cD,rfl,wx8⟩
   have sb:=wx8.sub
   have cE:=wx8.r
   obtain⟨bU,bV,aT,bM,aU,bW,rfl,ey,aV,aW,aM⟩:=B0 cE
   cases ey
   obtain⟨rfl,aX⟩:=Sl.len aM
   exact aI c8 (aI sb ⟨aT,aU,rfl,aV,aW,aM,aX⟩)
  obtain⟨x11,bN,aB⟩:=l0 aB
  refine Or.inl (eX (.val (.bool x11)) (aI ?_ ?_))
  ·intro k12 s13 hq
   rintro _ ⟨az142,cz142,rfl,iz140,iz141,rz142,lz142⟩
   exact Tr.val (W04 _ [.int .i64 aP,.int .i64 aQ,.slice az142 bA.length cz142] (aP,aQ,bA) (z0 iz140 iz141 rz142) [.int .i64 aC,.int .i64 aA,.slice aD aN.length aF] (aC,aA,aN) (z0 aH aJ (F0.mono (cG.trans s13) aG)) _ (F1 bN hq)) (aI rfl (aI rfl rfl))
  intro k15 s16
  have hE:=oJ aB;subst hE
  exact aI rfl (cG.trans s16)
theorem d08(h:Hp)(p0:Int)(ip0:M0 p0)(p1:Int)(ip1:M0 p1)(p2:Int)(ip2:M0 p2)(r:H0)(aA:O01 p0 p1 p2=some r):
  Tr Tryz.prog 156 #[.int .i64 p0,.int .i64 p1,.int .i64 p2] h fun v h'=>∃(cs0:List Value),v = .agg cs0.toArray∧P0.R h' cs0 r∧Sub h h':=by
 unfold O01 at aA
 refine Y1 (args:=[.int .i64 p0,.int .i64 p1,.int .i64 p2]) (fn:=Tryz.f156) rfl ?_
 refine aI (fun aB=>?_) (fun aB=>?_)
 ·replace aA:=ifP aA aB
  have hE:=oJ aA;subst hE
  exact⟨([.int .i64 p2,.int .i64 (IntKind.i64.wrap (0-p1)),.int .i64 p0]),rfl,(D1 ip2 (N0 _) ip0),(Sub.refl _)⟩
 ·replace aA:=ifN aA aB
  have hE:=oJ aA;subst hE
  exact⟨([.int .i64 p0,.int .i64 p1,.int .i64 p2]),rfl,(D1 ip0 ip1 ip2),(Sub.refl _)⟩
theorem k02(h:Hp)(ap0:Option Addr)(np0 cp0:Nat)(p0:I0)(rp0:F0.R h [.slice ap0 np0 cp0] p0)(aH:List Value)(p1:H0)(rp1:P0.R h aH p1)(r:Int)(aF:H4 p0 p1=some r):
  Tr Tryz.prog 155 #[.slice ap0 np0 cp0,.agg aH.toArray] h fun v h'=>v = .int .i64 r∧h'=h:=by
 obtain⟨rfl,lp0⟩:=Sl.len rp0
 obtain⟨aB,aC,aD,rfl,rfl,aR,aS,aT⟩:=I1 rp1
 unfold H4 at aF
 dsimp only at aF
 refine Tr.forget (Y1 (args:=[.slice ap0 p0.length cp0,.agg #[.int .i64 aB,.int .i64 aC,.int .i64 aD]]) (fn:=Tryz.f155) rfl ?_)
 obtain⟨X1,aJ,aF⟩:=l0 aF
 refine eX { vars:=[8],boxes:=[],owns:=[],fuel:=true } (eX (fun vs os h'=>∃(u2:Int),vs.tail = [.int .i64 u2]∧os = []∧Sub h h'∧M0 u2∧M1 p0 aB aC aD (K1 vs) u2=some X1) (eX (fun _ _=>0) ?_))
 refine aI (eX S0 ⟨0,rfl,rfl,(Sub.refl _),(by decide),aJ⟩) ?_
 rintro v_0 m4 k3 ⟨u2,aK,aL,aG,iu2,aA⟩
 cases aK
 cases aL
 replace aA:M1 p0 aB aC aD m4 u2=some X1:=aA
 obtain _|m4:=m4
 ·cases (show(none:Option _)=some X1 from aA)
 rw[M1.eq_2]at aA
 refine aI (fun aM=>?_) (fun aM=>?_)
 ·replace aA:=ifP aA aM
  refine Or.inl (aI (aI (by kernel_rfl) (by kernel_rfl)) ?_)
  obtain⟨x6,aX,aA⟩:=l0 aA
  obtain⟨aY,aZ,bA,bB⟩:=Sl.getI (r:=P0.toRp) (F0.mono aG rp0) aX (by decide)
  refine aI aY ?_
  obtain⟨aN,aO,aP,rfl,rfl,aU,aV,aW⟩:=I1 bB
  try dsimp only at aA
  refine eX _ (aI bA ?_)
  refine eX (eqE (aB,aC,aD) (aN,aO,aP)) (aI (r0d _ _ _ rfl _ _ _ _ _ _) ?_)
  refine aI (fun aQ=>?_) (fun aQ=>?_)
  ·replace aA:=ifP aA aQ
   have hE:=oJ aA;subst hE
   try dsimp only[S3,W3]at aF
   have hE:=oJ aF;subst hE
   exact aI rfl aG
  ·replace aA:=ifN aA aQ
   refine aI rfl (aI (by trivial) (aI (by trivial) (eX m4 (aI ⟨(IntKind.i64.wrap (u2+1)),rfl,rfl,aG,(N0 _),aA⟩ (nS _)))))
 ·replace aA:=ifN aA aM
  have hE:=oJ aA;subst hE
  try dsimp only[T0,V0]at aF
  have hE:=oJ aF;subst hE
  exact aI rfl aG
theorem w01(h:Hp)(ap0:Option Addr)(np0 cp0:Nat)(p0:I0)(rp0:F0.R h [.slice ap0 np0 cp0] p0)(aJ:List Value)(p1:H0)(rp1:P0.R h aJ p1)(r:Bool)(aA:U2 p0 p1=some r):
  Tr Tryz.prog 195 #[.slice ap0 np0 cp0,.agg aJ.toArray] h fun v h'=>v = .bool r∧h'=h:=by
 obtain⟨rfl,lp0⟩:=Sl.len rp0
 obtain⟨aB,aC,aD,rfl,rfl,aF,aG,aH⟩:=I1 rp1
 unfold U2 at aA
 dsimp only at aA
 refine Tr.forget (Y1 (args:=[.slice ap0 p0.length cp0,.agg #[.int .i64 aB,.int .i64 aC,.int .i64 aD]]) (fn:=Tryz.f195) rfl ?_)
 obtain⟨x1,aK,aA⟩:=l0 aA
 refine Tr.val (k02 _ ap0 p0.length cp0 p0 rp0 [.int .i64 aB,.int .i64 aC,.int .i64 aD] (aB,aC,aD) (D1 aF aG aH) _  aK) ?_
 obtain⟨q2,aL,aA⟩:=l0 aA
 have aM:M0 x1:=O1 aL
 have hE:=oJ aA;subst hE
 exact aI rfl (Sub.refl _)
theorem h03(h:Hp)(p0:Int)(ip0:M0 p0)(bp1:Nat)(typ1:TypeId)(aC:Int)(aG:M0 aC)(aB:Int)(aH:M0 aB)(hbp1:h bp1=some (.cells #[.int .i64 aC,.int .i64 aB] typ1 (0,0)))(r:Int)(aA:B6 p0 (aC,aB)=some r):
  Tr Tryz.prog 270 #[.int .i64 p0,ptr bp1 0] h fun v h'=>v = .int .i64 r∧h'=h:=by
 unfold B6 at aA
 dsimp only at aA
 refine Tr.forget (Y1 (args:=[.int .i64 p0,ptr bp1 0]) (fn:=Tryz.f270) rfl ?_)
 refine eX (.int .i64 aB) (aI ⟨rfl,by simp[Hp.cell,(hbp1)]⟩ ?_)
 refine aI (fun aD=>?_) (fun aD=>?_)
 ·replace aA:=ifP aA aD
  refine eX (.int .i64 aC) (aI ⟨rfl,by simp[Hp.cell,(hbp1)]⟩ ?_)
  have hE:=oJ aA;subst hE
  exact aI rfl (Sub.refl _)
 ·replace aA:=ifN aA aD
  refine eX (.int .i64 aB) (aI ⟨rfl,by simp[Hp.cell,(hbp1)]⟩ ?_)
  refine aI (fun aF=>?_) (fun aF=>?_)
  ·replace aA:=ifP aA aF
   have hE:=oJ aA;subst hE
   exact aI rfl (Sub.refl _)
  ·replace aA:=ifN aA aF
   have hE:=oJ aA;subst hE
   exact aI rfl (Sub.refl _)
theorem e08(h:Hp)(bP:List Value)(p0:j0)(rp0:W0.R h bP p0)(p1:Int)(ip1:M0 p1)(ap2:Option Addr)(np2 cp2:Nat)(p2:C0)(rp2:J0.R h [.slice ap2 np2 cp2] p2)(p3:Int)(ip3:M0 p3)(r:j0×Bool)(aB:H00 p0 p1 p2 p3=some r):
  Tr Tryz.prog 198 #[.agg bP.toArray,.int .i64 p1,.slice ap2 np2 cp2,.int .i64 p3] h fun v h'=>∃(cs0:List Value),v = .tuple #[.agg cs0.toArray,.bool r.2]∧New W0 h h' cs0 r.1:=by
 obtain⟨aC,aL,aM,cI,aN,aX,rfl,rfl,aO,aQ,aP⟩:=B0 rp0
 obtain⟨rfl,cJ⟩:=Sl.len aP
 obtain⟨rfl,lp2⟩:=Sl.len rp2
 unfold H00 at aB
 dsimp only at aB
 refine Y1 (args:=[.agg #[.int .i64 aC,.int .i64 aL,.slice aM aX.length aN],.int .i64 p1,.slice ap2 p2.length cp2,.int .i64 p3]) (fn:=Tryz.f198) rfl ?_
 obtain⟨x1,cQ,aB⟩:=l0 aB
 refine Tr.mono (K7 _ [.int .i64 aC,.int .i64 aL,.slice aM aX.length aN] (aC,aL,aX) (z0 aO aQ aP) _  cQ) ?_
 rintro v3 k2 ⟨aY,cK,aZ,rfl,wx1⟩
 have bE:Sub h k2:=wx1.sub
 have cL:=wx1.r
 obtain⟨bF,bG,bQ⟩:=x1
 dsimp only at aB wx1 cL
 obtain⟨_,_,_,_,_,_,ecx1,exx1,bA,bB,bH⟩:=B0 cL
 cases ecx1
 cases exx1
 obtain⟨rfl,cM⟩:=Sl.len bH
 try dsimp only at aB
 have we4:=New.sndI (New.sndI (wx1))
 obtain⟨x5,cR,aB⟩:=l0 aB
 refine Tr.val (N00 _ [.int .i64 aC,.int .i64 aL,.slice aM aX.length aN] (aC,aL,aX) (z0 aO aQ (F0.mono bE aP)) _  cR) ?_
 obtain⟨x6,cS,aB⟩:=l0 aB
 refine eX (.bool x6) (aI (fun q=>M00 _ [.int .i64 aC,.int .i64 aL,.slice aM aX.length aN] (aC,aL,aX) (z0 aO aQ (F0.mono bE aP)) p1 ip1 _  (F1 cS q)) ?_)
 obtain⟨x7,cT,aB⟩:=l0 aB
 refine eX (.bool x7) (aI (fun q=>M00 _ [.int .i64 aC,.int .i64 aL,.slice aM aX.length aN] (aC,aL,aX) (z0 aO aQ (F0.mono bE aP)) p3 ip3 _  (F1 cT q)) ?_)
 obtain⟨x8,cU,aB⟩:=l0 aB
 refine eX (.bool x8) (aI (fun q=>G03 _ aC aO ap2 p2.length cp2 p2 (J0.mono bE rp2) _  (F1 cU q)) ?_)
 refine aI (fun bR=>?_) (fun bR=>?_)
 ·replace aB:=ifP aB bR
  have hE:=oJ aB;subst hE
  exact⟨([.int .i64 bF,.int .i64 bG,.slice (some ⟨aY,0,none⟩) bQ.length aZ]),rfl,(New.pair (New.int bA) (New.pair (New.int bB) we4))⟩
 ·replace aB:=ifN aB bR
  obtain⟨X10,bI,aB⟩:=l0 aB
  refine eX { vars:=[11,66],boxes:=[2],owns:=[],fuel:=true } (eX (fun vs os h'=>∃(u11:Int) (u12:Int) (u13:Int) (u14:Int) (gau15 oau15 nu15 cu15:Nat) (u15:I0),vs.tail = [.int .i64 u11,.int .i64 u12,.int .i64 u13,.int .i64 u14,.slice (some ⟨gau15,oau15,none⟩) nu15 cu15]∧os = []∧Sub h h'∧M0 u11∧M0 u12∧M0 u13∧M0 u14∧New F0 h h' [.slice (some ⟨gau15,oau15,none⟩) nu15 cu15] u15∧C6 p2 p3 (K1 vs) u11 u12 u13 u14 u15=some X10) (eX (fun _ _=>0) ?_))
  refine aI (eX S0 ⟨p1,0,bF,bG,aY,0,bQ.length,aZ,bQ,rfl,rfl,bE,ip1,(by decide),bA,bB,we4,bI⟩) ?_
  rintro v_0 v_1 v_2 v_3 v_4 m17 k16 ⟨u11,u12,u13,u14,gau15,oau15,nu15,cu15,u15,bJ,bK,bL,iu11,iu12,iu13,iu14,wwu15,aA⟩
  cases bJ
  cases bK
  replace aA:C6 p2 p3 m17 u11 u12 u13 u14 u15=some X10:=aA
  obtain _|m17:=m17
  ·cases (show(none:Option _)=some X10 from aA)
  rw[C6.eq_2]at aA
  have ru15:=wwu15.r
  obtain⟨rfl,lu15⟩:=Sl.len ru15
  refine aI (fun bC=>?_) (fun bC=>?_)
  ·replace aA:=ifP aA bC
   obtain⟨x19,bS,aA⟩:=l0 aA
   obtain⟨bT,cN,bU,bV⟩:=Sl.getI (r:=Wp.int.toRp) (J0.mono bL rp2) bS (by decide)
   refine aI bT ?_
   obtain⟨rfl,bM⟩:=bV
   refine eX _ (aI bU ?_)
   refine aI (fun bD=>?_) (fun bD=>?_)
   ·replace aA:=ifP aA bD
    refine Or.inr (Or.inr (Or.inl (aI (aI (by kernel_rfl) (by kernel_rfl)) ?_)))
    refine Or.inr ?_
    refine Or.inr ?_
    refine Or.inr ?_
    refine Or.inr ?_
    refine Or.inl (eX 1 (aI (aI rfl rfl) ?_))
    obtain⟨x21,bW,aA⟩:=l0 aA
    refine Tr.mono (d08 _ u11 iu11 x19 bM u14 iu14 _  bW) ?_
    rintro v23 k22 ⟨cO,rfl,bX,bN⟩
    obtain⟨aD,aF,aG,rfl,rfl,aR,aS,aT⟩:=I1 bX
    try dsimp only at aA
    refine aI (aI rfl bN) (aI (by first|exact trivial|exact rfl) ?_)
    refine aI trivial (aI (by first|exact trivial|exact rfl) ?_)
    obtain⟨q24,bY,aA⟩:=l0 aA
    obtain⟨vsz25,rxz25,lnz25,apz25⟩:=New.app wwu15 bN
    refine eX vsz25 (aI rxz25 (aI (L1 bY (by first|rw[lnz25,F2.length (show F2 (P0.R k22) ([[.int .i64 aD,.int .i64 aF,.int .i64 aG]]:List (List Value)) [(aD,aF,aG)] from⟨(D1 aR aS aT),trivial⟩)]|(rw[lnz25];rfl))) ?_))
    intro vz25 kz25 happz25
    obtain⟨wz25,gz25,oz25,nz25,cz25,rfl⟩:=apz25 _ _ _ _ _ (F3.ofPlain (D09 _) (show F2 (P0.R k22) ([[.int .i64 aD,.int .i64 aF,.int .i64 aG]]:List (List Value)) [(aD,aF,aG)] from⟨(D1 aR aS aT),trivial⟩)) d7.ofPlain happz25
    have rz25:=wz25.r
    obtain⟨ez25,lz25⟩:=Sl.len rz25
    subst ez25
    refine aI trivial (aI (by first|exact trivial|exact rfl) ?_)
    refine aI trivial (aI (by first|exact trivial|exact rfl) ?_)
    refine aI rfl (aI (by trivial) (aI (by trivial) (eX m17 (aI ⟨u14,(IntKind.i64.wrap (u12+1)),u13,(IntKind.i64.wrap (u14+1)),gz25,oz25,(u15 ++ [(aD,aF,aG)]).length,cz25,(u15 ++ [(aD,aF,aG)]),rfl,rfl,wz25.sub,iu14,(N0 _),iu13,(N0 _),wz25,aA⟩ (nS _)))))
   ·replace aA:=ifN aA bD
    refine Or.inr (Or.inr (Or.inl (aI (aI (by kernel_rfl) (by kernel_rfl)) ?_)))
    refine Or.inr ?_
    refine Or.inr ?_
    refine Or.inr ?_
    refine Or.inr ?_
    refine Or.inl (eX 1 (aI (aI rfl rfl) ?_))
    obtain⟨x26,bZ,aA⟩:=l0 aA
    refine Tr.mono (d08 _ u11 iu11 x19 bM p3 ip3 _  bZ) ?_
    rintro v28 k27 ⟨cP,rfl,cA,bO⟩
    obtain⟨aH,aJ,aK,rfl,rfl,aU,aV,aW⟩:=I1 cA
    try dsimp only at aA
    refine aI (aI rfl bO) (aI (by first|exact trivial|exact rfl) ?_)
    refine aI trivial (aI (by first|exact trivial|exact rfl) ?_)
    obtain⟨q29,cC,aA⟩:=l0 aA
    obtain⟨vsz30,rxz30,lnz30,apz30⟩:=New.app wwu15 bO
    refine eX vsz30 (aI rxz30 (aI (L1 cC (by first|rw[lnz30,F2.length (show F2 (P0.R k27) ([[.int .i64 aH,.int .i64 aJ,.int .i64 aK]]:List (List Value)) [(aH,aJ,aK)] from⟨(D1 aU aV aW),trivial⟩)]|(rw[lnz30];rfl))) ?_))
    intro vz30 kz30 happz30
    obtain⟨wz30,gz30,oz30,nz30,cz30,rfl⟩:=apz30 _ _ _ _ _ (F3.ofPlain (D09 _) (show F2 (P0.R k27) ([[.int .i64 aH,.int .i64 aJ,.int .i64 aK]]:List (List Value)) [(aH,aJ,aK)] from⟨(D1 aU aV aW),trivial⟩)) d7.ofPlain happz30
    have rz30:=wz30.r
    obtain⟨ez30,lz30⟩:=Sl.len rz30
    subst ez30
    refine aI trivial (aI (by first|exact trivial|exact rfl) ?_)
    refine aI trivial (aI (by first|exact trivial|exact rfl) ?_)
    refine aI rfl (aI (by trivial) (aI (by trivial) (eX m17 (aI ⟨p3,(IntKind.i64.wrap (u12+1)),u13,u14,gz30,oz30,(u15 ++ [(aH,aJ,aK)]).length,cz30,(u15 ++ [(aH,aJ,aK)]),rfl,rfl,wz30.sub,ip3,(N0 _),iu13,iu14,wz30,aA⟩ (nS _)))))
  ·replace aA:=ifN aA bC
   have hE:=oJ aA;subst hE
   try dsimp only[T0,V0]at aB
   obtain⟨x31,cD,aB⟩:=l0 aB
   refine Tr.mono (H03 _ (some ⟨gau15,oau15,none⟩) u15.length cu15 u15 ru15 _  cD) ?_
   rintro v33 k32 ⟨cE,cV,cG,rfl,wx31⟩
   have cW:Sub k16 k32:=wx31.sub
   have cH:=wx31.r
   obtain⟨rfl,cX⟩:=Sl.len cH
   have hE:=oJ aB;subst hE
   exact⟨([.int .i64 u13,.int .i64 u14,.slice cE x31.length cG]),rfl,(New.pair (New.int iu13) (New.pair (New.int iu14) (New.from wx31 bL)))⟩
theorem b0d(h:Hp)(p0:Int)(ip0:M0 p0)(r:j0×Bool)(aA:e01 p0=some r):
  Tr Tryz.prog 204 #[.int .i64 p0] h fun v h'=>∃(cs0:List Value),v = .tuple #[.agg cs0.toArray,.bool r.2]∧New W0 h h' cs0 r.1:=by
 unfold e01 at aA
 refine Y1 (args:=[.int .i64 p0]) (fn:=Tryz.f204) rfl ?_
 obtain⟨x1,aC,aA⟩:=l0 aA
 refine Tr.val (M7 _ p0 ip0 1 (by decide) 3 (by decide) _  aC) ?_
 refine aI (fun aB=>?_) (fun aB=>?_)
 ·replace aA:=ifP aA aB
  have hE:=oJ aA;subst hE
  exact⟨([.int .i64 0,.int .i64 0,.slice none 0 0]),rfl,(New.pair (New.int (by decide)) (New.pair (New.int (by decide)) ((New.nilSlice (r:=P0)).mono (Sub.refl _))))⟩
 ·replace aA:=ifN aA aB
  have hE:=oJ aA;subst hE
  exact⟨([.int .i64 p0,.int .i64 1,.slice none 0 0]),rfl,(New.pair (New.int ip0) (New.pair (New.int (by decide)) ((New.nilSlice (r:=P0)).mono (Sub.refl _))))⟩
theorem c0d(h:Hp)(aV:List Value)(p0:j0)(rp0:W0.R h aV p0)(ap1:Option Addr)(np1 cp1:Nat)(p1:C0)(rp1:J0.R h [.slice ap1 np1 cp1] p1)(r:j0×Bool)(aL:f01 p0 p1=some r):
  Tr Tryz.prog 159 #[.agg aV.toArray,.slice ap1 np1 cp1] h fun v h'=>∃(cs0:List Value),v = .tuple #[.agg cs0.toArray,.bool r.2]∧New W0 h h' cs0 r.1:=by
 obtain⟨aM,aN,aG,aZ,aH,aW,rfl,rfl,aQ,aR,aJ⟩:=B0 rp0
 obtain⟨rfl,bA⟩:=Sl.len aJ
 obtain⟨rfl,lp1⟩:=Sl.len rp1
 unfold f01 at aL
 dsimp only at aL
 refine Y1 (args:=[.agg #[.int .i64 aM,.int .i64 aN,.slice aG aW.length aH],.slice ap1 p1.length cp1]) (fn:=Tryz.f159) rfl ?_
 obtain⟨x1,bB,aL⟩:=l0 aL
 refine Tr.mono (e08 _ [.int .i64 aM,.int .i64 aN,.slice aG aW.length aH] (aM,aN,aW) (z0 aQ aR aJ) 0 (by decide) ap1 p1.length cp1 p1 rp1 0 (by decide) _  bB) ?_
 rintro v3 k2 ⟨aX,rfl,aK⟩
 obtain⟨bC,bD⟩:=x1
 dsimp only at aL aK
 have bE:Sub h k2:=aK.sub
 have aS:=aK.r
 obtain⟨aO,aP,aA,aT,aB,aY,rfl,rfl,aC,aD,aF⟩:=B0 aS
 obtain⟨rfl,aU⟩:=Sl.len aF
 try dsimp only at aL
 have we4:=New.sndI (New.sndI (aK))
 have hE:=oJ aL;subst hE
 exact⟨([.int .i64 aO,.int .i64 aP,.slice aA aY.length aB]),rfl,(New.pair (New.int aC) (New.pair (New.int aD) we4))⟩
theorem d0d(h:Hp)(p0:Int)(ip0:M0 p0)(ap1:Option Addr)(np1 cp1:Nat)(p1:P1)(rp1:Q2.R h [.slice ap1 np1 cp1] p1)(r:j0×Bool)(aB:g01 p0 p1=some r):
  Tr Tryz.prog 152 #[.int .i64 p0,.slice ap1 np1 cp1] h fun v h'=>∃(cs0:List Value),v = .tuple #[.agg cs0.toArray,.bool r.2]∧New W0 h h' cs0 r.1:=by
 obtain⟨rfl,lp1⟩:=Sl.len rp1
 unfold g01 at aB
 refine Y1 (args:=[.int .i64 p0,.slice ap1 p1.length cp1]) (fn:=Tryz.f152) rfl ?_
 obtain⟨x1,bW,aB⟩:=l0 aB
 refine Tr.val (W06 _ p0 ip0 ap1 p1.length cp1 p1 rp1 _  bW) ?_
 refine aI (fun bG=>?_) (fun bG=>?_)
 ·replace aB:=ifP aB bG
  have hE:=oJ aB;subst hE
  exact⟨([.int .i64 0,.int .i64 0,.slice none 0 0]),rfl,(New.pair (New.int (by decide)) (New.pair (New.int (by decide)) ((New.nilSlice (r:=P0)).mono (Sub.refl _))))⟩
 ·replace aB:=ifN aB bG
  obtain⟨x3,bX,aB⟩:=l0 aB
  refine Tr.mono (b0d _ p0 ip0 _  bX) ?_
  rintro v5 k4 ⟨bH,rfl,aS⟩
  obtain⟨bY,bZ⟩:=x3
  dsimp only at aB aS
  have cD:Sub h k4:=aS.sub
  have bA:=aS.r
  obtain⟨aT,aU,aK,bD,aL,aV,rfl,rfl,aM,aN,aO⟩:=B0 bA
  obtain⟨rfl,bE⟩:=Sl.len aO
  try dsimp only at aB
  have we6:=New.sndI (New.sndI (aS))
  obtain⟨X7,bI,aB⟩:=l0 aB
  refine eX { vars:=[22],boxes:=[1],owns:=[],fuel:=true } (eX (fun vs os h'=>∃(u8:Int) (u9:Int) (u10:Int) (au11:Option Addr) (nu11 cu11:Nat) (u11:I0),vs.tail = [.int .i64 u8,.int .i64 u9,.int .i64 u10,.slice au11 nu11 cu11]∧os = []∧Sub k4 h'∧M0 u8∧M0 u9∧M0 u10∧New F0 h h' [.slice au11 nu11 cu11] u11∧U5 p1 (K1 vs) u8 u9 u10 u11=some X7) (eX (fun _ _=>0) ?_))
  refine aI (eX S0 ⟨0,aT,aU,aK,aV.length,aL,aV,rfl,rfl,(Sub.refl _),(by decide),aM,aN,we6,bI⟩) ?_
  rintro v_0 v_1 v_2 v_3 m13 k12 ⟨u8,u9,u10,au11,nu11,cu11,u11,bJ,bK,bL,iu8,iu9,iu10,wwu11,aA⟩
  cases bJ
  cases bK
  replace aA:U5 p1 m13 u8 u9 u10 u11=some X7:=aA
  obtain _|m13:=m13
  ·cases (show(none:Option _)=some X7 from aA)
  rw[U5.eq_2]at aA
  have ru11:=wwu11.r
  obtain⟨rfl,lu11⟩:=Sl.len ru11
  refine aI (fun aW=>?_) (fun aW=>?_)
  ·replace aA:=ifP aA aW
   obtain⟨x15,bM,aA⟩:=l0 aA
   obtain⟨bN,bT,bO,aX⟩:=Sl.getI (r:=J0.toRp) (Q2.mono (cD.trans bL) rp1) bM (by decide)
   refine aI bN ?_
   obtain⟨bP,cA,bQ,rfl⟩:=Wp.slice_cell aX
   obtain⟨rfl,cC⟩:=Sl.len aX
   refine eX _ (aI bO ?_)
   refine aI (fun aY=>?_) (fun aY=>?_)
   ·replace aA:=ifP aA aY
    obtain⟨x17,bR,aA⟩:=l0 aA
    refine Tr.mono (c0d _ [.int .i64 u9,.int .i64 u10,.slice au11 u11.length cu11] (u9,u10,u11) (z0 iu9 iu10 ru11) bP x15.length bQ x15 aX _  bR) ?_
    rintro v19 k18 ⟨bF,rfl,aC⟩
    obtain⟨bU,bV⟩:=x17
    dsimp only at aA aC
    have bS:Sub k12 k18:=aC.sub
    have aZ:=aC.r
    obtain⟨aP,aQ,aD,bB,aF,aR,rfl,rfl,aG,aH,aJ⟩:=B0 aZ
    obtain⟨rfl,bC⟩:=Sl.len aJ
    try dsimp only at aA
    have we20:=New.sndI (New.sndI (aC))
    refine aI rfl (aI (by trivial) (aI (by trivial) (eX m13 (aI ⟨(IntKind.i64.wrap (u8+1)),aP,aQ,aD,aR.length,aF,aR,rfl,rfl,(bL.trans bS),(N0 _),aG,aH,(New.from we20 (cD.trans bL)),aA⟩ (nS _)))))
   ·replace aA:=ifN aA aY
    refine aI rfl (aI (by trivial) (aI (by trivial) (eX m13 (aI ⟨(IntKind.i64.wrap (u8+1)),u9,u10,au11,u11.length,cu11,u11,rfl,rfl,bL,(N0 _),iu9,iu10,wwu11,aA⟩ (nS _)))))
  ·replace aA:=ifN aA aW
   have hE:=oJ aA;subst hE
   try dsimp only[T0,V0]at aB
   have hE:=oJ aB;subst hE
   exact⟨([.int .i64 u9,.int .i64 u10,.slice au11 u11.length cu11]),rfl,(New.pair (New.int iu9) (New.pair (New.int iu10) wwu11))⟩
theorem b0i(h:Hp)(aY:List Value)(p0:j0)(rp0:W0.R h aY p0)(r:N8)(aT:a03 p0=some r):
  Tr Tryz.prog 269 #[.agg aY.toArray] h fun v h'=>∃(a0:Option Addr) (n0 c0:Nat),v = .slice a0 n0 c0∧z0h.R h' [.slice a0 n0 c0] r∧Sub h h':=by
 obtain⟨aZ,bA,aU,bQ,aV,aW,rfl,rfl,bR,bS,aM⟩:=B0 rp0
 obtain⟨rfl,bT⟩:=Sl.len aM
 unfold a03 at aT
 dsimp only at aT
 refine Y1 (args:=[.agg #[.int .i64 aZ,.int .i64 bA,.slice aU aW.length aV]]) (fn:=Tryz.f269) rfl ?_
 obtain⟨X1,bB,aT⟩:=l0 aT
 refine eX { vars:=[12],boxes:=[],owns:=[0],fuel:=true } (eX (fun vs os h'=>∃(u2:Int) (wu3:List (List Value)) (u3:List K4),vs.tail = [.int .i64 u2]∧os = [wu3]∧Sub h h'∧M0 u2∧F2 (J4.R h') wu3 u3∧T8 aW (K1 vs) u2 u3=some X1) (eX (fun _ _=>0) ?_))
 refine aI (eX S0 ⟨0,[],([]:N8),rfl,rfl,(Sub.refl _),(by decide),(show F2 (J4.R h) ([]:List (List Value)) ([]:N8) from trivial),bB⟩) ?_
 rintro v_0 wu3 m5 k4 ⟨u2,zzu3,u3,bC,bD,bU,iu2,fu3,aL⟩
 cases bC
 cases bD
 replace aL:T8 aW m5 u2 u3=some X1:=aL
 obtain _|m5:=m5
 ·cases (show(none:Option _)=some X1 from aL)
 rw[T8.eq_2]at aL
 refine aI (fun bE=>?_) (fun bE=>?_)
 ·replace aL:=ifP aL bE
  obtain⟨x7,bZ,aL⟩:=l0 aL
  obtain⟨cA,cC,cD,cE⟩:=Sl.getI (r:=P0.toRp) (F0.mono bU aM) bZ (by decide)
  refine aI cA ?_
  obtain⟨aD,aX,aC,rfl,rfl,aK,bV,aJ⟩:=I1 cE
  try dsimp only at aL
  refine eX _ (aI cD ?_)
  obtain⟨x8,cG,aL⟩:=l0 aL
  obtain⟨qx8,vsx8,cH,fx8⟩:=Sl.cutI (r:=P0.toRp) (F0.mono bU aM) cG
  refine aI qx8 (eX vsx8 (aI cH ?_))
  intro vx8 hvx8 _
  obtain⟨cI,cJ,rfl,bW⟩:=fx8 vx8 hvx8
  have cK:=(Sl.len bW).2
  obtain⟨X9,bF,aL⟩:=l0 aL
  refine eX { vars:=[23],boxes:=[],owns:=[0],fuel:=true } (eX (fun vs os h'=>∃(u10:Int) (wu11:List (List Value)) (u11:List K4),vs.tail = [.int .i64 u10]∧os = [wu11]∧Sub k4 h'∧M0 u10∧F2 (J4.R h') wu11 u11∧c5 x8 aX aD aC (K1 vs) u10 u11=some X9) (eX (fun _ _=>0) ?_))
  refine aI (eX S0 ⟨0,wu3,u3,rfl,rfl,(Sub.refl _),(by decide),fu3,bF⟩) ?_
  rintro v_0 wu11 m13 k12 ⟨u10,zzu11,u11,bG,bH,aN,iu10,fu11,aG⟩
  cases bG
  cases bH
  replace aG:c5 x8 aX aD aC m13 u10 u11=some X9:=aG
  obtain _|m13:=m13
  ·cases (show(none:Option _)=some X9 from aG)
  rw[c5.eq_2]at aG
  refine aI (fun aO=>?_) (fun aO=>?_)
  ·replace aG:=ifP aG aO
   obtain⟨x15,bI,aG⟩:=l0 aG
   obtain⟨bJ,bX,bK,bL⟩:=Sl.getI (r:=P0.toRp) (F0.mono aN bW) bI (by decide)
   refine aI bJ ?_
   obtain⟨aB,bY,aA,rfl,rfl,aH,bM,aF⟩:=I1 bL
   try dsimp only at aG
   refine eX _ (aI bK ?_)
   refine aI (fun aP=>?_) (fun aP=>?_)
   ·replace aG:=ifP aG aP
    refine aI rfl (aI (by trivial) (aI (by trivial) (eX m13 (aI ⟨(IntKind.i64.wrap (u10+1)),wu11,u11,rfl,rfl,aN,(N0 _),fu11,aG⟩ (nS _)))))
   ·replace aG:=ifN aG aP
    refine aI (fun aQ=>?_) (fun aQ=>?_)
    ·replace aG:=ifP aG aQ
     obtain⟨q18,bN,aG⟩:=l0 aG
     refine aI (L1 bN (by first|rw[F2.length fu11,F2.length (show F2 (J4.R k12) ([[.int .i64 (if aA<aC then aA else aC),.int .i64 (if aA>aC then aA else aC)]]:List (List Value)) [((if aA<aC then aA else aC),(if aA>aC then aA else aC))] from⟨(D2 (F8 aF aJ) (F8 aF aJ)),trivial⟩)]|exact congrArg (·+1) (F2.length fu11))) ?_
     refine aI (fun aR=>?_) (fun aR=>?_)
     ·replace aG:=ifP aG aR
      obtain⟨q20,bO,aG⟩:=l0 aG
      refine aI (L1 bO (by first|rw[F2.length (F2.append fu11 (show F2 (J4.R k12) ([[.int .i64 (if aA<aC then aA else aC),.int .i64 (if aA>aC then aA else aC)]]:List (List Value)) [((if aA<aC then aA else aC),(if aA>aC then aA else aC))] from⟨(D2 (F8 aF aJ) (F8 aF aJ)),trivial⟩)),F2.length (show F2 (J4.R k12) ([[.int .i64 (if aB<aD then aB else aD),.int .i64 (if aB>aD then aB else aD)]]:List (List Value)) [((if aB<aD then aB else aD),(if aB>aD then aB else aD))] from⟨(D2 (F8 aH aK) (F8 aH aK)),trivial⟩)]|exact congrArg (·+1) (F2.length (F2.append fu11 (show F2 (J4.R k12) ([[.int .i64 (if aA<aC then aA else aC),.int .i64 (if aA>aC then aA else aC)]]:List (List Value)) [((if aA<aC then aA else aC),(if aA>aC then aA else aC))] from⟨(D2 (F8 aF aJ) (F8 aF aJ)),trivial⟩))))) ?_
      refine aI rfl (aI (by trivial) (aI (by trivial) (eX m13 (aI ⟨(IntKind.i64.wrap (u10+1)),((wu11++([[.int .i64 (if aA<aC then aA else aC),.int .i64 (if aA>aC then aA else aC)]]:List (List Value)))++([[.int .i64 (if aB<aD then aB else aD),.int .i64 (if aB>aD then aB else aD)]]:List (List Value))),((u11 ++ [((if aA<aC then aA else aC),(if aA>aC then aA else aC))]) ++ [((if aB<aD then aB else aD),(if aB>aD then aB else aD))]),rfl,rfl,aN,(N0 _),(F2.append (F2.append fu11 (show F2 (J4.R k12) ([[.int .i64 (if aA<aC then aA else aC),.int .i64 (if aA>aC then aA else aC)]]:List (List Value)) [((if aA<aC then aA else aC),(if aA>aC then aA else aC))] from⟨(D2 (F8 aF aJ) (F8 aF aJ)),trivial⟩)) (show F2 (J4.R k12) ([[.int .i64 (if aB<aD then aB else aD),.int .i64 (if aB>aD then aB else aD)]]:List (List Value)) [((if aB<aD then aB else aD),(if aB>aD then aB else aD))] from⟨(D2 (F8 aH aK) (F8 aH aK)),trivial⟩)),aG⟩ (nS _)))))
     ·replace aG:=ifN aG aR
      refine aI rfl (aI (by trivial) (aI (by trivial) (eX m13 (aI ⟨(IntKind.i64.wrap (u10+1)),(wu11++([[.int .i64 (if aA<aC then aA else aC),.int .i64 (if aA>aC then aA else aC)]]:List (List Value))),(u11 ++ [((if aA<aC then aA else aC),(if aA>aC then aA else aC))]),rfl,rfl,aN,(N0 _),(F2.append fu11 (show F2 (J4.R k12) ([[.int .i64 (if aA<aC then aA else aC),.int .i64 (if aA>aC then aA else aC)]]:List (List Value)) [((if aA<aC then aA else aC),(if aA>aC then aA else aC))] from⟨(D2 (F8 aF aJ) (F8 aF aJ)),trivial⟩)),aG⟩ (nS _)))))
    ·replace aG:=ifN aG aQ
     refine aI (fun aS=>?_) (fun aS=>?_)
     ·replace aG:=ifP aG aS
      obtain⟨q22,bP,aG⟩:=l0 aG
      refine aI (L1 bP (by first|rw[F2.length fu11,F2.length (show F2 (J4.R k12) ([[.int .i64 (if aB<aD then aB else aD),.int .i64 (if aB>aD then aB else aD)]]:List (List Value)) [((if aB<aD then aB else aD),(if aB>aD then aB else aD))] from⟨(D2 (F8 aH aK) (F8 aH aK)),trivial⟩)]|exact congrArg (·+1) (F2.length fu11))) ?_
      refine aI rfl (aI (by trivial) (aI (by trivial) (eX m13 (aI ⟨(IntKind.i64.wrap (u10+1)),(wu11++([[.int .i64 (if aB<aD then aB else aD),.int .i64 (if aB>aD then aB else aD)]]:List (List Value))),(u11 ++ [((if aB<aD then aB else aD),(if aB>aD then aB else aD))]),rfl,rfl,aN,(N0 _),(F2.append fu11 (show F2 (J4.R k12) ([[.int .i64 (if aB<aD then aB else aD),.int .i64 (if aB>aD then aB else aD)]]:List (List Value)) [((if aB<aD then aB else aD),(if aB>aD then aB else aD))] from⟨(D2 (F8 aH aK) (F8 aH aK)),trivial⟩)),aG⟩ (nS _)))))
     ·replace aG:=ifN aG aS
      refine aI rfl (aI (by trivial) (aI (by trivial) (eX m13 (aI ⟨(IntKind.i64.wrap (u10+1)),wu11,u11,rfl,rfl,aN,(N0 _),fu11,aG⟩ (nS _)))))
  ·replace aG:=ifN aG aO
   have hE:=oJ aG;subst hE
   try dsimp only[T0,V0]at aL
   refine aI rfl (aI (by trivial) (aI (by trivial) (eX m5 (aI ⟨(IntKind.i64.wrap (u2+1)),wu11,u11,rfl,rfl,(bU.trans aN),(N0 _),fu11,aL⟩ (nS _)))))
 ·replace aL:=ifN aL bE
  have hE:=oJ aL;subst hE
  try dsimp only[T0,V0]at aT
  intro v27 k28 f29
  obtain⟨az30,cz30,rfl,rz30,sz30,lz30⟩:=Z0.out (r:=J4.toRp) f29 fu3
  have hE:=oJ aT;subst hE
  exact⟨az30,u3.length,cz30,rfl,rz30,(bU.trans sz30)⟩
theorem c0c(h:Hp)(aN:List Value)(p0:j0)(rp0:W0.R h aN p0)(r:K4×Bool)(aA:K9 p0=some r):
  Tr Tryz.prog 258 #[.agg aN.toArray] h fun v h'=>∃(cs0:List Value),v = .tuple #[.agg cs0.toArray,.bool r.2]∧J4.R h' cs0 r.1∧Sub h h':=by
 obtain⟨aB,aC,aD,aS,aF,aK,rfl,rfl,aH,aJ,aG⟩:=B0 rp0
 obtain⟨rfl,aT⟩:=Sl.len aG
 unfold K9 at aA
 dsimp only at aA
 refine Y1 (args:=[.agg #[.int .i64 aB,.int .i64 aC,.slice aD aK.length aF]]) (fn:=Tryz.f258) rfl ?_
 obtain⟨x1,aW,aA⟩:=l0 aA
 refine Tr.val (N00 _ [.int .i64 aB,.int .i64 aC,.slice aD aK.length aF] (aB,aC,aK) (z0 aH aJ aG) _  aW) ?_
 refine aI (fun aO=>?_) (fun aO=>?_)
 ·replace aA:=ifP aA aO
  have hE:=oJ aA;subst hE
  exact⟨([.int .i64 0,.int .i64 0]),rfl,(D2 (by decide) (by decide)),(Sub.refl _)⟩
 ·replace aA:=ifN aA aO
  obtain⟨x3,aX,aA⟩:=l0 aA
  refine Tr.mono (b0i _ [.int .i64 aB,.int .i64 aC,.slice aD aK.length aF] (aB,aC,aK) (z0 aH aJ aG) _  aX) ?_
  rintro v5 k4 ⟨bD,bE,bF,rfl,aU,aV⟩
  obtain⟨rfl,bG⟩:=Sl.len aU
  refine aI (fun aP=>?_) (fun aP=>?_)
  ·replace aA:=ifP aA aP
   have hE:=oJ aA;subst hE
   exact⟨([.int .i64 0,.int .i64 0]),rfl,(D2 (by decide) (by decide)),aV⟩
  ·replace aA:=ifN aA aP
   obtain⟨x7,aY,aA⟩:=l0 aA
   obtain⟨aZ,bA,bB,bC⟩:=Sl.getI (r:=J4.toRp) aU aY (by decide)
   refine aI aZ ?_
   obtain⟨aQ,aR,rfl,rfl,aL,aM⟩:=W02 bC
   try dsimp only at aA
   refine eX _ (aI bB ?_)
   have hE:=oJ aA;subst hE
   exact⟨([.int .i64 aQ,.int .i64 aR]),rfl,(D2 aL aM),aV⟩
theorem f08(h:Hp)(bG:List Value)(p0:j0)(rp0:W0.R h bG p0)(bH:List Value)(p1:K4)(rp1:J4.R h bH p1)(r:j0×Bool)(aB:C7 p0 p1=some r):
  Tr Tryz.prog 259 #[.agg bG.toArray,.agg bH.toArray] h fun v h'=>∃(cs0:List Value),v = .tuple #[.agg cs0.toArray,.bool r.2]∧New W0 h h' cs0 r.1:=by
 obtain⟨aG,aH,aJ,cH,aK,aZ,rfl,rfl,aO,aP,aL⟩:=B0 rp0
 obtain⟨rfl,cI⟩:=Sl.len aL
 obtain⟨aC,aD,rfl,rfl,aQ,aR⟩:=W02 rp1
 unfold C7 at aB
 dsimp only at aB
 refine Y1 (args:=[.agg #[.int .i64 aG,.int .i64 aH,.slice aJ aZ.length aK],.agg #[.int .i64 aC,.int .i64 aD]]) (fn:=Tryz.f259) rfl ?_
 obtain⟨x1,cR,aB⟩:=l0 aB
 refine Tr.mono (K7 _ [.int .i64 aG,.int .i64 aH,.slice aJ aZ.length aK] (aG,aH,aZ) (z0 aO aP aL) _  cR) ?_
 rintro v3 k2 ⟨aF,cJ,aM,rfl,wx1⟩
 have cS:Sub h k2:=wx1.sub
 have cK:=wx1.r
 obtain⟨bA,bB,aT⟩:=x1
 dsimp only at aB wx1 cK
 obtain⟨_,_,_,_,_,_,ecx1,exx1,aS,bC,bD⟩:=B0 cK
 cases ecx1
 cases exx1
 obtain⟨rfl,cL⟩:=Sl.len bD
 try dsimp only at aB
 have we4:=New.sndI (New.sndI (wx1))
 obtain⟨x5,cT,aB⟩:=l0 aB
 refine Tr.val (N00 _ [.int .i64 aG,.int .i64 aH,.slice aJ aZ.length aK] (aG,aH,aZ) (z0 aO aP (F0.mono cS aL)) _  cT) ?_
 refine aI (fun bI=>?_) (fun bI=>?_)
 ·replace aB:=ifP aB bI
  have hE:=oJ aB;subst hE
  exact⟨([.int .i64 bA,.int .i64 bB,.slice (some ⟨aF,0,none⟩) aT.length aM]),rfl,(New.pair (New.int aS) (New.pair (New.int bC) we4))⟩
 ·replace aB:=ifN aB bI
  intro b7 hb7
  have gb7:(Hp.set k2 b7 (.cells #[.int .i64 aC,.int .i64 aD] 178 (0,0))) b7=some (.cells #[.int .i64 aC,.int .i64 aD] 178 (0,0)):=Hp.set_same _ _ _
  have neb7gx1_2:b7≠aF:=fun e=>New.blk we4 (Sub.refl _) (e▸hb7)
  obtain⟨X8,bJ,aB⟩:=l0 aB
  refine eX { vars:=[39],boxes:=[],owns:=[],fuel:=true } (eX (fun vs os h'=>∃(u9:Int) (u10:I0),vs.tail = [.int .i64 u9]∧os = []∧Sub h h'∧M0 u9∧New F0 h h' [.slice (some ⟨aF,0,none⟩) aT.length aM] u10∧h' b7=some (.cells #[.int .i64 aC,.int .i64 aD] 178 (0,0))∧w4 aT aC aD (K1 vs) u9 u10=some X8) (eX (fun _ _=>0) ?_))
  refine aI (eX S0 ⟨0,aT,rfl,rfl,(cS.trans (Sub.set hb7)),(by decide),(New.mono we4 (Sub.set hb7)),gb7,bJ⟩) ?_
  rintro v_0 m13 k12 ⟨u9,u10,bK,bL,cU,iu9,wwu10,hq11,aA⟩
  cases bK
  cases bL
  replace aA:w4 aT aC aD m13 u9 u10=some X8:=aA
  obtain _|m13:=m13
  ·cases (show(none:Option _)=some X8 from aA)
  rw[w4.eq_2]at aA
  have ru10:=wwu10.r
  refine aI (fun aU=>?_) (fun aU=>?_)
  ·replace aA:=ifP aA aU
   obtain⟨x15,bM,aA⟩:=l0 aA
   obtain⟨bN,cM,bO,bP⟩:=Sl.getI (r:=P0.toRp) ru10 bM (by decide)
   refine aI bN ?_
   obtain⟨bE,aN,bF,rfl,rfl,aV,aW,aX⟩:=I1 bP
   try dsimp only at aA
   refine eX _ (aI bO ?_)
   refine Or.inr (Or.inr (Or.inl (aI (aI (by kernel_rfl) (by kernel_rfl)) ?_)))
   obtain⟨x16,bQ,aA⟩:=l0 aA
   obtain⟨q17,bR,aA⟩:=l0 aA
   have bS:M0 x16:=O1 bR
   refine Or.inl (eX (.val (.int .i64 x16)) (aI ?_ ?_))
   ·intro k18 s19
    exact Tr.val (h03 _ bE aV b7 178 aC aQ aD aR (s19 _ _ hq11) _ bQ) (aI rfl (aI rfl rfl))
   obtain⟨x20,bT,aA⟩:=l0 aA
   obtain⟨q21,bU,aA⟩:=l0 aA
   have bV:M0 x20:=O1 bU
   refine Or.inl (eX (.val (.int .i64 x20)) (aI ?_ ?_))
   ·intro k22 s23
    exact Tr.val (h03 _ bF aX b7 178 aC aQ aD aR (s23 _ _ hq11) _ bT) (aI rfl (aI rfl rfl))
   refine Or.inl (eX (.agg [.val (.int .i64 x16),.val (.int .i64 aN),.val (.int .i64 x20)]) (aI ?_ ?_))
   ·intro k24 s25
    exact aI rfl (aI rfl rfl)
   refine Or.inr ?_
   refine Or.inr ?_
   refine Or.inl (eX 0 (aI (aI rfl rfl) ?_))
   obtain⟨x26,aY,aA⟩:=l0 aA
   obtain⟨bW,cN,cV,bX⟩:=Sl.getI (r:=P0.toRp) ru10 aY (by decide)
   refine aI bW ?_
   obtain⟨cO,cP,cQ,rfl,rfl,bY,bZ,cA⟩:=I1 bX
   try dsimp only at aA
   refine aI trivial (aI (by first|exact trivial|exact rfl) ?_)
   refine New.put (r:=P0) wwu10 (Sub.refl _) (g0q aY).1 (new:=[.int .i64 x16,.int .i64 aN,.int .i64 x20]) (By:=[]) (D09 _ _ _ (D1 bS aW bV)) (d7.nil _) rfl (g0q aY).2 ?_
   intro k27 w28 kpw28 _
   have rw28:=w28.r
   have hpw28b7:k27 b7=some (.cells #[.int .i64 aC,.int .i64 aD] 178 (0,0)):=(kpw28 b7 neb7gx1_2).trans hq11
   refine aI trivial (aI (by first|exact trivial|exact rfl) ?_)
   refine aI rfl (aI (by trivial) (aI (by trivial) (eX m13 (aI ⟨(IntKind.i64.wrap (u9+1)),(u10.set u9.toNat (x16,aN,x20)),rfl,rfl,w28.sub,(N0 _),w28,(hpw28b7),aA⟩ (nS _)))))
  ·replace aA:=ifN aA aU
   have hE:=oJ aA;subst hE
   try dsimp only[T0,V0]at aB
   obtain⟨x29,cC,aB⟩:=l0 aB
   refine Tr.mono (H03 _ (some ⟨aF,0,none⟩) aT.length aM u10 ru10 _  cC) ?_
   rintro v31 k30 ⟨cD,cW,cE,rfl,wx29⟩
   have cX:Sub k12 k30:=wx29.sub
   have cG:=wx29.r
   obtain⟨rfl,cY⟩:=Sl.len cG
   have hE:=oJ aB;subst hE
   exact⟨([.int .i64 bA,.int .i64 (IntKind.i64.wrap (bB-1)),.slice cD x29.length cE]),rfl,(New.pair (New.int aS) (New.pair (New.int (N0 _)) (New.from wx29 cU)))⟩
theorem e0d(h:Hp)(bH:List Value)(p0:j0)(rp0:W0.R h bH p0)(r:j0×K4×Bool)(aA:h01 p0=some r):
  Tr Tryz.prog 235 #[.agg bH.toArray] h fun v h'=>∃(cs0:List Value) (cs1:List Value),v = .tuple #[.agg cs0.toArray,.agg cs1.toArray,.bool r.2.2]∧New W0 h h' cs0 r.1∧J4.R h' cs1 r.2.1:=by
 obtain⟨aB,aC,aG,bO,aH,aV,rfl,rfl,aM,aN,aJ⟩:=B0 rp0
 obtain⟨rfl,bP⟩:=Sl.len aJ
 unfold h01 at aA
 dsimp only at aA
 refine Y1 (args:=[.agg #[.int .i64 aB,.int .i64 aC,.slice aG aV.length aH]]) (fn:=Tryz.f235) rfl ?_
 obtain⟨x1,bT,aA⟩:=l0 aA
 refine Tr.mono (c0c _ [.int .i64 aB,.int .i64 aC,.slice aG aV.length aH] (aB,aC,aV) (z0 aM aN aJ) _  bT) ?_
 rintro v3 k2 ⟨bI,rfl,aT,bE⟩
 obtain⟨bU,bV⟩:=x1
 dsimp only at aA aT
 obtain⟨aD,aF,rfl,rfl,aK,aL⟩:=W02 aT
 try dsimp only at aA
 refine aI (fun bJ=>?_) (fun bJ=>?_)
 ·replace aA:=ifP aA bJ
  obtain⟨x5,bW,aA⟩:=l0 aA
  refine Tr.mono (K7 _ [.int .i64 aB,.int .i64 aC,.slice aG aV.length aH] (aB,aC,aV) (z0 aM aN (F0.mono bE aJ)) _  bW) ?_
  rintro v7 k6 ⟨aY,bQ,aZ,rfl,wx5⟩
  have cC:Sub k2 k6:=wx5.sub
  have bR:=wx5.r
  obtain⟨bK,bL,bX⟩:=x5
  dsimp only at aA wx5 bR
  obtain⟨_,_,_,_,_,_,ecx5,exx5,bA,bB,bC⟩:=B0 bR
  cases ecx5
  cases exx5
  obtain⟨rfl,bS⟩:=Sl.len bC
  try dsimp only at aA
  have we8:=New.sndI (New.sndI (wx5))
  have hE:=oJ aA;subst hE
  exact⟨([.int .i64 bK,.int .i64 bL,.slice (some ⟨aY,0,none⟩) bX.length aZ]),([.int .i64 0,.int .i64 0]),rfl,(New.pair (New.int bA) (New.pair (New.int bB) (New.from we8 bE))),(D2 (by decide) (by decide))⟩
 ·replace aA:=ifN aA bJ
  obtain⟨x9,bY,aA⟩:=l0 aA
  refine Tr.mono (f08 _ [.int .i64 aB,.int .i64 aC,.slice aG aV.length aH] (aB,aC,aV) (z0 aM aN (F0.mono bE aJ)) [.int .i64 aD,.int .i64 aF] (aD,aF) (D2 aK aL) _  bY) ?_
  rintro v11 k10 ⟨bM,rfl,aU⟩
  obtain⟨bZ,cA⟩:=x9
  dsimp only at aA aU
  have cD:Sub k2 k10:=aU.sub
  have bD:=aU.r
  obtain⟨aW,aX,aO,bF,aP,bN,rfl,rfl,aQ,aR,aS⟩:=B0 bD
  obtain⟨rfl,bG⟩:=Sl.len aS
  try dsimp only at aA
  have we12:=New.sndI (New.sndI (aU))
  refine Or.inr (Or.inr (Or.inl (aI (aI (by kernel_rfl) (by kernel_rfl)) ?_)))
  refine Or.inr ?_
  refine Or.inr ?_
  refine Or.inl (eX 0 (aI (aI rfl rfl) ?_))
  refine aI trivial (aI (by first|exact trivial|exact rfl) ?_)
  refine aI trivial (aI (by first|exact trivial|exact rfl) ?_)
  have hE:=oJ aA;subst hE
  exact⟨([.int .i64 aW,.int .i64 aX,.slice aO bN.length aP]),([.int .i64 aD,.int .i64 aF]),rfl,(New.pair (New.int aQ) (New.pair (New.int aR) (New.from we12 bE))),(D2 aK aL)⟩
theorem i0f(h:Hp)(bL:List Value)(p0:j0)(rp0:W0.R h bL p0)(r:j0×N8)(aP:P01 p0=some r):
  Tr Tryz.prog 205 #[.agg bL.toArray] h fun v h'=>∃(cs0:List Value) (a1:Option Addr) (n1 c1:Nat),v = .tuple #[.agg cs0.toArray,.slice a1 n1 c1]∧New W0 h h' cs0 r.1∧z0h.R h' [.slice a1 n1 c1] r.2:=by
 obtain⟨aW,aX,aT,bV,aU,bM,rfl,rfl,bA,bB,aV⟩:=B0 rp0
 obtain⟨rfl,bW⟩:=Sl.len aV
 unfold P01 at aP
 dsimp only at aP
 refine Y1 (args:=[.agg #[.int .i64 aW,.int .i64 aX,.slice aT bM.length aU]]) (fn:=Tryz.f205) rfl ?_
 obtain⟨x1,cE,aP⟩:=l0 aP
 refine Tr.mono (K7 _ [.int .i64 aW,.int .i64 aX,.slice aT bM.length aU] (aW,aX,bM) (z0 bA bB aV) _  cE) ?_
 rintro v3 k2 ⟨bC,bX,bD,rfl,wx1⟩
 have cH:Sub h k2:=wx1.sub
 have bY:=wx1.r
 obtain⟨bN,bO,bP⟩:=x1
 dsimp only at aP wx1 bY
 obtain⟨_,_,_,_,_,_,ecx1,exx1,bE,bF,bG⟩:=B0 bY
 cases ecx1
 cases exx1
 obtain⟨rfl,bZ⟩:=Sl.len bG
 try dsimp only at aP
 have we4:=New.sndI (New.sndI (wx1))
 obtain⟨X5,bQ,aP⟩:=l0 aP
 refine eX { vars:=[],boxes:=[2],owns:=[0],fuel:=true } (eX (fun vs os h'=>∃(u6:Int) (u7:Int) (au8:Option Addr) (nu8 cu8:Nat) (u8:I0) (wu9:List (List Value)) (u9:List K4),vs.tail = [.int .i64 u6,.int .i64 u7,.slice au8 nu8 cu8]∧os = [wu9]∧Sub k2 h'∧M0 u6∧M0 u7∧New F0 h h' [.slice au8 nu8 cu8] u8∧F2 (J4.R h') wu9 u9∧D7 (K1 vs) u6 u7 u8 u9=some X5) (eX (fun _ _=>0) ?_))
 refine aI (eX S0 ⟨bN,bO,(some ⟨bC,0,none⟩),bP.length,bD,bP,[],([]:N8),rfl,rfl,(Sub.refl _),bE,bF,we4,(show F2 (J4.R k2) ([]:List (List Value)) ([]:N8) from trivial),bQ⟩) ?_
 rintro v_0 v_1 v_2 wu9 m11 k10 ⟨u6,u7,au8,nu8,cu8,u8,zzu9,u9,bR,bS,cG,iu6,iu7,wwu8,fu9,aC⟩
 cases bR
 cases bS
 replace aC:D7 m11 u6 u7 u8 u9=some X5:=aC
 obtain _|m11:=m11
 ·cases (show(none:Option _)=some X5 from aC)
 rw[D7.eq_2]at aC
 have ru8:=wwu8.r
 obtain⟨rfl,lu8⟩:=Sl.len ru8
 obtain⟨x12,bT,aC⟩:=l0 aC
 refine Tr.mono (e0d _ [.int .i64 u6,.int .i64 u7,.slice au8 u8.length cu8] (u6,u7,u8) (z0 iu6 iu7 ru8) _  bT) ?_
 rintro v14 k13 ⟨bJ,bK,rfl,aG,aH⟩
 obtain⟨cA,cC,cD⟩:=x12
 dsimp only at aC aG aH
 have aJ:Sub k10 k13:=aG.sub
 have aY:=aG.r
 obtain⟨aQ,aR,aK,bH,aL,aS,rfl,rfl,aM,aN,aO⟩:=B0 aY
 obtain⟨rfl,bI⟩:=Sl.len aO
 try dsimp only at aC
 have we15:=New.sndI (New.sndI (aG))
 obtain⟨aA,aB,rfl,rfl,aD,aF⟩:=W02 aH
 try dsimp only at aC
 refine aI (fun aZ=>?_) (fun aZ=>?_)
 ·replace aC:=ifP aC aZ
  intro v17 k18 f19
  obtain⟨az20,cz20,rfl,rz20,sz20,lz20⟩:=Z0.out (r:=J4.toRp) f19 (F2.up (r:=J4.toRp) aJ fu9)
  have hE:=oJ aC;subst hE
  try dsimp only[S3,W3]at aP
  have hE:=oJ aP;subst hE
  exact⟨([.int .i64 u6,.int .i64 u7,.slice au8 u8.length cu8]),az20,u9.length,cz20,rfl,(New.pair (New.int iu6) (New.pair (New.int iu7) (New.mono wwu8 (aJ.trans sz20)))),rz20⟩
 ·replace aC:=ifN aC aZ
  obtain⟨q21,bU,aC⟩:=l0 aC
  refine aI (L1 bU (by first|rw[F2.length (F2.up (r:=J4.toRp) aJ fu9),F2.length (show F2 (J4.R k13) ([[.int .i64 aA,.int .i64 aB]]:List (List Value)) [(aA,aB)] from⟨(D2 aD aF),trivial⟩)]|exact congrArg (·+1) (F2.length (F2.up (r:=J4.toRp) aJ fu9)))) ?_
  refine aI rfl (aI (by trivial) (aI (by trivial) (eX m11 (aI ⟨aQ,aR,aK,aS.length,aL,aS,(wu9++([[.int .i64 aA,.int .i64 aB]]:List (List Value))),(u9 ++ [(aA,aB)]),rfl,rfl,(cG.trans aJ),aM,aN,(New.from we15 (cH.trans cG)),(F2.append (F2.up (r:=J4.toRp) aJ fu9) (show F2 (J4.R k13) ([[.int .i64 aA,.int .i64 aB]]:List (List Value)) [(aA,aB)] from⟨(D2 aD aF),trivial⟩)),aC⟩ (nS _)))))
theorem d0c(h:Hp)(aS:List Value)(p0:j0)(rp0:W0.R h aS p0)(r:j0×Bool)(aA:I00 p0=some r):
  Tr Tryz.prog 197 #[.agg aS.toArray] h fun v h'=>∃(cs0:List Value),v = .tuple #[.agg cs0.toArray,.bool r.2]∧New W0 h h' cs0 r.1:=by
 obtain⟨aB,aC,aD,aU,aF,aN,rfl,rfl,aH,aJ,aG⟩:=B0 rp0
 obtain⟨rfl,aV⟩:=Sl.len aG
 unfold I00 at aA
 dsimp only at aA
 refine Y1 (args:=[.agg #[.int .i64 aB,.int .i64 aC,.slice aD aN.length aF]]) (fn:=Tryz.f197) rfl ?_
 obtain⟨x1,aZ,aA⟩:=l0 aA
 refine Tr.mono (K7 _ [.int .i64 aB,.int .i64 aC,.slice aD aN.length aF] (aB,aC,aN) (z0 aH aJ aG) _  aZ) ?_
 rintro v3 k2 ⟨aK,aW,aL,rfl,wx1⟩
 have bA:Sub h k2:=wx1.sub
 have aX:=wx1.r
 obtain⟨aO,aP,bB⟩:=x1
 dsimp only at aA wx1 aX
 obtain⟨_,_,_,_,_,_,ecx1,exx1,aM,aQ,aR⟩:=B0 aX
 cases ecx1
 cases exx1
 obtain⟨rfl,aY⟩:=Sl.len aR
 try dsimp only at aA
 have we4:=New.sndI (New.sndI (wx1))
 obtain⟨x5,bC,aA⟩:=l0 aA
 refine Tr.val (N00 _ [.int .i64 aB,.int .i64 aC,.slice aD aN.length aF] (aB,aC,aN) (z0 aH aJ (F0.mono bA aG)) _  bC) ?_
 refine aI (fun aT=>?_) (fun aT=>?_)
 ·replace aA:=ifP aA aT
  have hE:=oJ aA;subst hE
  exact⟨([.int .i64 aO,.int .i64 aP,.slice (some ⟨aK,0,none⟩) bB.length aL]),rfl,(New.pair (New.int aM) (New.pair (New.int aQ) we4))⟩
 ·replace aA:=ifN aA aT
  have hE:=oJ aA;subst hE
  exact⟨([.int .i64 aO,.int .i64 (IntKind.i64.wrap (aP+1)),.slice (some ⟨aK,0,none⟩) bB.length aL]),rfl,(New.pair (New.int aM) (New.pair (New.int (N0 _)) we4))⟩
theorem F08(h:Hp)(aX:List Value)(p0:j0)(rp0:W0.R h aX p0)(r:I0)(aF:Y7 p0=some r):
  Tr Tryz.prog 200 #[.agg aX.toArray] h fun v h'=>∃(a0:Option Addr) (n0 c0:Nat),v = .slice a0 n0 c0∧F0.R h' [.slice a0 n0 c0] r∧Sub h h':=by
 obtain⟨aB,aC,aH,bK,aJ,aG,rfl,rfl,aK,aN,aL⟩:=B0 rp0
 obtain⟨rfl,bL⟩:=Sl.len aL
 unfold Y7 at aF
 dsimp only at aF
 refine Y1 (args:=[.agg #[.int .i64 aB,.int .i64 aC,.slice aH aG.length aJ]]) (fn:=Tryz.f200) rfl ?_
 obtain⟨x1,bN,aF⟩:=l0 aF
 refine Tr.val (f00 _ [.int .i64 aB,.int .i64 aC,.slice aH aG.length aJ] (aB,aC,aG) (z0 aK aN aL) _  bN) ?_
 refine aI (fun aY=>?_) (fun aY=>?_)
 ·replace aF:=ifP aF aY
  intro v3 k4 f5
  obtain⟨az6,cz6,rfl,rz6,sz6,lz6⟩:=Z0.out (r:=P0.toRp) f5 (show F2 (P0.R h) ([]:List (List Value)) ([]:I0) from trivial)
  have hE:=oJ aF;subst hE
  exact⟨az6,(([]:I0)).length,cz6,rfl,rz6,sz6⟩
 ·replace aF:=ifN aF aY
  obtain⟨X7,aZ,aF⟩:=l0 aF
  refine eX { vars:=[4],boxes:=[],owns:=[0],fuel:=true } (eX (fun vs os h'=>∃(u8:Int) (wu9:List (List Value)) (u9:List H0),vs.tail = [.int .i64 u8]∧os = [wu9]∧Sub h h'∧M0 u8∧F2 (P0.R h') wu9 u9∧O4 aC aB aG (K1 vs) u8 u9=some X7) (eX (fun _ _=>0) ?_))
  refine aI (eX S0 ⟨0,[],([]:I0),rfl,rfl,(Sub.refl _),(by decide),(show F2 (P0.R h) ([]:List (List Value)) ([]:I0) from trivial),aZ⟩) ?_
  rintro v_0 wu9 m11 k10 ⟨u8,zzu9,u9,bA,bB,bT,iu8,fu9,aD⟩
  cases bA
  cases bB
  replace aD:O4 aC aB aG m11 u8 u9=some X7:=aD
  obtain _|m11:=m11
  ·cases (show(none:Option _)=some X7 from aD)
  rw[O4.eq_2]at aD
  refine aI (fun aO=>?_) (fun aO=>?_)
  ·replace aD:=ifP aD aO
   obtain⟨x13,bC,aD⟩:=l0 aD
   refine Tr.mono (b08 _ aB aK _  bC) ?_
   rintro v15 k14 ⟨bO,bP,bQ,rfl,aT,aP⟩
   obtain⟨rfl,bR⟩:=Sl.len aT
   obtain⟨X16,aU,aD⟩:=l0 aD
   refine eX { vars:=[22],boxes:=[],owns:=[0],fuel:=true } (eX (fun vs os h'=>∃(u17:Int) (wu18:List (List Value)) (u18:List H0),vs.tail = [.int .i64 u17]∧os = [wu18]∧Sub k14 h'∧M0 u17∧F2 (P0.R h') wu18 u18∧C3 x13 aB aC aG u8 (K1 vs) u17 u18=some X16) (eX (fun _ _=>0) ?_))
   refine aI (eX S0 ⟨0,wu9,u9,rfl,rfl,(Sub.refl _),(by decide),(F2.up (r:=P0.toRp) aP fu9),aU⟩) ?_
   rintro v_0 wu18 m20 k19 ⟨u17,zzu18,u18,aV,aW,aM,iu17,fu18,aA⟩
   cases aV
   cases aW
   replace aA:C3 x13 aB aC aG u8 m20 u17 u18=some X16:=aA
   obtain _|m20:=m20
   ·cases (show(none:Option _)=some X16 from aA)
   rw[C3.eq_2]at aA
   refine aI (fun aQ=>?_) (fun aQ=>?_)
   ·replace aA:=ifP aA aQ
    obtain⟨x22,bD,aA⟩:=l0 aA
    obtain⟨bE,bM,bF,bG⟩:=Sl.getI (r:=Wp.int.toRp) (J0.mono aM aT) bD (by decide)
    refine aI bE ?_
    obtain⟨rfl,aR⟩:=bG
    refine eX _ (aI bF ?_)
    obtain⟨x23,bH,aA⟩:=l0 aA
    refine Tr.val (B01 _ [.int .i64 aB,.int .i64 aC,.slice aH aG.length aJ] (aB,aC,aG) (z0 aK aN (F0.mono ((bT.trans aP).trans aM) aL)) u8 iu8 x22 aR _  bH) ?_
    obtain⟨q24,bI,aA⟩:=l0 aA
    have bS:M0 x23:=O1 bI
    refine aI (fun aS=>?_) (fun aS=>?_)
    ·replace aA:=ifP aA aS
     obtain⟨q26,bJ,aA⟩:=l0 aA
     refine aI (L1 bJ (by first|rw[F2.length fu18,F2.length (show F2 (P0.R k19) ([[.int .i64 u8,.int .i64 x22,.int .i64 (-1)]]:List (List Value)) [(u8,x22,(-1))] from⟨(D1 iu8 aR (by decide)),trivial⟩)]|exact congrArg (·+1) (F2.length fu18))) ?_
     refine aI rfl (aI (by trivial) (aI (by trivial) (eX m20 (aI ⟨(IntKind.i64.wrap (u17+1)),(wu18++([[.int .i64 u8,.int .i64 x22,.int .i64 (-1)]]:List (List Value))),(u18 ++ [(u8,x22,(-1))]),rfl,rfl,aM,(N0 _),(F2.append fu18 (show F2 (P0.R k19) ([[.int .i64 u8,.int .i64 x22,.int .i64 (-1)]]:List (List Value)) [(u8,x22,(-1))] from⟨(D1 iu8 aR (by decide)),trivial⟩)),aA⟩ (nS _)))))
    ·replace aA:=ifN aA aS
     refine aI rfl (aI (by trivial) (aI (by trivial) (eX m20 (aI ⟨(IntKind.i64.wrap (u17+1)),wu18,u18,rfl,rfl,aM,(N0 _),fu18,aA⟩ (nS _)))))
   ·replace aA:=ifN aA aQ
    have hE:=oJ aA;subst hE
    try dsimp only[T0,V0]at aD
    refine aI rfl (aI (by trivial) (aI (by trivial) (eX m11 (aI ⟨(IntKind.i64.wrap (u8+1)),wu18,u18,rfl,rfl,((bT.trans aP).trans aM),(N0 _),fu18,aD⟩ (nS _)))))
  ·replace aD:=ifN aD aO
   have hE:=oJ aD;subst hE
   try dsimp only[T0,V0]at aF
   intro v31 k32 f33
   obtain⟨az34,cz34,rfl,rz34,sz34,lz34⟩:=Z0.out (r:=P0.toRp) f33 fu9
   have hE:=oJ aF;subst hE
   exact⟨az34,u9.length,cz34,rfl,rz34,(bT.trans sz34)⟩
theorem p06(h:Hp)(bP:List Value)(p0:j0)(rp0:W0.R h bP p0)(r:j0)(aA:F7 p0=some r):
  Tr Tryz.prog 153 #[.agg bP.toArray] h fun v h'=>∃(cs0:List Value),v = .agg cs0.toArray∧New W0 h h' cs0 r:=by
 obtain⟨aY,aZ,aR,bV,aS,bQ,rfl,rfl,bC,bD,aT⟩:=B0 rp0
 obtain⟨rfl,bW⟩:=Sl.len aT
 unfold F7 at aA
 dsimp only at aA
 refine Y1 (args:=[.agg #[.int .i64 aY,.int .i64 aZ,.slice aR bQ.length aS]]) (fn:=Tryz.f153) rfl ?_
 obtain⟨x1,cJ,aA⟩:=l0 aA
 refine Tr.mono (i0f _ [.int .i64 aY,.int .i64 aZ,.slice aR bQ.length aS] (aY,aZ,bQ) (z0 bC bD aT) _  cJ) ?_
 rintro v3 k2 ⟨bR,bX,bY,bZ,rfl,aU,aV⟩
 obtain⟨cK,cL⟩:=x1
 dsimp only at aA aU aV
 have cU:Sub h k2:=aU.sub
 have bE:=aU.r
 obtain⟨aD,aF,aJ,bL,aK,bA,rfl,rfl,aL,aM,aB⟩:=B0 bE
 obtain⟨rfl,bM⟩:=Sl.len aB
 try dsimp only at aA
 have we4:=New.sndI (New.sndI (aU))
 obtain⟨rfl,cA⟩:=Sl.len aV
 obtain⟨x5,cM,aA⟩:=l0 aA
 refine Tr.mono (o06 _ [.int .i64 aD,.int .i64 aF,.slice aJ bA.length aK] (aD,aF,bA) (z0 aL aM aB) _  cM) ?_
 rintro v7 k6 ⟨bS,cC,cD,cE,rfl,aW,aX⟩
 obtain⟨cN,cO⟩:=x5
 dsimp only at aA aW aX
 have cP:Sub k2 k6:=aW.sub
 have bF:=aW.r
 obtain⟨aG,aH,aN,bN,aO,bB,rfl,rfl,aP,aQ,aC⟩:=B0 bF
 obtain⟨rfl,bO⟩:=Sl.len aC
 try dsimp only at aA
 have we8:=New.sndI (New.sndI (aW))
 obtain⟨rfl,cG⟩:=Sl.len aX
 obtain⟨x9,cQ,aA⟩:=l0 aA
 refine Tr.mono (n03 _ [.int .i64 aG,.int .i64 aH,.slice aN bB.length aO] (aG,aH,bB) (z0 aP aQ aC) _  cQ) ?_
 rintro v11 k10 ⟨cR,rfl,wx9⟩
 have cV:Sub k6 k10:=wx9.sub
 have cS:=wx9.r
 obtain⟨bT,bU,bG,cH,bH,cT,rfl,rfl,bI,bJ,bK⟩:=B0 cS
 obtain⟨rfl,cI⟩:=Sl.len bK
 try dsimp only at aA
 have we12:=New.sndI (New.sndI (wx9))
 have hE:=oJ aA;subst hE
 exact⟨([.int .i64 bT,.int .i64 bU,.slice bG cT.length bH]),rfl,(New.pair (New.int bI) (New.pair (New.int bJ) (New.from we12 (cU.trans cP))))⟩
theorem X04(h:Hp)(aK:List Value)(p0:j0)(rp0:W0.R h aK p0)(ap1:Option Addr)(np1 cp1:Nat)(p1:C0)(rp1:J0.R h [.slice ap1 np1 cp1] p1)(r:Bool)(aA:C8 p0 p1=some r):
  Tr Tryz.prog 142 #[.agg aK.toArray,.slice ap1 np1 cp1] h fun v h'=>v = .bool r∧h'=h:=by
 obtain⟨aF,aG,aB,aO,aC,aL,rfl,rfl,aH,aJ,aD⟩:=B0 rp0
 obtain⟨rfl,aP⟩:=Sl.len aD
 obtain⟨rfl,lp1⟩:=Sl.len rp1
 unfold C8 at aA
 dsimp only at aA
 refine Tr.forget (Y1 (args:=[.agg #[.int .i64 aF,.int .i64 aG,.slice aB aL.length aC],.slice ap1 p1.length cp1]) (fn:=Tryz.f142) rfl ?_)
 obtain⟨x1,aS,aA⟩:=l0 aA
 obtain⟨aM,aN⟩:=x1
 try dsimp only at aA
 refine Tr.val (v05 _ [.int .i64 aF,.int .i64 aG,.slice aB aL.length aC] (aF,aG,aL) (z0 aH aJ aD) 0 (by decide) ap1 p1.length cp1 p1 rp1 _  aS) ?_
 obtain⟨q2,aT,aA⟩:=l0 aA
 have aQ:M0 aM:=O1 aT
 obtain⟨q3,aU,aA⟩:=l0 aA
 have aR:M0 aN:=O1 aU
 have hE:=oJ aA;subst hE
 exact aI rfl (Sub.refl _)
theorem g08(h:Hp)(aL:List Value)(p0:j0)(rp0:W0.R h aL p0)(r:Bool)(aG:Y8 p0=some r):
  Tr Tryz.prog 146 #[.agg aL.toArray] h fun v h'=>v = .bool r∧h'=h:=by
 obtain⟨aA,aB,aC,aM,aD,aK,rfl,rfl,aH,aJ,aF⟩:=B0 rp0
 obtain⟨rfl,aN⟩:=Sl.len aF
 unfold Y8 at aG
 dsimp only at aG
 refine Tr.forget (Y1 (args:=[.agg #[.int .i64 aA,.int .i64 aB,.slice aC aK.length aD]]) (fn:=Tryz.f146) rfl ?_)
 refine aI (by kernel_rfl) ?_
 obtain⟨x1,aP,aG⟩:=l0 aG
 refine Or.inl (eX (.val (.bool x1)) (aI ?_ ?_))
 ·intro k2 s3
  exact Tr.val (G9 _ [.int .i64 aA,.int .i64 aB,.slice aC aK.length aD] (aA,aB,aK) (z0 aH aJ (F0.mono s3 aF)) _ aP) (aI rfl (aI rfl rfl))
 obtain⟨x4,aQ,aG⟩:=l0 aG
 refine Or.inr (eX (fun v hh=>∃(a:Option Addr) (c:Nat),v = .slice a x4.length c∧F0.R hh [.slice a x4.length c] x4∧x4.length≤9223372036854775807) (aI (fun v h1 h2 sb q=>by obtain⟨a,c,e,r,l⟩:=q;exact⟨a,c,e,F0.mono sb r,l⟩) (aI ?_ ?_)))
 ·intro k5 s6 hq
  refine Tr.mono (F08 _ [.int .i64 aA,.int .i64 aB,.slice aC aK.length aD] (aA,aB,aK) (z0 aH aJ (F0.mono s6 aF)) _ (F1 aQ hq)) ?_
  rintro _ kk ⟨aR,aU,aS,rfl,aO,sb⟩
  obtain⟨rfl,aT⟩:=Sl.len aO
  exact aI c8 (aI sb ⟨aR,aS,rfl,aO,aT⟩)
 obtain⟨q7,aV,aG⟩:=l0 aG
 refine Or.inl (eX (.val (.int .i64 ((x4.length:Nat):Int))) (aI ?_ ?_))
 ·intro k8 s9 hq
  rintro _ ⟨az10,cz10,rfl,rz10,lz10⟩
  exact aI rfl (aI rfl rfl)
 refine Or.inl (eX (.val (.bool (decide (((x4.length:Nat):Int)=0)))) (aI ?_ ?_))
 ·intro k11 s12 hq
  exact aI rfl (aI rfl rfl)
 intro k13 s14
 have hE:=oJ aG;subst hE
 exact aI rfl s14
theorem f0d(h:Hp)(bI:List Value)(p0:j0)(rp0:W0.R h bI p0)(p1:Int)(ip1:M0 p1)(r:j0×Bool)(aA:i8 p0 p1=some r):
  Tr Tryz.prog 145 #[.agg bI.toArray,.int .i64 p1] h fun v h'=>∃(cs0:List Value),v = .tuple #[.agg cs0.toArray,.bool r.2]∧New W0 h h' cs0 r.1:=by
 obtain⟨aC,aB,aD,bZ,aF,aM,rfl,rfl,aJ,aK,aG⟩:=B0 rp0
 obtain⟨rfl,cA⟩:=Sl.len aG
 unfold i8 at aA
 dsimp only at aA
 refine Y1 (args:=[.agg #[.int .i64 aC,.int .i64 aB,.slice aD aM.length aF],.int .i64 p1]) (fn:=Tryz.f145) rfl ?_
 obtain⟨x1,cK,aA⟩:=l0 aA
 refine Tr.val (f00 _ [.int .i64 aC,.int .i64 aB,.slice aD aM.length aF] (aC,aB,aM) (z0 aJ aK aG) _  cK) ?_
 obtain⟨x2,cL,aA⟩:=l0 aA
 refine eX (.bool x2) (aI (fun q=>M00 _ [.int .i64 aC,.int .i64 aB,.slice aD aM.length aF] (aC,aB,aM) (z0 aJ aK aG) p1 ip1 _  (F1 cL q)) ?_)
 refine aI (fun bJ=>?_) (fun bJ=>?_)
 ·replace aA:=ifP aA bJ
  obtain⟨x4,cM,aA⟩:=l0 aA
  refine Tr.mono (K7 _ [.int .i64 aC,.int .i64 aB,.slice aD aM.length aF] (aC,aB,aM) (z0 aJ aK aG) _  cM) ?_
  rintro v6 k5 ⟨bA,cC,bB,rfl,wx4⟩
  have cP:Sub h k5:=wx4.sub
  have cD:=wx4.r
  obtain⟨bK,bL,cN⟩:=x4
  dsimp only at aA wx4 cD
  obtain⟨_,_,_,_,_,_,ecx4,exx4,bC,bD,bE⟩:=B0 cD
  cases ecx4
  cases exx4
  obtain⟨rfl,cE⟩:=Sl.len bE
  try dsimp only at aA
  have we7:=New.sndI (New.sndI (wx4))
  have hE:=oJ aA;subst hE
  exact⟨([.int .i64 bK,.int .i64 bL,.slice (some ⟨bA,0,none⟩) cN.length bB]),rfl,(New.pair (New.int bC) (New.pair (New.int bD) we7))⟩
 ·replace aA:=ifN aA bJ
  obtain⟨X8,bM,aA⟩:=l0 aA
  refine eX { vars:=[7],boxes:=[],owns:=[0],fuel:=true } (eX (fun vs os h'=>∃(u9:Int) (wu10:List (List Value)) (u10:List Int),vs.tail = [.int .i64 u9]∧os = [wu10]∧Sub h h'∧M0 u9∧F2 (Wp.int.R h') wu10 u10∧S6 aB p1 (K1 vs) u9 u10=some X8) (eX (fun _ _=>0) ?_))
  refine aI (eX S0 ⟨0,([[.int .i64 p1]]:List (List Value)),[p1],rfl,rfl,(Sub.refl _),(by decide),(show F2 (Wp.int.R h) ([[.int .i64 p1]]:List (List Value)) [p1] from⟨⟨rfl,ip1⟩,trivial⟩),bM⟩) ?_
  rintro v_0 wu10 m12 k11 ⟨u9,zzu10,u10,bN,bO,cG,iu9,fu10,aH⟩
  cases bN
  cases bO
  replace aH:S6 aB p1 m12 u9 u10=some X8:=aH
  obtain _|m12:=m12
  ·cases (show(none:Option _)=some X8 from aH)
  rw[S6.eq_2]at aH
  refine aI (fun aP=>?_) (fun aP=>?_)
  ·replace aH:=ifP aH aP
   refine aI (fun aQ=>?_) (fun aQ=>?_)
   ·replace aH:=ifP aH aQ
    obtain⟨q15,bP,aH⟩:=l0 aH
    refine aI (L1 bP (by first|rw[F2.length fu10,F2.length (show F2 (Wp.int.R k11) ([[.int .i64 u9]]:List (List Value)) [u9] from⟨⟨rfl,iu9⟩,trivial⟩)]|exact congrArg (·+1) (F2.length fu10))) ?_
    refine aI rfl (aI (by trivial) (aI (by trivial) (eX m12 (aI ⟨(IntKind.i64.wrap (u9+1)),(wu10++([[.int .i64 u9]]:List (List Value))),(u10 ++ [u9]),rfl,rfl,cG,(N0 _),(F2.append fu10 (show F2 (Wp.int.R k11) ([[.int .i64 u9]]:List (List Value)) [u9] from⟨⟨rfl,iu9⟩,trivial⟩)),aH⟩ (nS _)))))
   ·replace aH:=ifN aH aQ
    refine aI rfl (aI (by trivial) (aI (by trivial) (eX m12 (aI ⟨(IntKind.i64.wrap (u9+1)),wu10,u10,rfl,rfl,cG,(N0 _),fu10,aH⟩ (nS _)))))
  ·replace aH:=ifN aH aP
   have hE:=oJ aH;subst hE
   try dsimp only[T0,V0]at aA
   refine Or.inl ?_
   intro v16 k17 f18
   obtain⟨az19,cz19,rfl,rz19,sz19,lz19⟩:=Z0.out (r:=Wp.int.toRp) f18 fu10
   obtain⟨x20,bQ,aA⟩:=l0 aA
   refine Tr.mono (c08 _ [.int .i64 aC,.int .i64 aB,.slice aD aM.length aF] (aC,aB,aM) (z0 aJ aK (F0.mono (cG.trans sz19) aG)) az19 u10.length cz19 u10 rz19 _  bQ) ?_
   rintro v22 k21 ⟨cH,rfl,wx20⟩
   have bR:Sub k17 k21:=wx20.sub
   have bS:=wx20.r
   obtain⟨aN,aO,aR,bT,aS,bF,rfl,rfl,aT,aU,aL⟩:=B0 bS
   obtain⟨rfl,bU⟩:=Sl.len aL
   try dsimp only at aA
   have we23:=New.sndI (New.sndI (wx20))
   obtain⟨x24,bV,aA⟩:=l0 aA
   refine Tr.mono (p06 _ [.int .i64 aN,.int .i64 aO,.slice aR bF.length aS] (aN,aO,bF) (z0 aT aU aL) _  bV) ?_
   rintro v26 k25 ⟨cI,rfl,wx24⟩
   have cO:Sub k21 k25:=wx24.sub
   have bW:=wx24.r
   obtain⟨bG,bH,aV,bX,aW,cJ,rfl,rfl,aX,aY,aZ⟩:=B0 bW
   obtain⟨rfl,bY⟩:=Sl.len aZ
   try dsimp only at aA
   have we27:=New.sndI (New.sndI (wx24))
   have hE:=oJ aA;subst hE
   exact⟨([.int .i64 bG,.int .i64 bH,.slice aV cJ.length aW]),rfl,(New.pair (New.int aX) (New.pair (New.int aY) (New.from we27 ((cG.trans sz19).trans bR))))⟩
set_option maxHeartbeats 0
theorem e0c(h:Hp)(bA:List Value)(p0:j0)(rp0:W0.R h bA p0)(r:I0)(aH:L00 p0=some r):
  Tr Tryz.prog 194 #[.agg bA.toArray] h fun v h'=>∃(a0:Option Addr) (n0 c0:Nat),v = .slice a0 n0 c0∧New F0 h h' [.slice a0 n0 c0] r:=by
 obtain⟨aF,aG,aJ,cA,aK,aR,rfl,rfl,aT,aU,aL⟩:=B0 rp0
 obtain⟨rfl,cC⟩:=Sl.len aL
 unfold L00 at aH
 dsimp only at aH
 refine Y1 (args:=[.agg #[.int .i64 aF,.int .i64 aG,.slice aJ aR.length aK]]) (fn:=Tryz.f194) rfl ?_
 obtain⟨x1,cR,aH⟩:=l0 aH
 refine Tr.mono (g03 _ [.int .i64 aF,.int .i64 aG,.slice aJ aR.length aK] (aF,aG,aR) (z0 aT aU aL) 0 (by decide) _  cR) ?_
 rintro v3 k2 ⟨cD,cE,cG,cH,cI,cJ,rfl,aM,aN,cS⟩
 obtain⟨cT,aX⟩:=x1
 dsimp only at aH aM aN
 obtain⟨rfl,cK⟩:=Sl.len aM
 obtain⟨rfl,cL⟩:=Sl.len aN
 obtain⟨x4,cU,aH⟩:=l0 aH
 obtain⟨qx4,vsx4,cV,fx4⟩:=Sl.cutI (r:=Wp.int.toRp) aM cU
 refine aI qx4 (eX vsx4 (aI cV ?_))
 intro vx4 hvx4 _
 obtain⟨dD,dE,rfl,cM⟩:=fx4 vx4 hvx4
 have dF:=(Sl.len cM).2
 obtain⟨X5,bB,aH⟩:=l0 aH
 refine eX { vars:=[20],boxes:=[],owns:=[0],fuel:=true } (eX (fun vs os h'=>∃(u6:Int) (wu7:List (List Value)) (u7:List H0),vs.tail = [.int .i64 u6]∧os = [wu7]∧Sub k2 h'∧M0 u6∧F2 (P0.R h') wu7 u7∧p6 x4 aX aF aG aR (K1 vs) u6 u7=some X5) (eX (fun _ _=>0) ?_))
 refine aI (eX S0 ⟨0,[],([]:I0),rfl,rfl,(Sub.refl _),(by decide),(F2.up (r:=P0.toRp) cS (show F2 (P0.R h) ([]:List (List Value)) ([]:I0) from trivial)),bB⟩) ?_
 rintro v_0 wu7 m9 k8 ⟨u6,zzu7,u7,bC,bD,aZ,iu6,fu7,aA⟩
 cases bC
 cases bD
 replace aA:p6 x4 aX aF aG aR m9 u6 u7=some X5:=aA
 obtain _|m9:=m9
 ·cases (show(none:Option _)=some X5 from aA)
 rw[p6.eq_2]at aA
 refine aI (fun aV=>?_) (fun aV=>?_)
 ·replace aA:=ifP aA aV
  obtain⟨x11,bE,aA⟩:=l0 aA
  obtain⟨bF,cN,bG,bH⟩:=Sl.getI (r:=Wp.int.toRp) (J0.mono aZ cM) bE (by decide)
  refine aI bF ?_
  obtain⟨rfl,aY⟩:=bH
  refine eX _ (aI bG ?_)
  obtain⟨x12,bI,aA⟩:=l0 aA
  obtain⟨bJ,cO,bK,aW⟩:=Sl.getI (r:=J0.toRp) (Q2.mono aZ aN) bI (by decide)
  refine aI bJ ?_
  obtain⟨cW,cX,cY,rfl⟩:=Wp.slice_cell aW
  obtain⟨rfl,cZ⟩:=Sl.len aW
  refine eX _ (aI bK ?_)
  obtain⟨x13,bL,aA⟩:=l0 aA
  obtain⟨bM,cP,bN,bO⟩:=Sl.getI (r:=Wp.int.toRp) aW bL (by decide)
  refine aI bM ?_
  obtain⟨rfl,bP⟩:=bO
  refine eX _ (aI bN ?_)
  obtain⟨x14,bQ,aA⟩:=l0 aA
  refine Tr.val (B01 _ [.int .i64 aF,.int .i64 aG,.slice aJ aR.length aK] (aF,aG,aR) (z0 aT aU (F0.mono (cS.trans aZ) aL)) x11 aY (IntKind.i64.wrap (0-x13)) (N0 _) _  bQ) ?_
  obtain⟨q15,bR,aA⟩:=l0 aA
  have bS:M0 x14:=O1 bR
  obtain⟨x16,bT,aA⟩:=l0 aA
  refine Tr.mono (d08 _ x14 bS x13 bP x11 aY _  bT) ?_
  rintro v18 k17 ⟨cQ,rfl,bU,aS⟩
  obtain⟨aB,aC,aD,rfl,rfl,aO,aP,aQ⟩:=I1 bU
  try dsimp only at aA
  obtain⟨q19,bV,aA⟩:=l0 aA
  refine aI (L1 bV (by first|rw[F2.length (F2.up (r:=P0.toRp) aS fu7),F2.length (show F2 (P0.R k17) ([[.int .i64 aB,.int .i64 aC,.int .i64 aD]]:List (List Value)) [(aB,aC,aD)] from⟨(D1 aO aP aQ),trivial⟩)]|exact congrArg (·+1) (F2.length (F2.up (r:=P0.toRp) aS fu7)))) ?_
  refine aI rfl (aI (by trivial) (aI (by trivial) (eX m9 (aI ⟨(IntKind.i64.wrap (u6+1)),(wu7++([[.int .i64 aB,.int .i64 aC,.int .i64 aD]]:List (List Value))),(u7 ++ [(aB,aC,aD)]),rfl,rfl,(aZ.trans aS),(N0 _),(F2.append (F2.up (r:=P0.toRp) aS fu7) (show F2 (P0.R k17) ([[.int .i64 aB,.int .i64 aC,.int .i64 aD]]:List (List Value)) [(aB,aC,aD)] from⟨(D1 aO aP aQ),trivial⟩)),aA⟩ (nS _)))))
 ·replace aA:=ifN aA aV
  have hE:=oJ aA;subst hE
  try dsimp only[T0,V0]at aH
  refine Or.inl ?_
  intro v20 k21 f22
  obtain⟨az23,cz23,rfl,rz23,sz23,lz23⟩:=Z0.out (r:=P0.toRp) f22 fu7
  obtain⟨x24,bW,aH⟩:=l0 aH
  refine Tr.mono (H03 _ az23 u7.length cz23 u7 rz23 _  bW) ?_
  rintro v26 k25 ⟨bX,dA,bY,rfl,wx24⟩
  have dB:Sub k21 k25:=wx24.sub
  have bZ:=wx24.r
  obtain⟨rfl,dC⟩:=Sl.len bZ
  have hE:=oJ aH;subst hE
  exact⟨bX,x24.length,bY,rfl,(New.from wx24 ((cS.trans aZ).trans sz23))⟩
theorem S0a(h:Hp)(aY:List Value)(p0:j0)(rp0:W0.R h aY p0)(r:I0)(aF:m00 p0=some r):
  Tr Tryz.prog 141 #[.agg aY.toArray] h fun v h'=>∃(a0:Option Addr) (n0 c0:Nat),v = .slice a0 n0 c0∧New F0 h h' [.slice a0 n0 c0] r:=by
 obtain⟨aL,aM,aN,bG,aO,aQ,rfl,rfl,aR,aS,aK⟩:=B0 rp0
 obtain⟨rfl,bH⟩:=Sl.len aK
 unfold m00 at aF
 dsimp only at aF
 refine Y1 (args:=[.agg #[.int .i64 aL,.int .i64 aM,.slice aN aQ.length aO]]) (fn:=Tryz.f141) rfl ?_
 obtain⟨x1,bK,aF⟩:=l0 aF
 refine Tr.val (f00 _ [.int .i64 aL,.int .i64 aM,.slice aN aQ.length aO] (aL,aM,aQ) (z0 aR aS aK) _  bK) ?_
 refine aI (fun aZ=>?_) (fun aZ=>?_)
 ·replace aF:=ifP aF aZ
  intro v3 k4 f5
  obtain⟨az6,cz6,rfl,rz6,sz6,lz6⟩:=Z0.out (r:=P0.toRp) f5 (show F2 (P0.R h) ([]:List (List Value)) ([]:I0) from trivial)
  have hE:=oJ aF;subst hE
  exact⟨az6,(([]:I0)).length,cz6,rfl,(Z0.newPlain (r:=P0) f5 (show F2 (P0.R h) ([]:List (List Value)) ([]:I0) from trivial) (D09 _))⟩
 ·replace aF:=ifN aF aZ
  obtain⟨x7,bL,aF⟩:=l0 aF
  refine Tr.mono (e0c _ [.int .i64 aL,.int .i64 aM,.slice aN aQ.length aO] (aL,aM,aQ) (z0 aR aS aK) _  bL) ?_
  rintro v9 k8 ⟨bM,bP,bN,rfl,wx7⟩
  have bO:Sub h k8:=wx7.sub
  have bI:=wx7.r
  obtain⟨rfl,bQ⟩:=Sl.len bI
  obtain⟨X10,aV,aF⟩:=l0 aF
  refine eX { vars:=[17],boxes:=[],owns:=[0],fuel:=true } (eX (fun vs os h'=>∃(u11:Int) (wu12:List (List Value)) (u12:List H0),vs.tail = [.int .i64 u11]∧os = [wu12]∧Sub k8 h'∧M0 u11∧F2 (P0.R h') wu12 u12∧S4 aQ x7 (K1 vs) u11 u12=some X10) (eX (fun _ _=>0) ?_))
  refine aI (eX S0 ⟨0,[],([]:I0),rfl,rfl,(Sub.refl _),(by decide),(F2.up (r:=P0.toRp) bO (show F2 (P0.R h) ([]:List (List Value)) ([]:I0) from trivial)),aV⟩) ?_
  rintro v_0 wu12 m14 k13 ⟨u11,zzu12,u12,aW,aX,aP,iu11,fu12,aD⟩
  cases aW
  cases aX
  replace aD:S4 aQ x7 m14 u11 u12=some X10:=aD
  obtain _|m14:=m14
  ·cases (show(none:Option _)=some X10 from aD)
  rw[S4.eq_2]at aD
  refine aI (fun aT=>?_) (fun aT=>?_)
  ·replace aD:=ifP aD aT
   obtain⟨x16,bA,aD⟩:=l0 aD
   obtain⟨bB,bJ,bC,bD⟩:=Sl.getI (r:=P0.toRp) (F0.mono (bO.trans aP) aK) bA (by decide)
   refine aI bB ?_
   obtain⟨aA,aB,aC,rfl,rfl,aG,aH,aJ⟩:=I1 bD
   try dsimp only at aD
   refine eX _ (aI bC ?_)
   obtain⟨x17,bE,aD⟩:=l0 aD
   refine Tr.val (w01 _ bM x7.length bN x7 (F0.mono aP bI) [.int .i64 aA,.int .i64 aB,.int .i64 aC] (aA,aB,aC) (D1 aG aH aJ) _  bE) ?_
   refine aI (fun aU=>?_) (fun aU=>?_)
   ·replace aD:=ifP aD aU
    obtain⟨q19,bF,aD⟩:=l0 aD
    refine aI (L1 bF (by first|rw[F2.length fu12,F2.length (show F2 (P0.R k13) ([[.int .i64 aA,.int .i64 aB,.int .i64 aC]]:List (List Value)) [(aA,aB,aC)] from⟨(D1 aG aH aJ),trivial⟩)]|exact congrArg (·+1) (F2.length fu12))) ?_
    refine aI rfl (aI (by trivial) (aI (by trivial) (eX m14 (aI ⟨(IntKind.i64.wrap (u11+1)),(wu12++([[.int .i64 aA,.int .i64 aB,.int .i64 aC]]:List (List Value))),(u12 ++ [(aA,aB,aC)]),rfl,rfl,aP,(N0 _),(F2.append fu12 (show F2 (P0.R k13) ([[.int .i64 aA,.int .i64 aB,.int .i64 aC]]:List (List Value)) [(aA,aB,aC)] from⟨(D1 aG aH aJ),trivial⟩)),aD⟩ (nS _)))))
   ·replace aD:=ifN aD aU
    refine aI rfl (aI (by trivial) (aI (by trivial) (eX m14 (aI ⟨(IntKind.i64.wrap (u11+1)),wu12,u12,rfl,rfl,aP,(N0 _),fu12,aD⟩ (nS _)))))
  ·replace aD:=ifN aD aT
   have hE:=oJ aD;subst hE
   try dsimp only[T0,V0]at aF
   intro v20 k21 f22
   obtain⟨az23,cz23,rfl,rz23,sz23,lz23⟩:=Z0.out (r:=P0.toRp) f22 fu12
   have hE:=oJ aF;subst hE
   exact⟨az23,u12.length,cz23,rfl,(New.from (Z0.newPlain (r:=P0) f22 fu12 (D09 _)) (bO.trans aP))⟩
theorem j0f(h:Hp)(bK:List Value)(p0:j0)(rp0:W0.R h bK p0)(r:P1)(aB:R01 p0=some r):
  Tr Tryz.prog 78 #[.agg bK.toArray] h fun v h'=>∃(a0:Option Addr) (n0 c0:Nat),v = .slice a0 n0 c0∧Q2.R h' [.slice a0 n0 c0] r∧Sub h h':=by
 obtain⟨aC,aD,aF,cQ,aG,aR,rfl,rfl,aL,aM,aH⟩:=B0 rp0
 obtain⟨rfl,cR⟩:=Sl.len aH
 unfold R01 at aB
 dsimp only at aB
 refine Y1 (args:=[.agg #[.int .i64 aC,.int .i64 aD,.slice aF aR.length aG]]) (fn:=Tryz.f78) rfl ?_
 obtain⟨x1,dB,aB⟩:=l0 aB
 refine Tr.val (G9 _ [.int .i64 aC,.int .i64 aD,.slice aF aR.length aG] (aC,aD,aR) (z0 aL aM aH) _  dB) ?_
 refine aI (fun bL=>?_) (fun bL=>?_)
 ·replace aB:=ifP aB bL
  intro v3 k4 f5
  obtain⟨az6,cz6,rfl,rz6,sz6,lz6⟩:=Z0.out (r:=J0.toRp) f5 (show F2 (J0.R h) ([]:List (List Value)) ([]:P1) from trivial)
  have hE:=oJ aB;subst hE
  exact⟨az6,(([]:P1)).length,cz6,rfl,rz6,sz6⟩
 ·replace aB:=ifN aB bL
  obtain⟨x7,dC,aB⟩:=l0 aB
  refine Tr.mono (g03 _ [.int .i64 aC,.int .i64 aD,.slice aF aR.length aG] (aC,aD,aR) (z0 aL aM aH) 0 (by decide) _  dC) ?_
  rintro v9 k8 ⟨cS,cT,cU,aO,cV,aP,rfl,aQ,aJ,dD⟩
  obtain⟨dE,aY⟩:=x7
  dsimp only at aB aQ aJ
  obtain⟨rfl,cW⟩:=Sl.len aQ
  obtain⟨rfl,cX⟩:=Sl.len aJ
  obtain⟨x10,bM,aB⟩:=l0 aB
  refine Tr.mono (S0a _ [.int .i64 aC,.int .i64 aD,.slice aF aR.length aG] (aC,aD,aR) (z0 aL aM (F0.mono dD aH)) _  bM) ?_
  rintro v12 k11 ⟨dF,dG,dH,rfl,wx10⟩
  have aZ:Sub k8 k11:=wx10.sub
  have bA:=wx10.r
  obtain⟨rfl,dI⟩:=Sl.len bA
  obtain⟨X13,bB,aB⟩:=l0 aB
  refine eX { vars:=[21],boxes:=[],owns:=[0],fuel:=true } (eX (fun vs os h'=>∃(u14:Int) (wu15:List (List Value)) (u15:List C0),vs.tail = [.int .i64 u14]∧os = [wu15]∧Sub k11 h'∧M0 u14∧F2 (J0.R h') wu15 u15∧I7 x10 aY (K1 vs) u14 u15=some X13) (eX (fun _ _=>0) ?_))
  refine aI (eX S0 ⟨0,[],([]:P1),rfl,rfl,(Sub.refl _),(by decide),(F2.up (r:=J0.toRp) (dD.trans aZ) (show F2 (J0.R h) ([]:List (List Value)) ([]:P1) from trivial)),bB⟩) ?_
  rintro v_0 wu15 m17 k16 ⟨u14,zzu15,u15,bC,bD,aN,iu14,fu15,aA⟩
  cases bC
  cases bD
  replace aA:I7 x10 aY m17 u14 u15=some X13:=aA
  obtain _|m17:=m17
  ·cases (show(none:Option _)=some X13 from aA)
  rw[I7.eq_2]at aA
  refine aI (fun aS=>?_) (fun aS=>?_)
  ·replace aA:=ifP aA aS
   obtain⟨x19,bN,aA⟩:=l0 aA
   obtain⟨bO,cY,bP,bQ⟩:=Sl.getI (r:=P0.toRp) (F0.mono aN bA) bN (by decide)
   refine aI bO ?_
   obtain⟨bE,aK,bF,rfl,rfl,bR,aT,bS⟩:=I1 bQ
   try dsimp only at aA
   refine eX _ (aI bP ?_)
   refine Or.inr (Or.inr (Or.inr (Or.inr (eX 18 (aI (aI (by kernel_rfl) (by kernel_rfl)) ?_)))))
   obtain⟨x20,bT,aA⟩:=l0 aA
   obtain⟨bU,cZ,bV,aU⟩:=Sl.getI (r:=J0.toRp) (Q2.mono (aZ.trans aN) aJ) bT (by decide)
   obtain⟨aV,dJ,aW,rfl⟩:=Wp.slice_cell aU
   obtain⟨rfl,dK⟩:=Sl.len aU
   refine Or.inl (eX (.hel (.slice aO aY.length aP) bE 1 0) (aI ?_ ?_))
   ·intro k21 s22
    exact aI bU (aI rfl (aI rfl rfl))
   refine Or.inl (eX (.val (.slice aV x20.length aW)) (aI ?_ ?_))
   ·intro k23 s24
    exact eX _ (aI (w9.up s24 bV) (aI rfl (aI rfl rfl)))
   obtain⟨x25,bW,aA⟩:=l0 aA
   refine Or.inr (eX (fun v hh=>∃(a:Option Addr) (c:Nat),v = .slice a x25.length c∧J0.R hh [.slice a x25.length c] x25∧x25.length≤9223372036854775807) (aI (fun v h1 h2 sb q=>by obtain⟨a,c,e,r,l⟩:=q;exact⟨a,c,e,J0.mono sb r,l⟩) (aI ?_ ?_)))
   ·intro k26 s27
    have bX:[aK]=x25:=oJ bW
    intro v k hf
    obtain⟨a,c,rfl,r,sb,l⟩:=Z0.out (r:=Wp.int.toRp) (xs:=x25) hf (show F2 (Wp.int.R k26) [[.int .i64 aK]] x25 from bX▸(show F2 (Wp.int.R k26) [[.int .i64 aK]] [aK] from⟨⟨rfl,aT⟩,trivial⟩))
    exact aI ⟨rfl,rfl,rfl,[_],rfl⟩ (aI sb ⟨a,c,rfl,r,l⟩)
   obtain⟨x28,bY,aA⟩:=l0 aA
   obtain⟨bZ,dA,cA,aX⟩:=Sl.getI (r:=J0.toRp) (Q2.mono (aZ.trans aN) aJ) bY (by decide)
   obtain⟨bG,dL,bH,rfl⟩:=Wp.slice_cell aX
   obtain⟨rfl,dM⟩:=Sl.len aX
   refine Or.inl (eX (.hel (.slice aO aY.length aP) bF 1 0) (aI ?_ ?_))
   ·intro k29 s30
    exact aI bZ (aI rfl (aI rfl rfl))
   refine Or.inl (eX (.val (.slice bG x28.length bH)) (aI ?_ ?_))
   ·intro k31 s32
    exact eX _ (aI (w9.up s32 cA) (aI rfl (aI rfl rfl)))
   obtain⟨x33,cC,aA⟩:=l0 aA
   refine Or.inr (eX (fun v hh=>∃(a:Option Addr) (c:Nat),v = .slice a x33.length c∧J0.R hh [.slice a x33.length c] x33∧x33.length≤9223372036854775807) (aI (fun v h1 h2 sb q=>by obtain⟨a,c,e,r,l⟩:=q;exact⟨a,c,e,J0.mono sb r,l⟩) (aI ?_ ?_)))
   ·intro k34 s35
    refine Tr.mono (f03 _ bG x28.length bH x28 (J0.mono s35 aX) _ cC) ?_
    rintro _ kk ⟨cD,dN,cE,rfl,wx33⟩
    have sb:=wx33.sub
    have bI:=wx33.r
    obtain⟨rfl,cG⟩:=Sl.len bI
    exact aI c8 (aI sb ⟨cD,cE,rfl,bI,cG⟩)
   obtain⟨x36,cH,aA⟩:=l0 aA
   refine Or.inr (eX (fun v hh=>∃(a:Option Addr) (c:Nat),v = .slice a x36.length c∧Q2.R hh [.slice a x36.length c] x36∧x36.length≤9223372036854775807) (aI (fun v h1 h2 sb q=>by obtain⟨a,c,e,r,l⟩:=q;exact⟨a,c,e,Q2.mono sb r,l⟩) (aI ?_ ?_)))
   ·intro k37 s38
    rintro _ ⟨az39,cz39,rfl,rz39,lz39⟩
    rintro _ ⟨az40,cz40,rfl,rz40,lz40⟩
    have cI:[x20,x25,x33]=x36:=oJ cH
    intro v k hf
    obtain⟨a,c,rfl,r,sb,l⟩:=Z0.out (r:=J0.toRp) (xs:=x36) hf (show F2 (J0.R k37) [[.slice aV x20.length aW],[.slice az39 x25.length cz39],[.slice az40 x33.length cz40]] x36 from cI▸(show F2 (J0.R k37) [[.slice aV x20.length aW],[.slice az39 x25.length cz39],[.slice az40 x33.length cz40]] [x20,x25,x33] from⟨(J0.mono s38 aU),⟨rz39,⟨rz40,trivial⟩⟩⟩))
    exact aI ⟨rfl,rfl,rfl,[_],rfl⟩ (aI sb ⟨a,c,rfl,r,l⟩)
   obtain⟨x41,cJ,aA⟩:=l0 aA
   refine Or.inr (eX (fun v hh=>∃(a:Option Addr) (c:Nat),v = .slice a x41.length c∧J0.R hh [.slice a x41.length c] x41∧x41.length≤9223372036854775807) (aI (fun v h1 h2 sb q=>by obtain⟨a,c,e,r,l⟩:=q;exact⟨a,c,e,J0.mono sb r,l⟩) (aI ?_ ?_)))
   ·intro k42 s43
    rintro _ ⟨az44,cz44,rfl,rz44,lz44⟩
    refine Tr.mono (U04 _ az44 x36.length cz44 x36 rz44 _ cJ) ?_
    rintro _ kk ⟨cK,dO,cL,rfl,wx41⟩
    have sb:=wx41.sub
    have bJ:=wx41.r
    obtain⟨rfl,cM⟩:=Sl.len bJ
    exact aI c8 (aI sb ⟨cK,cL,rfl,bJ,cM⟩)
   obtain⟨x45,cN,aA⟩:=l0 aA
   refine Or.inr (eX (fun v hh=>∃(a:Option Addr) (c:Nat),v = .slice a x45.length c∧Q2.R hh [.slice a x45.length c] x45∧x45.length≤9223372036854775807) (aI (fun v h1 h2 sb q=>by obtain⟨a,c,e,r,l⟩:=q;exact⟨a,c,e,Q2.mono sb r,l⟩) (aI ?_ ?_)))
   ·intro k46 s47
    rintro _ ⟨az48,cz48,rfl,rz48,lz48⟩
    have cO:[x41]=x45:=oJ cN
    intro v k hf
    obtain⟨a,c,rfl,r,sb,l⟩:=Z0.out (r:=J0.toRp) (xs:=x45) hf (show F2 (J0.R k46) [[.slice az48 x41.length cz48]] x45 from cO▸(show F2 (J0.R k46) [[.slice az48 x41.length cz48]] [x41] from⟨rz48,trivial⟩))
    exact aI ⟨rfl,rfl,rfl,[_],rfl⟩ (aI sb ⟨a,c,rfl,r,l⟩)
   intro k49 s50
   rintro _ ⟨az51,cz51,rfl,rz51,lz51⟩
   rintro _ ⟨az52,cz52,rfl,rz52,lz52⟩
   rintro _ ⟨az53,cz53,rfl,rz53,lz53⟩
   rintro _ ⟨az54,cz54,rfl,rz54,lz54⟩
   rintro _ ⟨az55,cz55,rfl,rz55,lz55⟩
   obtain⟨vsy56,ey56,fy56⟩:=Sl.rows (r:=J0.toRp) rz51
   refine eX vsy56 (aI ey56 ?_)
   obtain⟨q57,cP,aA⟩:=l0 aA
   refine aI (L1 cP (by first|rw[F2.length (F2.up (r:=J0.toRp) s50 fu15),F2.length fy56]|exact congrArg (·+1) (F2.length (F2.up (r:=J0.toRp) s50 fu15)))) ?_
   refine aI rfl (aI (by trivial) (aI (by trivial) (eX m17 (aI ⟨(IntKind.i64.wrap (u14+1)),(wu15++vsy56),(u15++x45),rfl,rfl,(aN.trans s50),(N0 _),(F2.append (F2.up (r:=J0.toRp) s50 fu15) fy56),aA⟩ (nS _)))))
  ·replace aA:=ifN aA aS
   have hE:=oJ aA;subst hE
   try dsimp only[T0,V0]at aB
   intro v58 k59 f60
   obtain⟨az61,cz61,rfl,rz61,sz61,lz61⟩:=Z0.out (r:=J0.toRp) f60 fu15
   have hE:=oJ aB;subst hE
   exact⟨az61,u15.length,cz61,rfl,rz61,(((dD.trans aZ).trans aN).trans sz61)⟩
theorem G09(h:Hp)(aN:List Value)(p0:j0)(rp0:W0.R h aN p0)(ap1:Option Addr)(np1 cp1:Nat)(p1:P1)(rp1:Q2.R h [.slice ap1 np1 cp1] p1)(r:Bool)(aB:D8 p0 p1=some r):
  Tr Tryz.prog 79 #[.agg aN.toArray,.slice ap1 np1 cp1] h fun v h'=>v = .bool r∧h'=h:=by
 obtain⟨aC,aD,aF,aV,aG,aJ,rfl,rfl,aK,aL,aH⟩:=B0 rp0
 obtain⟨rfl,aW⟩:=Sl.len aH
 obtain⟨rfl,lp1⟩:=Sl.len rp1
 unfold D8 at aB
 dsimp only at aB
 refine Tr.forget (Y1 (args:=[.agg #[.int .i64 aC,.int .i64 aD,.slice aF aJ.length aG],.slice ap1 p1.length cp1]) (fn:=Tryz.f79) rfl ?_)
 obtain⟨x1,aZ,aB⟩:=l0 aB
 refine Tr.val (G9 _ [.int .i64 aC,.int .i64 aD,.slice aF aJ.length aG] (aC,aD,aJ) (z0 aK aL aH) _  aZ) ?_
 refine aI (fun aO=>?_) (fun aO=>?_)
 ·replace aB:=ifP aB aO
  have hE:=oJ aB;subst hE
  exact aI rfl (Sub.refl _)
 ·replace aB:=ifN aB aO
  obtain⟨X3,aP,aB⟩:=l0 aB
  refine eX { vars:=[12],boxes:=[],owns:=[],fuel:=true } (eX (fun vs os h'=>∃(u4:Int),vs.tail = [.int .i64 u4]∧os = []∧Sub h h'∧M0 u4∧w5 p1 aC aD aJ (K1 vs) u4=some X3) (eX (fun _ _=>0) ?_))
  refine aI (eX S0 ⟨0,rfl,rfl,(Sub.refl _),(by decide),aP⟩) ?_
  rintro v_0 m6 k5 ⟨u4,aQ,aR,aX,iu4,aA⟩
  cases aQ
  cases aR
  replace aA:w5 p1 aC aD aJ m6 u4=some X3:=aA
  obtain _|m6:=m6
  ·cases (show(none:Option _)=some X3 from aA)
  rw[w5.eq_2]at aA
  refine aI (fun aS=>?_) (fun aS=>?_)
  ·replace aA:=ifP aA aS
   obtain⟨x8,bA,aA⟩:=l0 aA
   obtain⟨bB,bC,bD,aT⟩:=Sl.getI (r:=J0.toRp) (Q2.mono aX rp1) bA (by decide)
   refine aI bB ?_
   obtain⟨bE,bK,bF,rfl⟩:=Wp.slice_cell aT
   obtain⟨rfl,bL⟩:=Sl.len aT
   refine eX _ (aI bD ?_)
   refine Or.inr (Or.inr (Or.inr (Or.inl (aI (aI (by kernel_rfl) (by kernel_rfl)) ?_))))
   obtain⟨x9,bG,aA⟩:=l0 aA
   refine Or.inr (eX (fun v hh=>∃(a:Option Addr) (c:Nat),v = .slice a x9.length c∧J0.R hh [.slice a x9.length c] x9∧x9.length≤9223372036854775807) (aI (fun v h1 h2 sb q=>by obtain⟨a,c,e,r,l⟩:=q;exact⟨a,c,e,J0.mono sb r,l⟩) (aI ?_ ?_)))
   ·intro k10 s11
    refine Tr.mono (X03 _ bE x8.length bF x8 (J0.mono s11 aT) _ bG) ?_
    rintro _ kk ⟨bH,bM,bI,rfl,wx9⟩
    have sb:=wx9.sub
    have aY:=wx9.r
    obtain⟨rfl,bJ⟩:=Sl.len aY
    exact aI c8 (aI sb ⟨bH,bI,rfl,aY,bJ⟩)
   obtain⟨x12,aU,aA⟩:=l0 aA
   refine Or.inl (eX (.val (.bool x12)) (aI ?_ ?_))
   ·intro k13 s14
    rintro _ ⟨az15,cz15,rfl,rz15,lz15⟩
    exact Tr.val (X04 _ [.int .i64 aC,.int .i64 aD,.slice aF aJ.length aG] (aC,aD,aJ) (z0 aK aL (F0.mono (aX.trans s14) aH)) az15 x9.length cz15 x9 rz15 _ aU) (aI rfl (aI rfl rfl))
   refine Or.inl (eX (.val (.bool (!x12))) (aI ?_ ?_))
   ·intro k16 s17
    exact aI rfl (aI rfl rfl)
   intro k18 s19
   rintro _ ⟨az20,cz20,rfl,rz20,lz20⟩
   refine aI (fun aM=>?_) (fun aM=>?_)
   ·replace aA:=ifP aA aM
    have hE:=oJ aA;subst hE
    try dsimp only[S3,W3]at aB
    have hE:=oJ aB;subst hE
    exact aI rfl (aX.trans s19)
   ·replace aA:=ifN aA aM
    refine aI rfl (aI (by trivial) (aI (by trivial) (eX m6 (aI ⟨(IntKind.i64.wrap (u4+1)),rfl,rfl,(aX.trans s19),(N0 _),aA⟩ (nS _)))))
  ·replace aA:=ifN aA aS
   have hE:=oJ aA;subst hE
   try dsimp only[T0,V0]at aB
   have hE:=oJ aB;subst hE
   exact aI rfl aX
theorem T0a(h:Hp)(p0:Int)(ip0:M0 p0)(ap1:Option Addr)(np1 cp1:Nat)(p1:P1)(rp1:Q2.R h [.slice ap1 np1 cp1] p1)(r:j0×Bool)(aA:s00 p0 p1=some r):
  Tr Tryz.prog 92 #[.int .i64 p0,.slice ap1 np1 cp1] h fun v h'=>∃(cs0:List Value),v = .tuple #[.agg cs0.toArray,.bool r.2]∧New W0 h h' cs0 r.1:=by
 obtain⟨rfl,lp1⟩:=Sl.len rp1
 unfold s00 at aA
 refine Y1 (args:=[.int .i64 p0,.slice ap1 p1.length cp1]) (fn:=Tryz.f92) rfl ?_
 obtain⟨x1,bB,aA⟩:=l0 aA
 refine Tr.mono (d0d _ p0 ip0 ap1 p1.length cp1 p1 rp1 _  bB) ?_
 rintro v3 k2 ⟨aU,rfl,aK⟩
 obtain⟨bC,bD⟩:=x1
 dsimp only at aA aK
 have aY:Sub h k2:=aK.sub
 have aM:=aK.r
 obtain⟨aC,aD,aF,aS,aG,aL,rfl,rfl,aH,aJ,aB⟩:=B0 aM
 obtain⟨rfl,aT⟩:=Sl.len aB
 try dsimp only at aA
 have we4:=New.sndI (New.sndI (aK))
 refine aI (fun aV=>?_) (fun aV=>?_)
 ·replace aA:=ifP aA aV
  have hE:=oJ aA;subst hE
  exact⟨([.int .i64 0,.int .i64 0,.slice none 0 0]),rfl,(New.pair (New.int (by decide)) (New.pair (New.int (by decide)) ((New.nilSlice (r:=P0)).mono aY)))⟩
 ·replace aA:=ifN aA aV
  obtain⟨x6,bE,aA⟩:=l0 aA
  refine Tr.mono (p06 _ [.int .i64 aC,.int .i64 aD,.slice aF aL.length aG] (aC,aD,aL) (z0 aH aJ aB) _  bE) ?_
  rintro v8 k7 ⟨bF,rfl,wx6⟩
  have bI:Sub k2 k7:=wx6.sub
  have bG:=wx6.r
  obtain⟨aW,aX,aN,aZ,aO,bH,rfl,rfl,aP,aQ,aR⟩:=B0 bG
  obtain⟨rfl,bA⟩:=Sl.len aR
  try dsimp only at aA
  have we9:=New.sndI (New.sndI (wx6))
  have hE:=oJ aA;subst hE
  exact⟨([.int .i64 aW,.int .i64 aX,.slice aN bH.length aO]),rfl,(New.pair (New.int aP) (New.pair (New.int aQ) (New.from we9 aY)))⟩
theorem t9(h:Hp)(aX:List Value)(p0:j0)(rp0:W0.R h aX p0)(ap1:Option Addr)(np1 cp1:Nat)(p1:P1)(rp1:Q2.R h [.slice ap1 np1 cp1] p1)(r:Bool)(aA:V4 p0 p1=some r):
  Tr Tryz.prog 75 #[.agg aX.toArray,.slice ap1 np1 cp1] h fun v h'=>v = .bool r∧h'=h:=by
 obtain⟨aC,aD,aF,bA,aG,aS,rfl,rfl,aH,aQ,aJ⟩:=B0 rp0
 obtain⟨rfl,bB⟩:=Sl.len aJ
 obtain⟨rfl,lp1⟩:=Sl.len rp1
 unfold V4 at aA
 dsimp only at aA
 refine Tr.forget (Y1 (args:=[.agg #[.int .i64 aC,.int .i64 aD,.slice aF aS.length aG],.slice ap1 p1.length cp1]) (fn:=Tryz.f75) rfl ?_)
 obtain⟨x1,bD,aA⟩:=l0 aA
 refine Tr.val (G9 _ [.int .i64 aC,.int .i64 aD,.slice aF aS.length aG] (aC,aD,aS) (z0 aH aQ aJ) _  bD) ?_
 refine aI (fun aY=>?_) (fun aY=>?_)
 ·replace aA:=ifP aA aY
  have hE:=oJ aA;subst hE
  exact aI rfl (Sub.refl _)
 ·replace aA:=ifN aA aY
  obtain⟨x3,bE,aA⟩:=l0 aA
  refine Tr.mono (T0a _ aC aH ap1 p1.length cp1 p1 rp1 _  bE) ?_
  rintro v5 k4 ⟨aZ,rfl,aT⟩
  obtain⟨bF,bG⟩:=x3
  dsimp only at aA aT
  have bC:Sub h k4:=aT.sub
  have aU:=aT.r
  obtain⟨aK,aL,aM,aV,aN,aR,rfl,rfl,aO,aP,aB⟩:=B0 aU
  obtain⟨rfl,aW⟩:=Sl.len aB
  try dsimp only at aA
  obtain⟨x6,bH,aA⟩:=l0 aA
  refine eX (.bool x6) (aI (fun q=>W04 _ [.int .i64 aC,.int .i64 aD,.slice aF aS.length aG] (aC,aD,aS) (z0 aH aQ (F0.mono bC aJ)) [.int .i64 aK,.int .i64 aL,.slice aM aR.length aN] (aK,aL,aR) (z0 aO aP aB) _  (F1 bH q)) ?_)
  have hE:=oJ aA;subst hE
  exact aI rfl bC
theorem Z06(h:Hp)(aL:List Value)(p0:j0)(rp0:W0.R h aL p0)(ap1:Option Addr)(np1 cp1:Nat)(p1:C0)(rp1:J0.R h [.slice ap1 np1 cp1] p1)(r:Bool)(aG:d00 p0 p1=some r):
  Tr Tryz.prog 80 #[.agg aL.toArray,.slice ap1 np1 cp1] h fun v h'=>v = .bool r∧h'=h:=by
 obtain⟨aA,aB,aC,aM,aD,aK,rfl,rfl,aH,aJ,aF⟩:=B0 rp0
 obtain⟨rfl,aN⟩:=Sl.len aF
 obtain⟨rfl,lp1⟩:=Sl.len rp1
 unfold d00 at aG
 dsimp only at aG
 refine Tr.forget (Y1 (args:=[.agg #[.int .i64 aA,.int .i64 aB,.slice aC aK.length aD],.slice ap1 p1.length cp1]) (fn:=Tryz.f80) rfl ?_)
 refine Or.inr (Or.inr (Or.inr (Or.inl (aI (aI (by kernel_rfl) (by kernel_rfl)) ?_))))
 obtain⟨x1,aP,aG⟩:=l0 aG
 refine Or.inl (eX (.val (.bool x1)) (aI ?_ ?_))
 ·intro k2 s3
  exact Tr.val (G9 _ [.int .i64 aA,.int .i64 aB,.slice aC aK.length aD] (aA,aB,aK) (z0 aH aJ (F0.mono s3 aF)) _ aP) (aI rfl (aI rfl rfl))
 obtain⟨x4,aQ,aG⟩:=l0 aG
 refine Or.inr (eX (fun v hh=>∃(a:Option Addr) (c:Nat),v = .slice a x4.length c∧J0.R hh [.slice a x4.length c] x4∧x4.length≤9223372036854775807) (aI (fun v h1 h2 sb q=>by obtain⟨a,c,e,r,l⟩:=q;exact⟨a,c,e,J0.mono sb r,l⟩) (aI ?_ ?_)))
 ·intro k5 s6 hq
  refine Tr.mono (X03 _ ap1 p1.length cp1 p1 (J0.mono s6 rp1) _ (F1 aQ hq)) ?_
  rintro _ kk ⟨aR,aV,aS,rfl,wx4⟩
  have sb:=wx4.sub
  have aO:=wx4.r
  obtain⟨rfl,aT⟩:=Sl.len aO
  exact aI c8 (aI sb ⟨aR,aS,rfl,aO,aT⟩)
 obtain⟨x7,aU,aG⟩:=l0 aG
 refine Or.inl (eX (.val (.bool x7)) (aI ?_ ?_))
 ·intro k8 s9 hq
  rintro _ ⟨az10,cz10,rfl,rz10,lz10⟩
  exact Tr.val (X04 _ [.int .i64 aA,.int .i64 aB,.slice aC aK.length aD] (aA,aB,aK) (z0 aH aJ (F0.mono s9 aF)) az10 x4.length cz10 x4 rz10 _ (F1 aU hq)) (aI rfl (aI rfl rfl))
 intro k11 s12
 have hE:=oJ aG;subst hE
 exact aI rfl s12
theorem C0f(h:Hp)(bV:List Value)(p0:j0)(rp0:W0.R h bV p0)(ap1:Option Addr)(np1 cp1:Nat)(p1:C0)(rp1:J0.R h [.slice ap1 np1 cp1] p1)(r:j0×Int×Bool)(aG:E03 p0 p1=some r):
  Tr Tryz.prog 144 #[.agg bV.toArray,.slice ap1 np1 cp1] h fun v h'=>∃(cs0:List Value),v = .tuple #[.agg cs0.toArray,.int .i64 r.2.1,.bool r.2.2]∧W0.R h' cs0 r.1∧Sub h h':=by
 obtain⟨aT,aN,aO,cD,aP,bJ,rfl,rfl,aX,aQ,aR⟩:=B0 rp0
 obtain⟨rfl,cE⟩:=Sl.len aR
 obtain⟨rfl,lp1⟩:=Sl.len rp1
 unfold E03 at aG
 dsimp only at aG
 refine Y1 (args:=[.agg #[.int .i64 aT,.int .i64 aN,.slice aO bJ.length aP],.slice ap1 p1.length cp1]) (fn:=Tryz.f144) rfl ?_
 obtain⟨x1,cH,aG⟩:=l0 aG
 obtain⟨bK,bW⟩:=x1
 try dsimp only at aG
 refine Tr.val (v05 _ [.int .i64 aT,.int .i64 aN,.slice aO bJ.length aP] (aT,aN,bJ) (z0 aX aQ aR) 0 (by decide) ap1 p1.length cp1 p1 rp1 _  cH) ?_
 obtain⟨q2,cI,aG⟩:=l0 aG
 have bL:M0 bK:=O1 cI
 obtain⟨q3,cJ,aG⟩:=l0 aG
 have cG:M0 bW:=O1 cJ
 refine aI (fun bX=>?_) (fun bX=>?_)
 ·replace aG:=ifP aG bX
  have hE:=oJ aG;subst hE
  exact⟨([.int .i64 aT,.int .i64 aN,.slice aO bJ.length aP]),rfl,(z0 aX aQ aR),(Sub.refl _)⟩
 ·replace aG:=ifN aG bX
  obtain⟨x5,cK,aG⟩:=l0 aG
  refine Tr.mono (d0c _ [.int .i64 aT,.int .i64 aN,.slice aO bJ.length aP] (aT,aN,bJ) (z0 aX aQ aR) _  cK) ?_
  rintro v7 k6 ⟨bY,rfl,bM⟩
  obtain⟨cL,cM⟩:=x5
  dsimp only at aG bM
  have cN:Sub h k6:=bM.sub
  have bN:=bM.r
  obtain⟨aY,aZ,bB,bS,bC,bF,rfl,rfl,bD,bE,aS⟩:=B0 bN
  obtain⟨rfl,bT⟩:=Sl.len aS
  try dsimp only at aG
  refine aI (fun bZ=>?_) (fun bZ=>?_)
  ·replace aG:=ifP aG bZ
   have hE:=oJ aG;subst hE
   exact⟨([.int .i64 0,.int .i64 0,.slice none 0 0]),rfl,(z0 (by decide) (by decide) (z0b P0 k6)),cN⟩
  ·replace aG:=ifN aG bZ
   refine Or.inr (Or.inr (Or.inr (Or.inr (eX 10 (aI (aI (by kernel_rfl) (by kernel_rfl)) ?_)))))
   obtain⟨x9,cO,aG⟩:=l0 aG
   refine Or.inr (eX (fun v hh=>∃(a:Option Addr) (c:Nat),v = .slice a x9.length c∧J0.R hh [.slice a x9.length c] x9∧x9.length≤9223372036854775807) (aI (fun v h1 h2 sb q=>by obtain⟨a,c,e,r,l⟩:=q;exact⟨a,c,e,J0.mono sb r,l⟩) (aI ?_ ?_)))
   ·intro k10 s11
    obtain⟨qx9,vsx9,cP,fx9⟩:=Sl.cutI (r:=Wp.int.toRp) (J0.mono (cN.trans s11) rp1) cO
    refine aI qx9 (eX vsx9 (aI cP ?_))
    intro v hv _
    obtain⟨a,c,rfl,r⟩:=fx9 v hv
    exact aI c8 (aI (Sub.refl _) ⟨a,c,rfl,r,(Sl.len r).2⟩)
   obtain⟨x12,cA,aG⟩:=l0 aG
   obtain⟨bO,bA⟩:=x12
   try dsimp only at aG
   obtain⟨aC,aD,aL⟩:=bO
   try dsimp only at aG
   refine Or.inr (eX (fun v hh=>∃(aF:Value),v = .tuple #[aF,.bool bA]∧(fun v hh=>∃(aA:Option Addr) (aB:Nat),v = .agg #[.int .i64 aC,.int .i64 aD,.slice aA aL.length aB]∧M0 aC∧M0 aD∧F0.R hh [.slice aA aL.length aB] aL∧aL.length≤9223372036854775807) aF hh) (aI (fun v h1 h2 sb q=>by obtain⟨aF,e,aM⟩:=q;exact⟨aF,e,(by obtain⟨aA,aB,e,f0,f1,f2,f3⟩:=aM;exact⟨aA,aB,e,f0,f1,F0.mono sb f2,f3⟩)⟩) (aI ?_ ?_)))
   ·intro k13 s14
    rintro _ ⟨az15,cz15,rfl,rz15,lz15⟩
    refine Tr.mono (e08 _ [.int .i64 aY,.int .i64 aZ,.slice bB bF.length bC] (aY,aZ,bF) (z0 bD bE (F0.mono s14 aS)) bK bL az15 x9.length cz15 x9 rz15 aN aQ _ cA) ?_
    rintro _ kk ⟨bU,rfl,cC⟩
    have sb:=cC.sub
    have bG:=cC.r
    obtain⟨bP,bQ,aH,bI,aJ,bR,rfl,ey,aU,aV,aK⟩:=B0 bG
    cases ey
    obtain⟨rfl,aW⟩:=Sl.len aK
    exact aI c8 (aI sb ⟨(.agg #[.int .i64 aC,.int .i64 aD,.slice aH aL.length aJ]),rfl,⟨aH,aJ,rfl,aU,aV,aK,aW⟩⟩)
   refine Or.inr (eX (fun v hh=>∃(aF:Value),v = .tuple #[aF,.bool bA]∧(fun v hh=>∃(aA:Option Addr) (aB:Nat),v = .agg #[.int .i64 aC,.int .i64 aD,.slice aA aL.length aB]∧M0 aC∧M0 aD∧F0.R hh [.slice aA aL.length aB] aL∧aL.length≤9223372036854775807) aF hh) (aI (fun v h1 h2 sb q=>by obtain⟨aF,e,aM⟩:=q;exact⟨aF,e,(by obtain⟨aA,aB,e,f0,f1,f2,f3⟩:=aM;exact⟨aA,aB,e,f0,f1,F0.mono sb f2,f3⟩)⟩) (aI ?_ ?_)))
   ·intro k16 s17
    rintro _ ⟨_,rfl,⟨az18p02,cz18p02,rfl,iz18p00,iz18p01,rz18p02,lz18p02⟩⟩
    exact aI c8 (aI (Sub.refl _) ⟨(.agg #[.int .i64 aC,.int .i64 aD,.slice az18p02 aL.length cz18p02]),rfl,⟨az18p02,cz18p02,rfl,iz18p00,iz18p01,rz18p02,lz18p02⟩⟩)
   refine Or.inr (eX (fun v hh=>∃(aA:Option Addr) (aB:Nat),v = .agg #[.int .i64 aC,.int .i64 aD,.slice aA aL.length aB]∧M0 aC∧M0 aD∧F0.R hh [.slice aA aL.length aB] aL∧aL.length≤9223372036854775807) (aI (fun v h1 h2 sb q=>by obtain⟨aA,aB,e,f0,f1,f2,f3⟩:=q;exact⟨aA,aB,e,f0,f1,F0.mono sb f2,f3⟩) (aI ?_ ?_)))
   ·intro k19 s20
    rintro _ ⟨_,rfl,⟨az21p02,cz21p02,rfl,iz21p00,iz21p01,rz21p02,lz21p02⟩⟩
    exact aI c8 (aI (Sub.refl _) ⟨az21p02,cz21p02,rfl,iz21p00,iz21p01,rz21p02,lz21p02⟩)
   refine Or.inl (eX (.val (.bool bA)) (aI ?_ ?_))
   ·intro k22 s23
    rintro _ ⟨_,rfl,⟨az24p02,cz24p02,rfl,iz24p00,iz24p01,rz24p02,lz24p02⟩⟩
    exact aI rfl (aI rfl rfl)
   intro k25 s26
   rintro _ ⟨az272,cz272,rfl,iz270,iz271,rz272,lz272⟩
   rintro _ ⟨_,rfl,⟨az28p02,cz28p02,rfl,iz28p00,iz28p01,rz28p02,lz28p02⟩⟩
   rintro _ ⟨_,rfl,⟨az29p02,cz29p02,rfl,iz29p00,iz29p01,rz29p02,lz29p02⟩⟩
   rintro _ ⟨az30,cz30,rfl,rz30,lz30⟩
   refine aI (fun bH=>?_) (fun bH=>?_)
   ·replace aG:=ifP aG bH
    have hE:=oJ aG;subst hE
    exact⟨([.int .i64 0,.int .i64 0,.slice none 0 0]),rfl,(z0 (by decide) (by decide) (z0b P0 k25)),(cN.trans s26)⟩
   ·replace aG:=ifN aG bH
    have hE:=oJ aG;subst hE
    exact⟨([.int .i64 aC,.int .i64 aD,.slice az272 aL.length cz272]),rfl,(z0 iz270 iz271 rz272),(cN.trans s26)⟩
theorem H05(h:Hp)(bJ:List Value)(p0:j0)(rp0:W0.R h bJ p0)(ap1:Option Addr)(np1 cp1:Nat)(p1:C0)(rp1:J0.R h [.slice ap1 np1 cp1] p1)(r:j0×Bool)(aA:F4 p0 p1=some r):
  Tr Tryz.prog 81 #[.agg bJ.toArray,.slice ap1 np1 cp1] h fun v h'=>∃(cs0:List Value),v = .tuple #[.agg cs0.toArray,.bool r.2]∧New W0 h h' cs0 r.1:=by
 obtain⟨aC,aD,aF,bP,aG,bB,rfl,rfl,aH,aV,aJ⟩:=B0 rp0
 obtain⟨rfl,bQ⟩:=Sl.len aJ
 obtain⟨rfl,lp1⟩:=Sl.len rp1
 unfold F4 at aA
 dsimp only at aA
 refine Y1 (args:=[.agg #[.int .i64 aC,.int .i64 aD,.slice aF bB.length aG],.slice ap1 p1.length cp1]) (fn:=Tryz.f81) rfl ?_
 obtain⟨x1,bS,aA⟩:=l0 aA
 refine Tr.val (G9 _ [.int .i64 aC,.int .i64 aD,.slice aF bB.length aG] (aC,aD,bB) (z0 aH aV aJ) _  bS) ?_
 obtain⟨x2,bT,aA⟩:=l0 aA
 refine eX (.bool x2) (aI (fun q=>G03 _ aC aH ap1 p1.length cp1 p1 rp1 _  (F1 bT q)) ?_)
 refine aI (fun bK=>?_) (fun bK=>?_)
 ·replace aA:=ifP aA bK
  have hE:=oJ aA;subst hE
  exact⟨([.int .i64 0,.int .i64 0,.slice none 0 0]),rfl,(New.pair (New.int (by decide)) (New.pair (New.int (by decide)) ((New.nilSlice (r:=P0)).mono (Sub.refl _))))⟩
 ·replace aA:=ifN aA bK
  obtain⟨x4,bU,aA⟩:=l0 aA
  refine Tr.mono (C0f _ [.int .i64 aC,.int .i64 aD,.slice aF bB.length aG] (aC,aD,bB) (z0 aH aV aJ) ap1 p1.length cp1 p1 rp1 _  bU) ?_
  rintro v6 k5 ⟨bL,rfl,aW,bR⟩
  obtain⟨bV,bC,bW⟩:=x4
  dsimp only at aA aW
  obtain⟨aK,aL,aM,bF,aN,aY,rfl,rfl,aO,aP,aB⟩:=B0 aW
  obtain⟨rfl,bG⟩:=Sl.len aB
  try dsimp only at aA
  obtain⟨q7,bX,aA⟩:=l0 aA
  have bD:M0 bC:=O1 bX
  refine aI (fun bM=>?_) (fun bM=>?_)
  ·replace aA:=ifP aA bM
   have hE:=oJ aA;subst hE
   exact⟨([.int .i64 0,.int .i64 0,.slice none 0 0]),rfl,(New.pair (New.int (by decide)) (New.pair (New.int (by decide)) ((New.nilSlice (r:=P0)).mono bR)))⟩
  ·replace aA:=ifN aA bM
   obtain⟨x9,bY,aA⟩:=l0 aA
   refine Tr.mono (f0d _ [.int .i64 aK,.int .i64 aL,.slice aM aY.length aN] (aK,aL,aY) (z0 aO aP aB) bC bD _  bY) ?_
   rintro v11 k10 ⟨bN,rfl,aX⟩
   obtain⟨bZ,cA⟩:=x9
   dsimp only at aA aX
   have cC:Sub k5 k10:=aX.sub
   have bE:=aX.r
   obtain⟨aZ,bA,aQ,bH,aR,bO,rfl,rfl,aS,aT,aU⟩:=B0 bE
   obtain⟨rfl,bI⟩:=Sl.len aU
   try dsimp only at aA
   have we12:=New.sndI (New.sndI (aX))
   have hE:=oJ aA;subst hE
   exact⟨([.int .i64 aZ,.int .i64 bA,.slice aQ bO.length aR]),rfl,(New.pair (New.int aS) (New.pair (New.int aT) (New.from we12 bR)))⟩
theorem D0f(h:Hp)(aK:List Value)(p0:j0)(rp0:W0.R h aK p0)(r:Int)(aA:r01 p0=some r):
  Tr Tryz.prog 83 #[.agg aK.toArray] h fun v h'=>v = .int .i64 r∧h'=h:=by
 obtain⟨aF,aG,aB,aN,aC,aL,rfl,rfl,aH,aJ,aD⟩:=B0 rp0
 obtain⟨rfl,aO⟩:=Sl.len aD
 unfold r01 at aA
 dsimp only at aA
 refine Tr.forget (Y1 (args:=[.agg #[.int .i64 aF,.int .i64 aG,.slice aB aL.length aC]]) (fn:=Tryz.f83) rfl ?_)
 obtain⟨x1,aP,aA⟩:=l0 aA
 refine Tr.val (G9 _ [.int .i64 aF,.int .i64 aG,.slice aB aL.length aC] (aF,aG,aL) (z0 aH aJ aD) _  aP) ?_
 refine aI (fun aM=>?_) (fun aM=>?_)
 ·replace aA:=ifP aA aM
  have hE:=oJ aA;subst hE
  exact aI rfl (Sub.refl _)
 ·replace aA:=ifN aA aM
  have hE:=oJ aA;subst hE
  exact aI rfl (Sub.refl _)
theorem k0f(h:Hp)(aK:List Value)(p0:j0)(rp0:W0.R h aK p0)(r:Int)(aA:V01 p0=some r):
  Tr Tryz.prog 84 #[.agg aK.toArray] h fun v h'=>v = .int .i64 r∧h'=h:=by
 obtain⟨aF,aG,aB,aN,aC,aL,rfl,rfl,aH,aJ,aD⟩:=B0 rp0
 obtain⟨rfl,aO⟩:=Sl.len aD
 unfold V01 at aA
 dsimp only at aA
 refine Tr.forget (Y1 (args:=[.agg #[.int .i64 aF,.int .i64 aG,.slice aB aL.length aC]]) (fn:=Tryz.f84) rfl ?_)
 obtain⟨x1,aP,aA⟩:=l0 aA
 refine Tr.val (g08 _ [.int .i64 aF,.int .i64 aG,.slice aB aL.length aC] (aF,aG,aL) (z0 aH aJ aD) _  aP) ?_
 refine aI (fun aM=>?_) (fun aM=>?_)
 ·replace aA:=ifP aA aM
  have hE:=oJ aA;subst hE
  exact aI rfl (Sub.refl _)
 ·replace aA:=ifN aA aM
  have hE:=oJ aA;subst hE
  exact aI rfl (Sub.refl _)
theorem U0a(h:Hp)(cA:List Value)(p0:S00)(rp0:u01.R h cA p0)(r:Bool)(aC:t00 p0=some r):
  Tr Tryz.prog 17 #[.agg cA.toArray] h fun v h'=>v = .bool r∧h'=h:=by
 obtain⟨cC,bL,aP,dE,aQ,bB,aU,dF,aV,bF,bH,dG,bI,cD,aG,aH,aJ,dH,aK,aS,cE,rfl,rfl,dI,bJ,aR,aW,bK,aN,aO,aL,dJ⟩:=n01 rp0
 obtain⟨rfl,dK⟩:=Sl.len aR
 obtain⟨rfl,dL⟩:=Sl.len aW
 obtain⟨rfl,dM⟩:=Sl.len bK
 obtain⟨rfl,dN⟩:=Sl.len aL
 unfold t00 at aC
 dsimp only at aC
 refine Tr.forget (Y1 (args:=[.agg #[.int .i64 cC,.int .i64 bL,.slice aP bB.length aQ,.slice aU bF.length aV,.slice bH cD.length bI,.int .i64 aG,.int .i64 aH,.slice aJ aS.length aK,.int .i64 cE]]) (fn:=Tryz.f17) rfl ?_)
 obtain⟨x1,dP,aC⟩:=l0 aC
 refine Tr.val (W06 _ bL bJ aP bB.length aQ bB aR _  dP) ?_
 obtain⟨x2,dQ,aC⟩:=l0 aC
 refine eX (.bool x2) (aI (fun q=>G03 _ bL bJ aU bF.length aV bF aW _  (F1 dQ q)) ?_)
 obtain⟨x3,dR,aC⟩:=l0 aC
 refine eX (.bool x3) (aI (fun q=>G9 _ [.int .i64 aG,.int .i64 aH,.slice aJ aS.length aK] (aG,aH,aS) (z0 aN aO aL) _  (F1 dR q)) ?_)
 refine aI (fun cG=>?_) (fun cG=>?_)
 ·replace aC:=ifP aC cG
  have hE:=oJ aC;subst hE
  exact aI rfl (Sub.refl _)
 ·replace aC:=ifN aC cG
  refine aI (fun cH=>?_) (fun cH=>?_)
  ·replace aC:=ifP aC cH
   refine Or.inr (Or.inr (Or.inr (Or.inl (aI (aI (by kernel_rfl) (by kernel_rfl)) ?_))))
   obtain⟨x6,dS,aC⟩:=l0 aC
   refine Or.inl (eX (.val (.bool x6)) (aI ?_ ?_))
   ·intro k7 s8
    exact Tr.val (t9 _ [.int .i64 aG,.int .i64 aH,.slice aJ aS.length aK] (aG,aH,aS) (z0 aN aO (F0.mono s8 aL)) aP bB.length aQ bB (Q2.mono s8 aR) _ dS) (aI rfl (aI rfl rfl))
   obtain⟨x9,dT,aC⟩:=l0 aC
   refine Or.inr (eX (fun v hh=>∃(a:Option Addr) (c:Nat),v = .slice a x9.length c∧Q2.R hh [.slice a x9.length c] x9∧x9.length≤9223372036854775807) (aI (fun v h1 h2 sb q=>by obtain⟨a,c,e,r,l⟩:=q;exact⟨a,c,e,Q2.mono sb r,l⟩) (aI ?_ ?_)))
   ·intro k10 s11 hq
    refine Tr.mono (j0f _ [.int .i64 aG,.int .i64 aH,.slice aJ aS.length aK] (aG,aH,aS) (z0 aN aO (F0.mono s11 aL)) _ (F1 dT hq)) ?_
    rintro _ kk ⟨dU,eB,dV,rfl,dO,sb⟩
    obtain⟨rfl,dW⟩:=Sl.len dO
    exact aI c8 (aI sb ⟨dU,dV,rfl,dO,dW⟩)
   obtain⟨x12,cI,aC⟩:=l0 aC
   refine Or.inr (eX (fun v hh=>∃(a:Option Addr) (c:Nat),v = .slice a x12.length c∧J0.R hh [.slice a x12.length c] x12∧x12.length≤9223372036854775807) (aI (fun v h1 h2 sb q=>by obtain⟨a,c,e,r,l⟩:=q;exact⟨a,c,e,J0.mono sb r,l⟩) (aI ?_ ?_)))
   ·intro k13 s14 hq
    rintro _ ⟨az15,cz15,rfl,rz15,lz15⟩
    refine Tr.mono (g0d _ az15 x9.length cz15 x9 rz15 bH cD.length bI cD (J0.mono s14 bK) _ (F1 cI hq)) ?_
    rintro _ kk ⟨cJ,dX,cK,rfl,bT,sb⟩
    obtain⟨rfl,cL⟩:=Sl.len bT
    exact aI c8 (aI sb ⟨cJ,cK,rfl,bT,cL⟩)
   obtain⟨x16,cM,aC⟩:=l0 aC
   refine Or.inl (eX (.val (.bool x16)) (aI ?_ ?_))
   ·intro k17 s18 hq
    rintro _ ⟨az19,cz19,rfl,rz19,lz19⟩
    exact Tr.val (M0a _ az19 x12.length cz19 x12 rz19 aU bF.length aV bF (J0.mono s18 aW) _ (F1 cM hq)) (aI rfl (aI rfl rfl))
   intro k20 s21
   have hE:=oJ aC;subst hE
   exact aI rfl s21
  ·replace aC:=ifN aC cH
   refine aI (fun bM=>?_) (fun bM=>?_)
   ·replace aC:=ifP aC bM
    obtain⟨x23,cN,aC⟩:=l0 aC
    refine Tr.val (G09 _ [.int .i64 aG,.int .i64 aH,.slice aJ aS.length aK] (aG,aH,aS) (z0 aN aO aL) aP bB.length aQ bB aR _  cN) ?_
    obtain⟨x24,cO,aC⟩:=l0 aC
    refine eX (.bool x24) (aI (fun q=>Z06 _ [.int .i64 aG,.int .i64 aH,.slice aJ aS.length aK] (aG,aH,aS) (z0 aN aO aL) aU bF.length aV bF aW _  (F1 cO q)) ?_)
    have hE:=oJ aC;subst hE
    exact aI rfl (Sub.refl _)
   ·replace aC:=ifN aC bM
    refine aI (fun bN=>?_) (fun bN=>?_)
    ·replace aC:=ifP aC bN
     obtain⟨x26,cP,aC⟩:=l0 aC
     refine Tr.val (t9 _ [.int .i64 aG,.int .i64 aH,.slice aJ aS.length aK] (aG,aH,aS) (z0 aN aO aL) aP bB.length aQ bB aR _  cP) ?_
     obtain⟨x27,cQ,aC⟩:=l0 aC
     refine eX (.bool x27) (aI (fun q=>Z06 _ [.int .i64 aG,.int .i64 aH,.slice aJ aS.length aK] (aG,aH,aS) (z0 aN aO aL) aU bF.length aV bF aW _  (F1 cQ q)) ?_)
     have hE:=oJ aC;subst hE
     exact aI rfl (Sub.refl _)
    ·replace aC:=ifN aC bN
     refine aI (fun bO=>?_) (fun bO=>?_)
     ·replace aC:=ifP aC bO
      refine Or.inr (Or.inr (Or.inr (Or.inr (eX 10 (aI (aI (by kernel_rfl) (by kernel_rfl)) ?_)))))
      obtain⟨x29,cR,aC⟩:=l0 aC
      refine Or.inr (eX (fun v hh=>∃(a:Option Addr) (c:Nat),v = .slice a x29.length c∧J0.R hh [.slice a x29.length c] x29∧x29.length≤9223372036854775807) (aI (fun v h1 h2 sb q=>by obtain⟨a,c,e,r,l⟩:=q;exact⟨a,c,e,J0.mono sb r,l⟩) (aI ?_ ?_)))
      ·intro k30 s31
       refine Tr.mono (f03 _ aU bF.length aV bF (J0.mono s31 aW) _ cR) ?_
       rintro _ kk ⟨cS,dY,cT,rfl,wx29⟩
       have sb:=wx29.sub
       have bU:=wx29.r
       obtain⟨rfl,cU⟩:=Sl.len bU
       exact aI c8 (aI sb ⟨cS,cT,rfl,bU,cU⟩)
      obtain⟨x32,cV,aC⟩:=l0 aC
      obtain⟨bV,bG⟩:=x32
      try dsimp only at aC
      obtain⟨aD,aF,aT⟩:=bV
      try dsimp only at aC
      refine Or.inr (eX (fun v hh=>∃(aM:Value),v = .tuple #[aM,.bool bG]∧(fun v hh=>∃(aA:Option Addr) (aB:Nat),v = .agg #[.int .i64 aD,.int .i64 aF,.slice aA aT.length aB]∧M0 aD∧M0 aF∧F0.R hh [.slice aA aT.length aB] aT∧aT.length≤9223372036854775807) aM hh) (aI (fun v h1 h2 sb q=>by obtain⟨aM,e,bA⟩:=q;exact⟨aM,e,(by obtain⟨aA,aB,e,f0,f1,f2,f3⟩:=bA;exact⟨aA,aB,e,f0,f1,F0.mono sb f2,f3⟩)⟩) (aI ?_ ?_)))
      ·intro k33 s34
       rintro _ ⟨az35,cz35,rfl,rz35,lz35⟩
       refine Tr.mono (H05 _ [.int .i64 aG,.int .i64 aH,.slice aJ aS.length aK] (aG,aH,aS) (z0 aN aO (F0.mono s34 aL)) az35 x29.length cz35 x29 rz35 _ cV) ?_
       rintro _ kk ⟨bZ,rfl,cW⟩
       have sb:=cW.sub
       have bP:=cW.r
       obtain⟨bW,bX,aX,bS,aY,bY,rfl,ey,bC,bD,aZ⟩:=B0 bP
       cases ey
       obtain⟨rfl,bE⟩:=Sl.len aZ
       exact aI c8 (aI sb ⟨(.agg #[.int .i64 aD,.int .i64 aF,.slice aX aT.length aY]),rfl,⟨aX,aY,rfl,bC,bD,aZ,bE⟩⟩)
      refine Or.inr (eX (fun v hh=>∃(aM:Value),v = .tuple #[aM,.bool bG]∧(fun v hh=>∃(aA:Option Addr) (aB:Nat),v = .agg #[.int .i64 aD,.int .i64 aF,.slice aA aT.length aB]∧M0 aD∧M0 aF∧F0.R hh [.slice aA aT.length aB] aT∧aT.length≤9223372036854775807) aM hh) (aI (fun v h1 h2 sb q=>by obtain⟨aM,e,bA⟩:=q;exact⟨aM,e,(by obtain⟨aA,aB,e,f0,f1,f2,f3⟩:=bA;exact⟨aA,aB,e,f0,f1,F0.mono sb f2,f3⟩)⟩) (aI ?_ ?_)))
      ·intro k36 s37
       rintro _ ⟨_,rfl,⟨az38p02,cz38p02,rfl,iz38p00,iz38p01,rz38p02,lz38p02⟩⟩
       exact aI c8 (aI (Sub.refl _) ⟨(.agg #[.int .i64 aD,.int .i64 aF,.slice az38p02 aT.length cz38p02]),rfl,⟨az38p02,cz38p02,rfl,iz38p00,iz38p01,rz38p02,lz38p02⟩⟩)
      refine Or.inr (eX (fun v hh=>∃(aA:Option Addr) (aB:Nat),v = .agg #[.int .i64 aD,.int .i64 aF,.slice aA aT.length aB]∧M0 aD∧M0 aF∧F0.R hh [.slice aA aT.length aB] aT∧aT.length≤9223372036854775807) (aI (fun v h1 h2 sb q=>by obtain⟨aA,aB,e,f0,f1,f2,f3⟩:=q;exact⟨aA,aB,e,f0,f1,F0.mono sb f2,f3⟩) (aI ?_ ?_)))
      ·intro k39 s40
       rintro _ ⟨_,rfl,⟨az41p02,cz41p02,rfl,iz41p00,iz41p01,rz41p02,lz41p02⟩⟩
       exact aI c8 (aI (Sub.refl _) ⟨az41p02,cz41p02,rfl,iz41p00,iz41p01,rz41p02,lz41p02⟩)
      refine Or.inl (eX (.val (.bool bG)) (aI ?_ ?_))
      ·intro k42 s43
       rintro _ ⟨_,rfl,⟨az44p02,cz44p02,rfl,iz44p00,iz44p01,rz44p02,lz44p02⟩⟩
       exact aI rfl (aI rfl rfl)
      intro k45 s46
      rintro _ ⟨az472,cz472,rfl,iz470,iz471,rz472,lz472⟩
      rintro _ ⟨_,rfl,⟨az48p02,cz48p02,rfl,iz48p00,iz48p01,rz48p02,lz48p02⟩⟩
      rintro _ ⟨_,rfl,⟨az49p02,cz49p02,rfl,iz49p00,iz49p01,rz49p02,lz49p02⟩⟩
      rintro _ ⟨az50,cz50,rfl,rz50,lz50⟩
      obtain⟨x51,cX,aC⟩:=l0 aC
      refine eX (.bool x51) (aI (fun q=>t9 _ [.int .i64 aD,.int .i64 aF,.slice az472 aT.length cz472] (aD,aF,aT) (z0 iz470 iz471 rz472) aP bB.length aQ bB (Q2.mono s46 aR) _  (F1 cX q)) ?_)
      have hE:=oJ aC;subst hE
      exact aI rfl s46
     ·replace aC:=ifN aC bO
      refine aI (fun bQ=>?_) (fun bQ=>?_)
      ·replace aC:=ifP aC bQ
       refine Or.inl (aI (aI (by kernel_rfl) (by kernel_rfl)) ?_)
       obtain⟨x53,cY,aC⟩:=l0 aC
       refine eX (.bool x53) (aI (t9 _ [.int .i64 aG,.int .i64 aH,.slice aJ aS.length aK] (aG,aH,aS) (z0 aN aO aL) aP bB.length aQ bB aR _  cY) ?_)
       obtain⟨x54,cZ,aC⟩:=l0 aC
       refine eX (.int .i64 x54) (aI (fun q=>D0f _ [.int .i64 aG,.int .i64 aH,.slice aJ aS.length aK] (aG,aH,aS) (z0 aN aO aL) _  (F1 cZ q)) ?_)
       obtain⟨q55,dA,aC⟩:=l0 aC
       have dZ:M0 x54:=O1 dA
       have hE:=oJ aC;subst hE
       exact aI rfl (Sub.refl _)
      ·replace aC:=ifN aC bQ
       refine aI (fun bR=>?_) (fun bR=>?_)
       ·replace aC:=ifP aC bR
        refine Or.inl (aI (aI (by kernel_rfl) (by kernel_rfl)) ?_)
        obtain⟨x57,dB,aC⟩:=l0 aC
        refine eX (.bool x57) (aI (t9 _ [.int .i64 aG,.int .i64 aH,.slice aJ aS.length aK] (aG,aH,aS) (z0 aN aO aL) aP bB.length aQ bB aR _  dB) ?_)
        obtain⟨x58,dC,aC⟩:=l0 aC
        refine eX (.int .i64 x58) (aI (fun q=>k0f _ [.int .i64 aG,.int .i64 aH,.slice aJ aS.length aK] (aG,aH,aS) (z0 aN aO aL) _  (F1 dC q)) ?_)
        obtain⟨q59,dD,aC⟩:=l0 aC
        have eA:M0 x58:=O1 dD
        have hE:=oJ aC;subst hE
        exact aI rfl (Sub.refl _)
       ·replace aC:=ifN aC bR
        have hE:=oJ aC;subst hE
        exact aI rfl (Sub.refl _)
end Go.Proofs.YtcakocbgbelmeaaGreat
