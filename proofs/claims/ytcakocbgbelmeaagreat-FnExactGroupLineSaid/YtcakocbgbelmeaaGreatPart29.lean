/- Texts of the claim, joined: The walks of batch g2 and others. -/
import Derived.Test.YtcakocbgbelmeaaGreatPart18
import Derived.Test.YtcakocbgbelmeaaGreatChecked
import Derived.Test.YtcakocbgbelmeaaGreatH35
import Derived.Test.YtcakocbgbelmeaaGreatPart25
import Derived.Test.YtcakocbgbelmeaaGreatPart27
import Derived.Test.YtcakocbgbelmeaaGreatPart21
import Derived.Test.YtcakocbgbelmeaaGreatH40
import Derived.Test.YtcakocbgbelmeaaGreatH41
import Derived.Test.YtcakocbgbelmeaaGreatPart28
namespace Go.Proofs.YtcakocbgbelmeaaGreat
open Go.H
set_option linter.unusedVariables false
set_option linter.unusedSimpArgs false
set_option maxRecDepth 10000
theorem c4 (h:Hp) (aH:List Value) (p0:l0) (rp0:K1.R h aH p0) (r:l0) (aB:T2 p0=some r) :
  Tr Tryz.prog 158 #[.agg aH.toArray] h fun v h'=>∃(g0:Nat) (n0 c0:Nat),v = .agg ([.int .i64 r.1,.int .i64 r.2.1,.slice (some ⟨g0,0,none⟩) n0 c0]:List Value).toArray∧New K1 h h' [.int .i64 r.1,.int .i64 r.2.1,.slice (some ⟨g0,0,none⟩) n0 c0] r:=by
 obtain⟨aJ,aK,aC,aM,aD,aL,rfl,rfl,aF,aG,aA⟩:=F0 rp0
 obtain⟨rfl,aN⟩:=Sl.len aA
 unfold T2 at aB
 dsimp only at aB
 refine C2 (args:=[.agg #[.int .i64 aJ,.int .i64 aK,.slice aC aL.length aD]]) (fn:=Tryz.f158) rfl ?_
 refine Or.inr (Or.inr (Or.inl (aI (aI (by kernel_rfl) (by kernel_rfl)) ?_)))
 refine Or.inr ?_
 refine Or.inr ?_
 refine Or.inr ?_
 refine Or.inr ?_
 refine Or.inl (eX 0 (aI (aI rfl rfl) ?_))
 refine aI trivial (aI (by first|exact trivial|exact rfl) ?_)
 obtain⟨vsy1,ey1,fy1⟩:=Sl.rows (r:=C1.toRp) aA
 refine eX vsy1 (aI ey1 ?_)
 obtain⟨q2,aO,aB⟩:=j0 aB
 refine aI (P1 aO (by first|rw[F2.length (show F2 (C1.R h) ([]:List (List Value)) ([]:T0) from trivial),F2.length fy1]|exact congrArg (·+1) (F2.length (show F2 (C1.R h) ([]:List (List Value)) ([]:T0) from trivial)))) ?_
 refine aI trivial (aI (by first|exact trivial|exact rfl) ?_)
 refine aI trivial (aI (by first|exact trivial|exact rfl) ?_)
 refine aI trivial (aI (by first|exact trivial|exact rfl) ?_)
 intro v3 k4 f5
 obtain⟨gz6,cz6,rfl,rz6,sz6,lz6⟩:=j1.outS (r:=C1.toRp) f5 (F2.append (show F2 (C1.R h) ([]:List (List Value)) ([]:T0) from trivial) fy1)
 have hE:=oJ aB;subst hE
 exact⟨gz6,((([]:T0)++aL)).length,cz6,rfl,(New.pair (New.int aF) (New.pair (New.int aG) (j1.newPlain (r:=C1) f5 (F2.append (show F2 (C1.R h) ([]:List (List Value)) ([]:T0) from trivial) fy1) (A0c _))))⟩
theorem H0d (h:Hp) (aK:List Value) (p0:l0) (rp0:K1.R h aK p0) (p1:Int) (ip1:H0 p1) (r:Int) (aD:Q00 p0 p1=some r) :
  Tr Tryz.prog 190 #[.agg aK.toArray,.int .i64 p1] h fun v h'=>v = .int .i64 r∧h'=h:=by
 obtain⟨aL,aM,aG,aT,aH,aJ,rfl,rfl,aU,aV,aB⟩:=F0 rp0
 obtain⟨rfl,aW⟩:=Sl.len aB
 unfold Q00 at aD
 dsimp only at aD
 refine Tr.forget (C2 (args:=[.agg #[.int .i64 aL,.int .i64 aM,.slice aG aJ.length aH],.int .i64 p1]) (fn:=Tryz.f190) rfl ?_)
 obtain⟨X1,aN,aD⟩:=j0 aD
 refine eX { vars:=[5,11],boxes:=[],owns:=[],fuel:=true } (eX (fun vs os h'=>∃(u2:Int) (u3:Int),vs.tail = [.int .i64 u2,.int .i64 u3]∧os = []∧Sub h h'∧H0 u2∧H0 u3∧E5 aJ p1 (H1 vs) u2 u3=some X1) (eX (fun _ _=>0) ?_))
 refine aI (eX N0 ⟨0,0,rfl,rfl,(Sub.refl _),(by decide),(by decide),aN⟩) ?_
 rintro v_0 v_1 m5 k4 ⟨u2,u3,aO,aP,aF,iu2,iu3,aA⟩
 cases aO
 cases aP
 replace aA:E5 aJ p1 m5 u2 u3=some X1:=aA
 obtain _|m5:=m5
 ·cases (show(none:Option _)=some X1 from aA)
 rw[E5.eq_2]at aA
 refine aI (fun aQ=>?_) (fun aQ=>?_)
 ·replace aA:=ifP aA aQ
  obtain⟨x7,bA,aA⟩:=j0 aA
  obtain⟨bB,bC,bD,bE⟩:=Sl.getI (r:=C1.toRp) (S0.mono aF aB) bA (by decide)
  refine aI bB ?_
  obtain⟨bF,bG,bH,rfl,rfl,aX,aY,aZ⟩:=M1 bE
  try dsimp only at aA
  refine eX _ (aI bD ?_)
  refine aI (fun aR=>?_) (fun aR=>?_)
  ·replace aA:=ifP aA aR
   refine aI (fun aS=>?_) (fun aS=>?_)
   ·replace aA:=ifP aA aS
    refine aI rfl (aI (by repeat first|exact trivial|refine aI rfl ?_) (aI (by repeat first|exact trivial|refine aI rfl ?_) (eX m5 (aI ⟨(IntKind.i64.wrap ((IntKind.i64.wrap (u2+1))+1)),(IntKind.i64.wrap (u3+1)),rfl,rfl,aF,(I0 _),(I0 _),aA⟩ (nS _)))))
   ·replace aA:=ifN aA aS
    refine aI rfl (aI (by repeat first|exact trivial|refine aI rfl ?_) (aI (by repeat first|exact trivial|refine aI rfl ?_) (eX m5 (aI ⟨(IntKind.i64.wrap (u2+1)),(IntKind.i64.wrap (u3+1)),rfl,rfl,aF,(I0 _),(I0 _),aA⟩ (nS _)))))
  ·replace aA:=ifN aA aR
   refine aI (fun aC=>?_) (fun aC=>?_)
   ·replace aA:=ifP aA aC
    refine aI rfl (aI (by repeat first|exact trivial|refine aI rfl ?_) (aI (by repeat first|exact trivial|refine aI rfl ?_) (eX m5 (aI ⟨(IntKind.i64.wrap (u2+1)),(IntKind.i64.wrap (u3+1)),rfl,rfl,aF,(I0 _),(I0 _),aA⟩ (nS _)))))
   ·replace aA:=ifN aA aC
    refine aI rfl (aI (by repeat first|exact trivial|refine aI rfl ?_) (aI (by repeat first|exact trivial|refine aI rfl ?_) (eX m5 (aI ⟨u2,(IntKind.i64.wrap (u3+1)),rfl,rfl,aF,iu2,(I0 _),aA⟩ (nS _)))))
 ·replace aA:=ifN aA aQ
  have hE:=oJ aA;subst hE
  try dsimp only[P0,Q0]at aD
  have hE:=oJ aD;subst hE
  exact aI rfl aF
theorem E08 (h:Hp) (aM:List Value) (p0:l0) (rp0:K1.R h aM p0) (p1:Int) (ip1:H0 p1) (r:(List Bool)) (aC:i9 p0 p1=some r) :
  Tr Tryz.prog 189 #[.agg aM.toArray,.int .i64 p1] h fun v h'=>∃(a0:Option Addr) (n0 c0:Nat),v = .slice a0 n0 c0∧(Wp.slice Wp.bool).R h' [.slice a0 n0 c0] r∧Sub h h':=by
 obtain⟨aN,aO,aJ,bT,aK,aD,rfl,rfl,bU,bV,aF⟩:=F0 rp0
 obtain⟨rfl,bW⟩:=Sl.len aF
 unfold i9 at aC
 dsimp only at aC
 refine C2 (args:=[.agg #[.int .i64 aN,.int .i64 aO,.slice aJ aD.length aK],.int .i64 p1]) (fn:=Tryz.f189) rfl ?_
 obtain⟨q1,cH,aC⟩:=j0 aC
 refine aI (M0 cH) ?_
 obtain⟨x2,cI,aC⟩:=j0 aC
 obtain⟨cJ,cK,cL,cM⟩:=J4 (F2.rep (p:=Wp.bool.R h) (a:=[.bool false]) (b:=false) rfl (aO.toNat)) cI
 refine aI cJ ?_
 obtain rfl:=cM
 refine eX _ (aI cL ?_)
 obtain⟨X3,aP,aC⟩:=j0 aC
 refine eX { vars:=[6],boxes:=[],owns:=[0],fuel:=true,kept:=[0] } (eX (fun vs os h'=>∃(u4:Bool) (wu5:List (List Value)) (u5:List Bool),vs.tail = [.bool u4]∧os = [wu5]∧Sub h h'∧F2 (Wp.bool.R h') wu5 u5∧Z4 aD (H1 vs) u4 u5=some X3) (eX (fun _ _=>0) ?_))
 refine aI (eX N0 ⟨true,((List.replicate aO.toNat ([.bool false]:List Value)).set p1.toNat [.bool true]),((List.replicate aO.toNat (false:Bool)).set p1.toNat true),rfl,rfl,(Sub.refl _),(F2.set (p:=Wp.bool.R h) (a:=[.bool true]) (b:=true) rfl p1.toNat (F2.rep (p:=Wp.bool.R h) (a:=[.bool false]) (b:=false) rfl (aO.toNat))),aP⟩) ?_
 rintro v_0 wu5 m7 k6 ⟨u4,zzu5,u5,aQ,aR,cN,fu5,aB⟩
 cases aQ
 cases aR
 replace aB:Z4 aD m7 u4 u5=some X3:=aB
 obtain _|m7:=m7
 ·cases (show(none:Option _)=some X3 from aB)
 rw[Z4.eq_2]at aB
 refine aI (fun aS=>?_) (fun aS=>?_)
 ·replace aB:=ifP aB aS
  obtain⟨X9,aT,aB⟩:=j0 aB
  refine eX { vars:=[6,19],boxes:=[],owns:=[0],fuel:=true,kept:=[0] } (eX (fun vs os h'=>∃(u10:Bool) (u11:Int) (wu12:List (List Value)) (u12:List Bool),vs.tail = [.bool u10,.int .i64 u11]∧os = [wu12]∧Sub k6 h'∧H0 u11∧F2 (Wp.bool.R h') wu12 u12∧w4 aD (H1 vs) u10 u11 u12=some X9) (eX (fun _ _=>0) ?_))
  refine aI (eX N0 ⟨false,0,wu5,u5,rfl,rfl,(Sub.refl _),(by decide),fu5,aT⟩) ?_
  rintro v_0 v_1 wu12 m14 k13 ⟨u10,u11,zzu12,u12,aU,aV,aL,iu11,fu12,aA⟩
  cases aU
  cases aV
  replace aA:w4 aD m14 u10 u11 u12=some X9:=aA
  obtain _|m14:=m14
  ·cases (show(none:Option _)=some X9 from aA)
  rw[w4.eq_2]at aA
  refine aI (fun aG=>?_) (fun aG=>?_)
  ·replace aA:=ifP aA aG
   obtain⟨x16,aW,aA⟩:=j0 aA
   obtain⟨aX,bX,aY,aZ⟩:=Sl.getI (r:=C1.toRp) (S0.mono (cN.trans aL) aF) aW (by decide)
   refine aI aX ?_
   obtain⟨bY,bZ,cA,rfl,rfl,bA,bB,bC⟩:=M1 aZ
   try dsimp only at aA
   refine eX _ (aI aY ?_)
   refine Or.inl (aI (aI (by kernel_rfl) (by kernel_rfl)) ?_)
   obtain⟨x17,bD,aA⟩:=j0 aA
   obtain⟨bE,cC,bF,bG⟩:=J4 fu12 bD
   refine aI bE ?_
   obtain rfl:=bG
   refine eX _ (aI bF ?_)
   obtain⟨x18,bH,aA⟩:=j0 aA
   obtain⟨bI,cD,bJ,bK⟩:=J4 fu12 bH
   refine aI bI ?_
   obtain rfl:=bK
   refine eX _ (aI bJ ?_)
   refine aI (fun aH=>?_) (fun aH=>?_)
   ·replace aA:=ifP aA aH
    obtain⟨x20,bL,aA⟩:=j0 aA
    obtain⟨bM,cE,bN,bO⟩:=J4 fu12 bL
    refine aI bM ?_
    obtain rfl:=bO
    refine eX _ (aI bN ?_)
    obtain⟨x21,bP,aA⟩:=j0 aA
    obtain⟨bQ,cG,bR,bS⟩:=J4 (F2.set (p:=Wp.bool.R k13) (a:=[.bool true]) (b:=true) rfl bY.toNat fu12) bP
    refine aI bQ ?_
    obtain rfl:=bS
    refine eX _ (aI bR ?_)
    refine aI rfl (aI (by repeat first|exact trivial|refine aI rfl ?_) (aI (by repeat first|exact trivial|refine aI rfl ?_) (eX m14 (aI ⟨true,(IntKind.i64.wrap (u11+1)),((wu12.set bY.toNat [.bool true]).set cA.toNat [.bool true]),((u12.set bY.toNat true).set cA.toNat true),rfl,rfl,aL,(I0 _),(F2.set (p:=Wp.bool.R k13) (a:=[.bool true]) (b:=true) rfl cA.toNat (F2.set (p:=Wp.bool.R k13) (a:=[.bool true]) (b:=true) rfl bY.toNat fu12)),aA⟩ (nS _)))))
   ·replace aA:=ifN aA aH
    refine aI rfl (aI (by repeat first|exact trivial|refine aI rfl ?_) (aI (by repeat first|exact trivial|refine aI rfl ?_) (eX m14 (aI ⟨u10,(IntKind.i64.wrap (u11+1)),wu12,u12,rfl,rfl,aL,(I0 _),fu12,aA⟩ (nS _)))))
  ·replace aA:=ifN aA aG
   have hE:=oJ aA;subst hE
   try dsimp only[P0,Q0]at aB
   refine aI rfl (aI (by repeat first|exact trivial|refine aI rfl ?_) (aI (by repeat first|exact trivial|refine aI rfl ?_) (eX m7 (aI ⟨u10,wu12,u12,rfl,rfl,(cN.trans aL),fu12,aB⟩ (nS _)))))
 ·replace aB:=ifN aB aS
  have hE:=oJ aB;subst hE
  try dsimp only[P0,Q0]at aC
  intro v27 k28 f29
  obtain⟨az30,cz30,rfl,rz30,sz30,lz30⟩:=j1.out (r:=Wp.bool.toRp) f29 fu5
  have hE:=oJ aC;subst hE
  exact⟨az30,u5.length,cz30,rfl,rz30,(cN.trans sz30)⟩
theorem d08 (h:Hp) (p0:Int) (ip0:H0 p0) (r:D0) (aB:L9 p0=some r) :
  Tr Tryz.prog 193 #[.int .i64 p0] h fun v h'=>∃(a0:Option Addr) (n0 c0:Nat),v = .slice a0 n0 c0∧J0.R h' [.slice a0 n0 c0] r∧Sub h h':=by
 unfold L9 at aB
 refine C2 (args:=[.int .i64 p0]) (fn:=Tryz.f193) rfl ?_
 obtain⟨X1,aC,aB⟩:=j0 aB
 refine eX { vars:=[4],boxes:=[],owns:=[0],fuel:=true } (eX (fun vs os h'=>∃(u2:Int) (wu3:List (List Value)) (u3:List Int),vs.tail = [.int .i64 u2]∧os = [wu3]∧Sub h h'∧H0 u2∧F2 (Wp.int.R h') wu3 u3∧z7 p0 (H1 vs) u2 u3=some X1) (eX (fun _ _=>0) ?_))
 refine aI (eX N0 ⟨1,[],([]:D0),rfl,rfl,(Sub.refl _),(by decide),(show F2 (Wp.int.R h) ([]:List (List Value)) ([]:D0) from trivial),aC⟩) ?_
 rintro v_0 wu3 m5 k4 ⟨u2,zzu3,u3,aD,aF,aH,iu2,fu3,aA⟩
 cases aD
 cases aF
 replace aA:z7 p0 m5 u2 u3=some X1:=aA
 obtain _|m5:=m5
 ·cases (show(none:Option _)=some X1 from aA)
 rw[z7.eq_2]at aA
 refine aI (fun aG=>?_) (fun aG=>?_)
 ·replace aA:=ifP aA aG
  obtain⟨q7,aJ,aA⟩:=j0 aA
  refine aI (P1 aJ (by first|rw[F2.length fu3,F2.length (show F2 (Wp.int.R k4) ([[.int .i64 u2],[.int .i64 (IntKind.i64.wrap (0-u2))]]:List (List Value)) [u2,(IntKind.i64.wrap (0-u2))] from⟨⟨rfl,iu2⟩,⟨⟨rfl,(I0 _)⟩,trivial⟩⟩)]|exact congrArg (·+2) (F2.length fu3))) ?_
  refine aI rfl (aI (by repeat first|exact trivial|refine aI rfl ?_) (aI (by repeat first|exact trivial|refine aI rfl ?_) (eX m5 (aI ⟨(IntKind.i64.wrap (u2+1)),(wu3++([[.int .i64 u2],[.int .i64 (IntKind.i64.wrap (0-u2))]]:List (List Value))),(u3 ++ [u2,(IntKind.i64.wrap (0-u2))]),rfl,rfl,aH,(I0 _),(F2.append fu3 (show F2 (Wp.int.R k4) ([[.int .i64 u2],[.int .i64 (IntKind.i64.wrap (0-u2))]]:List (List Value)) [u2,(IntKind.i64.wrap (0-u2))] from⟨⟨rfl,iu2⟩,⟨⟨rfl,(I0 _)⟩,trivial⟩⟩)),aA⟩ (nS _)))))
 ·replace aA:=ifN aA aG
  have hE:=oJ aA;subst hE
  try dsimp only[P0,Q0]at aB
  intro v8 k9 f10
  obtain⟨az11,cz11,rfl,rz11,sz11,lz11⟩:=j1.out (r:=Wp.int.toRp) f10 fu3
  have hE:=oJ aB;subst hE
  exact⟨az11,u3.length,cz11,rfl,rz11,(aH.trans sz11)⟩
theorem p03 (h:Hp) (ap0:Option Addr) (np0 cp0:Nat) (p0:T0) (rp0:S0.R h [.slice ap0 np0 cp0] p0) (r:T0) (aA:p9 p0=some r) :
  Tr Tryz.prog 232 #[.slice ap0 np0 cp0] h fun v h'=>∃(a0:Option Addr) (n0 c0:Nat),v = .slice a0 n0 c0∧New S0 h h' [.slice a0 n0 c0] r:=by
 obtain⟨rfl,lp0⟩:=Sl.len rp0
 unfold p9 at aA
 refine C2 (args:=[.slice ap0 p0.length cp0]) (fn:=Tryz.f232) rfl ?_
 obtain⟨vsy1,ey1,fy1⟩:=Sl.rows (r:=C1.toRp) rp0
 refine eX vsy1 (aI ey1 ?_)
 obtain⟨q2,aB,aA⟩:=j0 aA
 refine aI (P1 aB (by first|rw[F2.length (show F2 (C1.R h) ([]:List (List Value)) ([]:T0) from trivial),F2.length fy1]|exact congrArg (·+1) (F2.length (show F2 (C1.R h) ([]:List (List Value)) ([]:T0) from trivial)))) ?_
 refine Or.inl ?_
 intro v3 k4 f5
 obtain⟨q6,aC,aA⟩:=j0 aA
 refine Tr.mono (w0k _ f5 (F2.append (show F2 (C1.R h) ([]:List (List Value)) ([]:T0) from trivial) fy1) (M0 aC)) ?_
 rintro _ kz7 ⟨rfl,vsz7,fz7,qz7⟩
 obtain⟨az7,cz7,rfl,rz7,sz7,lz7⟩:=j1.out (r:=C1.toRp) fz7 qz7
 refine Tr.mono (x0k _ fz7 qz7) ?_
 rintro _ kz8 ⟨vsz8,fz8,qz8⟩
 obtain⟨az8,cz8,rfl,rz8,sz8,lz8⟩:=j1.out (r:=C1.toRp) fz8 qz8
 have hE:=oJ aA;subst hE
 exact⟨az8,((b00 eqE (w02 U0 (([]:T0)++p0)))).length,cz8,rfl,(j1.newPlain (r:=C1) fz8 qz8 (A0c _))⟩
theorem q0d (h:Hp) (bA:List Value) (p0:l0) (rp0:K1.R h bA p0) (ap1:Option Addr) (np1 cp1:Nat) (p1:D0) (rp1:J0.R h [.slice ap1 np1 cp1] p1) (r:l0) (aC:r02 p0 p1=some r) :
  Tr Tryz.prog 191 #[.agg bA.toArray,.slice ap1 np1 cp1] h fun v h'=>∃(cs0:List Value),v = .agg cs0.toArray∧New K1 h h' cs0 r:=by
 obtain⟨aM,bB,aN,cT,aO,aP,rfl,rfl,aQ,cU,aH⟩:=F0 rp0
 obtain⟨rfl,cV⟩:=Sl.len aH
 obtain⟨rfl,lp1⟩:=Sl.len rp1
 unfold r02 at aC
 dsimp only at aC
 refine C2 (args:=[.agg #[.int .i64 aM,.int .i64 bB,.slice aN aP.length aO],.slice ap1 p1.length cp1]) (fn:=Tryz.f191) rfl ?_
 obtain⟨q1,dG,aC⟩:=j0 aC
 refine aI (M0 dG) ?_
 obtain⟨m2,gm2,aC⟩:=j0 aC
 obtain rfl:(List.replicate bB.toNat ([.int .i64 0]:List Value)).length=m2:=(F2.length (F2.rep (p:=Wp.int.R h) (a:=[.int .i64 0]) (b:=0) ⟨rfl,(by decide)⟩ (bB.toNat))).trans (oJ gm2)
 obtain⟨q3,dQ,aC⟩:=j0 aC
 obtain⟨X4,bC,aC⟩:=j0 aC
 refine eX { vars:=[17],boxes:=[],owns:=[0],fuel:=true,kept:=[0] } (eX (fun vs os h'=>∃(u5:Int) (wu6:List (List Value)) (u6:List Int),vs.tail = [.int .i64 u5]∧os = [wu6]∧Sub h h'∧H0 u5∧F2 (Wp.int.R h') wu6 u6∧s9 ((List.replicate bB.toNat ([.int .i64 0]:List Value))).length (H1 vs) u5 u6=some X4) (eX (fun _ _=>0) ?_))
 refine aI (eX N0 ⟨0,(List.replicate bB.toNat ([.int .i64 0]:List Value)),(List.replicate bB.toNat (0:Int)),rfl,rfl,(Sub.refl _),(by decide),(F2.rep (p:=Wp.int.R h) (a:=[.int .i64 0]) (b:=0) ⟨rfl,(by decide)⟩ (bB.toNat)),bC⟩) ?_
 rintro v_0 wu6 m8 k7 ⟨u5,zzu6,u6,bD,bE,dH,iu5,fu6,aA⟩
 cases bD
 cases bE
 replace aA:s9 ((List.replicate bB.toNat ([.int .i64 0]:List Value))).length m8 u5 u6=some X4:=aA
 obtain _|m8:=m8
 ·cases (show(none:Option _)=some X4 from aA)
 rw[s9.eq_2]at aA
 refine aI (fun bF=>?_) (fun bF=>?_)
 ·replace aA:=ifP aA bF
  obtain⟨x10,bG,aA⟩:=j0 aA
  obtain⟨bH,cW,bI,bJ⟩:=J4 fu6 bG
  refine aI bH ?_
  obtain⟨rfl,dI⟩:=bJ
  refine eX _ (aI bI ?_)
  refine aI rfl (aI (by repeat first|exact trivial|refine aI rfl ?_) (aI (by repeat first|exact trivial|refine aI rfl ?_) (eX m8 (aI ⟨(IntKind.i64.wrap (u5+1)),(wu6.set u5.toNat [.int .i64 (-1)]),(u6.set u5.toNat (-1)),rfl,rfl,dH,(I0 _),(F2.set (p:=Wp.int.R k7) (a:=[.int .i64 (-1)]) (b:=(-1)) ⟨rfl,(by decide)⟩ u5.toNat fu6),aA⟩ (nS _)))))
 ·replace aA:=ifN aA bF
  have hE:=oJ aA;subst hE
  try dsimp only[P0,Q0]at aC
  obtain⟨X11,aR,aC⟩:=j0 aC
  refine eX { vars:=[26],boxes:=[],owns:=[0],fuel:=true,kept:=[0] } (eX (fun vs os h'=>∃(u12:Int) (wu13:List (List Value)) (u13:List Int),vs.tail = [.int .i64 u12]∧os = [wu13]∧Sub k7 h'∧H0 u12∧F2 (Wp.int.R h') wu13 u13∧r9 p1 (H1 vs) u12 u13=some X11) (eX (fun _ _=>0) ?_))
  refine aI (eX N0 ⟨0,wu6,u6,rfl,rfl,(Sub.refl _),(by decide),fu6,aR⟩) ?_
  rintro v_0 wu13 m15 k14 ⟨u12,zzu13,u13,aS,aT,aG,iu12,fu13,aA⟩
  cases aS
  cases aT
  replace aA:r9 p1 m15 u12 u13=some X11:=aA
  obtain _|m15:=m15
  ·cases (show(none:Option _)=some X11 from aA)
  rw[r9.eq_2]at aA
  refine aI (fun aJ=>?_) (fun aJ=>?_)
  ·replace aA:=ifP aA aJ
   obtain⟨x17,bK,aA⟩:=j0 aA
   obtain⟨bL,cX,bM,bN⟩:=Sl.getI (r:=Wp.int.toRp) (J0.mono (dH.trans aG) rp1) bK (by decide)
   refine aI bL ?_
   obtain⟨rfl,dJ⟩:=bN
   refine eX _ (aI bM ?_)
   obtain⟨x18,bO,aA⟩:=j0 aA
   obtain⟨bP,cY,bQ,bR⟩:=J4 fu13 bO
   refine aI bP ?_
   obtain⟨rfl,dK⟩:=bR
   refine eX _ (aI bQ ?_)
   refine aI rfl (aI (by repeat first|exact trivial|refine aI rfl ?_) (aI (by repeat first|exact trivial|refine aI rfl ?_) (eX m15 (aI ⟨(IntKind.i64.wrap (u12+1)),(wu13.set x17.toNat [.int .i64 u12]),(u13.set x17.toNat u12),rfl,rfl,aG,(I0 _),(F2.set (p:=Wp.int.R k14) (a:=[.int .i64 u12]) (b:=u12) ⟨rfl,iu12⟩ x17.toNat fu13),aA⟩ (nS _)))))
  ·replace aA:=ifN aA aJ
   have hE:=oJ aA;subst hE
   try dsimp only[P0,Q0]at aC
   obtain⟨X19,aU,aC⟩:=j0 aC
   refine eX { vars:=[44],boxes:=[2],owns:=[1],fuel:=true,nilsB:=[(2,2,115,3,24)] } (eX (fun vs os h'=>∃(u20:Int) (u21:Int) (u22:Int) (wu23:List (List Value)) (u23:List K0),vs.tail = [.int .i64 u20,.int .i64 u21,.int .i64 u22]∧os = [wu23]∧Sub k14 h'∧H0 u20∧H0 u21∧H0 u22∧F2 (C1.R h') wu23 u23∧L8 aP u13 (H1 vs) u20 u21 u22 u23=some X19) (eX (fun _ _=>0) ?_))
   refine aI (eX N0 ⟨0,aM,((p1.length:Nat):Int),[],([]:T0),rfl,rfl,(Sub.refl _),(by decide),aQ,(d0m lp1),(show F2 (C1.R k14) [] [] from trivial),aU⟩) ?_
   rintro v_0 v_1 v_2 wu23 m25 k24 ⟨u20,u21,u22,zzu23,u23,aV,aW,aD,iu20,iu21,iu22,fu23,aA⟩
   cases aV
   cases aW
   replace aA:L8 aP u13 m25 u20 u21 u22 u23=some X19:=aA
   obtain _|m25:=m25
   ·cases (show(none:Option _)=some X19 from aA)
   rw[L8.eq_2]at aA
   refine aI (fun aK=>?_) (fun aK=>?_)
   ·replace aA:=ifP aA aK
    obtain⟨x27,bS,aA⟩:=j0 aA
    obtain⟨bT,cZ,bU,bV⟩:=Sl.getI (r:=C1.toRp) (S0.mono ((dH.trans aG).trans aD) aH) bS (by decide)
    refine aI bT ?_
    obtain⟨dA,aB,dB,rfl,rfl,bW,aF,bX⟩:=M1 bV
    try dsimp only at aA
    refine eX _ (aI bU ?_)
    obtain⟨x28,bY,aA⟩:=j0 aA
    obtain⟨bZ,dC,cA,cC⟩:=J4 (F2.up (r:=Wp.int.toRp) aD fu13) bY
    refine aI bZ ?_
    obtain⟨rfl,dL⟩:=cC
    refine eX _ (aI cA ?_)
    obtain⟨x29,cD,aA⟩:=j0 aA
    obtain⟨dD,aX,cE⟩:=x0a (F2.up (r:=Wp.int.toRp) aD fu13) cD (O03 k24)
    refine aI (fun q=>(aX q).1) ?_
    obtain⟨rfl,dM⟩:=cE
    refine eX _ (aI (fun q=>(aX q).2) ?_)
    refine aI (fun aL=>?_) (fun aL=>?_)
    ·replace aA:=ifP aA aL
     refine Or.inr (Or.inr (Or.inl (aI (aI (by kernel_rfl) (by kernel_rfl)) ?_)))
     obtain⟨x31,cG,aA⟩:=j0 aA
     obtain⟨cH,dE,cI,cJ⟩:=J4 (F2.up (r:=Wp.int.toRp) aD fu13) cG
     obtain⟨rfl,aY⟩:=cJ
     refine Or.inl ?_
     apply eX
     refine aI ?_ ?_
     ·intro k32 s33
      exact aI cH (aI rfl (aI rfl rfl))
     refine Or.inl (eX (.val (.int .i64 x31)) (aI ?_ ?_))
     ·intro k34 s35
      exact eX _ (aI cI (aI rfl (aI rfl rfl)))
     obtain⟨x36,cK,aA⟩:=j0 aA
     obtain⟨cL,dF,cM,cN⟩:=J4 (F2.up (r:=Wp.int.toRp) aD fu13) cK
     obtain⟨rfl,aZ⟩:=cN
     refine Or.inl ?_
     apply eX
     refine aI ?_ ?_
     ·intro k37 s38
      exact aI cL (aI rfl (aI rfl rfl))
     refine Or.inl (eX (.val (.int .i64 x36)) (aI ?_ ?_))
     ·intro k39 s40
      exact eX _ (aI cM (aI rfl (aI rfl rfl)))
     refine Or.inl (eX (.agg [.val (.int .i64 x31),.val (.int .i64 aB),.val (.int .i64 x36)]) (aI ?_ ?_))
     ·intro k41 s42
      exact aI rfl (aI rfl rfl)
     refine Or.inr ?_
     refine Or.inr ?_
     refine Or.inr ?_
     refine Or.inl (eX 0 (aI (aI rfl rfl) ?_))
     refine aI trivial (aI (by first|exact trivial|exact rfl) ?_)
     obtain⟨q43,cO,aA⟩:=j0 aA
     refine aI (P1 cO (by first|rw[F2.length fu23,F2.length (show F2 (C1.R k24) ([[.int .i64 x31,.int .i64 aB,.int .i64 x36]]:List (List Value)) [(x31,aB,x36)] from⟨(G1 aY aF aZ),trivial⟩)]|exact congrArg (·+1) (F2.length fu23))) ?_
     refine aI trivial (aI (by first|exact trivial|exact rfl) ?_)
     refine aI trivial (aI (by first|exact trivial|exact rfl) ?_)
     refine aI rfl (aI (by repeat first|exact trivial|refine aI rfl ?_) (aI (by repeat first|exact trivial|refine aI rfl ?_) (eX m25 (aI ⟨(IntKind.i64.wrap (u20+1)),u21,u22,(wu23++([[.int .i64 x31,.int .i64 aB,.int .i64 x36]]:List (List Value))),(u23 ++ [(x31,aB,x36)]),rfl,rfl,aD,(I0 _),iu21,iu22,(F2.append fu23 (show F2 (C1.R k24) ([[.int .i64 x31,.int .i64 aB,.int .i64 x36]]:List (List Value)) [(x31,aB,x36)] from⟨(G1 aY aF aZ),trivial⟩)),aA⟩ (nS _)))))
    ·replace aA:=ifN aA aL
     refine aI rfl (aI (by repeat first|exact trivial|refine aI rfl ?_) (aI (by repeat first|exact trivial|refine aI rfl ?_) (eX m25 (aI ⟨(IntKind.i64.wrap (u20+1)),u21,u22,wu23,u23,rfl,rfl,aD,(I0 _),iu21,iu22,fu23,aA⟩ (nS _)))))
   ·replace aA:=ifN aA aK
    have hE:=oJ aA;subst hE
    try dsimp only[P0,Q0]at aC
    refine Or.inl ?_
    intro v44 k45 f46
    obtain⟨az47,cz47,rfl,rz47,sz47,lz47⟩:=j1.out (r:=C1.toRp) f46 fu23
    obtain⟨x48,cP,aC⟩:=j0 aC
    refine Tr.mono (p03 _ az47 u23.length cz47 u23 rz47 _  cP) ?_
    rintro v50 k49 ⟨cQ,dN,cR,rfl,wx48⟩
    have dO:Sub k45 k49:=wx48.sub
    have cS:=wx48.r
    obtain⟨rfl,dP⟩:=Sl.len cS
    have hE:=oJ aC;subst hE
    exact⟨([.int .i64 u21,.int .i64 u22,.slice cQ x48.length cR]),rfl,(New.pair (New.int iu21) (New.pair (New.int iu22) (New.from wx48 (((dH.trans aG).trans aD).trans sz47))))⟩
theorem w0b (h:Hp) (bA:List Value) (p0:l0) (rp0:K1.R h bA p0) (p1:Int) (ip1:H0 p1) (r:D0×J1) (aG:o01 p0 p1=some r) :
  Tr Tryz.prog 140 #[.agg bA.toArray,.int .i64 p1] h fun v h'=>∃(a0:Option Addr) (n0 c0:Nat) (a1:Option Addr) (n1 c1:Nat),v = .tuple #[.slice a0 n0 c0,.slice a1 n1 c1]∧J0.R h' [.slice a0 n0 c0] r.1∧T1.R h' [.slice a1 n1 c1] r.2∧Sub h h':=by
 obtain⟨aC,aD,aK,cH,aL,aF,rfl,rfl,aM,aS,aN⟩:=F0 rp0
 obtain⟨rfl,cI⟩:=Sl.len aN
 unfold o01 at aG
 dsimp only at aG
 refine C2 (args:=[.agg #[.int .i64 aC,.int .i64 aD,.slice aK aF.length aL],.int .i64 p1]) (fn:=Tryz.f140) rfl ?_
 obtain⟨q1,cP,aG⟩:=j0 aG
 refine aI (M0 cP) ?_
 obtain⟨x2,cQ,aG⟩:=j0 aG
 obtain⟨cR,cS,cT,cU⟩:=J4 (F2.rep (p:=Wp.opt.R h) (a:=[.slice none 0 0]) (b:=none) (O0q h) (aD.toNat)) cQ
 refine aI cR ?_
 obtain⟨dO,dP,dQ,rfl,ox2,qx2⟩:=cU
 obtain⟨rfl,dR⟩:=Sl.len qx2
 intro v3 k4 f5
 obtain⟨gz6,cz6,rfl,rz6,sz6,lz6⟩:=j1.outS (r:=Wp.int.toRp) f5 (show F2 (Wp.int.R h) ([]:List (List Value)) ([]:D0) from trivial)
 refine eX _ (aI cT ?_)
 obtain⟨X7,bB,aG⟩:=j0 aG
 refine eX { vars:=[8],boxes:=[],owns:=[0,2],fuel:=true,kept:=[0] } (eX (fun vs os h'=>∃(u8:Int) (wu9:List (List Value)) (u9:List (Option D0)) (wu10:List (List Value)) (u10:List Int),vs.tail = [.int .i64 u8]∧os = [wu9,wu10]∧Sub k4 h'∧H0 u8∧F2 (Wp.opt.R h') wu9 u9∧F2 (Wp.int.R h') wu10 u10∧K6 aC aD aF (H1 vs) u8 u9 u10=some X7) (eX (fun _ _=>0) ?_))
 refine aI (eX N0 ⟨0,((List.replicate aD.toNat ([.slice none 0 0]:List Value)).set p1.toNat [.slice (some ⟨gz6,0,none⟩) (([]:D0)).length cz6]),((List.replicate aD.toNat (none:Option D0)).set p1.toNat (some ([]:D0))),([[.int .i64 p1]]:List (List Value)),[p1],rfl,rfl,(Sub.refl _),(by decide),(F2.set (p:=Wp.opt.R k4) (a:=[.slice (some ⟨gz6,0,none⟩) (([]:D0)).length cz6]) (b:=some ([]:D0)) (P0q rz6) p1.toNat (F2.up (r:=Wp.opt.toRp) sz6 (F2.rep (p:=Wp.opt.R h) (a:=[.slice none 0 0]) (b:=none) (O0q h) (aD.toNat)))),(show F2 (Wp.int.R k4) ([[.int .i64 p1]]:List (List Value)) [p1] from⟨⟨rfl,ip1⟩,trivial⟩),bB⟩) ?_
 rintro v_0 wu9 wu10 m12 k11 ⟨u8,zzu9,u9,zzu10,u10,bC,bD,cJ,iu8,fu9,fu10,aB⟩
 cases bC
 cases bD
 replace aB:K6 aC aD aF m12 u8 u9 u10=some X7:=aB
 obtain _|m12:=m12
 ·cases (show(none:Option _)=some X7 from aB)
 rw[K6.eq_2]at aB
 obtain⟨m13,gm13,aB⟩:=j0 aB
 obtain rfl:wu10.length=m13:=(F2.length fu10).trans (oJ gm13)
 obtain⟨q14,cV,aB⟩:=j0 aB
 refine aI (fun aO=>?_) (fun aO=>?_)
 ·replace aB:=ifP aB aO
  obtain⟨x16,bE,aB⟩:=j0 aB
  obtain⟨bF,cK,bG,bH⟩:=J4 fu10 bE
  refine aI bF ?_
  obtain⟨rfl,bI⟩:=bH
  refine eX _ (aI bG ?_)
  obtain⟨x17,bJ,aB⟩:=j0 aB
  refine Tr.mono (d08 _ aC aM _  bJ) ?_
  rintro v19 k18 ⟨cW,cX,cY,rfl,aT,aH⟩
  obtain⟨rfl,cZ⟩:=Sl.len aT
  obtain⟨X20,aU,aB⟩:=j0 aB
  refine eX { vars:=[36],boxes:=[],owns:=[0,2],fuel:=true,kept:=[0] } (eX (fun vs os h'=>∃(u21:Int) (wu22:List (List Value)) (u22:List (Option D0)) (wu23:List (List Value)) (u23:List Int),vs.tail = [.int .i64 u21]∧os = [wu22,wu23]∧Sub k18 h'∧H0 u21∧F2 (Wp.opt.R h') wu22 u22∧F2 (Wp.int.R h') wu23 u23∧o5 x17 aC aD aF x16 (H1 vs) u21 u22 u23=some X20) (eX (fun _ _=>0) ?_))
  refine aI (eX N0 ⟨0,wu9,u9,wu10,u10,rfl,rfl,(Sub.refl _),(by decide),(F2.up (r:=Wp.opt.toRp) aH fu9),(F2.up (r:=Wp.int.toRp) aH fu10),aU⟩) ?_
  rintro v_0 wu22 wu23 m25 k24 ⟨u21,zzu22,u22,zzu23,u23,aV,aW,aJ,iu21,fu22,fu23,aA⟩
  cases aV
  cases aW
  replace aA:o5 x17 aC aD aF x16 m25 u21 u22 u23=some X20:=aA
  obtain _|m25:=m25
  ·cases (show(none:Option _)=some X20 from aA)
  rw[o5.eq_2]at aA
  refine aI (fun aP=>?_) (fun aP=>?_)
  ·replace aA:=ifP aA aP
   obtain⟨x27,bK,aA⟩:=j0 aA
   obtain⟨bL,cL,bM,bN⟩:=Sl.getI (r:=Wp.int.toRp) (J0.mono aJ aT) bK (by decide)
   refine aI bL ?_
   obtain⟨rfl,aQ⟩:=bN
   refine eX _ (aI bM ?_)
   obtain⟨x28,bO,aA⟩:=j0 aA
   refine Tr.val (O02 _ [.int .i64 aC,.int .i64 aD,.slice aK aF.length aL] (aC,aD,aF) (z0 aM aS (S0.mono (((sz6.trans cJ).trans aH).trans aJ) aN)) x16 bI x27 aQ _  bO) ?_
   obtain⟨q29,bP,aA⟩:=j0 aA
   have aX:H0 x28:=M0 bP
   obtain⟨x30,bQ,aA⟩:=j0 aA
   obtain⟨cM,aY,bR⟩:=x0a fu22 bQ (H0r k24)
   refine aI (fun q=>(aY q).1) ?_
   obtain⟨dA,dB,dC,rfl,ox30,qx30⟩:=bR
   obtain⟨rfl,dD⟩:=Sl.len qx30
   refine eX _ (aI (fun q=>(aY q).2) ?_)
   refine eX (x30.isNone) (aI (fun _=>by rw[←ox30];exact G0r _ _ _ rfl _ _ _) ?_)
   refine aI (fun aR=>?_) (fun aR=>?_)
   ·replace aA:=ifP aA aR
    obtain⟨x32,bS,aA⟩:=j0 aA
    obtain⟨bT,cN,bU,bV⟩:=J4 fu22 bS
    refine aI bT ?_
    obtain⟨bW,dE,bX,rfl,ox32,qx32⟩:=bV
    obtain⟨rfl,dF⟩:=Sl.len qx32
    refine eX _ (aI bU ?_)
    obtain⟨x33,aZ,aA⟩:=j0 aA
    refine Tr.mono (Z06 _ bW (x32.getD []).length bX (x32.getD []) qx32 _  aZ) ?_
    rintro v35 k34 ⟨aZ,dG,dH,rfl,wx33⟩
    have dI:Sub k24 k34:=wx33.sub
    have bY:=wx33.r
    obtain⟨rfl,dJ⟩:=Sl.len bY
    obtain⟨q36,bZ,aA⟩:=j0 aA
    obtain⟨vsz37,rxz37,lnz37,apz37⟩:=New.app wx33 (Sub.refl _)
    refine eX vsz37 (aI rxz37 (aI (P1 bZ (by first|rw[lnz37,F2.length (show F2 (Wp.int.R k34) ([[.int .i64 x27]]:List (List Value)) [x27] from⟨⟨rfl,aQ⟩,trivial⟩)]|(rw[lnz37];rfl))) ?_))
    intro vz37 kz37 happz37
    obtain⟨wz37,gz37,oz37,nz37,cz37,rfl⟩:=apz37 _ _ _ _ _ (F3.ofPlain (I0e _) (show F2 (Wp.int.R k34) ([[.int .i64 x27]]:List (List Value)) [x27] from⟨⟨rfl,aQ⟩,trivial⟩)) d6.ofPlain happz37
    have rz37:=wz37.r
    obtain⟨ez37,lz37⟩:=Sl.len rz37
    subst ez37
    obtain⟨x38,cA,aA⟩:=j0 aA
    obtain⟨cC,cO,cD,cE⟩:=J4 (F2.up (r:=Wp.opt.toRp) wz37.sub fu22) cA
    refine aI cC ?_
    obtain⟨dK,dL,dM,rfl,ox38,qx38⟩:=cE
    obtain⟨rfl,dN⟩:=Sl.len qx38
    refine eX _ (aI cD ?_)
    obtain⟨q39,cG,aA⟩:=j0 aA
    refine aI (P1 cG (by first|rw[F2.length (F2.up (r:=Wp.int.toRp) wz37.sub fu23),F2.length (show F2 (Wp.int.R kz37) ([[.int .i64 x28]]:List (List Value)) [x28] from⟨⟨rfl,aX⟩,trivial⟩)]|exact congrArg (·+1) (F2.length (F2.up (r:=Wp.int.toRp) wz37.sub fu23)))) ?_
    refine aI rfl (aI (by repeat first|exact trivial|refine aI rfl ?_) (aI (by repeat first|exact trivial|refine aI rfl ?_) (eX m25 (aI ⟨(IntKind.i64.wrap (u21+1)),(wu22.set x28.toNat [.slice (some ⟨gz37,oz37,none⟩) (x33 ++ [x27]).length cz37]),(u22.set x28.toNat (some (x33 ++ [x27]))),(wu23++([[.int .i64 x28]]:List (List Value))),(u23 ++ [x28]),rfl,rfl,(aJ.trans wz37.sub),(I0 _),(F2.set (p:=Wp.opt.R kz37) (a:=[.slice (some ⟨gz37,oz37,none⟩) (x33 ++ [x27]).length cz37]) (b:=some (x33 ++ [x27])) (P0q rz37) x28.toNat (F2.up (r:=Wp.opt.toRp) wz37.sub fu22)),(F2.append (F2.up (r:=Wp.int.toRp) wz37.sub fu23) (show F2 (Wp.int.R kz37) ([[.int .i64 x28]]:List (List Value)) [x28] from⟨⟨rfl,aX⟩,trivial⟩)),aA⟩ (nS _)))))
   ·replace aA:=ifN aA aR
    refine aI rfl (aI (by repeat first|exact trivial|refine aI rfl ?_) (aI (by repeat first|exact trivial|refine aI rfl ?_) (eX m25 (aI ⟨(IntKind.i64.wrap (u21+1)),wu22,u22,wu23,u23,rfl,rfl,aJ,(I0 _),fu22,fu23,aA⟩ (nS _)))))
  ·replace aA:=ifN aA aP
   have hE:=oJ aA;subst hE
   try dsimp only[P0,Q0]at aB
   refine aI rfl (aI (by repeat first|exact trivial|refine aI rfl ?_) (aI (by repeat first|exact trivial|refine aI rfl ?_) (eX m12 (aI ⟨(IntKind.i64.wrap (u8+1)),wu22,u22,wu23,u23,rfl,rfl,((cJ.trans aH).trans aJ),(I0 _),fu22,fu23,aB⟩ (nS _)))))
 ·replace aB:=ifN aB aO
  have hE:=oJ aB;subst hE
  try dsimp only[P0,Q0]at aG
  intro v45 k46 f47
  obtain⟨az48,cz48,rfl,rz48,sz48,lz48⟩:=j1.out (r:=Wp.int.toRp) f47 fu10
  intro v49 k50 f51
  obtain⟨az52,cz52,rfl,rz52,sz52,lz52⟩:=j1.out (r:=J0.toRp) f51 (F2.ofOpt (F2.up (r:=Wp.opt.toRp) sz48 fu9))
  have hE:=oJ aG;subst hE
  exact⟨az48,u10.length,cz48,az52,(List.map (fun o:Option D0=>o.getD ([]:D0)) u9).length,cz52,rfl,(J0.mono sz52 rz48),rz52,(((sz6.trans cJ).trans sz48).trans sz52)⟩
theorem f07 (h:Hp) (aP:List Value) (p0:l0) (rp0:K1.R h aP p0) (r:D0) (aA:t8 p0=some r) :
  Tr Tryz.prog 192 #[.agg aP.toArray] h fun v h'=>∃(a0:Option Addr) (n0 c0:Nat),v = .slice a0 n0 c0∧J0.R h' [.slice a0 n0 c0] r∧Sub h h':=by
 obtain⟨aB,aC,aD,aR,aF,aM,rfl,rfl,aJ,aK,aG⟩:=F0 rp0
 obtain⟨rfl,aS⟩:=Sl.len aG
 unfold t8 at aA
 dsimp only at aA
 refine C2 (args:=[.agg #[.int .i64 aB,.int .i64 aC,.slice aD aM.length aF]]) (fn:=Tryz.f192) rfl ?_
 obtain⟨x1,aZ,aA⟩:=j0 aA
 refine Tr.val (b01 _ [.int .i64 aB,.int .i64 aC,.slice aD aM.length aF] (aB,aC,aM) (z0 aJ aK aG) _  aZ) ?_
 refine aI (fun aQ=>?_) (fun aQ=>?_)
 ·replace aA:=ifP aA aQ
  intro v3 k4 f5
  obtain⟨az6,cz6,rfl,rz6,sz6,lz6⟩:=j1.out (r:=Wp.int.toRp) f5 (show F2 (Wp.int.R h) ([]:List (List Value)) ([]:D0) from trivial)
  have hE:=oJ aA;subst hE
  exact⟨az6,(([]:D0)).length,cz6,rfl,rz6,sz6⟩
 ·replace aA:=ifN aA aQ
  obtain⟨x7,bA,aA⟩:=j0 aA
  refine Tr.mono (w0b _ [.int .i64 aB,.int .i64 aC,.slice aD aM.length aF] (aB,aC,aM) (z0 aJ aK aG) 0 (by decide) _  bA) ?_
  rintro v9 k8 ⟨aN,aT,aO,aU,aV,aW,rfl,aH,aL,bB⟩
  obtain⟨bC,bD⟩:=x7
  dsimp only at aA aH aL
  obtain⟨rfl,aX⟩:=Sl.len aH
  obtain⟨rfl,aY⟩:=Sl.len aL
  have hE:=oJ aA;subst hE
  exact⟨aN,bC.length,aO,rfl,aH,bB⟩
theorem g07 (h:Hp) (aX:List Value) (p0:l0) (rp0:K1.R h aX p0) (r:l0) (aA:w8 p0=some r) :
  Tr Tryz.prog 138 #[.agg aX.toArray] h fun v h'=>∃(cs0:List Value),v = .agg cs0.toArray∧New K1 h h' cs0 r:=by
 obtain⟨aB,aC,aD,bH,aF,aK,rfl,rfl,aH,aJ,aG⟩:=F0 rp0
 obtain⟨rfl,bI⟩:=Sl.len aG
 unfold w8 at aA
 dsimp only at aA
 refine C2 (args:=[.agg #[.int .i64 aB,.int .i64 aC,.slice aD aK.length aF]]) (fn:=Tryz.f138) rfl ?_
 obtain⟨x1,bP,aA⟩:=j0 aA
 refine Tr.val (b01 _ [.int .i64 aB,.int .i64 aC,.slice aD aK.length aF] (aB,aC,aK) (z0 aH aJ aG) _  bP) ?_
 refine aI (fun aY=>?_) (fun aY=>?_)
 ·replace aA:=ifP aA aY
  obtain⟨x3,bQ,aA⟩:=j0 aA
  refine Tr.mono (c4 _ [.int .i64 aB,.int .i64 aC,.slice aD aK.length aF] (aB,aC,aK) (z0 aH aJ aG) _  bQ) ?_
  rintro v5 k4 ⟨aQ,bJ,aR,rfl,wx3⟩
  have bV:Sub h k4:=wx3.sub
  have bK:=wx3.r
  obtain⟨aZ,bA,bR⟩:=x3
  dsimp only at aA wx3 bK
  obtain⟨_,_,_,_,_,_,ecx3,exx3,aS,aT,aU⟩:=F0 bK
  cases ecx3
  cases exx3
  obtain⟨rfl,bL⟩:=Sl.len aU
  try dsimp only at aA
  have we6:=New.sndI (New.sndI (wx3))
  have hE:=oJ aA;subst hE
  exact⟨([.int .i64 aZ,.int .i64 bA,.slice (some ⟨aQ,0,none⟩) bR.length aR]),rfl,(New.pair (New.int aS) (New.pair (New.int aT) we6))⟩
 ·replace aA:=ifN aA aY
  refine Or.inr (Or.inr (Or.inl (aI (aI (by kernel_rfl) (by kernel_rfl)) ?_)))
  refine Or.inr ?_
  refine Or.inr ?_
  refine Or.inr ?_
  refine Or.inl (eX 2 (aI (aI rfl rfl) ?_))
  obtain⟨x7,bS,aA⟩:=j0 aA
  refine Tr.mono (f07 _ [.int .i64 aB,.int .i64 aC,.slice aD aK.length aF] (aB,aC,aK) (z0 aH aJ aG) _  bS) ?_
  rintro v9 k8 ⟨bT,bW,bU,rfl,bM,bB⟩
  obtain⟨rfl,bX⟩:=Sl.len bM
  refine aI (aI rfl bB) (aI (by first|exact trivial|exact rfl) ?_)
  obtain⟨x10,bC,aA⟩:=j0 aA
  refine Tr.mono (q0d _ [.int .i64 aB,.int .i64 aC,.slice aD aK.length aF] (aB,aC,aK) (z0 aH aJ (S0.mono bB aG)) bT x7.length bU x7 bM _  bC) ?_
  rintro v12 k11 ⟨bN,rfl,wx10⟩
  have bD:Sub k8 k11:=wx10.sub
  have bE:=wx10.r
  obtain⟨aV,aW,aL,bF,aM,bO,rfl,rfl,aN,aO,aP⟩:=F0 bE
  obtain⟨rfl,bG⟩:=Sl.len aP
  try dsimp only at aA
  have we13:=New.sndI (New.sndI (wx10))
  refine aI (aI rfl bD) (aI (by first|exact trivial|exact rfl) ?_)
  refine aI trivial (aI (by first|exact trivial|exact rfl) ?_)
  have hE:=oJ aA;subst hE
  exact⟨([.int .i64 aV,.int .i64 aW,.slice aL bO.length aM]),rfl,(New.pair (New.int aN) (New.pair (New.int aO) (New.from we13 bB)))⟩
theorem G0c (h:Hp) (cC:List Value) (p0:l0) (rp0:K1.R h cC p0) (r:l0×D0) (aC:z00 p0=some r) :
  Tr Tryz.prog 137 #[.agg cC.toArray] h fun v h'=>∃(cs0:List Value) (a1:Option Addr) (n1 c1:Nat),v = .tuple #[.agg cs0.toArray,.slice a1 n1 c1]∧New K1 h h' cs0 r.1∧J0.R h' [.slice a1 n1 c1] r.2:=by
 obtain⟨aG,aF,aH,cT,aJ,bE,rfl,rfl,aM,aN,aK⟩:=F0 rp0
 obtain⟨rfl,cU⟩:=Sl.len aK
 unfold z00 at aC
 dsimp only at aC
 refine C2 (args:=[.agg #[.int .i64 aG,.int .i64 aF,.slice aH bE.length aJ]]) (fn:=Tryz.f137) rfl ?_
 obtain⟨x1,dA,aC⟩:=j0 aC
 refine Tr.mono (c4 _ [.int .i64 aG,.int .i64 aF,.slice aH bE.length aJ] (aG,aF,bE) (z0 aM aN aK) _  dA) ?_
 rintro v3 k2 ⟨aO,cV,aP,rfl,wx1⟩
 have dB:Sub h k2:=wx1.sub
 have cW:=wx1.r
 obtain⟨bF,bG,cD⟩:=x1
 dsimp only at aC wx1 cW
 obtain⟨_,_,_,_,_,_,ecx1,exx1,aQ,aR,bH⟩:=F0 cW
 cases ecx1
 cases exx1
 obtain⟨rfl,cX⟩:=Sl.len bH
 try dsimp only at aC
 have we4:=New.sndI (New.sndI (wx1))
 obtain⟨x5,dC,aC⟩:=j0 aC
 refine Tr.val (Y9 _ [.int .i64 aG,.int .i64 aF,.slice aH bE.length aJ] (aG,aF,bE) (z0 aM aN (S0.mono dB aK)) _  dC) ?_
 refine aI (fun cE=>?_) (fun cE=>?_)
 ·replace aC:=ifP aC cE
  intro v7 k8 f9
  obtain⟨az10,cz10,rfl,rz10,sz10,lz10⟩:=j1.out (r:=Wp.int.toRp) f9 (show F2 (Wp.int.R k2) ([]:List (List Value)) ([]:D0) from trivial)
  have hE:=oJ aC;subst hE
  exact⟨([.int .i64 bF,.int .i64 bG,.slice (some ⟨aO,0,none⟩) cD.length aP]),az10,(([]:D0)).length,cz10,rfl,(New.pair (New.int aQ) (New.pair (New.int aR) (New.mono we4 sz10))),rz10⟩
 ·replace aC:=ifN aC cE
  obtain⟨X11,bI,aC⟩:=j0 aC
  refine eX { vars:=[6],boxes:=[],owns:=[0],fuel:=true } (eX (fun vs os h'=>∃(u12:Int) (wu13:List (List Value)) (u13:List Int),vs.tail = [.int .i64 u12]∧os = [wu13]∧Sub k2 h'∧H0 u12∧F2 (Wp.int.R h') wu13 u13∧r6 aF (H1 vs) u12 u13=some X11) (eX (fun _ _=>0) ?_))
  refine aI (eX N0 ⟨0,[],([]:D0),rfl,rfl,(Sub.refl _),(by decide),(show F2 (Wp.int.R k2) ([]:List (List Value)) ([]:D0) from trivial),bI⟩) ?_
  rintro v_0 wu13 m15 k14 ⟨u12,zzu13,u13,bJ,bK,aS,iu12,fu13,aA⟩
  cases bJ
  cases bK
  replace aA:r6 aF m15 u12 u13=some X11:=aA
  obtain _|m15:=m15
  ·cases (show(none:Option _)=some X11 from aA)
  rw[r6.eq_2]at aA
  refine aI (fun aT=>?_) (fun aT=>?_)
  ·replace aA:=ifP aA aT
   obtain⟨q17,cG,aA⟩:=j0 aA
   refine aI (P1 cG (by first|rw[F2.length fu13,F2.length (show F2 (Wp.int.R k14) ([[.int .i64 u12]]:List (List Value)) [u12] from⟨⟨rfl,iu12⟩,trivial⟩)]|exact congrArg (·+1) (F2.length fu13))) ?_
   refine aI rfl (aI (by repeat first|exact trivial|refine aI rfl ?_) (aI (by repeat first|exact trivial|refine aI rfl ?_) (eX m15 (aI ⟨(IntKind.i64.wrap (u12+1)),(wu13++([[.int .i64 u12]]:List (List Value))),(u13 ++ [u12]),rfl,rfl,aS,(I0 _),(F2.append fu13 (show F2 (Wp.int.R k14) ([[.int .i64 u12]]:List (List Value)) [u12] from⟨⟨rfl,iu12⟩,trivial⟩)),aA⟩ (nS _)))))
  ·replace aA:=ifN aA aT
   have hE:=oJ aA;subst hE
   try dsimp only[P0,Q0]at aC
   obtain⟨X22,bL,aC⟩:=j0 aC
   refine eX { vars:=[5],boxes:=[2],owns:=[],fuel:=true,pubs:=[5] } (eX (fun vs os h'=>∃(au23:Option Addr) (nu23 cu23:Nat) (u23:D0) (u24:Int) (u25:Int) (au26:Option Addr) (nu26 cu26:Nat) (u26:T0),vs.tail = [.slice au23 nu23 cu23,.int .i64 u24,.int .i64 u25,.slice au26 nu26 cu26]∧os = []∧Sub h h'∧New J0 h h' [.slice au23 nu23 cu23] u23∧H0 u24∧H0 u25∧New S0 h h' [.slice au26 nu26 cu26] u26∧l7 (H1 vs) u23 u24 u25 u26=some X22) (eX (fun _ _=>0) ?_))
   intro v18 k19 f20
   obtain⟨az21,cz21,rfl,rz21,sz21,lz21⟩:=j1.out (r:=Wp.int.toRp) f20 fu13
   refine aI (eX N0 ⟨az21,u13.length,cz21,u13,bF,bG,(some ⟨aO,0,none⟩),cD.length,aP,cD,rfl,rfl,((dB.trans aS).trans sz21),(New.from (j1.newPlain (r:=Wp.int) f20 fu13 (I0e _)) (dB.trans aS)),aQ,aR,(New.mono we4 (aS.trans sz21)),bL⟩) ?_
   rintro v_0 v_1 v_2 v_3 m28 k27 ⟨au23,nu23,cu23,u23,u24,u25,au26,nu26,cu26,u26,bM,bN,dD,wwu23,iu24,iu25,wwu26,aA⟩
   cases bM
   cases bN
   replace aA:l7 m28 u23 u24 u25 u26=some X22:=aA
   obtain _|m28:=m28
   ·cases (show(none:Option _)=some X22 from aA)
   rw[l7.eq_2]at aA
   have ru23:=wwu23.r
   obtain⟨rfl,lu23⟩:=Sl.len ru23
   have ru26:=wwu26.r
   obtain⟨rfl,lu26⟩:=Sl.len ru26
   obtain⟨x29,cH,aA⟩:=j0 aA
   refine Tr.mono (E08 _ [.int .i64 u24,.int .i64 u25,.slice au26 u26.length cu26] (u24,u25,u26) (z0 iu24 iu25 ru26) 0 (by decide) _  cH) ?_
   rintro v31 k30 ⟨dE,dF,dG,rfl,bO,dH⟩
   obtain⟨rfl,dI⟩:=Sl.len bO
   obtain⟨X32,bP,aA⟩:=j0 aA
   refine eX { vars:=[8,9],boxes:=[],owns:=[],fuel:=true } (eX (fun vs os h'=>∃(u33:Int) (u34:Int),vs.tail = [.int .i64 u33,.int .i64 u34]∧os = []∧Sub k30 h'∧H0 u33∧H0 u34∧l4 u25 u24 u26 x29 (H1 vs) u33 u34=some X32) (eX (fun _ _=>0) ?_))
   refine aI (eX N0 ⟨0,1,rfl,rfl,(Sub.refl _),(by decide),(by decide),bP⟩) ?_
   rintro v_0 v_1 m36 k35 ⟨u33,u34,bQ,bR,aD,iu33,iu34,aB⟩
   cases bQ
   cases bR
   replace aB:l4 u25 u24 u26 x29 m36 u33 u34=some X32:=aB
   obtain _|m36:=m36
   ·cases (show(none:Option _)=some X32 from aB)
   rw[l4.eq_2]at aB
   refine aI (fun aU=>?_) (fun aU=>?_)
   ·replace aB:=ifP aB aU
    obtain⟨x38,cI,aB⟩:=j0 aB
    refine Tr.val (H0d _ [.int .i64 u24,.int .i64 u25,.slice au26 u26.length cu26] (u24,u25,u26) (z0 iu24 iu25 (S0.mono (dH.trans aD) ru26)) u34 iu34 _  cI) ?_
    obtain⟨q39,cJ,aB⟩:=j0 aB
    have dJ:H0 x38:=M0 cJ
    obtain⟨x40,cK,aB⟩:=j0 aB
    obtain⟨cY,bS,cL⟩:=Sl.getG (r:=Wp.bool.toRp) ((Wp.slice Wp.bool).mono aD bO) cK (by decide) (d0r k35)
    refine aI (fun q=>(bS q).1) ?_
    obtain rfl:=cL
    refine eX _ (aI (fun q=>(bS q).2) ?_)
    refine aI (fun aV=>?_) (fun aV=>?_)
    ·replace aB:=ifP aB aV
     refine aI rfl (aI (by repeat first|exact trivial|refine aI rfl ?_) (aI (by repeat first|exact trivial|refine aI rfl ?_) (eX m36 (aI ⟨u34,(IntKind.i64.wrap (u34+1)),rfl,rfl,aD,iu34,(I0 _),aB⟩ (nS _)))))
    ·replace aB:=ifN aB aV
     refine aI rfl (aI (by repeat first|exact trivial|refine aI rfl ?_) (aI (by repeat first|exact trivial|refine aI rfl ?_) (eX m36 (aI ⟨u33,(IntKind.i64.wrap (u34+1)),rfl,rfl,aD,iu33,(I0 _),aB⟩ (nS _)))))
   ·replace aB:=ifN aB aU
    have hE:=oJ aB;subst hE
    try dsimp only[P0,Q0]at aA
    refine aI (fun aW=>?_) (fun aW=>?_)
    ·replace aA:=ifP aA aW
     have hE:=oJ aA;subst hE
     try dsimp only[G2,I2]at aC
     have hE:=oJ aC;subst hE
     exact⟨([.int .i64 u24,.int .i64 u25,.slice au26 u26.length cu26]),au23,u23.length,cu23,rfl,(New.pair (New.int iu24) (New.pair (New.int iu25) (New.mono wwu26 (dH.trans aD)))),(J0.mono (dH.trans aD) ru23)⟩
    ·replace aA:=ifN aA aW
     obtain⟨X43,bT,aA⟩:=j0 aA
     refine eX { vars:=[11],boxes:=[],owns:=[1],fuel:=true } (eX (fun vs os h'=>∃(u44:Int) (wu45:List (List Value)) (u45:List Int),vs.tail = [.int .i64 u44]∧os = [wu45]∧Sub k35 h'∧H0 u44∧F2 (Wp.int.R h') wu45 u45∧O5 u25 u33 (H1 vs) u44 u45=some X43) (eX (fun _ _=>0) ?_))
     refine aI (eX N0 ⟨0,[],([]:D0),rfl,rfl,(Sub.refl _),(by decide),(show F2 (Wp.int.R k35) ([]:List (List Value)) ([]:D0) from trivial),bT⟩) ?_
     rintro v_0 wu45 m47 k46 ⟨u44,zzu45,u45,bU,bV,aL,iu44,fu45,aB⟩
     cases bU
     cases bV
     replace aB:O5 u25 u33 m47 u44 u45=some X43:=aB
     obtain _|m47:=m47
     ·cases (show(none:Option _)=some X43 from aB)
     rw[O5.eq_2]at aB
     refine aI (fun aX=>?_) (fun aX=>?_)
     ·replace aB:=ifP aB aX
      refine aI (fun aY=>?_) (fun aY=>?_)
      ·replace aB:=ifP aB aY
       obtain⟨q50,cM,aB⟩:=j0 aB
       refine aI (P1 cM (by first|rw[F2.length fu45,F2.length (show F2 (Wp.int.R k46) ([[.int .i64 u44]]:List (List Value)) [u44] from⟨⟨rfl,iu44⟩,trivial⟩)]|exact congrArg (·+1) (F2.length fu45))) ?_
       refine aI rfl (aI (by repeat first|exact trivial|refine aI rfl ?_) (aI (by repeat first|exact trivial|refine aI rfl ?_) (eX m47 (aI ⟨(IntKind.i64.wrap (u44+1)),(wu45++([[.int .i64 u44]]:List (List Value))),(u45 ++ [u44]),rfl,rfl,aL,(I0 _),(F2.append fu45 (show F2 (Wp.int.R k46) ([[.int .i64 u44]]:List (List Value)) [u44] from⟨⟨rfl,iu44⟩,trivial⟩)),aB⟩ (nS _)))))
      ·replace aB:=ifN aB aY
       refine aI rfl (aI (by repeat first|exact trivial|refine aI rfl ?_) (aI (by repeat first|exact trivial|refine aI rfl ?_) (eX m47 (aI ⟨(IntKind.i64.wrap (u44+1)),wu45,u45,rfl,rfl,aL,(I0 _),fu45,aB⟩ (nS _)))))
     ·replace aB:=ifN aB aX
      have hE:=oJ aB;subst hE
      try dsimp only[P0,Q0]at aA
      refine Or.inl ?_
      intro v51 k52 f53
      obtain⟨az54,cz54,rfl,rz54,sz54,lz54⟩:=j1.out (r:=Wp.int.toRp) f53 fu45
      obtain⟨x55,cN,aA⟩:=j0 aA
      refine Tr.mono (q0d _ [.int .i64 u24,.int .i64 u25,.slice au26 u26.length cu26] (u24,u25,u26) (z0 iu24 iu25 (S0.mono (((dH.trans aD).trans aL).trans sz54) ru26)) az54 u45.length cz54 u45 rz54 _  cN) ?_
      rintro v57 k56 ⟨cZ,rfl,wx55⟩
      have cO:Sub k52 k56:=wx55.sub
      have cP:=wx55.r
      obtain⟨bW,bX,aZ,cQ,bA,bY,rfl,rfl,bB,bC,bD⟩:=F0 cP
      obtain⟨rfl,cR⟩:=Sl.len bD
      try dsimp only at aA
      have we58:=New.sndI (New.sndI (wx55))
      obtain⟨x61,bZ,aA⟩:=j0 aA
      obtain⟨x62,cA,aA⟩:=j0 aA
      obtain⟨q63,cS,aA⟩:=j0 aA
      obtain⟨qaz64,baz64,eaz64,gz64,oz64,Az64,Cz64,usz64,vsz64,eqz64,qbz64,bbz64,lcz64,mcz64,rxz64,sxz64,luz64,lvz64,apz64⟩:=New.drop wwu23 ((((dH.trans aD).trans aL).trans sz54).trans cO) bZ cA (n0r lu23 bZ cA)
      subst eqz64
      refine Or.inr (Or.inr (Or.inl (aI (aI (by kernel_rfl) (by kernel_rfl)) ?_)))
      refine Or.inl (eX (.val (.slice (some ⟨gz64,oz64,none⟩) x61.length cu23)) (aI ?_ ?_))
      ·intro hh sb
       obtain⟨vs,e⟩:=eaz64 hh sb
       exact aI baz64 (eX vs (aI e (fun v _ hv=>aI (congrArg AV.val (qaz64 v hv)) (aI rfl rfl))))
      refine Or.inl (eX (.val (.int .i64 (IntKind.i64.wrap (u33+1)))) (aI ?_ ?_))
      ·intro k59 s60
       exact aI rfl (aI rfl rfl)
      refine Or.inl (eX (.val (.slice Az64 x62.length Cz64)) (aI ?_ ?_))
      ·intro hh sb
       obtain⟨vs,e⟩:=eaz64 hh sb
       exact aI bbz64 (eX vs (aI e (fun v _ hv=>aI (congrArg AV.val (qbz64 v hv)) (aI rfl rfl))))
      refine Or.inr ?_
      refine Or.inl (eX 0 (aI (aI rfl rfl) ?_))
      refine eX vsz64 (aI sxz64 (eX usz64 (aI rxz64 (aI (P1 cS (by rw[luz64,lvz64])) ?_))))
      intro vz64 kz64 happz64
      obtain⟨wz64,⟨az64,nz64,cz64,rfl⟩,kpz64⟩:=apz64 _ _ happz64
      have rz64:=wz64.r
      obtain⟨ez64,lz64⟩:=Sl.len rz64
      subst ez64
      refine aI trivial (aI (by first|exact trivial|exact rfl) ?_)
      have wy65:=kpz64 C1.slice _ _ _ we58 (((dH.trans aD).trans aL).trans sz54)
      refine aI rfl (aI (by repeat first|exact trivial|refine aI rfl ?_) (aI (by repeat first|exact trivial|refine aI rfl ?_) (eX m28 (aI ⟨az64,(x61++x62).length,cz64,(x61++x62),bW,bX,aZ,bY.length,bA,bY,rfl,rfl,wz64.sub,wz64,bB,bC,wy65,aA⟩ (nS _)))))
theorem e08 (h:Hp) (p0:Int) (ip0:H0 p0) (p1:Int) (ip1:H0 p1) (p2:Int) (ip2:H0 p2) (r:K0) (aA:F01 p0 p1 p2=some r) :
  Tr Tryz.prog 156 #[.int .i64 p0,.int .i64 p1,.int .i64 p2] h fun v h'=>∃(cs0:List Value),v = .agg cs0.toArray∧C1.R h' cs0 r∧Sub h h':=by
 unfold F01 at aA
 refine C2 (args:=[.int .i64 p0,.int .i64 p1,.int .i64 p2]) (fn:=Tryz.f156) rfl ?_
 refine aI (fun aB=>?_) (fun aB=>?_)
 ·replace aA:=ifP aA aB
  have hE:=oJ aA;subst hE
  exact⟨([.int .i64 p2,.int .i64 (IntKind.i64.wrap (0-p1)),.int .i64 p0]),rfl,(G1 ip2 (I0 _) ip0),(Sub.refl _)⟩
 ·replace aA:=ifN aA aB
  have hE:=oJ aA;subst hE
  exact⟨([.int .i64 p0,.int .i64 p1,.int .i64 p2]),rfl,(G1 ip0 ip1 ip2),(Sub.refl _)⟩
theorem V01 (h:Hp) (ap0:Option Addr) (np0 cp0:Nat) (p0:T0) (rp0:S0.R h [.slice ap0 np0 cp0] p0) (aH:List Value) (p1:K0) (rp1:C1.R h aH p1) (r:Int) (aF:V4 p0 p1=some r) :
  Tr Tryz.prog 155 #[.slice ap0 np0 cp0,.agg aH.toArray] h fun v h'=>v = .int .i64 r∧h'=h:=by
 obtain⟨rfl,lp0⟩:=Sl.len rp0
 obtain⟨aB,aC,aD,rfl,rfl,aR,aS,aT⟩:=M1 rp1
 unfold V4 at aF
 dsimp only at aF
 refine Tr.forget (C2 (args:=[.slice ap0 p0.length cp0,.agg #[.int .i64 aB,.int .i64 aC,.int .i64 aD]]) (fn:=Tryz.f155) rfl ?_)
 obtain⟨X1,aJ,aF⟩:=j0 aF
 refine eX { vars:=[8],boxes:=[],owns:=[],fuel:=true } (eX (fun vs os h'=>∃(u2:Int),vs.tail = [.int .i64 u2]∧os = []∧Sub h h'∧H0 u2∧O1 p0 aB aC aD (H1 vs) u2=some X1) (eX (fun _ _=>0) ?_))
 refine aI (eX N0 ⟨0,rfl,rfl,(Sub.refl _),(by decide),aJ⟩) ?_
 rintro v_0 m4 k3 ⟨u2,aK,aL,aG,iu2,aA⟩
 cases aK
 cases aL
 replace aA:O1 p0 aB aC aD m4 u2=some X1:=aA
 obtain _|m4:=m4
 ·cases (show(none:Option _)=some X1 from aA)
 rw[O1.eq_2]at aA
 refine aI (fun aM=>?_) (fun aM=>?_)
 ·replace aA:=ifP aA aM
  refine Or.inl (aI (aI (by kernel_rfl) (by kernel_rfl)) ?_)
  obtain⟨x6,aX,aA⟩:=j0 aA
  obtain⟨aY,aZ,bA,bB⟩:=Sl.getI (r:=C1.toRp) (S0.mono aG rp0) aX (by decide)
  refine aI aY ?_
  obtain⟨aN,aO,aP,rfl,rfl,aU,aV,aW⟩:=M1 bB
  try dsimp only at aA
  refine eX _ (aI bA ?_)
  refine eX (eqE (aB,aC,aD) (aN,aO,aP)) (aI (P0m _ _ _ rfl _ _ _ _ _ _) ?_)
  refine aI (fun aQ=>?_) (fun aQ=>?_)
  ·replace aA:=ifP aA aQ
   have hE:=oJ aA;subst hE
   try dsimp only[G2,I2]at aF
   have hE:=oJ aF;subst hE
   exact aI rfl aG
  ·replace aA:=ifN aA aQ
   refine aI rfl (aI (by repeat first|exact trivial|refine aI rfl ?_) (aI (by repeat first|exact trivial|refine aI rfl ?_) (eX m4 (aI ⟨(IntKind.i64.wrap (u2+1)),rfl,rfl,aG,(I0 _),aA⟩ (nS _)))))
 ·replace aA:=ifN aA aM
  have hE:=oJ aA;subst hE
  try dsimp only[P0,Q0]at aF
  have hE:=oJ aF;subst hE
  exact aI rfl aG
theorem n01 (h:Hp) (ap0:Option Addr) (np0 cp0:Nat) (p0:T0) (rp0:S0.R h [.slice ap0 np0 cp0] p0) (aJ:List Value) (p1:K0) (rp1:C1.R h aJ p1) (r:Bool) (aA:B3 p0 p1=some r) :
  Tr Tryz.prog 195 #[.slice ap0 np0 cp0,.agg aJ.toArray] h fun v h'=>v = .bool r∧h'=h:=by
 obtain⟨rfl,lp0⟩:=Sl.len rp0
 obtain⟨aB,aC,aD,rfl,rfl,aF,aG,aH⟩:=M1 rp1
 unfold B3 at aA
 dsimp only at aA
 refine Tr.forget (C2 (args:=[.slice ap0 p0.length cp0,.agg #[.int .i64 aB,.int .i64 aC,.int .i64 aD]]) (fn:=Tryz.f195) rfl ?_)
 obtain⟨x1,aK,aA⟩:=j0 aA
 refine Tr.val (V01 _ ap0 p0.length cp0 p0 rp0 [.int .i64 aB,.int .i64 aC,.int .i64 aD] (aB,aC,aD) (G1 aF aG aH) _  aK) ?_
 obtain⟨q2,aL,aA⟩:=j0 aA
 have aM:H0 x1:=M0 aL
 have hE:=oJ aA;subst hE
 exact aI rfl (Sub.refl _)
theorem P02 (h:Hp) (p0:Int) (ip0:H0 p0) (bp1:Nat) (typ1:TypeId) (aC:Int) (aG:H0 aC) (aB:Int) (aH:H0 aB) (hbp1:h bp1=some (.cells #[.int .i64 aC,.int .i64 aB] typ1 (0,0))) (r:Int) (aA:F6 p0 (aC,aB)=some r) :
  Tr Tryz.prog 270 #[.int .i64 p0,ptr bp1 0] h fun v h'=>v = .int .i64 r∧h'=h:=by
 unfold F6 at aA
 dsimp only at aA
 refine Tr.forget (C2 (args:=[.int .i64 p0,ptr bp1 0]) (fn:=Tryz.f270) rfl ?_)
 refine eX (.int .i64 aB) (aI ⟨rfl,by simp[Hp.cell,(hbp1)]⟩ ?_)
 refine aI (fun aD=>?_) (fun aD=>?_)
 ·replace aA:=ifP aA aD
  refine eX (.int .i64 aC) (aI ⟨rfl,by simp[Hp.cell,(hbp1)]⟩ ?_)
  have hE:=oJ aA;subst hE
  exact aI rfl (Sub.refl _)
 ·replace aA:=ifN aA aD
  refine eX (.int .i64 aB) (aI ⟨rfl,by simp[Hp.cell,(hbp1)]⟩ ?_)
  refine aI (fun aF=>?_) (fun aF=>?_)
  ·replace aA:=ifP aA aF
   have hE:=oJ aA;subst hE
   exact aI rfl (Sub.refl _)
  ·replace aA:=ifN aA aF
   have hE:=oJ aA;subst hE
   exact aI rfl (Sub.refl _)
theorem f08 (h:Hp) (bP:List Value) (p0:l0) (rp0:K1.R h bP p0) (p1:Int) (ip1:H0 p1) (ap2:Option Addr) (np2 cp2:Nat) (p2:D0) (rp2:J0.R h [.slice ap2 np2 cp2] p2) (p3:Int) (ip3:H0 p3) (r:l0×Bool) (aB:O9 p0 p1 p2 p3=some r) :
  Tr Tryz.prog 198 #[.agg bP.toArray,.int .i64 p1,.slice ap2 np2 cp2,.int .i64 p3] h fun v h'=>∃(cs0:List Value),v = .tuple #[.agg cs0.toArray,.bool r.2]∧New K1 h h' cs0 r.1:=by
 obtain⟨aC,aL,aM,cI,aN,aX,rfl,rfl,aO,aQ,aP⟩:=F0 rp0
 obtain⟨rfl,cJ⟩:=Sl.len aP
 obtain⟨rfl,lp2⟩:=Sl.len rp2
 unfold O9 at aB
 dsimp only at aB
 refine C2 (args:=[.agg #[.int .i64 aC,.int .i64 aL,.slice aM aX.length aN],.int .i64 p1,.slice ap2 p2.length cp2,.int .i64 p3]) (fn:=Tryz.f198) rfl ?_
 obtain⟨x1,cQ,aB⟩:=j0 aB
 refine Tr.mono (c4 _ [.int .i64 aC,.int .i64 aL,.slice aM aX.length aN] (aC,aL,aX) (z0 aO aQ aP) _  cQ) ?_
 rintro v3 k2 ⟨aY,cK,aZ,rfl,wx1⟩
 have bE:Sub h k2:=wx1.sub
 have cL:=wx1.r
 obtain⟨bF,bG,bQ⟩:=x1
 dsimp only at aB wx1 cL
 obtain⟨_,_,_,_,_,_,ecx1,exx1,bA,bB,bH⟩:=F0 cL
 cases ecx1
 cases exx1
 obtain⟨rfl,cM⟩:=Sl.len bH
 try dsimp only at aB
 have we4:=New.sndI (New.sndI (wx1))
 obtain⟨x5,cR,aB⟩:=j0 aB
 refine Tr.val (Y9 _ [.int .i64 aC,.int .i64 aL,.slice aM aX.length aN] (aC,aL,aX) (z0 aO aQ (S0.mono bE aP)) _  cR) ?_
 obtain⟨x6,cS,aB⟩:=j0 aB
 refine eX (.bool x6) (aI (fun q=>T01 _ [.int .i64 aC,.int .i64 aL,.slice aM aX.length aN] (aC,aL,aX) (z0 aO aQ (S0.mono bE aP)) p1 ip1 _  (Q2 cS q)) ?_)
 obtain⟨x7,cT,aB⟩:=j0 aB
 refine eX (.bool x7) (aI (fun q=>T01 _ [.int .i64 aC,.int .i64 aL,.slice aM aX.length aN] (aC,aL,aX) (z0 aO aQ (S0.mono bE aP)) p3 ip3 _  (Q2 cT q)) ?_)
 obtain⟨x8,cU,aB⟩:=j0 aB
 refine eX (.bool x8) (aI (fun q=>Y08 _ aC aO ap2 p2.length cp2 p2 (J0.mono bE rp2) _  (Q2 cU q)) ?_)
 refine aI (fun bR=>?_) (fun bR=>?_)
 ·replace aB:=ifP aB bR
  have hE:=oJ aB;subst hE
  exact⟨([.int .i64 bF,.int .i64 bG,.slice (some ⟨aY,0,none⟩) bQ.length aZ]),rfl,(New.pair (New.int bA) (New.pair (New.int bB) we4))⟩
 ·replace aB:=ifN aB bR
  obtain⟨X10,bI,aB⟩:=j0 aB
  refine eX { vars:=[11,66],boxes:=[2],owns:=[],fuel:=true } (eX (fun vs os h'=>∃(u11:Int) (u12:Int) (u13:Int) (u14:Int) (gau15 oau15 nu15 cu15:Nat) (u15:T0),vs.tail = [.int .i64 u11,.int .i64 u12,.int .i64 u13,.int .i64 u14,.slice (some ⟨gau15,oau15,none⟩) nu15 cu15]∧os = []∧Sub h h'∧H0 u11∧H0 u12∧H0 u13∧H0 u14∧New S0 h h' [.slice (some ⟨gau15,oau15,none⟩) nu15 cu15] u15∧G6 p2 p3 (H1 vs) u11 u12 u13 u14 u15=some X10) (eX (fun _ _=>0) ?_))
  refine aI (eX N0 ⟨p1,0,bF,bG,aY,0,bQ.length,aZ,bQ,rfl,rfl,bE,ip1,(by decide),bA,bB,we4,bI⟩) ?_
  rintro v_0 v_1 v_2 v_3 v_4 m17 k16 ⟨u11,u12,u13,u14,gau15,oau15,nu15,cu15,u15,bJ,bK,bL,iu11,iu12,iu13,iu14,wwu15,aA⟩
  cases bJ
  cases bK
  replace aA:G6 p2 p3 m17 u11 u12 u13 u14 u15=some X10:=aA
  obtain _|m17:=m17
  ·cases (show(none:Option _)=some X10 from aA)
  rw[G6.eq_2]at aA
  have ru15:=wwu15.r
  obtain⟨rfl,lu15⟩:=Sl.len ru15
  refine aI (fun bC=>?_) (fun bC=>?_)
  ·replace aA:=ifP aA bC
   obtain⟨x19,bS,aA⟩:=j0 aA
   obtain⟨bT,cN,bU,bV⟩:=Sl.getI (r:=Wp.int.toRp) (J0.mono bL rp2) bS (by decide)
   refine aI bT ?_
   obtain⟨rfl,bM⟩:=bV
   refine eX _ (aI bU ?_)
   refine aI (fun bD=>?_) (fun bD=>?_)
   ·replace aA:=ifP aA bD
    refine Or.inr (Or.inr (Or.inl (aI (aI (by kernel_rfl) (by kernel_rfl)) ?_)))
    refine Or.inr ?_
    refine Or.inr ?_
    refine Or.inr ?_
    refine Or.inr ?_
    refine Or.inl (eX 1 (aI (aI rfl rfl) ?_))
    obtain⟨x21,bW,aA⟩:=j0 aA
    refine Tr.mono (e08 _ u11 iu11 x19 bM u14 iu14 _  bW) ?_
    rintro v23 k22 ⟨cO,rfl,bX,bN⟩
    obtain⟨aD,aF,aG,rfl,rfl,aR,aS,aT⟩:=M1 bX
    try dsimp only at aA
    refine aI (aI rfl bN) (aI (by first|exact trivial|exact rfl) ?_)
    refine aI trivial (aI (by first|exact trivial|exact rfl) ?_)
    obtain⟨q24,bY,aA⟩:=j0 aA
    obtain⟨vsz25,rxz25,lnz25,apz25⟩:=New.app wwu15 bN
    refine eX vsz25 (aI rxz25 (aI (P1 bY (by first|rw[lnz25,F2.length (show F2 (C1.R k22) ([[.int .i64 aD,.int .i64 aF,.int .i64 aG]]:List (List Value)) [(aD,aF,aG)] from⟨(G1 aR aS aT),trivial⟩)]|(rw[lnz25];rfl))) ?_))
    intro vz25 kz25 happz25
    obtain⟨wz25,gz25,oz25,nz25,cz25,rfl⟩:=apz25 _ _ _ _ _ (F3.ofPlain (A0c _) (show F2 (C1.R k22) ([[.int .i64 aD,.int .i64 aF,.int .i64 aG]]:List (List Value)) [(aD,aF,aG)] from⟨(G1 aR aS aT),trivial⟩)) d6.ofPlain happz25
    have rz25:=wz25.r
    obtain⟨ez25,lz25⟩:=Sl.len rz25
    subst ez25
    refine aI trivial (aI (by first|exact trivial|exact rfl) ?_)
    refine aI trivial (aI (by first|exact trivial|exact rfl) ?_)
    refine aI rfl (aI (by repeat first|exact trivial|refine aI rfl ?_) (aI (by repeat first|exact trivial|refine aI rfl ?_) (eX m17 (aI ⟨u14,(IntKind.i64.wrap (u12+1)),u13,(IntKind.i64.wrap (u14+1)),gz25,oz25,(u15 ++ [(aD,aF,aG)]).length,cz25,(u15 ++ [(aD,aF,aG)]),rfl,rfl,wz25.sub,iu14,(I0 _),iu13,(I0 _),wz25,aA⟩ (nS _)))))
   ·replace aA:=ifN aA bD
    refine Or.inr (Or.inr (Or.inl (aI (aI (by kernel_rfl) (by kernel_rfl)) ?_)))
    refine Or.inr ?_
    refine Or.inr ?_
    refine Or.inr ?_
    refine Or.inr ?_
    refine Or.inl (eX 1 (aI (aI rfl rfl) ?_))
    obtain⟨x26,bZ,aA⟩:=j0 aA
    refine Tr.mono (e08 _ u11 iu11 x19 bM p3 ip3 _  bZ) ?_
    rintro v28 k27 ⟨cP,rfl,cA,bO⟩
    obtain⟨aH,aJ,aK,rfl,rfl,aU,aV,aW⟩:=M1 cA
    try dsimp only at aA
    refine aI (aI rfl bO) (aI (by first|exact trivial|exact rfl) ?_)
    refine aI trivial (aI (by first|exact trivial|exact rfl) ?_)
    obtain⟨q29,cC,aA⟩:=j0 aA
    obtain⟨vsz30,rxz30,lnz30,apz30⟩:=New.app wwu15 bO
    refine eX vsz30 (aI rxz30 (aI (P1 cC (by first|rw[lnz30,F2.length (show F2 (C1.R k27) ([[.int .i64 aH,.int .i64 aJ,.int .i64 aK]]:List (List Value)) [(aH,aJ,aK)] from⟨(G1 aU aV aW),trivial⟩)]|(rw[lnz30];rfl))) ?_))
    intro vz30 kz30 happz30
    obtain⟨wz30,gz30,oz30,nz30,cz30,rfl⟩:=apz30 _ _ _ _ _ (F3.ofPlain (A0c _) (show F2 (C1.R k27) ([[.int .i64 aH,.int .i64 aJ,.int .i64 aK]]:List (List Value)) [(aH,aJ,aK)] from⟨(G1 aU aV aW),trivial⟩)) d6.ofPlain happz30
    have rz30:=wz30.r
    obtain⟨ez30,lz30⟩:=Sl.len rz30
    subst ez30
    refine aI trivial (aI (by first|exact trivial|exact rfl) ?_)
    refine aI trivial (aI (by first|exact trivial|exact rfl) ?_)
    refine aI rfl (aI (by repeat first|exact trivial|refine aI rfl ?_) (aI (by repeat first|exact trivial|refine aI rfl ?_) (eX m17 (aI ⟨p3,(IntKind.i64.wrap (u12+1)),u13,u14,gz30,oz30,(u15 ++ [(aH,aJ,aK)]).length,cz30,(u15 ++ [(aH,aJ,aK)]),rfl,rfl,wz30.sub,ip3,(I0 _),iu13,iu14,wz30,aA⟩ (nS _)))))
  ·replace aA:=ifN aA bC
   have hE:=oJ aA;subst hE
   try dsimp only[P0,Q0]at aB
   obtain⟨x31,cD,aB⟩:=j0 aB
   refine Tr.mono (p03 _ (some ⟨gau15,oau15,none⟩) u15.length cu15 u15 ru15 _  cD) ?_
   rintro v33 k32 ⟨cE,cV,cG,rfl,wx31⟩
   have cW:Sub k16 k32:=wx31.sub
   have cH:=wx31.r
   obtain⟨rfl,cX⟩:=Sl.len cH
   have hE:=oJ aB;subst hE
   exact⟨([.int .i64 u13,.int .i64 u14,.slice cE x31.length cG]),rfl,(New.pair (New.int iu13) (New.pair (New.int iu14) (New.from wx31 bL)))⟩
theorem I0d (h:Hp) (p0:Int) (ip0:H0 p0) (r:l0×Bool) (aA:V00 p0=some r) :
  Tr Tryz.prog 204 #[.int .i64 p0] h fun v h'=>∃(cs0:List Value),v = .tuple #[.agg cs0.toArray,.bool r.2]∧New K1 h h' cs0 r.1:=by
 unfold V00 at aA
 refine C2 (args:=[.int .i64 p0]) (fn:=Tryz.f204) rfl ?_
 obtain⟨x1,aC,aA⟩:=j0 aA
 refine Tr.val (M7 _ p0 ip0 1 (by decide) 3 (by decide) _  aC) ?_
 refine aI (fun aB=>?_) (fun aB=>?_)
 ·replace aA:=ifP aA aB
  have hE:=oJ aA;subst hE
  exact⟨([.int .i64 0,.int .i64 0,.slice none 0 0]),rfl,(New.pair (New.int (by decide)) (New.pair (New.int (by decide)) ((New.nilSlice (r:=C1)).mono (Sub.refl _))))⟩
 ·replace aA:=ifN aA aB
  have hE:=oJ aA;subst hE
  exact⟨([.int .i64 p0,.int .i64 1,.slice none 0 0]),rfl,(New.pair (New.int ip0) (New.pair (New.int (by decide)) ((New.nilSlice (r:=C1)).mono (Sub.refl _))))⟩
theorem J0d (h:Hp) (aV:List Value) (p0:l0) (rp0:K1.R h aV p0) (ap1:Option Addr) (np1 cp1:Nat) (p1:D0) (rp1:J0.R h [.slice ap1 np1 cp1] p1) (r:l0×Bool) (aL:W00 p0 p1=some r) :
  Tr Tryz.prog 159 #[.agg aV.toArray,.slice ap1 np1 cp1] h fun v h'=>∃(cs0:List Value),v = .tuple #[.agg cs0.toArray,.bool r.2]∧New K1 h h' cs0 r.1:=by
 obtain⟨aM,aN,aG,aZ,aH,aW,rfl,rfl,aQ,aR,aJ⟩:=F0 rp0
 obtain⟨rfl,bA⟩:=Sl.len aJ
 obtain⟨rfl,lp1⟩:=Sl.len rp1
 unfold W00 at aL
 dsimp only at aL
 refine C2 (args:=[.agg #[.int .i64 aM,.int .i64 aN,.slice aG aW.length aH],.slice ap1 p1.length cp1]) (fn:=Tryz.f159) rfl ?_
 obtain⟨x1,bB,aL⟩:=j0 aL
 refine Tr.mono (f08 _ [.int .i64 aM,.int .i64 aN,.slice aG aW.length aH] (aM,aN,aW) (z0 aQ aR aJ) 0 (by decide) ap1 p1.length cp1 p1 rp1 0 (by decide) _  bB) ?_
 rintro v3 k2 ⟨aX,rfl,aK⟩
 obtain⟨bC,bD⟩:=x1
 dsimp only at aL aK
 have bE:Sub h k2:=aK.sub
 have aS:=aK.r
 obtain⟨aO,aP,aA,aT,aB,aY,rfl,rfl,aC,aD,aF⟩:=F0 aS
 obtain⟨rfl,aU⟩:=Sl.len aF
 try dsimp only at aL
 have we4:=New.sndI (New.sndI (aK))
 have hE:=oJ aL;subst hE
 exact⟨([.int .i64 aO,.int .i64 aP,.slice aA aY.length aB]),rfl,(New.pair (New.int aC) (New.pair (New.int aD) we4))⟩
theorem K0d (h:Hp) (p0:Int) (ip0:H0 p0) (ap1:Option Addr) (np1 cp1:Nat) (p1:J1) (rp1:T1.R h [.slice ap1 np1 cp1] p1) (r:l0×Bool) (aB:X00 p0 p1=some r) :
  Tr Tryz.prog 152 #[.int .i64 p0,.slice ap1 np1 cp1] h fun v h'=>∃(cs0:List Value),v = .tuple #[.agg cs0.toArray,.bool r.2]∧New K1 h h' cs0 r.1:=by
 obtain⟨rfl,lp1⟩:=Sl.len rp1
 unfold X00 at aB
 refine C2 (args:=[.int .i64 p0,.slice ap1 p1.length cp1]) (fn:=Tryz.f152) rfl ?_
 obtain⟨x1,bW,aB⟩:=j0 aB
 refine Tr.val (Y06 _ p0 ip0 ap1 p1.length cp1 p1 rp1 _  bW) ?_
 refine aI (fun bG=>?_) (fun bG=>?_)
 ·replace aB:=ifP aB bG
  have hE:=oJ aB;subst hE
  exact⟨([.int .i64 0,.int .i64 0,.slice none 0 0]),rfl,(New.pair (New.int (by decide)) (New.pair (New.int (by decide)) ((New.nilSlice (r:=C1)).mono (Sub.refl _))))⟩
 ·replace aB:=ifN aB bG
  obtain⟨x3,bX,aB⟩:=j0 aB
  refine Tr.mono (I0d _ p0 ip0 _  bX) ?_
  rintro v5 k4 ⟨bH,rfl,aS⟩
  obtain⟨bY,bZ⟩:=x3
  dsimp only at aB aS
  have cD:Sub h k4:=aS.sub
  have bA:=aS.r
  obtain⟨aT,aU,aK,bD,aL,aV,rfl,rfl,aM,aN,aO⟩:=F0 bA
  obtain⟨rfl,bE⟩:=Sl.len aO
  try dsimp only at aB
  have we6:=New.sndI (New.sndI (aS))
  obtain⟨X7,bI,aB⟩:=j0 aB
  refine eX { vars:=[22],boxes:=[1],owns:=[],fuel:=true } (eX (fun vs os h'=>∃(u8:Int) (u9:Int) (u10:Int) (au11:Option Addr) (nu11 cu11:Nat) (u11:T0),vs.tail = [.int .i64 u8,.int .i64 u9,.int .i64 u10,.slice au11 nu11 cu11]∧os = []∧Sub k4 h'∧H0 u8∧H0 u9∧H0 u10∧New S0 h h' [.slice au11 nu11 cu11] u11∧g6 p1 (H1 vs) u8 u9 u10 u11=some X7) (eX (fun _ _=>0) ?_))
  refine aI (eX N0 ⟨0,aT,aU,aK,aV.length,aL,aV,rfl,rfl,(Sub.refl _),(by decide),aM,aN,we6,bI⟩) ?_
  rintro v_0 v_1 v_2 v_3 m13 k12 ⟨u8,u9,u10,au11,nu11,cu11,u11,bJ,bK,bL,iu8,iu9,iu10,wwu11,aA⟩
  cases bJ
  cases bK
  replace aA:g6 p1 m13 u8 u9 u10 u11=some X7:=aA
  obtain _|m13:=m13
  ·cases (show(none:Option _)=some X7 from aA)
  rw[g6.eq_2]at aA
  have ru11:=wwu11.r
  obtain⟨rfl,lu11⟩:=Sl.len ru11
  refine aI (fun aW=>?_) (fun aW=>?_)
  ·replace aA:=ifP aA aW
   obtain⟨x15,bM,aA⟩:=j0 aA
   obtain⟨bN,bT,bO,aX⟩:=Sl.getI (r:=J0.toRp) (T1.mono (cD.trans bL) rp1) bM (by decide)
   refine aI bN ?_
   obtain⟨bP,cA,bQ,rfl⟩:=Wp.slice_cell aX
   obtain⟨rfl,cC⟩:=Sl.len aX
   refine eX _ (aI bO ?_)
   refine aI (fun aY=>?_) (fun aY=>?_)
   ·replace aA:=ifP aA aY
    obtain⟨x17,bR,aA⟩:=j0 aA
    refine Tr.mono (J0d _ [.int .i64 u9,.int .i64 u10,.slice au11 u11.length cu11] (u9,u10,u11) (z0 iu9 iu10 ru11) bP x15.length bQ x15 aX _  bR) ?_
    rintro v19 k18 ⟨bF,rfl,aC⟩
    obtain⟨bU,bV⟩:=x17
    dsimp only at aA aC
    have bS:Sub k12 k18:=aC.sub
    have aZ:=aC.r
    obtain⟨aP,aQ,aD,bB,aF,aR,rfl,rfl,aG,aH,aJ⟩:=F0 aZ
    obtain⟨rfl,bC⟩:=Sl.len aJ
    try dsimp only at aA
    have we20:=New.sndI (New.sndI (aC))
    refine aI rfl (aI (by repeat first|exact trivial|refine aI rfl ?_) (aI (by repeat first|exact trivial|refine aI rfl ?_) (eX m13 (aI ⟨(IntKind.i64.wrap (u8+1)),aP,aQ,aD,aR.length,aF,aR,rfl,rfl,(bL.trans bS),(I0 _),aG,aH,(New.from we20 (cD.trans bL)),aA⟩ (nS _)))))
   ·replace aA:=ifN aA aY
    refine aI rfl (aI (by repeat first|exact trivial|refine aI rfl ?_) (aI (by repeat first|exact trivial|refine aI rfl ?_) (eX m13 (aI ⟨(IntKind.i64.wrap (u8+1)),u9,u10,au11,u11.length,cu11,u11,rfl,rfl,bL,(I0 _),iu9,iu10,wwu11,aA⟩ (nS _)))))
  ·replace aA:=ifN aA aW
   have hE:=oJ aA;subst hE
   try dsimp only[P0,Q0]at aB
   have hE:=oJ aB;subst hE
   exact⟨([.int .i64 u9,.int .i64 u10,.slice au11 u11.length cu11]),rfl,(New.pair (New.int iu9) (New.pair (New.int iu10) wwu11))⟩
theorem p0i (h:Hp) (aY:List Value) (p0:l0) (rp0:K1.R h aY p0) (r:P8) (aT:G02 p0=some r) :
  Tr Tryz.prog 269 #[.agg aY.toArray] h fun v h'=>∃(a0:Option Addr) (n0 c0:Nat),v = .slice a0 n0 c0∧P0h.R h' [.slice a0 n0 c0] r∧Sub h h':=by
 obtain⟨aZ,bA,aU,bQ,aV,aW,rfl,rfl,bR,bS,aM⟩:=F0 rp0
 obtain⟨rfl,bT⟩:=Sl.len aM
 unfold G02 at aT
 dsimp only at aT
 refine C2 (args:=[.agg #[.int .i64 aZ,.int .i64 bA,.slice aU aW.length aV]]) (fn:=Tryz.f269) rfl ?_
 obtain⟨X1,bB,aT⟩:=j0 aT
 refine eX { vars:=[12],boxes:=[],owns:=[0],fuel:=true } (eX (fun vs os h'=>∃(u2:Int) (wu3:List (List Value)) (u3:List Y4),vs.tail = [.int .i64 u2]∧os = [wu3]∧Sub h h'∧H0 u2∧F2 (W4.R h') wu3 u3∧T8 aW (H1 vs) u2 u3=some X1) (eX (fun _ _=>0) ?_))
 refine aI (eX N0 ⟨0,[],([]:P8),rfl,rfl,(Sub.refl _),(by decide),(show F2 (W4.R h) ([]:List (List Value)) ([]:P8) from trivial),bB⟩) ?_
 rintro v_0 wu3 m5 k4 ⟨u2,zzu3,u3,bC,bD,bU,iu2,fu3,aL⟩
 cases bC
 cases bD
 replace aL:T8 aW m5 u2 u3=some X1:=aL
 obtain _|m5:=m5
 ·cases (show(none:Option _)=some X1 from aL)
 rw[T8.eq_2]at aL
 refine aI (fun bE=>?_) (fun bE=>?_)
 ·replace aL:=ifP aL bE
  obtain⟨x7,bZ,aL⟩:=j0 aL
  obtain⟨cA,cC,cD,cE⟩:=Sl.getI (r:=C1.toRp) (S0.mono bU aM) bZ (by decide)
  refine aI cA ?_
  obtain⟨aD,aX,aC,rfl,rfl,aK,bV,aJ⟩:=M1 cE
  try dsimp only at aL
  refine eX _ (aI cD ?_)
  obtain⟨x8,cG,aL⟩:=j0 aL
  obtain⟨qx8,vsx8,cH,fx8⟩:=Sl.cutI (r:=C1.toRp) (S0.mono bU aM) cG
  refine aI qx8 (eX vsx8 (aI cH ?_))
  intro vx8 hvx8 _
  obtain⟨cI,cJ,rfl,bW⟩:=fx8 vx8 hvx8
  have cK:=(Sl.len bW).2
  obtain⟨X9,bF,aL⟩:=j0 aL
  refine eX { vars:=[23],boxes:=[],owns:=[0],fuel:=true } (eX (fun vs os h'=>∃(u10:Int) (wu11:List (List Value)) (u11:List Y4),vs.tail = [.int .i64 u10]∧os = [wu11]∧Sub k4 h'∧H0 u10∧F2 (W4.R h') wu11 u11∧C5 x8 aX aD aC (H1 vs) u10 u11=some X9) (eX (fun _ _=>0) ?_))
  refine aI (eX N0 ⟨0,wu3,u3,rfl,rfl,(Sub.refl _),(by decide),fu3,bF⟩) ?_
  rintro v_0 wu11 m13 k12 ⟨u10,zzu11,u11,bG,bH,aN,iu10,fu11,aG⟩
  cases bG
  cases bH
  replace aG:C5 x8 aX aD aC m13 u10 u11=some X9:=aG
  obtain _|m13:=m13
  ·cases (show(none:Option _)=some X9 from aG)
  rw[C5.eq_2]at aG
  refine aI (fun aO=>?_) (fun aO=>?_)
  ·replace aG:=ifP aG aO
   obtain⟨x15,bI,aG⟩:=j0 aG
   obtain⟨bJ,bX,bK,bL⟩:=Sl.getI (r:=C1.toRp) (S0.mono aN bW) bI (by decide)
   refine aI bJ ?_
   obtain⟨aB,bY,aA,rfl,rfl,aH,bM,aF⟩:=M1 bL
   try dsimp only at aG
   refine eX _ (aI bK ?_)
   refine aI (fun aP=>?_) (fun aP=>?_)
   ·replace aG:=ifP aG aP
    refine aI rfl (aI (by repeat first|exact trivial|refine aI rfl ?_) (aI (by repeat first|exact trivial|refine aI rfl ?_) (eX m13 (aI ⟨(IntKind.i64.wrap (u10+1)),wu11,u11,rfl,rfl,aN,(I0 _),fu11,aG⟩ (nS _)))))
   ·replace aG:=ifN aG aP
    refine aI (fun aQ=>?_) (fun aQ=>?_)
    ·replace aG:=ifP aG aQ
     obtain⟨q18,bN,aG⟩:=j0 aG
     refine aI (P1 bN (by first|rw[F2.length fu11,F2.length (show F2 (W4.R k12) ([[.int .i64 (if aA<aC then aA else aC),.int .i64 (if aA>aC then aA else aC)]]:List (List Value)) [((if aA<aC then aA else aC),(if aA>aC then aA else aC))] from⟨(M2 (L7 aF aJ) (L7 aF aJ)),trivial⟩)]|exact congrArg (·+1) (F2.length fu11))) ?_
     refine aI (fun aR=>?_) (fun aR=>?_)
     ·replace aG:=ifP aG aR
      obtain⟨q20,bO,aG⟩:=j0 aG
      refine aI (P1 bO (by first|rw[F2.length (F2.append fu11 (show F2 (W4.R k12) ([[.int .i64 (if aA<aC then aA else aC),.int .i64 (if aA>aC then aA else aC)]]:List (List Value)) [((if aA<aC then aA else aC),(if aA>aC then aA else aC))] from⟨(M2 (L7 aF aJ) (L7 aF aJ)),trivial⟩)),F2.length (show F2 (W4.R k12) ([[.int .i64 (if aB<aD then aB else aD),.int .i64 (if aB>aD then aB else aD)]]:List (List Value)) [((if aB<aD then aB else aD),(if aB>aD then aB else aD))] from⟨(M2 (L7 aH aK) (L7 aH aK)),trivial⟩)]|exact congrArg (·+1) (F2.length (F2.append fu11 (show F2 (W4.R k12) ([[.int .i64 (if aA<aC then aA else aC),.int .i64 (if aA>aC then aA else aC)]]:List (List Value)) [((if aA<aC then aA else aC),(if aA>aC then aA else aC))] from⟨(M2 (L7 aF aJ) (L7 aF aJ)),trivial⟩))))) ?_
      refine aI rfl (aI (by repeat first|exact trivial|refine aI rfl ?_) (aI (by repeat first|exact trivial|refine aI rfl ?_) (eX m13 (aI ⟨(IntKind.i64.wrap (u10+1)),((wu11++([[.int .i64 (if aA<aC then aA else aC),.int .i64 (if aA>aC then aA else aC)]]:List (List Value)))++([[.int .i64 (if aB<aD then aB else aD),.int .i64 (if aB>aD then aB else aD)]]:List (List Value))),((u11 ++ [((if aA<aC then aA else aC),(if aA>aC then aA else aC))]) ++ [((if aB<aD then aB else aD),(if aB>aD then aB else aD))]),rfl,rfl,aN,(I0 _),(F2.append (F2.append fu11 (show F2 (W4.R k12) ([[.int .i64 (if aA<aC then aA else aC),.int .i64 (if aA>aC then aA else aC)]]:List (List Value)) [((if aA<aC then aA else aC),(if aA>aC then aA else aC))] from⟨(M2 (L7 aF aJ) (L7 aF aJ)),trivial⟩)) (show F2 (W4.R k12) ([[.int .i64 (if aB<aD then aB else aD),.int .i64 (if aB>aD then aB else aD)]]:List (List Value)) [((if aB<aD then aB else aD),(if aB>aD then aB else aD))] from⟨(M2 (L7 aH aK) (L7 aH aK)),trivial⟩)),aG⟩ (nS _)))))
     ·replace aG:=ifN aG aR
      refine aI rfl (aI (by repeat first|exact trivial|refine aI rfl ?_) (aI (by repeat first|exact trivial|refine aI rfl ?_) (eX m13 (aI ⟨(IntKind.i64.wrap (u10+1)),(wu11++([[.int .i64 (if aA<aC then aA else aC),.int .i64 (if aA>aC then aA else aC)]]:List (List Value))),(u11 ++ [((if aA<aC then aA else aC),(if aA>aC then aA else aC))]),rfl,rfl,aN,(I0 _),(F2.append fu11 (show F2 (W4.R k12) ([[.int .i64 (if aA<aC then aA else aC),.int .i64 (if aA>aC then aA else aC)]]:List (List Value)) [((if aA<aC then aA else aC),(if aA>aC then aA else aC))] from⟨(M2 (L7 aF aJ) (L7 aF aJ)),trivial⟩)),aG⟩ (nS _)))))
    ·replace aG:=ifN aG aQ
     refine aI (fun aS=>?_) (fun aS=>?_)
     ·replace aG:=ifP aG aS
      obtain⟨q22,bP,aG⟩:=j0 aG
      refine aI (P1 bP (by first|rw[F2.length fu11,F2.length (show F2 (W4.R k12) ([[.int .i64 (if aB<aD then aB else aD),.int .i64 (if aB>aD then aB else aD)]]:List (List Value)) [((if aB<aD then aB else aD),(if aB>aD then aB else aD))] from⟨(M2 (L7 aH aK) (L7 aH aK)),trivial⟩)]|exact congrArg (·+1) (F2.length fu11))) ?_
      refine aI rfl (aI (by repeat first|exact trivial|refine aI rfl ?_) (aI (by repeat first|exact trivial|refine aI rfl ?_) (eX m13 (aI ⟨(IntKind.i64.wrap (u10+1)),(wu11++([[.int .i64 (if aB<aD then aB else aD),.int .i64 (if aB>aD then aB else aD)]]:List (List Value))),(u11 ++ [((if aB<aD then aB else aD),(if aB>aD then aB else aD))]),rfl,rfl,aN,(I0 _),(F2.append fu11 (show F2 (W4.R k12) ([[.int .i64 (if aB<aD then aB else aD),.int .i64 (if aB>aD then aB else aD)]]:List (List Value)) [((if aB<aD then aB else aD),(if aB>aD then aB else aD))] from⟨(M2 (L7 aH aK) (L7 aH aK)),trivial⟩)),aG⟩ (nS _)))))
     ·replace aG:=ifN aG aS
      refine aI rfl (aI (by repeat first|exact trivial|refine aI rfl ?_) (aI (by repeat first|exact trivial|refine aI rfl ?_) (eX m13 (aI ⟨(IntKind.i64.wrap (u10+1)),wu11,u11,rfl,rfl,aN,(I0 _),fu11,aG⟩ (nS _)))))
  ·replace aG:=ifN aG aO
   have hE:=oJ aG;subst hE
   try dsimp only[P0,Q0]at aL
   refine aI rfl (aI (by repeat first|exact trivial|refine aI rfl ?_) (aI (by repeat first|exact trivial|refine aI rfl ?_) (eX m5 (aI ⟨(IntKind.i64.wrap (u2+1)),wu11,u11,rfl,rfl,(bU.trans aN),(I0 _),fu11,aL⟩ (nS _)))))
 ·replace aL:=ifN aL bE
  have hE:=oJ aL;subst hE
  try dsimp only[P0,Q0]at aT
  intro v27 k28 f29
  obtain⟨az30,cz30,rfl,rz30,sz30,lz30⟩:=j1.out (r:=W4.toRp) f29 fu3
  have hE:=oJ aT;subst hE
  exact⟨az30,u3.length,cz30,rfl,rz30,(bU.trans sz30)⟩
theorem H0c (h:Hp) (aN:List Value) (p0:l0) (rp0:K1.R h aN p0) (r:Y4×Bool) (aA:z9 p0=some r) :
  Tr Tryz.prog 258 #[.agg aN.toArray] h fun v h'=>∃(cs0:List Value),v = .tuple #[.agg cs0.toArray,.bool r.2]∧W4.R h' cs0 r.1∧Sub h h':=by
 obtain⟨aB,aC,aD,aS,aF,aK,rfl,rfl,aH,aJ,aG⟩:=F0 rp0
 obtain⟨rfl,aT⟩:=Sl.len aG
 unfold z9 at aA
 dsimp only at aA
 refine C2 (args:=[.agg #[.int .i64 aB,.int .i64 aC,.slice aD aK.length aF]]) (fn:=Tryz.f258) rfl ?_
 obtain⟨x1,aW,aA⟩:=j0 aA
 refine Tr.val (Y9 _ [.int .i64 aB,.int .i64 aC,.slice aD aK.length aF] (aB,aC,aK) (z0 aH aJ aG) _  aW) ?_
 refine aI (fun aO=>?_) (fun aO=>?_)
 ·replace aA:=ifP aA aO
  have hE:=oJ aA;subst hE
  exact⟨([.int .i64 0,.int .i64 0]),rfl,(M2 (by decide) (by decide)),(Sub.refl _)⟩
 ·replace aA:=ifN aA aO
  obtain⟨x3,aX,aA⟩:=j0 aA
  refine Tr.mono (p0i _ [.int .i64 aB,.int .i64 aC,.slice aD aK.length aF] (aB,aC,aK) (z0 aH aJ aG) _  aX) ?_
  rintro v5 k4 ⟨bD,bE,bF,rfl,aU,aV⟩
  obtain⟨rfl,bG⟩:=Sl.len aU
  refine aI (fun aP=>?_) (fun aP=>?_)
  ·replace aA:=ifP aA aP
   have hE:=oJ aA;subst hE
   exact⟨([.int .i64 0,.int .i64 0]),rfl,(M2 (by decide) (by decide)),aV⟩
  ·replace aA:=ifN aA aP
   obtain⟨x7,aY,aA⟩:=j0 aA
   obtain⟨aZ,bA,bB,bC⟩:=Sl.getI (r:=W4.toRp) aU aY (by decide)
   refine aI aZ ?_
   obtain⟨aQ,aR,rfl,rfl,aL,aM⟩:=E02 bC
   try dsimp only at aA
   refine eX _ (aI bB ?_)
   have hE:=oJ aA;subst hE
   exact⟨([.int .i64 aQ,.int .i64 aR]),rfl,(M2 aL aM),aV⟩
theorem g08 (h:Hp) (bG:List Value) (p0:l0) (rp0:K1.R h bG p0) (bH:List Value) (p1:Y4) (rp1:W4.R h bH p1) (r:l0×Bool) (aB:C7 p0 p1=some r) :
  Tr Tryz.prog 259 #[.agg bG.toArray,.agg bH.toArray] h fun v h'=>∃(cs0:List Value),v = .tuple #[.agg cs0.toArray,.bool r.2]∧New K1 h h' cs0 r.1:=by
 obtain⟨aG,aH,aJ,cH,aK,aZ,rfl,rfl,aO,aP,aL⟩:=F0 rp0
 obtain⟨rfl,cI⟩:=Sl.len aL
 obtain⟨aC,aD,rfl,rfl,aQ,aR⟩:=E02 rp1
 unfold C7 at aB
 dsimp only at aB
 refine C2 (args:=[.agg #[.int .i64 aG,.int .i64 aH,.slice aJ aZ.length aK],.agg #[.int .i64 aC,.int .i64 aD]]) (fn:=Tryz.f259) rfl ?_
 obtain⟨x1,cR,aB⟩:=j0 aB
 refine Tr.mono (c4 _ [.int .i64 aG,.int .i64 aH,.slice aJ aZ.length aK] (aG,aH,aZ) (z0 aO aP aL) _  cR) ?_
 rintro v3 k2 ⟨aF,cJ,aM,rfl,wx1⟩
 have cS:Sub h k2:=wx1.sub
 have cK:=wx1.r
 obtain⟨bA,bB,aT⟩:=x1
 dsimp only at aB wx1 cK
 obtain⟨_,_,_,_,_,_,ecx1,exx1,aS,bC,bD⟩:=F0 cK
 cases ecx1
 cases exx1
 obtain⟨rfl,cL⟩:=Sl.len bD
 try dsimp only at aB
 have we4:=New.sndI (New.sndI (wx1))
 obtain⟨x5,cT,aB⟩:=j0 aB
 refine Tr.val (Y9 _ [.int .i64 aG,.int .i64 aH,.slice aJ aZ.length aK] (aG,aH,aZ) (z0 aO aP (S0.mono cS aL)) _  cT) ?_
 refine aI (fun bI=>?_) (fun bI=>?_)
 ·replace aB:=ifP aB bI
  have hE:=oJ aB;subst hE
  exact⟨([.int .i64 bA,.int .i64 bB,.slice (some ⟨aF,0,none⟩) aT.length aM]),rfl,(New.pair (New.int aS) (New.pair (New.int bC) we4))⟩
 ·replace aB:=ifN aB bI
  intro b7 hb7
  have gb7:(Hp.set k2 b7 (.cells #[.int .i64 aC,.int .i64 aD] 178 (0,0))) b7=some (.cells #[.int .i64 aC,.int .i64 aD] 178 (0,0)):=Hp.set_same _ _ _
  have neb7gx1_2:b7≠aF:=fun e=>New.blk we4 (Sub.refl _) (e▸hb7)
  obtain⟨X8,bJ,aB⟩:=j0 aB
  refine eX { vars:=[39],boxes:=[],owns:=[],fuel:=true } (eX (fun vs os h'=>∃(u9:Int) (u10:T0),vs.tail = [.int .i64 u9]∧os = []∧Sub h h'∧H0 u9∧New S0 h h' [.slice (some ⟨aF,0,none⟩) aT.length aM] u10∧h' b7=some (.cells #[.int .i64 aC,.int .i64 aD] 178 (0,0))∧Q4 aT aC aD (H1 vs) u9 u10=some X8) (eX (fun _ _=>0) ?_))
  refine aI (eX N0 ⟨0,aT,rfl,rfl,(cS.trans (Sub.set hb7)),(by decide),(New.mono we4 (Sub.set hb7)),gb7,bJ⟩) ?_
  rintro v_0 m13 k12 ⟨u9,u10,bK,bL,cU,iu9,wwu10,hq11,aA⟩
  cases bK
  cases bL
  replace aA:Q4 aT aC aD m13 u9 u10=some X8:=aA
  obtain _|m13:=m13
  ·cases (show(none:Option _)=some X8 from aA)
  rw[Q4.eq_2]at aA
  have ru10:=wwu10.r
  refine aI (fun aU=>?_) (fun aU=>?_)
  ·replace aA:=ifP aA aU
   obtain⟨x15,bM,aA⟩:=j0 aA
   obtain⟨bN,cM,bO,bP⟩:=Sl.getI (r:=C1.toRp) ru10 bM (by decide)
   refine aI bN ?_
   obtain⟨bE,aN,bF,rfl,rfl,aV,aW,aX⟩:=M1 bP
   try dsimp only at aA
   refine eX _ (aI bO ?_)
   refine Or.inr (Or.inr (Or.inl (aI (aI (by kernel_rfl) (by kernel_rfl)) ?_)))
   obtain⟨x16,bQ,aA⟩:=j0 aA
   obtain⟨q17,bR,aA⟩:=j0 aA
   have bS:H0 x16:=M0 bR
   refine Or.inl (eX (.val (.int .i64 x16)) (aI ?_ ?_))
   ·intro k18 s19
    exact Tr.val (P02 _ bE aV b7 178 aC aQ aD aR (s19 _ _ hq11) _ bQ) (aI rfl (aI rfl rfl))
   obtain⟨x20,bT,aA⟩:=j0 aA
   obtain⟨q21,bU,aA⟩:=j0 aA
   have bV:H0 x20:=M0 bU
   refine Or.inl (eX (.val (.int .i64 x20)) (aI ?_ ?_))
   ·intro k22 s23
    exact Tr.val (P02 _ bF aX b7 178 aC aQ aD aR (s23 _ _ hq11) _ bT) (aI rfl (aI rfl rfl))
   refine Or.inl (eX (.agg [.val (.int .i64 x16),.val (.int .i64 aN),.val (.int .i64 x20)]) (aI ?_ ?_))
   ·intro k24 s25
    exact aI rfl (aI rfl rfl)
   refine Or.inr ?_
   refine Or.inr ?_
   refine Or.inl (eX 0 (aI (aI rfl rfl) ?_))
   obtain⟨x26,aY,aA⟩:=j0 aA
   obtain⟨bW,cN,cV,bX⟩:=Sl.getI (r:=C1.toRp) ru10 aY (by decide)
   refine aI bW ?_
   obtain⟨cO,cP,cQ,rfl,rfl,bY,bZ,cA⟩:=M1 bX
   try dsimp only at aA
   refine aI trivial (aI (by first|exact trivial|exact rfl) ?_)
   refine New.put (r:=C1) wwu10 (Sub.refl _) (D0q aY).1 (new:=[.int .i64 x16,.int .i64 aN,.int .i64 x20]) (By:=[]) (A0c _ _ _ (G1 bS aW bV)) (d6.nil _) rfl (D0q aY).2 ?_
   intro k27 w28 kpw28 _
   have rw28:=w28.r
   have hpw28b7:k27 b7=some (.cells #[.int .i64 aC,.int .i64 aD] 178 (0,0)):=(kpw28 b7 neb7gx1_2).trans hq11
   refine aI trivial (aI (by first|exact trivial|exact rfl) ?_)
   refine aI rfl (aI (by repeat first|exact trivial|refine aI rfl ?_) (aI (by repeat first|exact trivial|refine aI rfl ?_) (eX m13 (aI ⟨(IntKind.i64.wrap (u9+1)),(u10.set u9.toNat (x16,aN,x20)),rfl,rfl,w28.sub,(I0 _),w28,(hpw28b7),aA⟩ (nS _)))))
  ·replace aA:=ifN aA aU
   have hE:=oJ aA;subst hE
   try dsimp only[P0,Q0]at aB
   obtain⟨x29,cC,aB⟩:=j0 aB
   refine Tr.mono (p03 _ (some ⟨aF,0,none⟩) aT.length aM u10 ru10 _  cC) ?_
   rintro v31 k30 ⟨cD,cW,cE,rfl,wx29⟩
   have cX:Sub k12 k30:=wx29.sub
   have cG:=wx29.r
   obtain⟨rfl,cY⟩:=Sl.len cG
   have hE:=oJ aB;subst hE
   exact⟨([.int .i64 bA,.int .i64 (IntKind.i64.wrap (bB-1)),.slice cD x29.length cE]),rfl,(New.pair (New.int aS) (New.pair (New.int (I0 _)) (New.from wx29 cU)))⟩
theorem L0d (h:Hp) (bH:List Value) (p0:l0) (rp0:K1.R h bH p0) (r:l0×Y4×Bool) (aA:Y00 p0=some r) :
  Tr Tryz.prog 235 #[.agg bH.toArray] h fun v h'=>∃(cs0:List Value) (cs1:List Value),v = .tuple #[.agg cs0.toArray,.agg cs1.toArray,.bool r.2.2]∧New K1 h h' cs0 r.1∧W4.R h' cs1 r.2.1:=by
 obtain⟨aB,aC,aG,bO,aH,aV,rfl,rfl,aM,aN,aJ⟩:=F0 rp0
 obtain⟨rfl,bP⟩:=Sl.len aJ
 unfold Y00 at aA
 dsimp only at aA
 refine C2 (args:=[.agg #[.int .i64 aB,.int .i64 aC,.slice aG aV.length aH]]) (fn:=Tryz.f235) rfl ?_
 obtain⟨x1,bT,aA⟩:=j0 aA
 refine Tr.mono (H0c _ [.int .i64 aB,.int .i64 aC,.slice aG aV.length aH] (aB,aC,aV) (z0 aM aN aJ) _  bT) ?_
 rintro v3 k2 ⟨bI,rfl,aT,bE⟩
 obtain⟨bU,bV⟩:=x1
 dsimp only at aA aT
 obtain⟨aD,aF,rfl,rfl,aK,aL⟩:=E02 aT
 try dsimp only at aA
 refine aI (fun bJ=>?_) (fun bJ=>?_)
 ·replace aA:=ifP aA bJ
  obtain⟨x5,bW,aA⟩:=j0 aA
  refine Tr.mono (c4 _ [.int .i64 aB,.int .i64 aC,.slice aG aV.length aH] (aB,aC,aV) (z0 aM aN (S0.mono bE aJ)) _  bW) ?_
  rintro v7 k6 ⟨aY,bQ,aZ,rfl,wx5⟩
  have cC:Sub k2 k6:=wx5.sub
  have bR:=wx5.r
  obtain⟨bK,bL,bX⟩:=x5
  dsimp only at aA wx5 bR
  obtain⟨_,_,_,_,_,_,ecx5,exx5,bA,bB,bC⟩:=F0 bR
  cases ecx5
  cases exx5
  obtain⟨rfl,bS⟩:=Sl.len bC
  try dsimp only at aA
  have we8:=New.sndI (New.sndI (wx5))
  have hE:=oJ aA;subst hE
  exact⟨([.int .i64 bK,.int .i64 bL,.slice (some ⟨aY,0,none⟩) bX.length aZ]),([.int .i64 0,.int .i64 0]),rfl,(New.pair (New.int bA) (New.pair (New.int bB) (New.from we8 bE))),(M2 (by decide) (by decide))⟩
 ·replace aA:=ifN aA bJ
  obtain⟨x9,bY,aA⟩:=j0 aA
  refine Tr.mono (g08 _ [.int .i64 aB,.int .i64 aC,.slice aG aV.length aH] (aB,aC,aV) (z0 aM aN (S0.mono bE aJ)) [.int .i64 aD,.int .i64 aF] (aD,aF) (M2 aK aL) _  bY) ?_
  rintro v11 k10 ⟨bM,rfl,aU⟩
  obtain⟨bZ,cA⟩:=x9
  dsimp only at aA aU
  have cD:Sub k2 k10:=aU.sub
  have bD:=aU.r
  obtain⟨aW,aX,aO,bF,aP,bN,rfl,rfl,aQ,aR,aS⟩:=F0 bD
  obtain⟨rfl,bG⟩:=Sl.len aS
  try dsimp only at aA
  have we12:=New.sndI (New.sndI (aU))
  refine Or.inr (Or.inr (Or.inl (aI (aI (by kernel_rfl) (by kernel_rfl)) ?_)))
  refine Or.inr ?_
  refine Or.inr ?_
  refine Or.inl (eX 0 (aI (aI rfl rfl) ?_))
  refine aI trivial (aI (by first|exact trivial|exact rfl) ?_)
  refine aI trivial (aI (by first|exact trivial|exact rfl) ?_)
  have hE:=oJ aA;subst hE
  exact⟨([.int .i64 aW,.int .i64 aX,.slice aO bN.length aP]),([.int .i64 aD,.int .i64 aF]),rfl,(New.pair (New.int aQ) (New.pair (New.int aR) (New.from we12 bE))),(M2 aK aL)⟩
theorem F04 (h:Hp) (bL:List Value) (p0:l0) (rp0:K1.R h bL p0) (r:l0×P8) (aP:T7 p0=some r) :
  Tr Tryz.prog 205 #[.agg bL.toArray] h fun v h'=>∃(cs0:List Value) (a1:Option Addr) (n1 c1:Nat),v = .tuple #[.agg cs0.toArray,.slice a1 n1 c1]∧New K1 h h' cs0 r.1∧P0h.R h' [.slice a1 n1 c1] r.2:=by
 obtain⟨aW,aX,aT,bV,aU,bM,rfl,rfl,bA,bB,aV⟩:=F0 rp0
 obtain⟨rfl,bW⟩:=Sl.len aV
 unfold T7 at aP
 dsimp only at aP
 refine C2 (args:=[.agg #[.int .i64 aW,.int .i64 aX,.slice aT bM.length aU]]) (fn:=Tryz.f205) rfl ?_
 obtain⟨x1,cE,aP⟩:=j0 aP
 refine Tr.mono (c4 _ [.int .i64 aW,.int .i64 aX,.slice aT bM.length aU] (aW,aX,bM) (z0 bA bB aV) _  cE) ?_
 rintro v3 k2 ⟨bC,bX,bD,rfl,wx1⟩
 have cH:Sub h k2:=wx1.sub
 have bY:=wx1.r
 obtain⟨bN,bO,bP⟩:=x1
 dsimp only at aP wx1 bY
 obtain⟨_,_,_,_,_,_,ecx1,exx1,bE,bF,bG⟩:=F0 bY
 cases ecx1
 cases exx1
 obtain⟨rfl,bZ⟩:=Sl.len bG
 try dsimp only at aP
 have we4:=New.sndI (New.sndI (wx1))
 obtain⟨X5,bQ,aP⟩:=j0 aP
 refine eX { vars:=[],boxes:=[2],owns:=[0],fuel:=true } (eX (fun vs os h'=>∃(u6:Int) (u7:Int) (au8:Option Addr) (nu8 cu8:Nat) (u8:T0) (wu9:List (List Value)) (u9:List Y4),vs.tail = [.int .i64 u6,.int .i64 u7,.slice au8 nu8 cu8]∧os = [wu9]∧Sub k2 h'∧H0 u6∧H0 u7∧New S0 h h' [.slice au8 nu8 cu8] u8∧F2 (W4.R h') wu9 u9∧D7 (H1 vs) u6 u7 u8 u9=some X5) (eX (fun _ _=>0) ?_))
 refine aI (eX N0 ⟨bN,bO,(some ⟨bC,0,none⟩),bP.length,bD,bP,[],([]:P8),rfl,rfl,(Sub.refl _),bE,bF,we4,(show F2 (W4.R k2) ([]:List (List Value)) ([]:P8) from trivial),bQ⟩) ?_
 rintro v_0 v_1 v_2 wu9 m11 k10 ⟨u6,u7,au8,nu8,cu8,u8,zzu9,u9,bR,bS,cG,iu6,iu7,wwu8,fu9,aC⟩
 cases bR
 cases bS
 replace aC:D7 m11 u6 u7 u8 u9=some X5:=aC
 obtain _|m11:=m11
 ·cases (show(none:Option _)=some X5 from aC)
 rw[D7.eq_2]at aC
 have ru8:=wwu8.r
 obtain⟨rfl,lu8⟩:=Sl.len ru8
 obtain⟨x12,bT,aC⟩:=j0 aC
 refine Tr.mono (L0d _ [.int .i64 u6,.int .i64 u7,.slice au8 u8.length cu8] (u6,u7,u8) (z0 iu6 iu7 ru8) _  bT) ?_
 rintro v14 k13 ⟨bJ,bK,rfl,aG,aH⟩
 obtain⟨cA,cC,cD⟩:=x12
 dsimp only at aC aG aH
 have aJ:Sub k10 k13:=aG.sub
 have aY:=aG.r
 obtain⟨aQ,aR,aK,bH,aL,aS,rfl,rfl,aM,aN,aO⟩:=F0 aY
 obtain⟨rfl,bI⟩:=Sl.len aO
 try dsimp only at aC
 have we15:=New.sndI (New.sndI (aG))
 obtain⟨aA,aB,rfl,rfl,aD,aF⟩:=E02 aH
 try dsimp only at aC
 refine aI (fun aZ=>?_) (fun aZ=>?_)
 ·replace aC:=ifP aC aZ
  intro v17 k18 f19
  obtain⟨az20,cz20,rfl,rz20,sz20,lz20⟩:=j1.out (r:=W4.toRp) f19 (F2.up (r:=W4.toRp) aJ fu9)
  have hE:=oJ aC;subst hE
  try dsimp only[G2,I2]at aP
  have hE:=oJ aP;subst hE
  exact⟨([.int .i64 u6,.int .i64 u7,.slice au8 u8.length cu8]),az20,u9.length,cz20,rfl,(New.pair (New.int iu6) (New.pair (New.int iu7) (New.mono wwu8 (aJ.trans sz20)))),rz20⟩
 ·replace aC:=ifN aC aZ
  obtain⟨q21,bU,aC⟩:=j0 aC
  refine aI (P1 bU (by first|rw[F2.length (F2.up (r:=W4.toRp) aJ fu9),F2.length (show F2 (W4.R k13) ([[.int .i64 aA,.int .i64 aB]]:List (List Value)) [(aA,aB)] from⟨(M2 aD aF),trivial⟩)]|exact congrArg (·+1) (F2.length (F2.up (r:=W4.toRp) aJ fu9)))) ?_
  refine aI rfl (aI (by repeat first|exact trivial|refine aI rfl ?_) (aI (by repeat first|exact trivial|refine aI rfl ?_) (eX m11 (aI ⟨aQ,aR,aK,aS.length,aL,aS,(wu9++([[.int .i64 aA,.int .i64 aB]]:List (List Value))),(u9 ++ [(aA,aB)]),rfl,rfl,(cG.trans aJ),aM,aN,(New.from we15 (cH.trans cG)),(F2.append (F2.up (r:=W4.toRp) aJ fu9) (show F2 (W4.R k13) ([[.int .i64 aA,.int .i64 aB]]:List (List Value)) [(aA,aB)] from⟨(M2 aD aF),trivial⟩)),aC⟩ (nS _)))))
theorem I0c (h:Hp) (aS:List Value) (p0:l0) (rp0:K1.R h aS p0) (r:l0×Bool) (aA:A9 p0=some r) :
  Tr Tryz.prog 197 #[.agg aS.toArray] h fun v h'=>∃(cs0:List Value),v = .tuple #[.agg cs0.toArray,.bool r.2]∧New K1 h h' cs0 r.1:=by
 obtain⟨aB,aC,aD,aU,aF,aN,rfl,rfl,aH,aJ,aG⟩:=F0 rp0
 obtain⟨rfl,aV⟩:=Sl.len aG
 unfold A9 at aA
 dsimp only at aA
 refine C2 (args:=[.agg #[.int .i64 aB,.int .i64 aC,.slice aD aN.length aF]]) (fn:=Tryz.f197) rfl ?_
 obtain⟨x1,aZ,aA⟩:=j0 aA
 refine Tr.mono (c4 _ [.int .i64 aB,.int .i64 aC,.slice aD aN.length aF] (aB,aC,aN) (z0 aH aJ aG) _  aZ) ?_
 rintro v3 k2 ⟨aK,aW,aL,rfl,wx1⟩
 have bA:Sub h k2:=wx1.sub
 have aX:=wx1.r
 obtain⟨aO,aP,bB⟩:=x1
 dsimp only at aA wx1 aX
 obtain⟨_,_,_,_,_,_,ecx1,exx1,aM,aQ,aR⟩:=F0 aX
 cases ecx1
 cases exx1
 obtain⟨rfl,aY⟩:=Sl.len aR
 try dsimp only at aA
 have we4:=New.sndI (New.sndI (wx1))
 obtain⟨x5,bC,aA⟩:=j0 aA
 refine Tr.val (Y9 _ [.int .i64 aB,.int .i64 aC,.slice aD aN.length aF] (aB,aC,aN) (z0 aH aJ (S0.mono bA aG)) _  bC) ?_
 refine aI (fun aT=>?_) (fun aT=>?_)
 ·replace aA:=ifP aA aT
  have hE:=oJ aA;subst hE
  exact⟨([.int .i64 aO,.int .i64 aP,.slice (some ⟨aK,0,none⟩) bB.length aL]),rfl,(New.pair (New.int aM) (New.pair (New.int aQ) we4))⟩
 ·replace aA:=ifN aA aT
  have hE:=oJ aA;subst hE
  exact⟨([.int .i64 aO,.int .i64 (IntKind.i64.wrap (aP+1)),.slice (some ⟨aK,0,none⟩) bB.length aL]),rfl,(New.pair (New.int aM) (New.pair (New.int (I0 _)) we4))⟩
theorem Q0f (h:Hp) (aZ:List Value) (p0:l0) (rp0:K1.R h aZ p0) (bA:List Value) (p1:K0) (rp1:C1.R h bA p1) (r:l0×Bool) (aD:A00 p0 p1=some r) :
  Tr Tryz.prog 243 #[.agg aZ.toArray,.agg bA.toArray] h fun v h'=>∃(cs0:List Value),v = .tuple #[.agg cs0.toArray,.bool r.2]∧New K1 h h' cs0 r.1:=by
 obtain⟨aJ,aK,aF,bH,aG,aQ,rfl,rfl,aO,aP,aH⟩:=F0 rp0
 obtain⟨rfl,bI⟩:=Sl.len aH
 obtain⟨aA,aB,aC,rfl,rfl,aL,aM,aN⟩:=M1 rp1
 unfold A00 at aD
 dsimp only at aD
 refine C2 (args:=[.agg #[.int .i64 aJ,.int .i64 aK,.slice aF aQ.length aG],.agg #[.int .i64 aA,.int .i64 aB,.int .i64 aC]]) (fn:=Tryz.f243) rfl ?_
 obtain⟨x1,bM,aD⟩:=j0 aD
 refine Tr.mono (c4 _ [.int .i64 aJ,.int .i64 aK,.slice aF aQ.length aG] (aJ,aK,aQ) (z0 aO aP aH) _  bM) ?_
 rintro v3 k2 ⟨aT,bJ,aU,rfl,wx1⟩
 have bB:Sub h k2:=wx1.sub
 have bK:=wx1.r
 obtain⟨aV,aW,aX⟩:=x1
 dsimp only at aD wx1 bK
 obtain⟨_,_,_,_,_,_,ecx1,exx1,aR,aS,aY⟩:=F0 bK
 cases ecx1
 cases exx1
 obtain⟨rfl,bL⟩:=Sl.len aY
 try dsimp only at aD
 have we4:=New.sndI (New.sndI (wx1))
 obtain⟨x5,bN,aD⟩:=j0 aD
 refine Tr.val (Y9 _ [.int .i64 aJ,.int .i64 aK,.slice aF aQ.length aG] (aJ,aK,aQ) (z0 aO aP (S0.mono bB aH)) _  bN) ?_
 obtain⟨x6,bO,aD⟩:=j0 aD
 refine eX (.bool x6) (aI (fun q=>H03 _ [.int .i64 aJ,.int .i64 aK,.slice aF aQ.length aG] (aJ,aK,aQ) (z0 aO aP (S0.mono bB aH)) [.int .i64 aA,.int .i64 aB,.int .i64 aC] (aA,aB,aC) (G1 aL aM aN) _  (Q2 bO q)) ?_)
 obtain⟨x7,bP,aD⟩:=j0 aD
 refine eX (.bool x7) (aI (fun q=>n01 _ aF aQ.length aG aQ (S0.mono bB aH) [.int .i64 aA,.int .i64 aB,.int .i64 aC] (aA,aB,aC) (G1 aL aM aN) _  (Q2 bP q)) ?_)
 refine aI (fun bC=>?_) (fun bC=>?_)
 ·replace aD:=ifP aD bC
  have hE:=oJ aD;subst hE
  exact⟨([.int .i64 aV,.int .i64 aW,.slice (some ⟨aT,0,none⟩) aX.length aU]),rfl,(New.pair (New.int aR) (New.pair (New.int aS) we4))⟩
 ·replace aD:=ifN aD bC
  obtain⟨q9,bQ,aD⟩:=j0 aD
  obtain⟨vsz10,rxz10,lnz10,apz10⟩:=New.app we4 (Sub.refl _)
  refine eX vsz10 (aI rxz10 (aI (P1 bQ (by first|rw[lnz10,F2.length (show F2 (C1.R k2) ([[.int .i64 aA,.int .i64 aB,.int .i64 aC]]:List (List Value)) [(aA,aB,aC)] from⟨(G1 aL aM aN),trivial⟩)]|(rw[lnz10];rfl))) ?_))
  intro vz10 kz10 happz10
  obtain⟨wz10,gz10,oz10,nz10,cz10,rfl⟩:=apz10 _ _ _ _ _ (F3.ofPlain (A0c _) (show F2 (C1.R k2) ([[.int .i64 aA,.int .i64 aB,.int .i64 aC]]:List (List Value)) [(aA,aB,aC)] from⟨(G1 aL aM aN),trivial⟩)) d6.ofPlain happz10
  have rz10:=wz10.r
  obtain⟨ez10,lz10⟩:=Sl.len rz10
  subst ez10
  obtain⟨x11,bD,aD⟩:=j0 aD
  refine Tr.mono (p03 _ (some ⟨gz10,oz10,none⟩) (aX ++ [(aA,aB,aC)]).length cz10 (aX ++ [(aA,aB,aC)]) rz10 _  bD) ?_
  rintro v13 k12 ⟨bE,bR,bF,rfl,wx11⟩
  have bS:Sub kz10 k12:=wx11.sub
  have bG:=wx11.r
  obtain⟨rfl,bT⟩:=Sl.len bG
  have hE:=oJ aD;subst hE
  exact⟨([.int .i64 aV,.int .i64 aW,.slice bE x11.length bF]),rfl,(New.pair (New.int aR) (New.pair (New.int aS) (New.from wx11 wz10.sub)))⟩
theorem F08 (h:Hp) (aX:List Value) (p0:l0) (rp0:K1.R h aX p0) (r:T0) (aF:c8 p0=some r) :
  Tr Tryz.prog 200 #[.agg aX.toArray] h fun v h'=>∃(a0:Option Addr) (n0 c0:Nat),v = .slice a0 n0 c0∧S0.R h' [.slice a0 n0 c0] r∧Sub h h':=by
 obtain⟨aB,aC,aH,bK,aJ,aG,rfl,rfl,aK,aN,aL⟩:=F0 rp0
 obtain⟨rfl,bL⟩:=Sl.len aL
 unfold c8 at aF
 dsimp only at aF
 refine C2 (args:=[.agg #[.int .i64 aB,.int .i64 aC,.slice aH aG.length aJ]]) (fn:=Tryz.f200) rfl ?_
 obtain⟨x1,bN,aF⟩:=j0 aF
 refine Tr.val (b01 _ [.int .i64 aB,.int .i64 aC,.slice aH aG.length aJ] (aB,aC,aG) (z0 aK aN aL) _  bN) ?_
 refine aI (fun aY=>?_) (fun aY=>?_)
 ·replace aF:=ifP aF aY
  intro v3 k4 f5
  obtain⟨az6,cz6,rfl,rz6,sz6,lz6⟩:=j1.out (r:=C1.toRp) f5 (show F2 (C1.R h) ([]:List (List Value)) ([]:T0) from trivial)
  have hE:=oJ aF;subst hE
  exact⟨az6,(([]:T0)).length,cz6,rfl,rz6,sz6⟩
 ·replace aF:=ifN aF aY
  obtain⟨X7,aZ,aF⟩:=j0 aF
  refine eX { vars:=[4],boxes:=[],owns:=[0],fuel:=true } (eX (fun vs os h'=>∃(u8:Int) (wu9:List (List Value)) (u9:List K0),vs.tail = [.int .i64 u8]∧os = [wu9]∧Sub h h'∧H0 u8∧F2 (C1.R h') wu9 u9∧d5 aC aB aG (H1 vs) u8 u9=some X7) (eX (fun _ _=>0) ?_))
  refine aI (eX N0 ⟨0,[],([]:T0),rfl,rfl,(Sub.refl _),(by decide),(show F2 (C1.R h) ([]:List (List Value)) ([]:T0) from trivial),aZ⟩) ?_
  rintro v_0 wu9 m11 k10 ⟨u8,zzu9,u9,bA,bB,bT,iu8,fu9,aD⟩
  cases bA
  cases bB
  replace aD:d5 aC aB aG m11 u8 u9=some X7:=aD
  obtain _|m11:=m11
  ·cases (show(none:Option _)=some X7 from aD)
  rw[d5.eq_2]at aD
  refine aI (fun aO=>?_) (fun aO=>?_)
  ·replace aD:=ifP aD aO
   obtain⟨x13,bC,aD⟩:=j0 aD
   refine Tr.mono (d08 _ aB aK _  bC) ?_
   rintro v15 k14 ⟨bO,bP,bQ,rfl,aT,aP⟩
   obtain⟨rfl,bR⟩:=Sl.len aT
   obtain⟨X16,aU,aD⟩:=j0 aD
   refine eX { vars:=[22],boxes:=[],owns:=[0],fuel:=true } (eX (fun vs os h'=>∃(u17:Int) (wu18:List (List Value)) (u18:List K0),vs.tail = [.int .i64 u17]∧os = [wu18]∧Sub k14 h'∧H0 u17∧F2 (C1.R h') wu18 u18∧R3 x13 aB aC aG u8 (H1 vs) u17 u18=some X16) (eX (fun _ _=>0) ?_))
   refine aI (eX N0 ⟨0,wu9,u9,rfl,rfl,(Sub.refl _),(by decide),(F2.up (r:=C1.toRp) aP fu9),aU⟩) ?_
   rintro v_0 wu18 m20 k19 ⟨u17,zzu18,u18,aV,aW,aM,iu17,fu18,aA⟩
   cases aV
   cases aW
   replace aA:R3 x13 aB aC aG u8 m20 u17 u18=some X16:=aA
   obtain _|m20:=m20
   ·cases (show(none:Option _)=some X16 from aA)
   rw[R3.eq_2]at aA
   refine aI (fun aQ=>?_) (fun aQ=>?_)
   ·replace aA:=ifP aA aQ
    obtain⟨x22,bD,aA⟩:=j0 aA
    obtain⟨bE,bM,bF,bG⟩:=Sl.getI (r:=Wp.int.toRp) (J0.mono aM aT) bD (by decide)
    refine aI bE ?_
    obtain⟨rfl,aR⟩:=bG
    refine eX _ (aI bF ?_)
    obtain⟨x23,bH,aA⟩:=j0 aA
    refine Tr.val (O02 _ [.int .i64 aB,.int .i64 aC,.slice aH aG.length aJ] (aB,aC,aG) (z0 aK aN (S0.mono ((bT.trans aP).trans aM) aL)) u8 iu8 x22 aR _  bH) ?_
    obtain⟨q24,bI,aA⟩:=j0 aA
    have bS:H0 x23:=M0 bI
    refine aI (fun aS=>?_) (fun aS=>?_)
    ·replace aA:=ifP aA aS
     obtain⟨q26,bJ,aA⟩:=j0 aA
     refine aI (P1 bJ (by first|rw[F2.length fu18,F2.length (show F2 (C1.R k19) ([[.int .i64 u8,.int .i64 x22,.int .i64 (-1)]]:List (List Value)) [(u8,x22,(-1))] from⟨(G1 iu8 aR (by decide)),trivial⟩)]|exact congrArg (·+1) (F2.length fu18))) ?_
     refine aI rfl (aI (by repeat first|exact trivial|refine aI rfl ?_) (aI (by repeat first|exact trivial|refine aI rfl ?_) (eX m20 (aI ⟨(IntKind.i64.wrap (u17+1)),(wu18++([[.int .i64 u8,.int .i64 x22,.int .i64 (-1)]]:List (List Value))),(u18 ++ [(u8,x22,(-1))]),rfl,rfl,aM,(I0 _),(F2.append fu18 (show F2 (C1.R k19) ([[.int .i64 u8,.int .i64 x22,.int .i64 (-1)]]:List (List Value)) [(u8,x22,(-1))] from⟨(G1 iu8 aR (by decide)),trivial⟩)),aA⟩ (nS _)))))
    ·replace aA:=ifN aA aS
     refine aI rfl (aI (by repeat first|exact trivial|refine aI rfl ?_) (aI (by repeat first|exact trivial|refine aI rfl ?_) (eX m20 (aI ⟨(IntKind.i64.wrap (u17+1)),wu18,u18,rfl,rfl,aM,(I0 _),fu18,aA⟩ (nS _)))))
   ·replace aA:=ifN aA aQ
    have hE:=oJ aA;subst hE
    try dsimp only[P0,Q0]at aD
    refine aI rfl (aI (by repeat first|exact trivial|refine aI rfl ?_) (aI (by repeat first|exact trivial|refine aI rfl ?_) (eX m11 (aI ⟨(IntKind.i64.wrap (u8+1)),wu18,u18,rfl,rfl,((bT.trans aP).trans aM),(I0 _),fu18,aD⟩ (nS _)))))
  ·replace aD:=ifN aD aO
   have hE:=oJ aD;subst hE
   try dsimp only[P0,Q0]at aF
   intro v31 k32 f33
   obtain⟨az34,cz34,rfl,rz34,sz34,lz34⟩:=j1.out (r:=C1.toRp) f33 fu9
   have hE:=oJ aF;subst hE
   exact⟨az34,u9.length,cz34,rfl,rz34,(bT.trans sz34)⟩
set_option maxHeartbeats 0
theorem N09 (h:Hp) (gC:List Value) (p0:B0) (rp0:E1.R h gC p0) (gD:List Value) (p1:l0) (rp1:K1.R h gD p1) (r:l0×Bool×Bool) (aA:Q9 p0 p1=some r) :
  Tr Tryz.prog 213 #[.agg gC.toArray,.agg gD.toArray] h fun v h'=>∃(cs0:List Value),v = .tuple #[.agg cs0.toArray,.bool r.2.1,.bool r.2.2]∧New K1 h h' cs0 r.1:=by
 obtain⟨bZ,bL,iT,bM,eK,rfl,rfl,cT,bN⟩:=D1 rp0
 obtain⟨rfl,iU⟩:=Sl.len bN
 obtain⟨aM,aL,aP,iV,aQ,aV,rfl,rfl,aT,aR,aS⟩:=F0 rp1
 obtain⟨rfl,iW⟩:=Sl.len aS
 unfold Q9 at aA
 dsimp only at aA
 refine C2 (args:=[.agg #[.int .i64 bZ,.slice bL eK.length bM],.agg #[.int .i64 aM,.int .i64 aL,.slice aP aV.length aQ]]) (fn:=Tryz.f213) rfl ?_
 obtain⟨x1,jR,aA⟩:=j0 aA
 refine Tr.val (Z5 _ [.int .i64 bZ,.slice bL eK.length bM] (bZ,eK) (O0 cT bN) _  jR) ?_
 obtain⟨x2,jS,aA⟩:=j0 aA
 refine eX (.bool x2) (aI (fun q=>b01 _ [.int .i64 aM,.int .i64 aL,.slice aP aV.length aQ] (aM,aL,aV) (z0 aT aR aS) _  (Q2 jS q)) ?_)
 refine aI (fun gE=>?_) (fun gE=>?_)
 ·replace aA:=ifP aA gE
  obtain⟨x4,jT,aA⟩:=j0 aA
  refine Tr.mono (c4 _ [.int .i64 aM,.int .i64 aL,.slice aP aV.length aQ] (aM,aL,aV) (z0 aT aR aS) _  jT) ?_
  rintro v6 k5 ⟨eL,iX,eM,rfl,wx4⟩
  have kG:Sub h k5:=wx4.sub
  have iY:=wx4.r
  obtain⟨gF,gG,jU⟩:=x4
  dsimp only at aA wx4 iY
  obtain⟨_,_,_,_,_,_,ecx4,exx4,eN,eO,eP⟩:=F0 iY
  cases ecx4
  cases exx4
  obtain⟨rfl,iZ⟩:=Sl.len eP
  try dsimp only at aA
  have we7:=New.sndI (New.sndI (wx4))
  have hE:=oJ aA;subst hE
  exact⟨([.int .i64 gF,.int .i64 gG,.slice (some ⟨eL,0,none⟩) jU.length eM]),rfl,(New.pair (New.int eN) (New.pair (New.int eO) we7))⟩
 ·replace aA:=ifN aA gE
  obtain⟨x8,jV,aA⟩:=j0 aA
  obtain⟨cX,eQ⟩:=x8
  try dsimp only at aA
  refine Tr.val (I09 _ [.int .i64 bZ,.slice bL eK.length bM] (bZ,eK) (O0 cT bN) [.int .i64 aM,.int .i64 aL,.slice aP aV.length aQ] (aM,aL,aV) (z0 aT aR aS) _  jV) ?_
  obtain⟨q9,jW,aA⟩:=j0 aA
  have cU:H0 cX:=M0 jW
  obtain⟨q10,gH,aA⟩:=j0 aA
  have jA:H0 eQ:=M0 gH
  refine aI (fun cY=>?_) (fun cY=>?_)
  ·replace aA:=ifP aA cY
   refine Or.inr (Or.inr (Or.inr (Or.inr (eX 13 (aI (aI (by kernel_rfl) (by kernel_rfl)) ?_)))))
   obtain⟨x12,gI,aA⟩:=j0 aA
   obtain⟨gJ,jB,gK,cZ⟩:=Sl.getI (r:=J0.toRp) bN gI (by decide)
   obtain⟨eR,jX,eT,rfl⟩:=Wp.slice_cell cZ
   obtain⟨rfl,jY⟩:=Sl.len cZ
   refine Or.inl (eX (.hel (.slice bL eK.length bM) eQ 1 0) (aI ?_ ?_))
   ·intro k13 s14
    exact aI gJ (aI rfl (aI rfl rfl))
   refine Or.inl (eX (.val (.slice eR x12.length eT)) (aI ?_ ?_))
   ·intro k15 s16
    exact eX _ (aI (A8.up s16 gK) (aI rfl (aI rfl rfl)))
   obtain⟨x17,gL,aA⟩:=j0 aA
   obtain⟨eU,cA⟩:=x17
   try dsimp only at aA
   obtain⟨aG,aH,aU⟩:=eU
   try dsimp only at aA
   refine Or.inr (eX (fun v hh=>∃(aN:Value),v = .tuple #[aN,.bool cA]∧(fun v hh=>∃(aB:Option Addr) (aC:Nat),v = .agg #[.int .i64 aG,.int .i64 aH,.slice aB aU.length aC]∧H0 aG∧H0 aH∧New S0 h hh [.slice aB aU.length aC] aU∧aU.length≤9223372036854775807) aN hh) (aI (fun v h1 h2 sb q=>by obtain⟨aN,e,bA⟩:=q;exact⟨aN,e,(by obtain⟨aB,aC,e,f0,f1,f2,f3⟩:=bA;exact⟨aB,aC,e,f0,f1,New.mono f2 sb,f3⟩)⟩) (aI ?_ ?_)))
   ·intro k18 s19
    refine Tr.mono (f08 _ [.int .i64 aM,.int .i64 aL,.slice aP aV.length aQ] (aM,aL,aV) (z0 aT aR (S0.mono s19 aS)) cX cU eR x12.length eT x12 (J0.mono s19 cZ) cX cU _ gL) ?_
    rintro _ kk ⟨fX,rfl,dA⟩
    have sb:=dA.sub
    have dB:=dA.r
    obtain⟨eV,eY,aW,eI,aX,eZ,rfl,ey,bR,bS,bT⟩:=F0 dB
    cases ey
    obtain⟨rfl,bU⟩:=Sl.len bT
    exact aI Q05 (aI sb ⟨(.agg #[.int .i64 aG,.int .i64 aH,.slice aW aU.length aX]),rfl,⟨aW,aX,rfl,bR,bS,(New.from (New.sndI (New.sndI (dA))) s19),bU⟩⟩)
   refine Or.inr (eX (fun v hh=>∃(aN:Value),v = .tuple #[aN,.bool cA]∧(fun v hh=>∃(aB:Option Addr) (aC:Nat),v = .agg #[.int .i64 aG,.int .i64 aH,.slice aB aU.length aC]∧H0 aG∧H0 aH∧New S0 h hh [.slice aB aU.length aC] aU∧aU.length≤9223372036854775807) aN hh) (aI (fun v h1 h2 sb q=>by obtain⟨aN,e,bA⟩:=q;exact⟨aN,e,(by obtain⟨aB,aC,e,f0,f1,f2,f3⟩:=bA;exact⟨aB,aC,e,f0,f1,New.mono f2 sb,f3⟩)⟩) (aI ?_ ?_)))
   ·intro k20 s21
    rintro _ ⟨_,rfl,⟨az22p02,cz22p02,rfl,iz22p00,iz22p01,rz22p02,lz22p02⟩⟩
    exact aI Q05 (aI (Sub.refl _) ⟨(.agg #[.int .i64 aG,.int .i64 aH,.slice az22p02 aU.length cz22p02]),rfl,⟨az22p02,cz22p02,rfl,iz22p00,iz22p01,rz22p02,lz22p02⟩⟩)
   refine Or.inr (eX (fun v hh=>∃(aB:Option Addr) (aC:Nat),v = .agg #[.int .i64 aG,.int .i64 aH,.slice aB aU.length aC]∧H0 aG∧H0 aH∧New S0 h hh [.slice aB aU.length aC] aU∧aU.length≤9223372036854775807) (aI (fun v h1 h2 sb q=>by obtain⟨aB,aC,e,f0,f1,f2,f3⟩:=q;exact⟨aB,aC,e,f0,f1,New.mono f2 sb,f3⟩) (aI ?_ ?_)))
   ·intro k23 s24
    rintro _ ⟨_,rfl,⟨az25p02,cz25p02,rfl,iz25p00,iz25p01,rz25p02,lz25p02⟩⟩
    exact aI Q05 (aI (Sub.refl _) ⟨az25p02,cz25p02,rfl,iz25p00,iz25p01,rz25p02,lz25p02⟩)
   refine Or.inl (eX (.val (.bool cA)) (aI ?_ ?_))
   ·intro k26 s27
    rintro _ ⟨_,rfl,⟨az28p02,cz28p02,rfl,iz28p00,iz28p01,rz28p02,lz28p02⟩⟩
    exact aI rfl (aI rfl rfl)
   intro k29 s30
   rintro _ ⟨az312,cz312,rfl,iz310,iz311,rz312,lz312⟩
   rintro _ ⟨_,rfl,⟨az32p02,cz32p02,rfl,iz32p00,iz32p01,rz32p02,lz32p02⟩⟩
   rintro _ ⟨_,rfl,⟨az33p02,cz33p02,rfl,iz33p00,iz33p01,rz33p02,lz33p02⟩⟩
   refine aI (fun dC=>?_) (fun dC=>?_)
   ·replace aA:=ifP aA dC
    obtain⟨x35,gM,aA⟩:=j0 aA
    refine Tr.mono (c4 _ [.int .i64 aM,.int .i64 aL,.slice aP aV.length aQ] (aM,aL,aV) (z0 aT aR (S0.mono s30 aS)) _  gM) ?_
    rintro v37 k36 ⟨dD,gN,dE,rfl,wx35⟩
    have jZ:Sub k29 k36:=wx35.sub
    have fA:=wx35.r
    obtain⟨fB,fC,jC⟩:=x35
    dsimp only at aA wx35 fA
    obtain⟨_,_,_,_,_,_,ecx35,exx35,dF,dG,dH⟩:=F0 fA
    cases ecx35
    cases exx35
    obtain⟨rfl,gO⟩:=Sl.len dH
    try dsimp only at aA
    have we38:=New.sndI (New.sndI (wx35))
    have hE:=oJ aA;subst hE
    exact⟨([.int .i64 fB,.int .i64 fC,.slice (some ⟨dD,0,none⟩) jC.length dE]),rfl,(New.pair (New.int dF) (New.pair (New.int dG) (New.from we38 s30)))⟩
   ·replace aA:=ifN aA dC
    obtain⟨x39,gP,aA⟩:=j0 aA
    refine Tr.mono (F04 _ [.int .i64 aG,.int .i64 aH,.slice az312 aU.length cz312] (aG,aH,aU) (z0 iz310 iz311 rz312.r) _  gP) ?_
    rintro v41 k40 ⟨fY,gQ,gR,gS,rfl,cC,cD⟩
    obtain⟨jD,jE⟩:=x39
    dsimp only at aA cC cD
    have kA:Sub k29 k40:=cC.sub
    have dI:=cC.r
    obtain⟨cM,cN,cE,fD,cG,fZ,rfl,rfl,cH,cI,cJ⟩:=F0 dI
    obtain⟨rfl,fE⟩:=Sl.len cJ
    try dsimp only at aA
    have we42:=New.sndI (New.sndI (cC))
    obtain⟨rfl,gT⟩:=Sl.len cD
    have hE:=oJ aA;subst hE
    exact⟨([.int .i64 cM,.int .i64 cN,.slice cE fZ.length cG]),rfl,(New.pair (New.int cH) (New.pair (New.int cI) (New.from we42 s30)))⟩
  ·replace aA:=ifN aA cY
   obtain⟨x43,gU,aA⟩:=j0 aA
   refine Tr.mono (F08 _ [.int .i64 aM,.int .i64 aL,.slice aP aV.length aQ] (aM,aL,aV) (z0 aT aR aS) _  gU) ?_
   rintro v45 k44 ⟨fF,kB,fG,rfl,dJ,cO⟩
   obtain⟨rfl,kC⟩:=Sl.len dJ
   refine aI (fun dK=>?_) (fun dK=>?_)
   ·replace aA:=ifP aA dK
    obtain⟨x47,gV,aA⟩:=j0 aA
    refine Tr.mono (c4 _ [.int .i64 aM,.int .i64 aL,.slice aP aV.length aQ] (aM,aL,aV) (z0 aT aR (S0.mono cO aS)) _  gV) ?_
    rintro v49 k48 ⟨dL,gW,dM,rfl,wx47⟩
    have kD:Sub k44 k48:=wx47.sub
    have fH:=wx47.r
    obtain⟨fJ,fK,jF⟩:=x47
    dsimp only at aA wx47 fH
    obtain⟨_,_,_,_,_,_,ecx47,exx47,dN,dO,dP⟩:=F0 fH
    cases ecx47
    cases exx47
    obtain⟨rfl,gX⟩:=Sl.len dP
    try dsimp only at aA
    have we50:=New.sndI (New.sndI (wx47))
    have hE:=oJ aA;subst hE
    exact⟨([.int .i64 fJ,.int .i64 fK,.slice (some ⟨dL,0,none⟩) jF.length dM]),rfl,(New.pair (New.int dN) (New.pair (New.int dO) (New.from we50 cO)))⟩
   ·replace aA:=ifN aA dK
    obtain⟨x51,gY,aA⟩:=j0 aA
    refine Tr.mono (I0c _ [.int .i64 aM,.int .i64 aL,.slice aP aV.length aQ] (aM,aL,aV) (z0 aT aR (S0.mono cO aS)) _  gY) ?_
    rintro v53 k52 ⟨gA,rfl,cK⟩
    obtain⟨jG,jH⟩:=x51
    dsimp only at aA cK
    have bK:Sub k44 k52:=cK.sub
    have dQ:=cK.r
    obtain⟨bB,bC,bF,fL,bG,cP,rfl,rfl,bH,bI,bJ⟩:=F0 dQ
    obtain⟨rfl,fM⟩:=Sl.len bJ
    try dsimp only at aA
    have we54:=New.sndI (New.sndI (cK))
    refine aI (fun dR=>?_) (fun dR=>?_)
    ·replace aA:=ifP aA dR
     refine Or.inr (Or.inr (Or.inr (Or.inr (eX 16 (aI (aI (by kernel_rfl) (by kernel_rfl)) ?_)))))
     obtain⟨x56,gZ,aA⟩:=j0 aA
     obtain⟨hJ,jI,hU,hY⟩:=Sl.getI (r:=C1.toRp) (S0.mono bK dJ) gZ (by decide)
     obtain⟨cV,jJ,jK,rfl,rfl,dS,hZ,iA⟩:=M1 hY
     try dsimp only at aA
     refine Or.inl (eX (.hel (.slice fF x43.length fG) 0 3 0) (aI ?_ ?_))
     ·intro k57 s58
      exact aI hJ (aI rfl (aI rfl rfl))
     refine Or.inl (eX (.val (.int .i64 cV)) (aI ?_ ?_))
     ·intro k59 s60
      exact eX _ (aI (A8.up s60 hU) (aI rfl (aI rfl rfl)))
     obtain⟨x61,iB,aA⟩:=j0 aA
     obtain⟨iC,jL,iD,iE⟩:=Sl.getI (r:=C1.toRp) (S0.mono bK dJ) iB (by decide)
     obtain⟨jM,cW,jN,rfl,rfl,iF,dT,iG⟩:=M1 iE
     try dsimp only at aA
     refine Or.inl (eX (.hel (.slice fF x43.length fG) 0 3 0) (aI ?_ ?_))
     ·intro k62 s63
      exact aI iC (aI rfl (aI rfl rfl))
     refine Or.inl (eX (.val (.int .i64 cW)) (aI ?_ ?_))
     ·intro k64 s65
      exact eX _ (aI (A8.up s65 iD) (aI rfl (aI rfl rfl)))
     obtain⟨x66,iH,aA⟩:=j0 aA
     obtain⟨bO,bP,bQ⟩:=x66
     try dsimp only at aA
     refine Or.inr (eX (fun v hh=>∃(_:Unit),v = .agg #[.int .i64 bO,.int .i64 bP,.int .i64 bQ]∧H0 bO∧H0 bP∧H0 bQ) (aI (fun v h1 h2 sb q=>by obtain⟨u,e,f0,f1,f2⟩:=q;exact⟨u,e,f0,f1,f2⟩) (aI ?_ ?_)))
     ·intro k67 s68
      refine Tr.mono (e08 _ cV dS cW dT aL aR _ iH) ?_
      rintro _ kk ⟨jO,rfl,iI,sb⟩
      obtain⟨iJ,iK,iL,rfl,ey,cQ,cR,cS⟩:=M1 iI
      cases ey
      exact aI Q05 (aI sb ⟨(),rfl,cQ,cR,cS⟩)
     obtain⟨x69,iM,aA⟩:=j0 aA
     obtain⟨fN,cL⟩:=x69
     try dsimp only at aA
     obtain⟨aJ,aK,bD⟩:=fN
     try dsimp only at aA
     refine Or.inr (eX (fun v hh=>∃(aO:Value),v = .tuple #[aO,.bool cL]∧(fun v hh=>∃(aD:Option Addr) (aF:Nat),v = .agg #[.int .i64 aJ,.int .i64 aK,.slice aD bD.length aF]∧H0 aJ∧H0 aK∧New S0 k52 hh [.slice aD bD.length aF] bD∧bD.length≤9223372036854775807) aO hh) (aI (fun v h1 h2 sb q=>by obtain⟨aO,e,bE⟩:=q;exact⟨aO,e,(by obtain⟨aD,aF,e,f0,f1,f2,f3⟩:=bE;exact⟨aD,aF,e,f0,f1,New.mono f2 sb,f3⟩)⟩) (aI ?_ ?_)))
     ·intro k70 s71
      rintro _ ⟨_,rfl,iz720,iz721,iz722⟩
      refine Tr.mono (Q0f _ [.int .i64 bB,.int .i64 bC,.slice bF cP.length bG] (bB,bC,cP) (z0 bH bI (S0.mono s71 bJ)) [.int .i64 bO,.int .i64 bP,.int .i64 bQ] (bO,bP,bQ) (G1 iz720 iz721 iz722) _ iM) ?_
      rintro _ kk ⟨gB,rfl,dU⟩
      have sb:=dU.sub
      have dV:=dU.r
      obtain⟨fO,fP,aY,eJ,aZ,fQ,rfl,ey,bV,bW,bX⟩:=F0 dV
      cases ey
      obtain⟨rfl,bY⟩:=Sl.len bX
      exact aI Q05 (aI sb ⟨(.agg #[.int .i64 aJ,.int .i64 aK,.slice aY bD.length aZ]),rfl,⟨aY,aZ,rfl,bV,bW,(New.from (New.sndI (New.sndI (dU))) s71),bY⟩⟩)
     refine Or.inr (eX (fun v hh=>∃(aO:Value),v = .tuple #[aO,.bool cL]∧(fun v hh=>∃(aD:Option Addr) (aF:Nat),v = .agg #[.int .i64 aJ,.int .i64 aK,.slice aD bD.length aF]∧H0 aJ∧H0 aK∧New S0 k52 hh [.slice aD bD.length aF] bD∧bD.length≤9223372036854775807) aO hh) (aI (fun v h1 h2 sb q=>by obtain⟨aO,e,bE⟩:=q;exact⟨aO,e,(by obtain⟨aD,aF,e,f0,f1,f2,f3⟩:=bE;exact⟨aD,aF,e,f0,f1,New.mono f2 sb,f3⟩)⟩) (aI ?_ ?_)))
     ·intro k73 s74
      rintro _ ⟨_,rfl,⟨az75p02,cz75p02,rfl,iz75p00,iz75p01,rz75p02,lz75p02⟩⟩
      exact aI Q05 (aI (Sub.refl _) ⟨(.agg #[.int .i64 aJ,.int .i64 aK,.slice az75p02 bD.length cz75p02]),rfl,⟨az75p02,cz75p02,rfl,iz75p00,iz75p01,rz75p02,lz75p02⟩⟩)
     refine Or.inr (eX (fun v hh=>∃(aD:Option Addr) (aF:Nat),v = .agg #[.int .i64 aJ,.int .i64 aK,.slice aD bD.length aF]∧H0 aJ∧H0 aK∧New S0 k52 hh [.slice aD bD.length aF] bD∧bD.length≤9223372036854775807) (aI (fun v h1 h2 sb q=>by obtain⟨aD,aF,e,f0,f1,f2,f3⟩:=q;exact⟨aD,aF,e,f0,f1,New.mono f2 sb,f3⟩) (aI ?_ ?_)))
     ·intro k76 s77
      rintro _ ⟨_,rfl,⟨az78p02,cz78p02,rfl,iz78p00,iz78p01,rz78p02,lz78p02⟩⟩
      exact aI Q05 (aI (Sub.refl _) ⟨az78p02,cz78p02,rfl,iz78p00,iz78p01,rz78p02,lz78p02⟩)
     refine Or.inl (eX (.val (.bool cL)) (aI ?_ ?_))
     ·intro k79 s80
      rintro _ ⟨_,rfl,⟨az81p02,cz81p02,rfl,iz81p00,iz81p01,rz81p02,lz81p02⟩⟩
      exact aI rfl (aI rfl rfl)
     intro k82 s83
     rintro _ ⟨az842,cz842,rfl,iz840,iz841,rz842,lz842⟩
     rintro _ ⟨_,rfl,⟨az85p02,cz85p02,rfl,iz85p00,iz85p01,rz85p02,lz85p02⟩⟩
     rintro _ ⟨_,rfl,⟨az86p02,cz86p02,rfl,iz86p00,iz86p01,rz86p02,lz86p02⟩⟩
     rintro _ ⟨_,rfl,iz870,iz871,iz872⟩
     refine aI (fun dW=>?_) (fun dW=>?_)
     ·replace aA:=ifP aA dW
      obtain⟨x89,iN,aA⟩:=j0 aA
      refine Tr.mono (c4 _ [.int .i64 aM,.int .i64 aL,.slice aP aV.length aQ] (aM,aL,aV) (z0 aT aR (S0.mono ((cO.trans bK).trans s83) aS)) _  iN) ?_
      rintro v91 k90 ⟨dX,iO,dY,rfl,wx89⟩
      have kE:Sub k82 k90:=wx89.sub
      have fR:=wx89.r
      obtain⟨fS,fT,jP⟩:=x89
      dsimp only at aA wx89 fR
      obtain⟨_,_,_,_,_,_,ecx89,exx89,dZ,eA,eB⟩:=F0 fR
      cases ecx89
      cases exx89
      obtain⟨rfl,iP⟩:=Sl.len eB
      try dsimp only at aA
      have we92:=New.sndI (New.sndI (wx89))
      have hE:=oJ aA;subst hE
      exact⟨([.int .i64 fS,.int .i64 fT,.slice (some ⟨dX,0,none⟩) jP.length dY]),rfl,(New.pair (New.int dZ) (New.pair (New.int eA) (New.from we92 ((cO.trans bK).trans s83))))⟩
     ·replace aA:=ifN aA dW
      have hE:=oJ aA;subst hE
      exact⟨([.int .i64 aJ,.int .i64 aK,.slice az842 bD.length cz842]),rfl,(New.pair (New.int iz840) (New.pair (New.int iz841) (New.from rz842 (cO.trans bK))))⟩
    ·replace aA:=ifN aA dR
     refine aI (fun eC=>?_) (fun eC=>?_)
     ·replace aA:=ifP aA eC
      obtain⟨x94,iQ,aA⟩:=j0 aA
      refine Tr.mono (c4 _ [.int .i64 aM,.int .i64 aL,.slice aP aV.length aQ] (aM,aL,aV) (z0 aT aR (S0.mono (cO.trans bK) aS)) _  iQ) ?_
      rintro v96 k95 ⟨eD,iR,eE,rfl,wx94⟩
      have kF:Sub k52 k95:=wx94.sub
      have fU:=wx94.r
      obtain⟨fV,fW,jQ⟩:=x94
      dsimp only at aA wx94 fU
      obtain⟨_,_,_,_,_,_,ecx94,exx94,eF,eG,eH⟩:=F0 fU
      cases ecx94
      cases exx94
      obtain⟨rfl,iS⟩:=Sl.len eH
      try dsimp only at aA
      have we97:=New.sndI (New.sndI (wx94))
      have hE:=oJ aA;subst hE
      exact⟨([.int .i64 fV,.int .i64 fW,.slice (some ⟨eD,0,none⟩) jQ.length eE]),rfl,(New.pair (New.int eF) (New.pair (New.int eG) (New.from we97 (cO.trans bK))))⟩
     ·replace aA:=ifN aA eC
      have hE:=oJ aA;subst hE
      exact⟨([.int .i64 bB,.int .i64 bC,.slice bF cP.length bG]),rfl,(New.pair (New.int bH) (New.pair (New.int bI) (New.from we54 cO)))⟩
theorem J0c (h:Hp) (bP:List Value) (p0:l0) (rp0:K1.R h bP p0) (r:l0) (aA:C9 p0=some r) :
  Tr Tryz.prog 153 #[.agg bP.toArray] h fun v h'=>∃(cs0:List Value),v = .agg cs0.toArray∧New K1 h h' cs0 r:=by
 obtain⟨aY,aZ,aR,bV,aS,bQ,rfl,rfl,bC,bD,aT⟩:=F0 rp0
 obtain⟨rfl,bW⟩:=Sl.len aT
 unfold C9 at aA
 dsimp only at aA
 refine C2 (args:=[.agg #[.int .i64 aY,.int .i64 aZ,.slice aR bQ.length aS]]) (fn:=Tryz.f153) rfl ?_
 obtain⟨x1,cJ,aA⟩:=j0 aA
 refine Tr.mono (F04 _ [.int .i64 aY,.int .i64 aZ,.slice aR bQ.length aS] (aY,aZ,bQ) (z0 bC bD aT) _  cJ) ?_
 rintro v3 k2 ⟨bR,bX,bY,bZ,rfl,aU,aV⟩
 obtain⟨cK,cL⟩:=x1
 dsimp only at aA aU aV
 have cU:Sub h k2:=aU.sub
 have bE:=aU.r
 obtain⟨aD,aF,aJ,bL,aK,bA,rfl,rfl,aL,aM,aB⟩:=F0 bE
 obtain⟨rfl,bM⟩:=Sl.len aB
 try dsimp only at aA
 have we4:=New.sndI (New.sndI (aU))
 obtain⟨rfl,cA⟩:=Sl.len aV
 obtain⟨x5,cM,aA⟩:=j0 aA
 refine Tr.mono (G0c _ [.int .i64 aD,.int .i64 aF,.slice aJ bA.length aK] (aD,aF,bA) (z0 aL aM aB) _  cM) ?_
 rintro v7 k6 ⟨bS,cC,cD,cE,rfl,aW,aX⟩
 obtain⟨cN,cO⟩:=x5
 dsimp only at aA aW aX
 have cP:Sub k2 k6:=aW.sub
 have bF:=aW.r
 obtain⟨aG,aH,aN,bN,aO,bB,rfl,rfl,aP,aQ,aC⟩:=F0 bF
 obtain⟨rfl,bO⟩:=Sl.len aC
 try dsimp only at aA
 have we8:=New.sndI (New.sndI (aW))
 obtain⟨rfl,cG⟩:=Sl.len aX
 obtain⟨x9,cQ,aA⟩:=j0 aA
 refine Tr.mono (g07 _ [.int .i64 aG,.int .i64 aH,.slice aN bB.length aO] (aG,aH,bB) (z0 aP aQ aC) _  cQ) ?_
 rintro v11 k10 ⟨cR,rfl,wx9⟩
 have cV:Sub k6 k10:=wx9.sub
 have cS:=wx9.r
 obtain⟨bT,bU,bG,cH,bH,cT,rfl,rfl,bI,bJ,bK⟩:=F0 cS
 obtain⟨rfl,cI⟩:=Sl.len bK
 try dsimp only at aA
 have we12:=New.sndI (New.sndI (wx9))
 have hE:=oJ aA;subst hE
 exact⟨([.int .i64 bT,.int .i64 bU,.slice bG cT.length bH]),rfl,(New.pair (New.int bI) (New.pair (New.int bJ) (New.from we12 (cU.trans cP))))⟩
theorem P06 (h:Hp) (cO:List Value) (p0:B0) (rp0:E1.R h cO p0) (ap1:Option Addr) (np1 cp1:Nat) (p1:J1) (rp1:T1.R h [.slice ap1 np1 cp1] p1) (r:l0×Bool) (aA:V7 p0 p1=some r) :
  Tr Tryz.prog 168 #[.agg cO.toArray,.slice ap1 np1 cp1] h fun v h'=>∃(cs0:List Value),v = .tuple #[.agg cs0.toArray,.bool r.2]∧New K1 h h' cs0 r.1:=by
 obtain⟨aC,aF,cY,aG,aT,rfl,rfl,aH,aJ⟩:=D1 rp0
 obtain⟨rfl,cZ⟩:=Sl.len aJ
 obtain⟨rfl,lp1⟩:=Sl.len rp1
 unfold V7 at aA
 dsimp only at aA
 refine C2 (args:=[.agg #[.int .i64 aC,.slice aF aT.length aG],.slice ap1 p1.length cp1]) (fn:=Tryz.f168) rfl ?_
 obtain⟨x1,dK,aA⟩:=j0 aA
 refine Tr.val (Z5 _ [.int .i64 aC,.slice aF aT.length aG] (aC,aT) (O0 aH aJ) _  dK) ?_
 refine aI (fun cP=>?_) (fun cP=>?_)
 ·replace aA:=ifP aA cP
  have hE:=oJ aA;subst hE
  exact⟨([.int .i64 0,.int .i64 0,.slice none 0 0]),rfl,(New.pair (New.int (by decide)) (New.pair (New.int (by decide)) ((New.nilSlice (r:=C1)).mono (Sub.refl _))))⟩
 ·replace aA:=ifN aA cP
  obtain⟨x3,dL,aA⟩:=j0 aA
  refine Tr.mono (K0d _ aC aH ap1 p1.length cp1 p1 rp1 _  dL) ?_
  rintro v5 k4 ⟨cQ,rfl,bH⟩
  obtain⟨dM,dN⟩:=x3
  dsimp only at aA bH
  have dA:Sub h k4:=bH.sub
  have bX:=bH.r
  obtain⟨aK,aL,aU,cJ,aV,bK,rfl,rfl,aW,aX,aD⟩:=F0 bX
  obtain⟨rfl,cK⟩:=Sl.len aD
  try dsimp only at aA
  have we6:=New.sndI (New.sndI (bH))
  refine aI (fun cR=>?_) (fun cR=>?_)
  ·replace aA:=ifP aA cR
   have hE:=oJ aA;subst hE
   exact⟨([.int .i64 0,.int .i64 0,.slice none 0 0]),rfl,(New.pair (New.int (by decide)) (New.pair (New.int (by decide)) ((New.nilSlice (r:=C1)).mono dA)))⟩
  ·replace aA:=ifN aA cR
   obtain⟨x8,dO,aA⟩:=j0 aA
   refine Tr.mono (F04 _ [.int .i64 aK,.int .i64 aL,.slice aU bK.length aV] (aK,aL,bK) (z0 aW aX aD) _  dO) ?_
   rintro v10 k9 ⟨cS,dB,dC,dD,rfl,bI,bJ⟩
   obtain⟨dP,dQ⟩:=x8
   dsimp only at aA bI bJ
   have bY:Sub k4 k9:=bI.sub
   have bZ:=bI.r
   obtain⟨bL,bM,aY,cL,aZ,bN,rfl,rfl,bA,bB,bC⟩:=F0 bZ
   obtain⟨rfl,cM⟩:=Sl.len bC
   try dsimp only at aA
   have we11:=New.sndI (New.sndI (bI))
   obtain⟨rfl,dE⟩:=Sl.len bJ
   obtain⟨X12,cA,aA⟩:=j0 aA
   refine eX { vars:=[8],boxes:=[2],owns:=[],fuel:=true } (eX (fun vs os h'=>∃(u13:Int) (u14:Int) (u15:Int) (au16:Option Addr) (nu16 cu16:Nat) (u16:T0),vs.tail = [.int .i64 u13,.int .i64 u14,.int .i64 u15,.slice au16 nu16 cu16]∧os = []∧Sub k9 h'∧H0 u13∧H0 u14∧H0 u15∧New S0 h h' [.slice au16 nu16 cu16] u16∧E3 aC aT (H1 vs) u13 u14 u15 u16=some X12) (eX (fun _ _=>0) ?_))
   refine aI (eX N0 ⟨0,bL,bM,aY,bN.length,aZ,bN,rfl,rfl,(Sub.refl _),(by decide),bA,bB,(New.from we11 dA),cA⟩) ?_
   rintro v_0 v_1 v_2 v_3 m18 k17 ⟨u13,u14,u15,au16,nu16,cu16,u16,cC,cD,aM,iu13,iu14,iu15,wwu16,aB⟩
   cases cC
   cases cD
   replace aB:E3 aC aT m18 u13 u14 u15 u16=some X12:=aB
   obtain _|m18:=m18
   ·cases (show(none:Option _)=some X12 from aB)
   rw[E3.eq_2]at aB
   have ru16:=wwu16.r
   obtain⟨rfl,lu16⟩:=Sl.len ru16
   refine aI (fun bO=>?_) (fun bO=>?_)
   ·replace aB:=ifP aB bO
    obtain⟨x20,cT,aB⟩:=j0 aB
    refine Tr.mono (N09 _ [.int .i64 aC,.slice aF aT.length aG] (aC,aT) (O0 aH (T1.mono ((dA.trans bY).trans aM) aJ)) [.int .i64 u14,.int .i64 u15,.slice au16 u16.length cu16] (u14,u15,u16) (z0 iu14 iu15 ru16) _  cT) ?_
    rintro v22 k21 ⟨cN,rfl,aN⟩
    obtain⟨dF,dG,dH⟩:=x20
    dsimp only at aB aN
    have bD:Sub k17 k21:=aN.sub
    have bP:=aN.r
    obtain⟨bE,bF,aO,cE,aP,bG,rfl,rfl,aQ,aR,aS⟩:=F0 bP
    obtain⟨rfl,cG⟩:=Sl.len aS
    try dsimp only at aB
    have we23:=New.sndI (New.sndI (aN))
    refine aI (fun bQ=>?_) (fun bQ=>?_)
    ·replace aB:=ifP aB bQ
     have hE:=oJ aB;subst hE
     try dsimp only[G2,I2]at aA
     have hE:=oJ aA;subst hE
     exact⟨([.int .i64 0,.int .i64 0,.slice none 0 0]),rfl,(New.pair (New.int (by decide)) (New.pair (New.int (by decide)) ((New.nilSlice (r:=C1)).mono (((dA.trans bY).trans aM).trans bD))))⟩
    ·replace aB:=ifN aB bQ
     refine aI (fun bR=>?_) (fun bR=>?_)
     ·replace aB:=ifP aB bR
      obtain⟨x26,cU,aB⟩:=j0 aB
      refine Tr.mono (J0c _ [.int .i64 u14,.int .i64 u15,.slice au16 u16.length cu16] (u14,u15,u16) (z0 iu14 iu15 (S0.mono bD ru16)) _  cU) ?_
      rintro v28 k27 ⟨dI,rfl,wx26⟩
      have dR:Sub k21 k27:=wx26.sub
      have cV:=wx26.r
      obtain⟨cH,cI,bS,cW,bT,dJ,rfl,rfl,bU,bV,bW⟩:=F0 cV
      obtain⟨rfl,cX⟩:=Sl.len bW
      try dsimp only at aB
      have we29:=New.sndI (New.sndI (wx26))
      have hE:=oJ aB;subst hE
      try dsimp only[G2,I2]at aA
      have hE:=oJ aA;subst hE
      exact⟨([.int .i64 cH,.int .i64 cI,.slice bS dJ.length bT]),rfl,(New.pair (New.int bU) (New.pair (New.int bV) (New.from we29 (((dA.trans bY).trans aM).trans bD))))⟩
     ·replace aB:=ifN aB bR
      refine aI rfl (aI (by repeat first|exact trivial|refine aI rfl ?_) (aI (by repeat first|exact trivial|refine aI rfl ?_) (eX m18 (aI ⟨(IntKind.i64.wrap (u13+1)),bE,bF,aO,bG.length,aP,bG,rfl,rfl,(aM.trans bD),(I0 _),aQ,aR,(New.from we23 ((dA.trans bY).trans aM)),aB⟩ (nS _)))))
   ·replace aB:=ifN aB bO
    have hE:=oJ aB;subst hE
    try dsimp only[P0,Q0]at aA
    have hE:=oJ aA;subst hE
    exact⟨([.int .i64 0,.int .i64 0,.slice none 0 0]),rfl,(New.pair (New.int (by decide)) (New.pair (New.int (by decide)) ((New.nilSlice (r:=C1)).mono ((dA.trans bY).trans aM))))⟩
theorem O09 (h:Hp) (aR:List Value) (p0:B0) (rp0:E1.R h aR p0) (ap1:Option Addr) (np1 cp1:Nat) (p1:J1) (rp1:T1.R h [.slice ap1 np1 cp1] p1) (r:Int) (aA:T9 p0 p1=some r) :
  Tr Tryz.prog 113 #[.agg aR.toArray,.slice ap1 np1 cp1] h fun v h'=>v = .int .i64 r∧h'=h:=by
 obtain⟨aG,aC,aY,aD,aS,rfl,rfl,aH,aF⟩:=D1 rp0
 obtain⟨rfl,aZ⟩:=Sl.len aF
 obtain⟨rfl,lp1⟩:=Sl.len rp1
 unfold T9 at aA
 dsimp only at aA
 refine Tr.forget (C2 (args:=[.agg #[.int .i64 aG,.slice aC aS.length aD],.slice ap1 p1.length cp1]) (fn:=Tryz.f113) rfl ?_)
 obtain⟨x1,bB,aA⟩:=j0 aA
 refine Tr.mono (P06 _ [.int .i64 aG,.slice aC aS.length aD] (aG,aS) (O0 aH aF) ap1 p1.length cp1 p1 rp1 _  bB) ?_
 rintro v3 k2 ⟨aT,rfl,aJ⟩
 obtain⟨bC,bD⟩:=x1
 dsimp only at aA aJ
 have bA:Sub h k2:=aJ.sub
 have aK:=aJ.r
 obtain⟨aU,aV,aL,aM,aN,aW,rfl,rfl,aO,aP,aB⟩:=F0 aK
 obtain⟨rfl,aQ⟩:=Sl.len aB
 try dsimp only at aA
 refine aI (fun aX=>?_) (fun aX=>?_)
 ·replace aA:=ifP aA aX
  have hE:=oJ aA;subst hE
  exact aI rfl bA
 ·replace aA:=ifN aA aX
  have hE:=oJ aA;subst hE
  exact aI rfl bA
theorem P09 (h:Hp) (aH:List Value) (p0:B0) (rp0:E1.R h aH p0) (r:Int) (aD:U9 p0=some r) :
  Tr Tryz.prog 50 #[.agg aH.toArray] h fun v h'=>v = .int .i64 r∧h'=h:=by
 obtain⟨aF,aA,aK,aB,aJ,rfl,rfl,aG,aC⟩:=D1 rp0
 obtain⟨rfl,aL⟩:=Sl.len aC
 unfold U9 at aD
 dsimp only at aD
 refine Tr.forget (C2 (args:=[.agg #[.int .i64 aF,.slice aA aJ.length aB]]) (fn:=Tryz.f50) rfl ?_)
 obtain⟨x1,aM,aD⟩:=j0 aD
 refine Tr.val (O09 _ [.int .i64 aF,.slice aA aJ.length aB] (aF,aJ) (O0 aG aC) none 0 0 [] (X0f J0 h) _  aM) ?_
 obtain⟨q2,aN,aD⟩:=j0 aD
 have aO:H0 x1:=M0 aN
 have hE:=oJ aD;subst hE
 exact aI rfl (Sub.refl _)
theorem K0c (h:Hp) (aL:List Value) (p0:B0) (rp0:E1.R h aL p0) (r:ByteArray) (aA:F00 p0=some r) :
  Tr Tryz.prog 12 #[.agg aL.toArray] h fun v h'=>v = .string r∧h'=h:=by
 obtain⟨aB,aC,bT,aD,aH,rfl,rfl,aG,aF⟩:=D1 rp0
 obtain⟨rfl,bU⟩:=Sl.len aF
 unfold F00 at aA
 dsimp only at aA
 refine Tr.forget (C2 (args:=[.agg #[.int .i64 aB,.slice aC aH.length aD]]) (fn:=Tryz.f12) rfl ?_)
 obtain⟨x1,bV,aA⟩:=j0 aA
 refine Tr.val (Z5 _ [.int .i64 aB,.slice aC aH.length aD] (aB,aH) (O0 aG aF) _  bV) ?_
 refine aI (fun aM=>?_) (fun aM=>?_)
 ·replace aA:=ifP aA aM
  have hE:=oJ aA;subst hE
  exact aI rfl (Sub.refl _)
 ·replace aA:=ifN aA aM
  obtain⟨x3,bW,aA⟩:=j0 aA
  refine Tr.val (P09 _ [.int .i64 aB,.slice aC aH.length aD] (aB,aH) (O0 aG aF) _  bW) ?_
  obtain⟨q4,bX,aA⟩:=j0 aA
  have bY:H0 x3:=M0 bX
  refine aI (fun aN=>?_) (fun aN=>?_)
  ·replace aA:=ifP aA aN
   obtain⟨x6,bZ,aA⟩:=j0 aA
   refine Tr.val (S01 _ x3 bY _  bZ) ?_
   obtain⟨q7,cA,aA⟩:=j0 aA
   have cC:x6.size≤9223372036854775807:=M0 cA
   refine Or.inr (Or.inr (Or.inr (Or.inl (aI (aI (by kernel_rfl) (by kernel_rfl)) ?_))))
   obtain⟨x8,cD,aA⟩:=j0 aA
   obtain⟨q9,cE,aA⟩:=j0 aA
   have cG:x8.size≤9223372036854775807:=M0 cE
   refine Or.inl (eX (.val (.string x8)) (aI ?_ ?_))
   ·intro k10 s11
    exact Tr.val (Y01 _ [.int .i64 aB,.slice aC aH.length aD] (aB,aH) (O0 aG (T1.mono s11 aF)) _ cD) (aI rfl (aI rfl rfl))
   obtain⟨x12,aO,aA⟩:=j0 aA
   obtain⟨q13,aP,aA⟩:=j0 aA
   have aQ:H0 x12:=M0 aP
   refine Or.inl (eX (.val (.int .i64 x12)) (aI ?_ ?_))
   ·intro k14 s15
    exact Tr.val (V03 _ [.int .i64 aB,.slice aC aH.length aD] (aB,aH) (O0 aG (T1.mono s15 aF)) _ aO) (aI rfl (aI rfl rfl))
   obtain⟨x16,aR,aA⟩:=j0 aA
   obtain⟨q17,aS,aA⟩:=j0 aA
   have aT:x16.size≤9223372036854775807:=M0 aS
   refine Or.inl (eX (.val (.string x16)) (aI ?_ ?_))
   ·intro k18 s19
    exact Tr.val (S01 _ x12 aQ _ aR) (aI rfl (aI rfl rfl))
   obtain⟨x20,aU,aA⟩:=j0 aA
   refine Or.inr (eX (fun v hh=>∃(a:Option Addr) (c:Nat),v = .slice a x20.length c∧(Wp.slice Wp.str).R hh [.slice a x20.length c] x20∧x20.length≤9223372036854775807) (aI (fun v h1 h2 sb q=>by obtain⟨a,c,e,r,l⟩:=q;exact⟨a,c,e,(Wp.slice Wp.str).mono sb r,l⟩) (aI ?_ ?_)))
   ·intro k21 s22
    have aV:[x8,(⟨#[115,105,122,101]⟩:ByteArray),x6,(⟨#[112,105,101,99,101,115]⟩:ByteArray),x16]=x20:=oJ aU
    intro v k hf
    obtain⟨a,c,rfl,r,sb,l⟩:=j1.out (r:=Wp.str.toRp) (xs:=x20) hf (show F2 (Wp.str.R k21) [[.string x8],[.string (⟨#[115,105,122,101]⟩:ByteArray)],[.string x6],[.string (⟨#[112,105,101,99,101,115]⟩:ByteArray)],[.string x16]] x20 from aV▸(show F2 (Wp.str.R k21) [[.string x8],[.string (⟨#[115,105,122,101]⟩:ByteArray)],[.string x6],[.string (⟨#[112,105,101,99,101,115]⟩:ByteArray)],[.string x16]] [x8,(⟨#[115,105,122,101]⟩:ByteArray),x6,(⟨#[112,105,101,99,101,115]⟩:ByteArray),x16] from⟨⟨rfl,cG⟩,⟨⟨rfl,(by decide)⟩,⟨⟨rfl,cC⟩,⟨⟨rfl,(by decide)⟩,⟨⟨rfl,aT⟩,trivial⟩⟩⟩⟩⟩))
    exact aI ⟨rfl,rfl,rfl,[_],rfl⟩ (aI sb ⟨a,c,rfl,r,l⟩)
   obtain⟨x23,aW,aA⟩:=j0 aA
   obtain⟨q24,aX,aA⟩:=j0 aA
   have aY:x23.size≤9223372036854775807:=M0 aX
   refine Or.inl (eX (.val (.string x23)) (aI ?_ ?_))
   ·intro k25 s26
    rintro _ ⟨az27,cz27,rfl,rz27,lz27⟩
    exact Tr.val (j05 _ az27 x20.length cz27 x20 rz27 _ aW) (aI rfl (aI rfl rfl))
   intro k28 s29
   rintro _ ⟨az30,cz30,rfl,rz30,lz30⟩
   obtain⟨x31,aZ,aA⟩:=j0 aA
   refine Tr.val (c08 _ [.int .i64 aB,.slice aC aH.length aD] (aB,aH) (O0 aG (T1.mono s29 aF)) _  aZ) ?_
   refine aI (fun aJ=>?_) (fun aJ=>?_)
   ·replace aA:=ifP aA aJ
    refine Or.inr ?_
    intro v33 k34 f35
    obtain⟨az36,cz36,rfl,rz36,sz36,lz36⟩:=j1.out (r:=Wp.str.toRp) f35 (show F2 (Wp.str.R k28) ([[.string x23],[.string (⟨#[115,109,97,108,108]⟩:ByteArray)]]:List (List Value)) [x23,(⟨#[115,109,97,108,108]⟩:ByteArray)] from⟨⟨rfl,aY⟩,⟨⟨rfl,(by decide)⟩,trivial⟩⟩)
    obtain⟨x37,bA,aA⟩:=j0 aA
    refine Tr.val (j05 _ az36 ([x23,(⟨#[115,109,97,108,108]⟩:ByteArray)]).length cz36 [x23,(⟨#[115,109,97,108,108]⟩:ByteArray)] rz36 _  bA) (aI rfl ?_)
    obtain⟨q38,bB,aA⟩:=j0 aA
    have cH:x37.size≤9223372036854775807:=M0 bB
    have hE:=oJ aA;subst hE
    exact aI rfl s29
   ·replace aA:=ifN aA aJ
    have hE:=oJ aA;subst hE
    exact aI rfl s29
  ·replace aA:=ifN aA aN
   refine Or.inr (Or.inr (Or.inr (Or.inl (aI (aI (by kernel_rfl) (by kernel_rfl)) ?_))))
   obtain⟨x39,bC,aA⟩:=j0 aA
   obtain⟨q40,bD,aA⟩:=j0 aA
   have bE:x39.size≤9223372036854775807:=M0 bD
   refine Or.inl (eX (.val (.string x39)) (aI ?_ ?_))
   ·intro k41 s42
    exact Tr.val (Y01 _ [.int .i64 aB,.slice aC aH.length aD] (aB,aH) (O0 aG (T1.mono s42 aF)) _ bC) (aI rfl (aI rfl rfl))
   obtain⟨x43,bF,aA⟩:=j0 aA
   obtain⟨q44,bG,aA⟩:=j0 aA
   have bH:H0 x43:=M0 bG
   refine Or.inl (eX (.val (.int .i64 x43)) (aI ?_ ?_))
   ·intro k45 s46
    exact Tr.val (V03 _ [.int .i64 aB,.slice aC aH.length aD] (aB,aH) (O0 aG (T1.mono s46 aF)) _ bF) (aI rfl (aI rfl rfl))
   obtain⟨x47,bI,aA⟩:=j0 aA
   obtain⟨q48,bJ,aA⟩:=j0 aA
   have bK:x47.size≤9223372036854775807:=M0 bJ
   refine Or.inl (eX (.val (.string x47)) (aI ?_ ?_))
   ·intro k49 s50
    exact Tr.val (S01 _ x43 bH _ bI) (aI rfl (aI rfl rfl))
   obtain⟨x51,bL,aA⟩:=j0 aA
   refine Or.inr (eX (fun v hh=>∃(a:Option Addr) (c:Nat),v = .slice a x51.length c∧(Wp.slice Wp.str).R hh [.slice a x51.length c] x51∧x51.length≤9223372036854775807) (aI (fun v h1 h2 sb q=>by obtain⟨a,c,e,r,l⟩:=q;exact⟨a,c,e,(Wp.slice Wp.str).mono sb r,l⟩) (aI ?_ ?_)))
   ·intro k52 s53
    have bM:[x39,(⟨#[115,105,122,101]⟩:ByteArray),(⟨#[117,110,107,110,111,119,110]⟩:ByteArray),(⟨#[112,105,101,99,101,115]⟩:ByteArray),x47]=x51:=oJ bL
    intro v k hf
    obtain⟨a,c,rfl,r,sb,l⟩:=j1.out (r:=Wp.str.toRp) (xs:=x51) hf (show F2 (Wp.str.R k52) [[.string x39],[.string (⟨#[115,105,122,101]⟩:ByteArray)],[.string (⟨#[117,110,107,110,111,119,110]⟩:ByteArray)],[.string (⟨#[112,105,101,99,101,115]⟩:ByteArray)],[.string x47]] x51 from bM▸(show F2 (Wp.str.R k52) [[.string x39],[.string (⟨#[115,105,122,101]⟩:ByteArray)],[.string (⟨#[117,110,107,110,111,119,110]⟩:ByteArray)],[.string (⟨#[112,105,101,99,101,115]⟩:ByteArray)],[.string x47]] [x39,(⟨#[115,105,122,101]⟩:ByteArray),(⟨#[117,110,107,110,111,119,110]⟩:ByteArray),(⟨#[112,105,101,99,101,115]⟩:ByteArray),x47] from⟨⟨rfl,bE⟩,⟨⟨rfl,(by decide)⟩,⟨⟨rfl,(by decide)⟩,⟨⟨rfl,(by decide)⟩,⟨⟨rfl,bK⟩,trivial⟩⟩⟩⟩⟩))
    exact aI ⟨rfl,rfl,rfl,[_],rfl⟩ (aI sb ⟨a,c,rfl,r,l⟩)
   obtain⟨x54,bN,aA⟩:=j0 aA
   obtain⟨q55,bO,aA⟩:=j0 aA
   have bP:x54.size≤9223372036854775807:=M0 bO
   refine Or.inl (eX (.val (.string x54)) (aI ?_ ?_))
   ·intro k56 s57
    rintro _ ⟨az58,cz58,rfl,rz58,lz58⟩
    exact Tr.val (j05 _ az58 x51.length cz58 x51 rz58 _ bN) (aI rfl (aI rfl rfl))
   intro k59 s60
   rintro _ ⟨az61,cz61,rfl,rz61,lz61⟩
   obtain⟨x62,bQ,aA⟩:=j0 aA
   refine Tr.val (c08 _ [.int .i64 aB,.slice aC aH.length aD] (aB,aH) (O0 aG (T1.mono s60 aF)) _  bQ) ?_
   refine aI (fun aK=>?_) (fun aK=>?_)
   ·replace aA:=ifP aA aK
    refine Or.inr ?_
    intro v64 k65 f66
    obtain⟨az67,cz67,rfl,rz67,sz67,lz67⟩:=j1.out (r:=Wp.str.toRp) f66 (show F2 (Wp.str.R k59) ([[.string x54],[.string (⟨#[115,109,97,108,108]⟩:ByteArray)]]:List (List Value)) [x54,(⟨#[115,109,97,108,108]⟩:ByteArray)] from⟨⟨rfl,bP⟩,⟨⟨rfl,(by decide)⟩,trivial⟩⟩)
    obtain⟨x68,bR,aA⟩:=j0 aA
    refine Tr.val (j05 _ az67 ([x54,(⟨#[115,109,97,108,108]⟩:ByteArray)]).length cz67 [x54,(⟨#[115,109,97,108,108]⟩:ByteArray)] rz67 _  bR) (aI rfl ?_)
    obtain⟨q69,bS,aA⟩:=j0 aA
    have cI:x68.size≤9223372036854775807:=M0 bS
    have hE:=oJ aA;subst hE
    exact aI rfl s60
   ·replace aA:=ifN aA aK
    have hE:=oJ aA;subst hE
    exact aI rfl s60
end Go.Proofs.YtcakocbgbelmeaaGreat
