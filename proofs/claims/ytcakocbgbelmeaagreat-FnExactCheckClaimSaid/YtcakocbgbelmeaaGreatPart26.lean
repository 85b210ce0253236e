/- Texts of the claim, joined: The walks of batch 1 and others. -/
import Derived.Test.YtcakocbgbelmeaaGreatPart18
import Derived.Test.YtcakocbgbelmeaaGreatChecked
import Derived.Test.YtcakocbgbelmeaaGreatH35
import Derived.Test.YtcakocbgbelmeaaGreatSI
import Derived.Test.YtcakocbgbelmeaaGreatPart21
namespace Go.Proofs.YtcakocbgbelmeaaGreat
open Go.H
set_option linter.unusedVariables false
set_option linter.unusedSimpArgs false
set_option maxRecDepth 10000
theorem Q4(h:Hp)(p0:Int)(ip0:M0 p0)(p1:Int)(ip1:M0 p1)(p2:Int)(ip2:M0 p2)(r:Bool)(aA:D3 p0 p1 p2=some r):
  Tr Tryz.prog 87 #[.int .i64 p0,.int .i64 p1,.int .i64 p2] h fun v h'=>v = .bool r∧h'=h:=by
 unfold D3 at aA
 refine Tr.forget (Y1 (args:=[.int .i64 p0,.int .i64 p1,.int .i64 p2]) (fn:=Tryz.f87) rfl ?_)
 have hE:=oJ aA;subst hE
 exact aI rfl (Sub.refl _)
theorem F03(h:Hp)(p0:Int)(ip0:M0 p0)(ap1:Option Addr)(np1 cp1:Nat)(p1:C0)(rp1:J0.R h [.slice ap1 np1 cp1] p1)(r:Bool)(aB:B9 p0 p1=some r):
  Tr Tryz.prog 59 #[.int .i64 p0,.slice ap1 np1 cp1] h fun v h'=>v = .bool r∧h'=h:=by
 obtain⟨rfl,lp1⟩:=Sl.len rp1
 unfold B9 at aB
 refine Tr.forget (Y1 (args:=[.int .i64 p0,.slice ap1 p1.length cp1]) (fn:=Tryz.f59) rfl ?_)
 obtain⟨X1,aG,aB⟩:=l0 aB
 refine eX { vars:=[5],boxes:=[],owns:=[],fuel:=true } (eX (fun vs os h'=>∃(u2:Int),vs.tail = [.int .i64 u2]∧os = []∧Sub h h'∧M0 u2∧d8 p1 p0 (K1 vs) u2=some X1) (eX (fun _ _=>0) ?_))
 refine aI (eX S0 ⟨0,rfl,rfl,(Sub.refl _),(by decide),aG⟩) ?_
 rintro v_0 m4 k3 ⟨u2,aH,aJ,aC,iu2,aA⟩
 cases aH
 cases aJ
 replace aA:d8 p1 p0 m4 u2=some X1:=aA
 obtain _|m4:=m4
 ·cases (show(none:Option _)=some X1 from aA)
 rw[d8.eq_2]at aA
 refine aI (fun aK=>?_) (fun aK=>?_)
 ·replace aA:=ifP aA aK
  refine Or.inl (aI (aI (by kernel_rfl) (by kernel_rfl)) ?_)
  obtain⟨x6,aR,aA⟩:=l0 aA
  obtain⟨aS,aT,aU,aV⟩:=Sl.getI (r:=Wp.int.toRp) (J0.mono aC rp1) aR (by decide)
  refine aI aS ?_
  obtain⟨rfl,bF⟩:=aV
  refine eX _ (aI aU ?_)
  obtain⟨x7,aW,aA⟩:=l0 aA
  obtain⟨aX,aO,aY⟩:=Sl.getG (r:=Wp.int.toRp) (J0.mono aC rp1) aW (by decide) (c04 k3)
  refine aI (fun q=>(aO q).1) ?_
  obtain⟨rfl,aZ⟩:=aY
  refine eX _ (aI (fun q=>(aO q).2) ?_)
  obtain⟨x8,bA,aA⟩:=l0 aA
  refine eX (.bool x8) (aI (fun q=>Q4 _ x7 aZ (IntKind.i64.wrap (0-p0)) (N0 _) p0 ip0 _  (F1 bA q)) ?_)
  obtain⟨x9,bB,aA⟩:=l0 aA
  obtain⟨bC,aP,bD⟩:=Sl.getG (r:=Wp.int.toRp) (J0.mono aC rp1) bB (by decide) (c04 k3)
  refine aI (fun q=>(aP q).1) ?_
  obtain⟨rfl,bG⟩:=bD
  refine eX _ (aI (fun q=>(aP q).2) ?_)
  obtain⟨x10,aL,aA⟩:=l0 aA
  obtain⟨aQ,aF,aM⟩:=Sl.getG (r:=Wp.int.toRp) (J0.mono aC rp1) aL (by decide) (c04 k3)
  refine aI (fun q=>(aF q).1) ?_
  obtain⟨rfl,bE⟩:=aM
  refine eX _ (aI (fun q=>(aF q).2) ?_)
  refine aI (fun aD=>?_) (fun aD=>?_)
  ·replace aA:=ifP aA aD
   have hE:=oJ aA;subst hE
   try dsimp only[S3,W3]at aB
   have hE:=oJ aB;subst hE
   exact aI rfl aC
  ·replace aA:=ifN aA aD
   refine aI rfl (aI (by trivial) (aI (by trivial) (eX m4 (aI ⟨(IntKind.i64.wrap (u2+1)),rfl,rfl,aC,(N0 _),aA⟩ (nS _)))))
 ·replace aA:=ifN aA aK
  have hE:=oJ aA;subst hE
  try dsimp only[T0,V0]at aB
  obtain⟨x12,aN,aB⟩:=l0 aB
  refine Tr.val (Q4 _ p0 ip0 1 (by decide) 3 (by decide) _  aN) ?_
  have hE:=oJ aB;subst hE
  exact aI rfl aC
theorem B09(h:Hp)(ap0:Option Addr)(np0 cp0:Nat)(p0:P1)(rp0:Q2.R h [.slice ap0 np0 cp0] p0)(r:Int)(aB:z8 p0=some r):
  Tr Tryz.prog 119 #[.slice ap0 np0 cp0] h fun v h'=>v = .int .i64 r∧h'=h:=by
 obtain⟨rfl,lp0⟩:=Sl.len rp0
 unfold z8 at aB
 refine Tr.forget (Y1 (args:=[.slice ap0 p0.length cp0]) (fn:=Tryz.f119) rfl ?_)
 obtain⟨X1,aC,aB⟩:=l0 aB
 refine eX { vars:=[3,4],boxes:=[],owns:=[],fuel:=true } (eX (fun vs os h'=>∃(u2:Int) (u3:Int),vs.tail = [.int .i64 u2,.int .i64 u3]∧os = []∧Sub h h'∧M0 u2∧M0 u3∧J3 p0 (K1 vs) u2 u3=some X1) (eX (fun _ _=>0) ?_))
 refine aI (eX S0 ⟨0,0,rfl,rfl,(Sub.refl _),(by decide),(by decide),aC⟩) ?_
 rintro v_0 v_1 m5 k4 ⟨u2,u3,aD,aF,aG,iu2,iu3,aA⟩
 cases aD
 cases aF
 replace aA:J3 p0 m5 u2 u3=some X1:=aA
 obtain _|m5:=m5
 ·cases (show(none:Option _)=some X1 from aA)
 rw[J3.eq_2]at aA
 refine aI (fun aH=>?_) (fun aH=>?_)
 ·replace aA:=ifP aA aH
  obtain⟨x7,aK,aA⟩:=l0 aA
  obtain⟨aL,aM,aN,aJ⟩:=Sl.getI (r:=J0.toRp) (Q2.mono aG rp0) aK (by decide)
  refine aI aL ?_
  obtain⟨aO,aP,aQ,rfl⟩:=Wp.slice_cell aJ
  obtain⟨rfl,aR⟩:=Sl.len aJ
  refine eX _ (aI aN ?_)
  refine aI rfl (aI (by trivial) (aI (by trivial) (eX m5 (aI ⟨(IntKind.i64.wrap (u2+((x7.length:Nat):Int))),(IntKind.i64.wrap (u3+1)),rfl,rfl,aG,(N0 _),(N0 _),aA⟩ (nS _)))))
 ·replace aA:=ifN aA aH
  have hE:=oJ aA;subst hE
  try dsimp only[T0,V0]at aB
  have hE:=oJ aB;subst hE
  exact aI rfl aG
theorem V06(h:Hp)(p0:Int)(ip0:M0 p0)(ap1:Option Addr)(np1 cp1:Nat)(p1:P1)(rp1:Q2.R h [.slice ap1 np1 cp1] p1)(r:Bool)(aB:Y9 p0 p1=some r):
  Tr Tryz.prog 58 #[.int .i64 p0,.slice ap1 np1 cp1] h fun v h'=>v = .bool r∧h'=h:=by
 obtain⟨rfl,lp1⟩:=Sl.len rp1
 unfold Y9 at aB
 refine Tr.forget (Y1 (args:=[.int .i64 p0,.slice ap1 p1.length cp1]) (fn:=Tryz.f58) rfl ?_)
 obtain⟨X1,aD,aB⟩:=l0 aB
 refine eX { vars:=[5],boxes:=[],owns:=[],fuel:=true } (eX (fun vs os h'=>∃(u2:Int),vs.tail = [.int .i64 u2]∧os = []∧Sub h h'∧M0 u2∧I6 p1 p0 (K1 vs) u2=some X1) (eX (fun _ _=>0) ?_))
 refine aI (eX S0 ⟨0,rfl,rfl,(Sub.refl _),(by decide),aD⟩) ?_
 rintro v_0 m4 k3 ⟨u2,aF,aG,aC,iu2,aA⟩
 cases aF
 cases aG
 replace aA:I6 p1 p0 m4 u2=some X1:=aA
 obtain _|m4:=m4
 ·cases (show(none:Option _)=some X1 from aA)
 rw[I6.eq_2]at aA
 refine aI (fun aH=>?_) (fun aH=>?_)
 ·replace aA:=ifP aA aH
  obtain⟨x6,aN,aA⟩:=l0 aA
  obtain⟨aO,aP,aQ,aJ⟩:=Sl.getI (r:=J0.toRp) (Q2.mono aC rp1) aN (by decide)
  refine aI aO ?_
  obtain⟨aR,aW,aS,rfl⟩:=Wp.slice_cell aJ
  obtain⟨rfl,aX⟩:=Sl.len aJ
  refine eX _ (aI aQ ?_)
  obtain⟨x7,aT,aA⟩:=l0 aA
  refine Tr.val (F03 _ p0 ip0 aR x6.length aS x6 aJ _  aT) ?_
  refine aI (fun aK=>?_) (fun aK=>?_)
  ·replace aA:=ifP aA aK
   have hE:=oJ aA;subst hE
   try dsimp only[S3,W3]at aB
   have hE:=oJ aB;subst hE
   exact aI rfl aC
  ·replace aA:=ifN aA aK
   refine aI rfl (aI (by trivial) (aI (by trivial) (eX m4 (aI ⟨(IntKind.i64.wrap (u2+1)),rfl,rfl,aC,(N0 _),aA⟩ (nS _)))))
 ·replace aA:=ifN aA aH
  have hE:=oJ aA;subst hE
  try dsimp only[T0,V0]at aB
  obtain⟨x9,aU,aB⟩:=l0 aB
  refine Tr.val (Q4 _ p0 ip0 1 (by decide) 3 (by decide) _  aU) ?_
  obtain⟨x10,aL,aB⟩:=l0 aB
  refine eX (.int .i64 x10) (aI (fun q=>B09 _ ap1 p1.length cp1 p1 (Q2.mono aC rp1) _  (F1 aL q)) ?_)
  obtain⟨q11,aM,aB⟩:=l0 aB
  have aV:M0 x10:=O1 aM
  have hE:=oJ aB;subst hE
  exact aI rfl aC
theorem M7(h:Hp)(p0:Int)(ip0:M0 p0)(p1:Int)(ip1:M0 p1)(p2:Int)(ip2:M0 p2)(r:Bool)(aA:K5 p0 p1 p2=some r):
  Tr Tryz.prog 89 #[.int .i64 p0,.int .i64 p1,.int .i64 p2] h fun v h'=>v = .bool r∧h'=h:=by
 unfold K5 at aA
 refine Tr.forget (Y1 (args:=[.int .i64 p0,.int .i64 p1,.int .i64 p2]) (fn:=Tryz.f89) rfl ?_)
 have hE:=oJ aA;subst hE
 exact aI rfl (Sub.refl _)
theorem Q0c(h:Hp)(p0:Int)(ip0:M0 p0)(p1:Int)(ip1:M0 p1)(r:Bool)(aA:X00 p0 p1=some r):
  Tr Tryz.prog 135 #[.int .i64 p0,.int .i64 p1] h fun v h'=>v = .bool r∧h'=h:=by
 unfold X00 at aA
 refine Tr.forget (Y1 (args:=[.int .i64 p0,.int .i64 p1]) (fn:=Tryz.f135) rfl ?_)
 obtain⟨x1,aB,aA⟩:=l0 aA
 refine eX (.bool x1) (aI (fun q=>M7 _ p1 ip1 (IntKind.i64.wrap (0-p0)) (N0 _) p0 ip0 _  (F1 aB q)) ?_)
 have hE:=oJ aA;subst hE
 exact aI rfl (Sub.refl _)
theorem u05(h:Hp)(p0:Int)(ip0:M0 p0)(p1:Int)(ip1:M0 p1)(r:Bool)(aA:a9 p0 p1=some r):
  Tr Tryz.prog 112 #[.int .i64 p0,.int .i64 p1] h fun v h'=>v = .bool r∧h'=h:=by
 unfold a9 at aA
 refine Tr.forget (Y1 (args:=[.int .i64 p0,.int .i64 p1]) (fn:=Tryz.f112) rfl ?_)
 have hE:=oJ aA;subst hE
 exact aI rfl (Sub.refl _)
theorem G03(h:Hp)(p0:Int)(ip0:M0 p0)(ap1:Option Addr)(np1 cp1:Nat)(p1:C0)(rp1:J0.R h [.slice ap1 np1 cp1] p1)(r:Bool)(aB:C9 p0 p1=some r):
  Tr Tryz.prog 73 #[.int .i64 p0,.slice ap1 np1 cp1] h fun v h'=>v = .bool r∧h'=h:=by
 obtain⟨rfl,lp1⟩:=Sl.len rp1
 unfold C9 at aB
 refine Tr.forget (Y1 (args:=[.int .i64 p0,.slice ap1 p1.length cp1]) (fn:=Tryz.f73) rfl ?_)
 obtain⟨x1,aS,aB⟩:=l0 aB
 refine Tr.val (M7 _ p0 ip0 1 (by decide) 3 (by decide) _  aS) ?_
 refine aI (fun aG=>?_) (fun aG=>?_)
 ·replace aB:=ifP aB aG
  have hE:=oJ aB;subst hE
  exact aI rfl (Sub.refl _)
 ·replace aB:=ifN aB aG
  obtain⟨X3,aH,aB⟩:=l0 aB
  refine eX { vars:=[17],boxes:=[],owns:=[],fuel:=true } (eX (fun vs os h'=>∃(u4:Int),vs.tail = [.int .i64 u4]∧os = []∧Sub h h'∧M0 u4∧f8 p1 p0 (K1 vs) u4=some X3) (eX (fun _ _=>0) ?_))
  refine aI (eX S0 ⟨0,rfl,rfl,(Sub.refl _),(by decide),aH⟩) ?_
  rintro v_0 m6 k5 ⟨u4,aJ,aK,aD,iu4,aA⟩
  cases aJ
  cases aK
  replace aA:f8 p1 p0 m6 u4=some X3:=aA
  obtain _|m6:=m6
  ·cases (show(none:Option _)=some X3 from aA)
  rw[f8.eq_2]at aA
  refine aI (fun aL=>?_) (fun aL=>?_)
  ·replace aA:=ifP aA aL
   obtain⟨x8,aT,aA⟩:=l0 aA
   obtain⟨aU,aV,aW,aX⟩:=Sl.getI (r:=Wp.int.toRp) (J0.mono aD rp1) aT (by decide)
   refine aI aU ?_
   obtain⟨rfl,aQ⟩:=aX
   refine eX _ (aI aW ?_)
   obtain⟨x9,aY,aA⟩:=l0 aA
   refine Tr.val (Q0c _ p0 ip0 x8 aQ _  aY) ?_
   obtain⟨x10,aM,aA⟩:=l0 aA
   obtain⟨aR,aF,aN⟩:=Sl.getG (r:=Wp.int.toRp) (J0.mono aD rp1) aM (by decide) (c04 k5)
   refine aI (fun q=>(aF q).1) ?_
   obtain⟨rfl,aO⟩:=aN
   refine eX _ (aI (fun q=>(aF q).2) ?_)
   obtain⟨x11,aP,aA⟩:=l0 aA
   refine eX (.bool x11) (aI (fun q=>u05 _ x10 aO x8 aQ _  (F1 aP q)) ?_)
   refine aI (fun aC=>?_) (fun aC=>?_)
   ·replace aA:=ifP aA aC
    have hE:=oJ aA;subst hE
    try dsimp only[S3,W3]at aB
    have hE:=oJ aB;subst hE
    exact aI rfl aD
   ·replace aA:=ifN aA aC
    refine aI rfl (aI (by trivial) (aI (by trivial) (eX m6 (aI ⟨(IntKind.i64.wrap (u4+1)),rfl,rfl,aD,(N0 _),aA⟩ (nS _)))))
  ·replace aA:=ifN aA aL
   have hE:=oJ aA;subst hE
   try dsimp only[T0,V0]at aB
   have hE:=oJ aB;subst hE
   exact aI rfl aD
theorem C09(h:Hp)(ap0:Option Addr)(np0 cp0:Nat)(p0:P1)(rp0:Q2.R h [.slice ap0 np0 cp0] p0)(r:Int)(aB:Q9 p0=some r):
  Tr Tryz.prog 134 #[.slice ap0 np0 cp0] h fun v h'=>v = .int .i64 r∧h'=h:=by
 obtain⟨rfl,lp0⟩:=Sl.len rp0
 unfold Q9 at aB
 refine Tr.forget (Y1 (args:=[.slice ap0 p0.length cp0]) (fn:=Tryz.f134) rfl ?_)
 obtain⟨X1,aC,aB⟩:=l0 aB
 refine eX { vars:=[3,8],boxes:=[],owns:=[],fuel:=true } (eX (fun vs os h'=>∃(u2:Int) (u3:Int),vs.tail = [.int .i64 u2,.int .i64 u3]∧os = []∧Sub h h'∧M0 u2∧M0 u3∧Y5 p0 (K1 vs) u2 u3=some X1) (eX (fun _ _=>0) ?_))
 refine aI (eX S0 ⟨0,0,rfl,rfl,(Sub.refl _),(by decide),(by decide),aC⟩) ?_
 rintro v_0 v_1 m5 k4 ⟨u2,u3,aD,aF,aG,iu2,iu3,aA⟩
 cases aD
 cases aF
 replace aA:Y5 p0 m5 u2 u3=some X1:=aA
 obtain _|m5:=m5
 ·cases (show(none:Option _)=some X1 from aA)
 rw[Y5.eq_2]at aA
 refine aI (fun aH=>?_) (fun aH=>?_)
 ·replace aA:=ifP aA aH
  obtain⟨x7,aK,aA⟩:=l0 aA
  obtain⟨aL,aM,aN,aJ⟩:=Sl.getI (r:=J0.toRp) (Q2.mono aG rp0) aK (by decide)
  refine aI aL ?_
  obtain⟨aO,aP,aQ,rfl⟩:=Wp.slice_cell aJ
  obtain⟨rfl,aR⟩:=Sl.len aJ
  refine eX _ (aI aN ?_)
  refine aI rfl (aI (by trivial) (aI (by trivial) (eX m5 (aI ⟨(IntKind.i64.wrap (u2+((x7.length:Nat):Int))),(IntKind.i64.wrap (u3+1)),rfl,rfl,aG,(N0 _),(N0 _),aA⟩ (nS _)))))
 ·replace aA:=ifN aA aH
  have hE:=oJ aA;subst hE
  try dsimp only[T0,V0]at aB
  have hE:=oJ aB;subst hE
  exact aI rfl aG
theorem W06(h:Hp)(p0:Int)(ip0:M0 p0)(ap1:Option Addr)(np1 cp1:Nat)(p1:P1)(rp1:Q2.R h [.slice ap1 np1 cp1] p1)(r:Bool)(aB:Z9 p0 p1=some r):
  Tr Tryz.prog 72 #[.int .i64 p0,.slice ap1 np1 cp1] h fun v h'=>v = .bool r∧h'=h:=by
 obtain⟨rfl,lp1⟩:=Sl.len rp1
 unfold Z9 at aB
 refine Tr.forget (Y1 (args:=[.int .i64 p0,.slice ap1 p1.length cp1]) (fn:=Tryz.f72) rfl ?_)
 obtain⟨x1,aO,aB⟩:=l0 aB
 refine Tr.val (M7 _ p0 ip0 1 (by decide) 3 (by decide) _  aO) ?_
 refine aI (fun aF=>?_) (fun aF=>?_)
 ·replace aB:=ifP aB aF
  have hE:=oJ aB;subst hE
  exact aI rfl (Sub.refl _)
 ·replace aB:=ifN aB aF
  obtain⟨X3,aG,aB⟩:=l0 aB
  refine eX { vars:=[17],boxes:=[],owns:=[],fuel:=true } (eX (fun vs os h'=>∃(u4:Int),vs.tail = [.int .i64 u4]∧os = []∧Sub h h'∧M0 u4∧J6 p1 p0 (K1 vs) u4=some X3) (eX (fun _ _=>0) ?_))
  refine aI (eX S0 ⟨0,rfl,rfl,(Sub.refl _),(by decide),aG⟩) ?_
  rintro v_0 m6 k5 ⟨u4,aH,aJ,aD,iu4,aA⟩
  cases aH
  cases aJ
  replace aA:J6 p1 p0 m6 u4=some X3:=aA
  obtain _|m6:=m6
  ·cases (show(none:Option _)=some X3 from aA)
  rw[J6.eq_2]at aA
  refine aI (fun aK=>?_) (fun aK=>?_)
  ·replace aA:=ifP aA aK
   obtain⟨x8,aP,aA⟩:=l0 aA
   obtain⟨aQ,aR,aS,aL⟩:=Sl.getI (r:=J0.toRp) (Q2.mono aD rp1) aP (by decide)
   refine aI aQ ?_
   obtain⟨aT,aX,aU,rfl⟩:=Wp.slice_cell aL
   obtain⟨rfl,aY⟩:=Sl.len aL
   refine eX _ (aI aS ?_)
   obtain⟨x9,aV,aA⟩:=l0 aA
   refine Tr.val (G03 _ p0 ip0 aT x8.length aU x8 aL _  aV) ?_
   refine aI (fun aC=>?_) (fun aC=>?_)
   ·replace aA:=ifP aA aC
    have hE:=oJ aA;subst hE
    try dsimp only[S3,W3]at aB
    have hE:=oJ aB;subst hE
    exact aI rfl aD
   ·replace aA:=ifN aA aC
    refine aI rfl (aI (by trivial) (aI (by trivial) (eX m6 (aI ⟨(IntKind.i64.wrap (u4+1)),rfl,rfl,aD,(N0 _),aA⟩ (nS _)))))
  ·replace aA:=ifN aA aK
   have hE:=oJ aA;subst hE
   try dsimp only[T0,V0]at aB
   obtain⟨x11,aM,aB⟩:=l0 aB
   refine Tr.val (C09 _ ap1 p1.length cp1 p1 (Q2.mono aD rp1) _  aM) ?_
   obtain⟨q12,aN,aB⟩:=l0 aB
   have aW:M0 x11:=O1 aN
   have hE:=oJ aB;subst hE
   exact aI rfl aD
theorem G02(h:Hp)(p0:Int)(ip0:M0 p0)(p1:Int)(ip1:M0 p1)(r:Int)(aA:o7 p0 p1=some r):
  Tr Tryz.prog 217 #[.int .i64 p0,.int .i64 p1] h fun v h'=>v = .int .i64 r∧h'=h:=by
 unfold o7 at aA
 refine Tr.forget (Y1 (args:=[.int .i64 p0,.int .i64 p1]) (fn:=Tryz.f217) rfl ?_)
 refine aI (fun aB=>?_) (fun aB=>?_)
 ·replace aA:=ifP aA aB
  have hE:=oJ aA;subst hE
  exact aI rfl (Sub.refl _)
 ·replace aA:=ifN aA aB
  refine aI (fun aC=>?_) (fun aC=>?_)
  ·replace aA:=ifP aA aC
   have hE:=oJ aA;subst hE
   exact aI rfl (Sub.refl _)
  ·replace aA:=ifN aA aC
   have hE:=oJ aA;subst hE
   exact aI rfl (Sub.refl _)
theorem A01(h:Hp)(ap0:Option Addr)(np0 cp0:Nat)(p0:C0)(rp0:J0.R h [.slice ap0 np0 cp0] p0)(r:C0)(aB:R6 p0=some r):
  Tr Tryz.prog 68 #[.slice ap0 np0 cp0] h fun v h'=>∃(a0:Option Addr) (n0 c0:Nat),v = .slice a0 n0 c0∧J0.R h' [.slice a0 n0 c0] r∧Sub h h':=by
 obtain⟨rfl,lp0⟩:=Sl.len rp0
 unfold R6 at aB
 refine Y1 (args:=[.slice ap0 p0.length cp0]) (fn:=Tryz.f68) rfl ?_
 obtain⟨X1,aC,aB⟩:=l0 aB
 refine eX { vars:=[4],boxes:=[],owns:=[0],fuel:=true } (eX (fun vs os h'=>∃(u2:Int) (wu3:List (List Value)) (u3:List Int),vs.tail = [.int .i64 u2]∧os = [wu3]∧Sub h h'∧M0 u2∧F2 (Wp.int.R h') wu3 u3∧Q3 p0 (K1 vs) u2 u3=some X1) (eX (fun _ _=>0) ?_))
 refine aI (eX S0 ⟨(IntKind.i64.wrap (((p0.length:Nat):Int)-1)),[],([]:C0),rfl,rfl,(Sub.refl _),(N0 _),(show F2 (Wp.int.R h) ([]:List (List Value)) ([]:C0) from trivial),aC⟩) ?_
 rintro v_0 wu3 m5 k4 ⟨u2,zzu3,u3,aD,aF,aH,iu2,fu3,aA⟩
 cases aD
 cases aF
 replace aA:Q3 p0 m5 u2 u3=some X1:=aA
 obtain _|m5:=m5
 ·cases (show(none:Option _)=some X1 from aA)
 rw[Q3.eq_2]at aA
 refine aI (fun aG=>?_) (fun aG=>?_)
 ·replace aA:=ifP aA aG
  obtain⟨x7,aJ,aA⟩:=l0 aA
  obtain⟨aK,aL,aM,aN⟩:=Sl.getI (r:=Wp.int.toRp) (J0.mono aH rp0) aJ (by decide)
  refine aI aK ?_
  obtain⟨rfl,aP⟩:=aN
  refine eX _ (aI aM ?_)
  obtain⟨q8,aO,aA⟩:=l0 aA
  refine aI (L1 aO (by first|rw[F2.length fu3,F2.length (show F2 (Wp.int.R k4) ([[.int .i64 (IntKind.i64.wrap (0-x7))]]:List (List Value)) [(IntKind.i64.wrap (0-x7))] from⟨⟨rfl,(N0 _)⟩,trivial⟩)]|exact congrArg (·+1) (F2.length fu3))) ?_
  refine aI rfl (aI (by trivial) (aI (by trivial) (eX m5 (aI ⟨(IntKind.i64.wrap (u2-1)),(wu3++([[.int .i64 (IntKind.i64.wrap (0-x7))]]:List (List Value))),(u3 ++ [(IntKind.i64.wrap (0-x7))]),rfl,rfl,aH,(N0 _),(F2.append fu3 (show F2 (Wp.int.R k4) ([[.int .i64 (IntKind.i64.wrap (0-x7))]]:List (List Value)) [(IntKind.i64.wrap (0-x7))] from⟨⟨rfl,(N0 _)⟩,trivial⟩)),aA⟩ (nS _)))))
 ·replace aA:=ifN aA aG
  have hE:=oJ aA;subst hE
  try dsimp only[T0,V0]at aB
  intro v9 k10 f11
  obtain⟨az12,cz12,rfl,rz12,sz12,lz12⟩:=Z0.out (r:=Wp.int.toRp) f11 fu3
  have hE:=oJ aB;subst hE
  exact⟨az12,u3.length,cz12,rfl,rz12,(aH.trans sz12)⟩
theorem W01(h:Hp)(ap0:Option Addr)(np0 cp0:Nat)(p0:C0)(rp0:J0.R h [.slice ap0 np0 cp0] p0)(r:C0)(aB:o6 p0=some r):
  Tr Tryz.prog 123 #[.slice ap0 np0 cp0] h fun v h'=>∃(a0:Option Addr) (n0 c0:Nat),v = .slice a0 n0 c0∧J0.R h' [.slice a0 n0 c0] r∧Sub h h':=by
 obtain⟨rfl,lp0⟩:=Sl.len rp0
 unfold o6 at aB
 refine Y1 (args:=[.slice ap0 p0.length cp0]) (fn:=Tryz.f123) rfl ?_
 obtain⟨X1,aL,aB⟩:=l0 aB
 refine eX { vars:=[4],boxes:=[],owns:=[0],fuel:=true } (eX (fun vs os h'=>∃(u2:Int) (wu3:List (List Value)) (u3:List Int),vs.tail = [.int .i64 u2]∧os = [wu3]∧Sub h h'∧M0 u2∧F2 (Wp.int.R h') wu3 u3∧I3 p0 (K1 vs) u2 u3=some X1) (eX (fun _ _=>0) ?_))
 refine aI (eX S0 ⟨0,[],([]:C0),rfl,rfl,(Sub.refl _),(by decide),(show F2 (Wp.int.R h) ([]:List (List Value)) ([]:C0) from trivial),aL⟩) ?_
 rintro v_0 wu3 m5 k4 ⟨u2,zzu3,u3,aM,aN,aD,iu2,fu3,aA⟩
 cases aM
 cases aN
 replace aA:I3 p0 m5 u2 u3=some X1:=aA
 obtain _|m5:=m5
 ·cases (show(none:Option _)=some X1 from aA)
 rw[I3.eq_2]at aA
 refine aI (fun aO=>?_) (fun aO=>?_)
 ·replace aA:=ifP aA aO
  obtain⟨m7,gm7,aA⟩:=l0 aA
  obtain rfl:wu3.length=m7:=(F2.length fu3).trans (oJ gm7)
  obtain⟨q8,bR,aA⟩:=l0 aA
  refine Or.inl (aI (aI (by kernel_rfl) (by kernel_rfl)) ?_)
  obtain⟨x9,bK,aA⟩:=l0 aA
  obtain⟨bL,bE,bM⟩:=Sl.getG (r:=Wp.int.toRp) (J0.mono aD rp0) bK (by decide) (c04 k4)
  refine aI (fun q=>(bE q).1) ?_
  obtain⟨rfl,bS⟩:=bM
  refine eX _ (aI (fun q=>(bE q).2) ?_)
  obtain⟨x10,aP,aA⟩:=l0 aA
  obtain⟨bF,aF,aQ⟩:=Q03 fu3 aP (c04 k4)
  refine aI (fun q=>(aF q).1) ?_
  obtain⟨rfl,bN⟩:=aQ
  refine eX _ (aI (fun q=>(aF q).2) ?_)
  obtain⟨x11,aR,aA⟩:=l0 aA
  obtain⟨bG,aG,aS⟩:=Sl.getG (r:=Wp.int.toRp) (J0.mono aD rp0) aR (by decide) (c04 k4)
  refine aI (fun q=>(aG q).1) ?_
  obtain⟨rfl,bO⟩:=aS
  refine eX _ (aI (fun q=>(aG q).2) ?_)
  obtain⟨x12,aT,aA⟩:=l0 aA
  obtain⟨bH,aH,aU⟩:=Q03 fu3 aT (c04 k4)
  refine aI (fun q=>(aH q).1) ?_
  obtain⟨rfl,bP⟩:=aU
  refine eX _ (aI (fun q=>(aH q).2) ?_)
  obtain⟨x13,aV,aA⟩:=l0 aA
  obtain⟨bI,aJ,aW⟩:=Sl.getG (r:=Wp.int.toRp) (J0.mono aD rp0) aV (by decide) (c04 k4)
  refine aI (fun q=>(aJ q).1) ?_
  obtain⟨rfl,bQ⟩:=aW
  refine eX _ (aI (fun q=>(aJ q).2) ?_)
  refine aI (fun aC=>?_) (fun aC=>?_)
  ·replace aA:=ifP aA aC
   obtain⟨q15,aX,aA⟩:=l0 aA
   refine aI (by have:=O1 aX;have:=F2.length fu3;omega) ?_
   refine aI rfl (aI (by trivial) (aI (by trivial) (eX m5 (aI ⟨(IntKind.i64.wrap (u2+1)),(wu3.take (IntKind.i64.wrap (((wu3.length:Nat):Int)-1)).toNat),(u3.take (IntKind.i64.wrap (((wu3.length:Nat):Int)-1)).toNat),rfl,rfl,aD,(N0 _),(F2.take (IntKind.i64.wrap (((wu3.length:Nat):Int)-1)).toNat fu3),aA⟩ (nS _)))))
  ·replace aA:=ifN aA aC
   obtain⟨x16,aY,aA⟩:=l0 aA
   obtain⟨aZ,bJ,bA,bB⟩:=Sl.getI (r:=Wp.int.toRp) (J0.mono aD rp0) aY (by decide)
   refine aI aZ ?_
   obtain⟨rfl,aK⟩:=bB
   refine eX _ (aI bA ?_)
   obtain⟨q17,bC,aA⟩:=l0 aA
   refine aI (L1 bC (by first|rw[F2.length fu3,F2.length (show F2 (Wp.int.R k4) ([[.int .i64 x16]]:List (List Value)) [x16] from⟨⟨rfl,aK⟩,trivial⟩)]|exact congrArg (·+1) (F2.length fu3))) ?_
   refine aI rfl (aI (by trivial) (aI (by trivial) (eX m5 (aI ⟨(IntKind.i64.wrap (u2+1)),(wu3++([[.int .i64 x16]]:List (List Value))),(u3 ++ [x16]),rfl,rfl,aD,(N0 _),(F2.append fu3 (show F2 (Wp.int.R k4) ([[.int .i64 x16]]:List (List Value)) [x16] from⟨⟨rfl,aK⟩,trivial⟩)),aA⟩ (nS _)))))
 ·replace aA:=ifN aA aO
  have hE:=oJ aA;subst hE
  try dsimp only[T0,V0]at aB
  obtain⟨q18,bD,aB⟩:=l0 aB
  refine aI (L1 bD (by first|rw[F2.length (show F2 (Wp.int.R k4) ([]:List (List Value)) ([]:C0) from trivial),F2.length fu3]|exact congrArg (·+0) (F2.length (show F2 (Wp.int.R k4) ([]:List (List Value)) ([]:C0) from trivial)))) ?_
  intro v19 k20 f21
  obtain⟨az22,cz22,rfl,rz22,sz22,lz22⟩:=Z0.out (r:=Wp.int.toRp) f21 (F2.append (show F2 (Wp.int.R k4) ([]:List (List Value)) ([]:C0) from trivial) fu3)
  have hE:=oJ aB;subst hE
  exact⟨az22,((([]:C0)++u3)).length,cz22,rfl,rz22,(aD.trans sz22)⟩
theorem W03(h:Hp)(ap0:Option Addr)(np0 cp0:Nat)(p0:C0)(rp0:J0.R h [.slice ap0 np0 cp0] p0)(ap1:Option Addr)(np1 cp1:Nat)(p1:C0)(rp1:J0.R h [.slice ap1 np1 cp1] p1)(r:C0)(aA:U8 p0 p1=some r):
  Tr Tryz.prog 180 #[.slice ap0 np0 cp0,.slice ap1 np1 cp1] h fun v h'=>∃(a0:Option Addr) (n0 c0:Nat),v = .slice a0 n0 c0∧J0.R h' [.slice a0 n0 c0] r∧Sub h h':=by
 obtain⟨rfl,lp0⟩:=Sl.len rp0
 obtain⟨rfl,lp1⟩:=Sl.len rp1
 unfold U8 at aA
 refine Y1 (args:=[.slice ap0 p0.length cp0,.slice ap1 p1.length cp1]) (fn:=Tryz.f180) rfl ?_
 obtain⟨vsy1,ey1,fy1⟩:=Sl.rows (r:=Wp.int.toRp) rp0
 refine eX vsy1 (aI ey1 ?_)
 obtain⟨q2,aC,aA⟩:=l0 aA
 refine aI (L1 aC (by first|rw[F2.length (show F2 (Wp.int.R h) ([]:List (List Value)) ([]:C0) from trivial),F2.length fy1]|exact congrArg (·+1) (F2.length (show F2 (Wp.int.R h) ([]:List (List Value)) ([]:C0) from trivial)))) ?_
 obtain⟨vsy3,ey3,fy3⟩:=Sl.rows (r:=Wp.int.toRp) rp1
 refine eX vsy3 (aI ey3 ?_)
 obtain⟨q4,aD,aA⟩:=l0 aA
 refine aI (L1 aD (by first|rw[F2.length (F2.append (show F2 (Wp.int.R h) ([]:List (List Value)) ([]:C0) from trivial) fy1),F2.length fy3]|exact congrArg (·+1) (F2.length (F2.append (show F2 (Wp.int.R h) ([]:List (List Value)) ([]:C0) from trivial) fy1)))) ?_
 refine Or.inl ?_
 intro v5 k6 f7
 obtain⟨az8,cz8,rfl,rz8,sz8,lz8⟩:=Z0.out (r:=Wp.int.toRp) f7 (F2.append (F2.append (show F2 (Wp.int.R h) ([]:List (List Value)) ([]:C0) from trivial) fy1) fy3)
 obtain⟨x9,aF,aA⟩:=l0 aA
 refine Tr.mono (W01 _ az8 (((([]:C0)++p0)++p1)).length cz8 ((([]:C0)++p0)++p1) rz8 _  aF) ?_
 rintro v11 k10 ⟨aG,aK,aH,rfl,aB,aJ⟩
 obtain⟨rfl,aL⟩:=Sl.len aB
 have hE:=oJ aA;subst hE
 exact⟨aG,x9.length,aH,rfl,aB,(sz8.trans aJ)⟩
theorem f03(h:Hp)(ap0:Option Addr)(np0 cp0:Nat)(p0:C0)(rp0:J0.R h [.slice ap0 np0 cp0] p0)(r:C0)(aB:R7 p0=some r):
  Tr Tryz.prog 82 #[.slice ap0 np0 cp0] h fun v h'=>∃(a0:Option Addr) (n0 c0:Nat),v = .slice a0 n0 c0∧New J0 h h' [.slice a0 n0 c0] r:=by
 obtain⟨rfl,lp0⟩:=Sl.len rp0
 unfold R7 at aB
 refine Y1 (args:=[.slice ap0 p0.length cp0]) (fn:=Tryz.f82) rfl ?_
 obtain⟨q1,aJ,aB⟩:=l0 aB
 refine aI (O1 aJ) ?_
 obtain⟨X2,aC,aB⟩:=l0 aB
 refine eX { vars:=[4],boxes:=[],owns:=[0],fuel:=true } (eX (fun vs os h'=>∃(u3:Int) (wu4:List (List Value)) (u4:List Int),vs.tail = [.int .i64 u3]∧os = [wu4]∧Sub h h'∧M0 u3∧F2 (Wp.int.R h') wu4 u4∧G6 p0 (K1 vs) u3 u4=some X2) (eX (fun _ _=>0) ?_))
 refine aI (eX S0 ⟨(IntKind.i64.wrap (((p0.length:Nat):Int)-1)),(List.replicate (0:Int).toNat ([.int .i64 0]:List Value)),(List.replicate (0:Int).toNat (0:Int)),rfl,rfl,(Sub.refl _),(N0 _),(F2.rep (p:=Wp.int.R h) (a:=[.int .i64 0]) (b:=0) ⟨rfl,(by decide)⟩ ((0:Int).toNat)),aC⟩) ?_
 rintro v_0 wu4 m6 k5 ⟨u3,zzu4,u4,aD,aF,aG,iu3,fu4,aA⟩
 cases aD
 cases aF
 replace aA:G6 p0 m6 u3 u4=some X2:=aA
 obtain _|m6:=m6
 ·cases (show(none:Option _)=some X2 from aA)
 rw[G6.eq_2]at aA
 refine aI (fun aH=>?_) (fun aH=>?_)
 ·replace aA:=ifP aA aH
  obtain⟨x8,aK,aA⟩:=l0 aA
  obtain⟨aL,aM,aN,aO⟩:=Sl.getI (r:=Wp.int.toRp) (J0.mono aG rp0) aK (by decide)
  refine aI aL ?_
  obtain⟨rfl,aQ⟩:=aO
  refine eX _ (aI aN ?_)
  obtain⟨q9,aP,aA⟩:=l0 aA
  refine aI (L1 aP (by first|rw[F2.length fu4,F2.length (show F2 (Wp.int.R k5) ([[.int .i64 (IntKind.i64.wrap (0-x8))]]:List (List Value)) [(IntKind.i64.wrap (0-x8))] from⟨⟨rfl,(N0 _)⟩,trivial⟩)]|exact congrArg (·+1) (F2.length fu4))) ?_
  refine aI rfl (aI (by trivial) (aI (by trivial) (eX m6 (aI ⟨(IntKind.i64.wrap (u3-1)),(wu4++([[.int .i64 (IntKind.i64.wrap (0-x8))]]:List (List Value))),(u4 ++ [(IntKind.i64.wrap (0-x8))]),rfl,rfl,aG,(N0 _),(F2.append fu4 (show F2 (Wp.int.R k5) ([[.int .i64 (IntKind.i64.wrap (0-x8))]]:List (List Value)) [(IntKind.i64.wrap (0-x8))] from⟨⟨rfl,(N0 _)⟩,trivial⟩)),aA⟩ (nS _)))))
 ·replace aA:=ifN aA aH
  have hE:=oJ aA;subst hE
  try dsimp only[T0,V0]at aB
  intro v10 k11 f12
  obtain⟨az13,cz13,rfl,rz13,sz13,lz13⟩:=Z0.out (r:=Wp.int.toRp) f12 fu4
  have hE:=oJ aB;subst hE
  exact⟨az13,u4.length,cz13,rfl,(New.from (Z0.newPlain (r:=Wp.int) f12 fu4 (a06 _)) aG)⟩
theorem U04(h:Hp)(ap0:Option Addr)(np0 cp0:Nat)(p0:P1)(rp0:Q2.R h [.slice ap0 np0 cp0] p0)(r:C0)(aG:V8 p0=some r):
  Tr Tryz.prog 139 #[.slice ap0 np0 cp0] h fun v h'=>∃(a0:Option Addr) (n0 c0:Nat),v = .slice a0 n0 c0∧New J0 h h' [.slice a0 n0 c0] r:=by
 obtain⟨rfl,lp0⟩:=Sl.len rp0
 unfold V8 at aG
 refine Y1 (args:=[.slice ap0 p0.length cp0]) (fn:=Tryz.f139) rfl ?_
 obtain⟨X1,aK,aG⟩:=l0 aG
 refine eX { vars:=[11],boxes:=[],owns:=[0],fuel:=true } (eX (fun vs os h'=>∃(u2:Int) (wu3:List (List Value)) (u3:List Int),vs.tail = [.int .i64 u2]∧os = [wu3]∧Sub h h'∧M0 u2∧F2 (Wp.int.R h') wu3 u3∧G7 p0 (K1 vs) u2 u3=some X1) (eX (fun _ _=>0) ?_))
 refine aI (eX S0 ⟨0,[],([]:C0),rfl,rfl,(Sub.refl _),(by decide),(show F2 (Wp.int.R h) ([]:List (List Value)) ([]:C0) from trivial),aK⟩) ?_
 rintro v_0 wu3 m5 k4 ⟨u2,zzu3,u3,aL,aM,bC,iu2,fu3,aB⟩
 cases aL
 cases aM
 replace aB:G7 p0 m5 u2 u3=some X1:=aB
 obtain _|m5:=m5
 ·cases (show(none:Option _)=some X1 from aB)
 rw[G7.eq_2]at aB
 refine aI (fun aN=>?_) (fun aN=>?_)
 ·replace aB:=ifP aB aN
  obtain⟨x7,bF,aB⟩:=l0 aB
  obtain⟨bG,bH,bI,aO⟩:=Sl.getI (r:=J0.toRp) (Q2.mono bC rp0) bF (by decide)
  refine aI bG ?_
  obtain⟨bM,bN,bO,rfl⟩:=Wp.slice_cell aO
  obtain⟨rfl,bP⟩:=Sl.len aO
  refine eX _ (aI bI ?_)
  obtain⟨X8,aP,aB⟩:=l0 aB
  refine eX { vars:=[17],boxes:=[],owns:=[0],fuel:=true } (eX (fun vs os h'=>∃(u9:Int) (wu10:List (List Value)) (u10:List Int),vs.tail = [.int .i64 u9]∧os = [wu10]∧Sub k4 h'∧M0 u9∧F2 (Wp.int.R h') wu10 u10∧D6 x7 (K1 vs) u9 u10=some X8) (eX (fun _ _=>0) ?_))
  refine aI (eX S0 ⟨0,wu3,u3,rfl,rfl,(Sub.refl _),(by decide),fu3,aP⟩) ?_
  rintro v_0 wu10 m12 k11 ⟨u9,zzu10,u10,aQ,aR,aJ,iu9,fu10,aA⟩
  cases aQ
  cases aR
  replace aA:D6 x7 m12 u9 u10=some X8:=aA
  obtain _|m12:=m12
  ·cases (show(none:Option _)=some X8 from aA)
  rw[D6.eq_2]at aA
  refine aI (fun aC=>?_) (fun aC=>?_)
  ·replace aA:=ifP aA aC
   obtain⟨x14,aS,aA⟩:=l0 aA
   obtain⟨aT,bD,aU,aV⟩:=Sl.getI (r:=Wp.int.toRp) (J0.mono aJ aO) aS (by decide)
   refine aI aT ?_
   obtain⟨rfl,aD⟩:=aV
   refine eX _ (aI aU ?_)
   obtain⟨m15,gm15,aA⟩:=l0 aA
   obtain rfl:wu10.length=m15:=(F2.length fu10).trans (oJ gm15)
   obtain⟨q16,bJ,aA⟩:=l0 aA
   obtain⟨m17,gm17,aA⟩:=l0 aA
   obtain rfl:wu10.length=m17:=(F2.length fu10).trans (oJ gm17)
   obtain⟨q18,bK,aA⟩:=l0 aA
   obtain⟨x19,aW,aA⟩:=l0 aA
   obtain⟨bE,aH,aX⟩:=Q03 fu10 aW (c04 k11)
   refine aI (fun q=>(aH q).1) ?_
   obtain⟨rfl,aY⟩:=aX
   refine eX _ (aI (fun q=>(aH q).2) ?_)
   obtain⟨x20,aZ,aA⟩:=l0 aA
   refine eX (.bool x20) (aI (fun q=>u05 _ x19 aY x14 aD _  (F1 aZ q)) ?_)
   refine aI (fun aF=>?_) (fun aF=>?_)
   ·replace aA:=ifP aA aF
    obtain⟨m22,gm22,aA⟩:=l0 aA
    obtain rfl:wu10.length=m22:=(F2.length fu10).trans (oJ gm22)
    obtain⟨q23,bL,aA⟩:=l0 aA
    obtain⟨q24,bA,aA⟩:=l0 aA
    refine aI (by have:=O1 bA;have:=F2.length fu10;omega) ?_
    refine aI rfl (aI (by trivial) (aI (by trivial) (eX m12 (aI ⟨(IntKind.i64.wrap (u9+1)),(wu10.take (IntKind.i64.wrap (((wu10.length:Nat):Int)-1)).toNat),(u10.take (IntKind.i64.wrap (((wu10.length:Nat):Int)-1)).toNat),rfl,rfl,aJ,(N0 _),(F2.take (IntKind.i64.wrap (((wu10.length:Nat):Int)-1)).toNat fu10),aA⟩ (nS _)))))
   ·replace aA:=ifN aA aF
    obtain⟨q25,bB,aA⟩:=l0 aA
    refine aI (L1 bB (by first|rw[F2.length fu10,F2.length (show F2 (Wp.int.R k11) ([[.int .i64 x14]]:List (List Value)) [x14] from⟨⟨rfl,aD⟩,trivial⟩)]|exact congrArg (·+1) (F2.length fu10))) ?_
    refine aI rfl (aI (by trivial) (aI (by trivial) (eX m12 (aI ⟨(IntKind.i64.wrap (u9+1)),(wu10++([[.int .i64 x14]]:List (List Value))),(u10 ++ [x14]),rfl,rfl,aJ,(N0 _),(F2.append fu10 (show F2 (Wp.int.R k11) ([[.int .i64 x14]]:List (List Value)) [x14] from⟨⟨rfl,aD⟩,trivial⟩)),aA⟩ (nS _)))))
  ·replace aA:=ifN aA aC
   have hE:=oJ aA;subst hE
   try dsimp only[T0,V0]at aB
   refine aI rfl (aI (by trivial) (aI (by trivial) (eX m5 (aI ⟨(IntKind.i64.wrap (u2+1)),wu10,u10,rfl,rfl,(bC.trans aJ),(N0 _),fu10,aB⟩ (nS _)))))
 ·replace aB:=ifN aB aN
  have hE:=oJ aB;subst hE
  try dsimp only[T0,V0]at aG
  intro v30 k31 f32
  obtain⟨az33,cz33,rfl,rz33,sz33,lz33⟩:=Z0.out (r:=Wp.int.toRp) f32 fu3
  have hE:=oJ aG;subst hE
  exact⟨az33,u3.length,cz33,rfl,(New.from (Z0.newPlain (r:=Wp.int) f32 fu3 (a06 _)) bC)⟩
theorem L0a(h:Hp)(ap0:Option Addr)(np0 cp0:Nat)(p0:C0)(rp0:J0.R h [.slice ap0 np0 cp0] p0)(ap1:Option Addr)(np1 cp1:Nat)(p1:C0)(rp1:J0.R h [.slice ap1 np1 cp1] p1)(r:Bool)(aB:c9 p0 p1=some r):
  Tr Tryz.prog 62 #[.slice ap0 np0 cp0,.slice ap1 np1 cp1] h fun v h'=>v = .bool r∧h'=h:=by
 obtain⟨rfl,lp0⟩:=Sl.len rp0
 obtain⟨rfl,lp1⟩:=Sl.len rp1
 unfold c9 at aB
 refine Tr.forget (Y1 (args:=[.slice ap0 p0.length cp0,.slice ap1 p1.length cp1]) (fn:=Tryz.f62) rfl ?_)
 refine aI (fun aD=>?_) (fun aD=>?_)
 ·replace aB:=ifP aB aD
  have hE:=oJ aB;subst hE
  exact aI rfl (Sub.refl _)
 ·replace aB:=ifN aB aD
  obtain⟨X2,aF,aB⟩:=l0 aB
  refine eX { vars:=[5],boxes:=[],owns:=[],fuel:=true } (eX (fun vs os h'=>∃(u3:Int),vs.tail = [.int .i64 u3]∧os = []∧Sub h h'∧M0 u3∧R3 p0 p1 (K1 vs) u3=some X2) (eX (fun _ _=>0) ?_))
  refine aI (eX S0 ⟨0,rfl,rfl,(Sub.refl _),(by decide),aF⟩) ?_
  rintro v_0 m5 k4 ⟨u3,aG,aH,aC,iu3,aA⟩
  cases aG
  cases aH
  replace aA:R3 p0 p1 m5 u3=some X2:=aA
  obtain _|m5:=m5
  ·cases (show(none:Option _)=some X2 from aA)
  rw[R3.eq_2]at aA
  refine aI (fun aJ=>?_) (fun aJ=>?_)
  ·replace aA:=ifP aA aJ
   refine Or.inl (aI (aI (by kernel_rfl) (by kernel_rfl)) ?_)
   obtain⟨x7,aL,aA⟩:=l0 aA
   obtain⟨aM,aN,aO,aP⟩:=Sl.getI (r:=Wp.int.toRp) (J0.mono aC rp0) aL (by decide)
   refine aI aM ?_
   obtain⟨rfl,aV⟩:=aP
   refine eX _ (aI aO ?_)
   obtain⟨x8,aQ,aA⟩:=l0 aA
   obtain⟨aR,aS,aT,aU⟩:=Sl.getI (r:=Wp.int.toRp) (J0.mono aC rp1) aQ (by decide)
   refine aI aR ?_
   obtain⟨rfl,aW⟩:=aU
   refine eX _ (aI aT ?_)
   refine aI (fun aK=>?_) (fun aK=>?_)
   ·replace aA:=ifP aA aK
    have hE:=oJ aA;subst hE
    try dsimp only[S3,W3]at aB
    have hE:=oJ aB;subst hE
    exact aI rfl aC
   ·replace aA:=ifN aA aK
    refine aI rfl (aI (by trivial) (aI (by trivial) (eX m5 (aI ⟨(IntKind.i64.wrap (u3+1)),rfl,rfl,aC,(N0 _),aA⟩ (nS _)))))
  ·replace aA:=ifN aA aJ
   have hE:=oJ aA;subst hE
   try dsimp only[T0,V0]at aB
   have hE:=oJ aB;subst hE
   exact aI rfl aC
theorem M0a(h:Hp)(ap0:Option Addr)(np0 cp0:Nat)(p0:C0)(rp0:J0.R h [.slice ap0 np0 cp0] p0)(ap1:Option Addr)(np1 cp1:Nat)(p1:C0)(rp1:J0.R h [.slice ap1 np1 cp1] p1)(r:Bool)(aB:p00 p0 p1=some r):
  Tr Tryz.prog 76 #[.slice ap0 np0 cp0,.slice ap1 np1 cp1] h fun v h'=>v = .bool r∧h'=h:=by
 obtain⟨rfl,lp0⟩:=Sl.len rp0
 obtain⟨rfl,lp1⟩:=Sl.len rp1
 unfold p00 at aB
 refine Tr.forget (Y1 (args:=[.slice ap0 p0.length cp0,.slice ap1 p1.length cp1]) (fn:=Tryz.f76) rfl ?_)
 refine aI (fun aD=>?_) (fun aD=>?_)
 ·replace aB:=ifP aB aD
  have hE:=oJ aB;subst hE
  exact aI rfl (Sub.refl _)
 ·replace aB:=ifN aB aD
  obtain⟨X2,aF,aB⟩:=l0 aB
  refine eX { vars:=[13],boxes:=[],owns:=[],fuel:=true } (eX (fun vs os h'=>∃(u3:Int),vs.tail = [.int .i64 u3]∧os = []∧Sub h h'∧M0 u3∧H6 p0 p1 (K1 vs) u3=some X2) (eX (fun _ _=>0) ?_))
  refine aI (eX S0 ⟨0,rfl,rfl,(Sub.refl _),(by decide),aF⟩) ?_
  rintro v_0 m5 k4 ⟨u3,aG,aH,aC,iu3,aA⟩
  cases aG
  cases aH
  replace aA:H6 p0 p1 m5 u3=some X2:=aA
  obtain _|m5:=m5
  ·cases (show(none:Option _)=some X2 from aA)
  rw[H6.eq_2]at aA
  refine aI (fun aJ=>?_) (fun aJ=>?_)
  ·replace aA:=ifP aA aJ
   refine Or.inl (aI (aI (by kernel_rfl) (by kernel_rfl)) ?_)
   obtain⟨x7,aL,aA⟩:=l0 aA
   obtain⟨aM,aN,aO,aP⟩:=Sl.getI (r:=Wp.int.toRp) (J0.mono aC rp0) aL (by decide)
   refine aI aM ?_
   obtain⟨rfl,aV⟩:=aP
   refine eX _ (aI aO ?_)
   obtain⟨x8,aQ,aA⟩:=l0 aA
   obtain⟨aR,aS,aT,aU⟩:=Sl.getI (r:=Wp.int.toRp) (J0.mono aC rp1) aQ (by decide)
   refine aI aR ?_
   obtain⟨rfl,aW⟩:=aU
   refine eX _ (aI aT ?_)
   refine aI (fun aK=>?_) (fun aK=>?_)
   ·replace aA:=ifP aA aK
    have hE:=oJ aA;subst hE
    try dsimp only[S3,W3]at aB
    have hE:=oJ aB;subst hE
    exact aI rfl aC
   ·replace aA:=ifN aA aK
    refine aI rfl (aI (by trivial) (aI (by trivial) (eX m5 (aI ⟨(IntKind.i64.wrap (u3+1)),rfl,rfl,aC,(N0 _),aA⟩ (nS _)))))
  ·replace aA:=ifN aA aJ
   have hE:=oJ aA;subst hE
   try dsimp only[T0,V0]at aB
   have hE:=oJ aB;subst hE
   exact aI rfl aC
theorem y0f(h:Hp)(aP:List Value)(p0:j0)(rp0:W0.R h aP p0)(aQ:List Value)(p1:H0)(rp1:P0.R h aQ p1)(r:Bool)(aA:p02 p0 p1=some r):
  Tr Tryz.prog 228 #[.agg aP.toArray,.agg aQ.toArray] h fun v h'=>v = .bool r∧h'=h:=by
 obtain⟨aC,aB,aD,aR,aF,aU,rfl,rfl,aG,aS,aH⟩:=B0 rp0
 obtain⟨rfl,aT⟩:=Sl.len aH
 obtain⟨aJ,aK,aL,rfl,rfl,aM,aN,aO⟩:=I1 rp1
 unfold p02 at aA
 dsimp only at aA
 refine Tr.forget (Y1 (args:=[.agg #[.int .i64 aC,.int .i64 aB,.slice aD aU.length aF],.agg #[.int .i64 aJ,.int .i64 aK,.int .i64 aL]]) (fn:=Tryz.f228) rfl ?_)
 obtain⟨x1,aV,aA⟩:=l0 aA
 refine Tr.val (Q4 _ aJ aM 0 (by decide) (IntKind.i64.wrap (aB-1)) (N0 _) _  aV) ?_
 obtain⟨x2,aW,aA⟩:=l0 aA
 refine eX (.bool x2) (aI (fun q=>Q4 _ aL aO 0 (by decide) (IntKind.i64.wrap (aB-1)) (N0 _) _  (F1 aW q)) ?_)
 obtain⟨x3,aX,aA⟩:=l0 aA
 refine eX (.bool x3) (aI (fun q=>Q4 _ aK aN 1 (by decide) aC aG _  (F1 aX q)) ?_)
 have hE:=oJ aA;subst hE
 exact aI rfl (Sub.refl _)
theorem g04(h:Hp)(aS:List Value)(p0:H0)(rp0:P0.R h aS p0)(aT:List Value)(p1:H0)(rp1:P0.R h aT p1)(r:Int)(aJ:V7 p0 p1=some r):
  Tr Tryz.prog 229 #[.agg aS.toArray,.agg aT.toArray] h fun v h'=>v = .int .i64 r∧h'=h:=by
 obtain⟨aB,aC,aD,rfl,rfl,aK,aL,aM⟩:=I1 rp0
 obtain⟨aF,aG,aH,rfl,rfl,aN,aO,aP⟩:=I1 rp1
 unfold V7 at aJ
 dsimp only at aJ
 refine Tr.forget (Y1 (args:=[.agg #[.int .i64 aB,.int .i64 aC,.int .i64 aD],.agg #[.int .i64 aF,.int .i64 aG,.int .i64 aH]]) (fn:=Tryz.f229) rfl ?_)
 obtain⟨X1,aU,aJ⟩:=l0 aJ
 refine eX { vars:=[7],boxes:=[],owns:=[],fuel:=true } (eX (fun vs os h'=>∃(u2:Int),vs.tail = [.int .i64 u2]∧os = []∧Sub h h'∧M0 u2∧V6 aB aC aD aF aG aH (K1 vs) u2=some X1) (eX (fun _ _=>0) ?_))
 refine aI (eX S0 ⟨0,rfl,rfl,(Sub.refl _),(by decide),aU⟩) ?_
 rintro v_0 m4 k3 ⟨u2,aV,aW,aQ,iu2,aA⟩
 cases aV
 cases aW
 replace aA:V6 aB aC aD aF aG aH m4 u2=some X1:=aA
 obtain _|m4:=m4
 ·cases (show(none:Option _)=some X1 from aA)
 rw[V6.eq_2]at aA
 refine aI (fun aX=>?_) (fun aX=>?_)
 ·replace aA:=ifP aA aX
  refine Or.inl (aI (aI (by kernel_rfl) (by kernel_rfl)) ?_)
  obtain⟨x6,bE,aA⟩:=l0 aA
  obtain⟨bF,bG,bH,bI⟩:=G4 (F2.up (r:=Wp.int.toRp) aQ (show F2 (Wp.int.R h) ([[.int .i64 aB],[.int .i64 aC],[.int .i64 aD]]:List (List Value)) [aB,aC,aD] from⟨⟨rfl,aK⟩,⟨⟨rfl,aL⟩,⟨⟨rfl,aM⟩,trivial⟩⟩⟩)) bE
  refine aI bF ?_
  obtain⟨rfl,bU⟩:=bI
  refine eX _ (aI bH ?_)
  obtain⟨x7,bJ,aA⟩:=l0 aA
  obtain⟨bK,bL,bM,bN⟩:=G4 (F2.up (r:=Wp.int.toRp) aQ (show F2 (Wp.int.R h) ([[.int .i64 aF],[.int .i64 aG],[.int .i64 aH]]:List (List Value)) [aF,aG,aH] from⟨⟨rfl,aN⟩,⟨⟨rfl,aO⟩,⟨⟨rfl,aP⟩,trivial⟩⟩⟩)) bJ
  refine aI bK ?_
  obtain⟨rfl,bV⟩:=bN
  refine eX _ (aI bM ?_)
  refine aI (fun aY=>?_) (fun aY=>?_)
  ·replace aA:=ifP aA aY
   have hE:=oJ aA;subst hE
   try dsimp only[S3,W3]at aJ
   have hE:=oJ aJ;subst hE
   exact aI rfl aQ
  ·replace aA:=ifN aA aY
   refine Or.inl (aI (aI (by kernel_rfl) (by kernel_rfl)) ?_)
   obtain⟨x9,bO,aA⟩:=l0 aA
   obtain⟨bP,bQ,bR,bS⟩:=G4 (F2.up (r:=Wp.int.toRp) aQ (show F2 (Wp.int.R h) ([[.int .i64 aB],[.int .i64 aC],[.int .i64 aD]]:List (List Value)) [aB,aC,aD] from⟨⟨rfl,aK⟩,⟨⟨rfl,aL⟩,⟨⟨rfl,aM⟩,trivial⟩⟩⟩)) bO
   refine aI bP ?_
   obtain⟨rfl,bW⟩:=bS
   refine eX _ (aI bR ?_)
   obtain⟨x10,aZ,aA⟩:=l0 aA
   obtain⟨bA,bD,bB,bC⟩:=G4 (F2.up (r:=Wp.int.toRp) aQ (show F2 (Wp.int.R h) ([[.int .i64 aF],[.int .i64 aG],[.int .i64 aH]]:List (List Value)) [aF,aG,aH] from⟨⟨rfl,aN⟩,⟨⟨rfl,aO⟩,⟨⟨rfl,aP⟩,trivial⟩⟩⟩)) aZ
   refine aI bA ?_
   obtain⟨rfl,bT⟩:=bC
   refine eX _ (aI bB ?_)
   refine aI (fun aR=>?_) (fun aR=>?_)
   ·replace aA:=ifP aA aR
    have hE:=oJ aA;subst hE
    try dsimp only[S3,W3]at aJ
    have hE:=oJ aJ;subst hE
    exact aI rfl aQ
   ·replace aA:=ifN aA aR
    refine aI rfl (aI (by trivial) (aI (by trivial) (eX m4 (aI ⟨(IntKind.i64.wrap (u2+1)),rfl,rfl,aQ,(N0 _),aA⟩ (nS _)))))
 ·replace aA:=ifN aA aX
  have hE:=oJ aA;subst hE
  try dsimp only[T0,V0]at aJ
  have hE:=oJ aJ;subst hE
  exact aI rfl aQ
theorem i7(h:Hp)(bG:List Value)(p0:j0)(rp0:W0.R h bG p0)(r:Bool)(aF:Y3 p0=some r):
  Tr Tryz.prog 183 #[.agg bG.toArray] h fun v h'=>v = .bool r∧h'=h:=by
 obtain⟨aC,aD,aG,bP,aH,aL,rfl,rfl,aJ,aK,aB⟩:=B0 rp0
 obtain⟨rfl,bQ⟩:=Sl.len aB
 unfold Y3 at aF
 dsimp only at aF
 refine Tr.forget (Y1 (args:=[.agg #[.int .i64 aC,.int .i64 aD,.slice aG aL.length aH]]) (fn:=Tryz.f183) rfl ?_)
 obtain⟨X1,bH,aF⟩:=l0 aF
 refine eX { vars:=[3],boxes:=[],owns:=[],fuel:=true } (eX (fun vs os h'=>∃(u2:Int),vs.tail = [.int .i64 u2]∧os = []∧Sub h h'∧M0 u2∧r7 aL aC aD (K1 vs) u2=some X1) (eX (fun _ _=>0) ?_))
 refine aI (eX S0 ⟨0,rfl,rfl,(Sub.refl _),(by decide),bH⟩) ?_
 rintro v_0 m4 k3 ⟨u2,bI,bJ,aM,iu2,aA⟩
 cases bI
 cases bJ
 replace aA:r7 aL aC aD m4 u2=some X1:=aA
 obtain _|m4:=m4
 ·cases (show(none:Option _)=some X1 from aA)
 rw[r7.eq_2]at aA
 refine aI (fun bK=>?_) (fun bK=>?_)
 ·replace aA:=ifP aA bK
  refine Or.inl (aI (aI (by kernel_rfl) (by kernel_rfl)) ?_)
  obtain⟨x6,bT,aA⟩:=l0 aA
  obtain⟨bU,bV,bW,bX⟩:=Sl.getI (r:=P0.toRp) (F0.mono aM aB) bT (by decide)
  refine aI bU ?_
  obtain⟨aO,aP,aQ,rfl,rfl,aR,aS,aT⟩:=I1 bX
  try dsimp only at aA
  refine eX _ (aI bW ?_)
  obtain⟨x7,bY,aA⟩:=l0 aA
  refine eX (.bool x7) (aI (y0f _ [.int .i64 aC,.int .i64 aD,.slice aG aL.length aH] (aC,aD,aL) (z0 aJ aK (F0.mono aM aB)) [.int .i64 aO,.int .i64 aP,.int .i64 aQ] (aO,aP,aQ) (D1 aR aS aT) _  bY) ?_)
  obtain⟨x8,bZ,aA⟩:=l0 aA
  obtain⟨cA,bR,cC⟩:=Sl.getG (r:=P0.toRp) (F0.mono aM aB) bZ (by decide) (A0b k3)
  refine aI (fun q=>(bR q).1) ?_
  obtain⟨aU,aV,aW,rfl,rfl,aX,aY,aZ⟩:=I1 cC
  try dsimp only at aA
  refine eX _ (aI (fun q=>(bR q).2) ?_)
  obtain⟨x9,cD,aA⟩:=l0 aA
  obtain⟨cE,bS,cG⟩:=Sl.getG (r:=P0.toRp) (F0.mono aM aB) cD (by decide) (A0b k3)
  refine aI (fun q=>(bS q).1) ?_
  obtain⟨bA,bB,bC,rfl,rfl,bD,bE,bF⟩:=I1 cG
  try dsimp only at aA
  refine eX _ (aI (fun q=>(bS q).2) ?_)
  obtain⟨x10,bL,aA⟩:=l0 aA
  refine eX (.int .i64 x10) (aI (fun q=>g04 _ [.int .i64 aU,.int .i64 aV,.int .i64 aW] (aU,aV,aW) (D1 aX aY aZ) [.int .i64 bA,.int .i64 bB,.int .i64 bC] (bA,bB,bC) (D1 bD bE bF) _  (F1 bL q)) ?_)
  obtain⟨q11,bM,aA⟩:=l0 aA
  have cH:M0 x10:=O1 bM
  refine aI (fun aN=>?_) (fun aN=>?_)
  ·replace aA:=ifP aA aN
   have hE:=oJ aA;subst hE
   try dsimp only[S3,W3]at aF
   have hE:=oJ aF;subst hE
   exact aI rfl aM
  ·replace aA:=ifN aA aN
   refine aI rfl (aI (by trivial) (aI (by trivial) (eX m4 (aI ⟨(IntKind.i64.wrap (u2+1)),rfl,rfl,aM,(N0 _),aA⟩ (nS _)))))
 ·replace aA:=ifN aA bK
  have hE:=oJ aA;subst hE
  try dsimp only[T0,V0]at aF
  obtain⟨x13,bN,aF⟩:=l0 aF
  refine Tr.val (Q4 _ aC aJ 1 (by decide) 3 (by decide) _  bN) ?_
  obtain⟨x14,bO,aF⟩:=l0 aF
  refine eX (.bool x14) (aI (fun q=>Q4 _ aD aK 1 (by decide) 40 (by decide) _  (F1 bO q)) ?_)
  have hE:=oJ aF;subst hE
  exact aI rfl aM
theorem M00(h:Hp)(aG:List Value)(p0:j0)(rp0:W0.R h aG p0)(p1:Int)(ip1:M0 p1)(r:Bool)(aA:T3 p0 p1=some r):
  Tr Tryz.prog 199 #[.agg aG.toArray,.int .i64 p1] h fun v h'=>v = .bool r∧h'=h:=by
 obtain⟨aH,aB,aC,aJ,aD,aN,rfl,rfl,aK,aL,aF⟩:=B0 rp0
 obtain⟨rfl,aM⟩:=Sl.len aF
 unfold T3 at aA
 dsimp only at aA
 refine Tr.forget (Y1 (args:=[.agg #[.int .i64 aH,.int .i64 aB,.slice aC aN.length aD],.int .i64 p1]) (fn:=Tryz.f199) rfl ?_)
 obtain⟨x1,aO,aA⟩:=l0 aA
 refine Tr.val (M7 _ p1 ip1 0 (by decide) (IntKind.i64.wrap (aB-1)) (N0 _) _  aO) ?_
 have hE:=oJ aA;subst hE
 exact aI rfl (Sub.refl _)
theorem X07(h:Hp)(aR:List Value)(p0:j0)(rp0:W0.R h aR p0)(aS:List Value)(p1:H0)(rp1:P0.R h aS p1)(r:Bool)(aH:O8 p0 p1=some r):
  Tr Tryz.prog 230 #[.agg aR.toArray,.agg aS.toArray] h fun v h'=>v = .bool r∧h'=h:=by
 obtain⟨aA,aB,aC,aT,aD,aK,rfl,rfl,aF,aJ,aG⟩:=B0 rp0
 obtain⟨rfl,aU⟩:=Sl.len aG
 obtain⟨aL,aM,aN,rfl,rfl,aO,aP,aQ⟩:=I1 rp1
 unfold O8 at aH
 dsimp only at aH
 refine Tr.forget (Y1 (args:=[.agg #[.int .i64 aA,.int .i64 aB,.slice aC aK.length aD],.agg #[.int .i64 aL,.int .i64 aM,.int .i64 aN]]) (fn:=Tryz.f230) rfl ?_)
 obtain⟨x1,aV,aH⟩:=l0 aH
 refine Tr.val (M00 _ [.int .i64 aA,.int .i64 aB,.slice aC aK.length aD] (aA,aB,aK) (z0 aF aJ aG) aL aO _  aV) ?_
 obtain⟨x2,aW,aH⟩:=l0 aH
 refine eX (.bool x2) (aI (fun q=>M00 _ [.int .i64 aA,.int .i64 aB,.slice aC aK.length aD] (aA,aB,aK) (z0 aF aJ aG) aN aQ _  (F1 aW q)) ?_)
 obtain⟨x3,aX,aH⟩:=l0 aH
 refine eX (.bool x3) (aI (fun q=>M7 _ aM aP 1 (by decide) aA aF _  (F1 aX q)) ?_)
 have hE:=oJ aH;subst hE
 exact aI rfl (Sub.refl _)
theorem h04(h:Hp)(aP:List Value)(p0:H0)(rp0:P0.R h aP p0)(aQ:List Value)(p1:H0)(rp1:P0.R h aQ p1)(r:Int)(aA:o9 p0 p1=some r):
  Tr Tryz.prog 231 #[.agg aP.toArray,.agg aQ.toArray] h fun v h'=>v = .int .i64 r∧h'=h:=by
 obtain⟨aB,aC,aD,rfl,rfl,aF,aG,aH⟩:=I1 rp0
 obtain⟨aJ,aK,aL,rfl,rfl,aM,aN,aO⟩:=I1 rp1
 unfold o9 at aA
 dsimp only at aA
 refine Tr.forget (Y1 (args:=[.agg #[.int .i64 aB,.int .i64 aC,.int .i64 aD],.agg #[.int .i64 aJ,.int .i64 aK,.int .i64 aL]]) (fn:=Tryz.f231) rfl ?_)
 obtain⟨x1,aT,aA⟩:=l0 aA
 refine Tr.val (G02 _ aB aF aJ aM _  aT) ?_
 obtain⟨q2,aU,aA⟩:=l0 aA
 have aZ:M0 x1:=O1 aU
 refine aI (fun aR=>?_) (fun aR=>?_)
 ·replace aA:=ifP aA aR
  have hE:=oJ aA;subst hE
  exact aI rfl (Sub.refl _)
 ·replace aA:=ifN aA aR
  obtain⟨x4,aV,aA⟩:=l0 aA
  refine Tr.val (G02 _ aC aG aK aN _  aV) ?_
  obtain⟨q5,aW,aA⟩:=l0 aA
  have bA:M0 x4:=O1 aW
  refine aI (fun aS=>?_) (fun aS=>?_)
  ·replace aA:=ifP aA aS
   have hE:=oJ aA;subst hE
   exact aI rfl (Sub.refl _)
  ·replace aA:=ifN aA aS
   obtain⟨x7,aX,aA⟩:=l0 aA
   refine Tr.val (G02 _ aD aH aL aO _  aX) ?_
   obtain⟨q8,aY,aA⟩:=l0 aA
   have bB:M0 x7:=O1 aY
   have hE:=oJ aA;subst hE
   exact aI rfl (Sub.refl _)
theorem N00(h:Hp)(bB:List Value)(p0:j0)(rp0:W0.R h bB p0)(r:Bool)(aB:g7 p0=some r):
  Tr Tryz.prog 188 #[.agg bB.toArray] h fun v h'=>v = .bool r∧h'=h:=by
 obtain⟨aD,aF,aK,bM,aL,aU,rfl,rfl,aM,aN,aC⟩:=B0 rp0
 obtain⟨rfl,bN⟩:=Sl.len aC
 unfold g7 at aB
 dsimp only at aB
 refine Tr.forget (Y1 (args:=[.agg #[.int .i64 aD,.int .i64 aF,.slice aK aU.length aL]]) (fn:=Tryz.f188) rfl ?_)
 obtain⟨x1,bP,aB⟩:=l0 aB
 refine Tr.val (M7 _ aD aM 1 (by decide) 3 (by decide) _  bP) ?_
 obtain⟨x2,bQ,aB⟩:=l0 aB
 refine eX (.bool x2) (aI (fun q=>M7 _ aF aN 1 (by decide) 40 (by decide) _  (F1 bQ q)) ?_)
 refine aI (fun bC=>?_) (fun bC=>?_)
 ·replace aB:=ifP aB bC
  have hE:=oJ aB;subst hE
  exact aI rfl (Sub.refl _)
 ·replace aB:=ifN aB bC
  obtain⟨X4,bD,aB⟩:=l0 aB
  refine eX { vars:=[24],boxes:=[],owns:=[],fuel:=true } (eX (fun vs os h'=>∃(u5:Int),vs.tail = [.int .i64 u5]∧os = []∧Sub h h'∧M0 u5∧t7 aU aD aF (K1 vs) u5=some X4) (eX (fun _ _=>0) ?_))
  refine aI (eX S0 ⟨0,rfl,rfl,(Sub.refl _),(by decide),bD⟩) ?_
  rintro v_0 m7 k6 ⟨u5,bE,bF,aZ,iu5,aA⟩
  cases bE
  cases bF
  replace aA:t7 aU aD aF m7 u5=some X4:=aA
  obtain _|m7:=m7
  ·cases (show(none:Option _)=some X4 from aA)
  rw[t7.eq_2]at aA
  refine aI (fun bG=>?_) (fun bG=>?_)
  ·replace aA:=ifP aA bG
   obtain⟨x9,bR,aA⟩:=l0 aA
   obtain⟨bS,bT,bU,bV⟩:=Sl.getI (r:=P0.toRp) (F0.mono aZ aC) bR (by decide)
   refine aI bS ?_
   obtain⟨aG,aH,aJ,rfl,rfl,aO,aP,aQ⟩:=I1 bV
   try dsimp only at aA
   refine eX _ (aI bU ?_)
   refine Or.inl (aI (aI (by kernel_rfl) (by kernel_rfl)) ?_)
   obtain⟨x10,bH,aA⟩:=l0 aA
   refine eX (.bool x10) (aI (X07 _ [.int .i64 aD,.int .i64 aF,.slice aK aU.length aL] (aD,aF,aU) (z0 aM aN (F0.mono aZ aC)) [.int .i64 aG,.int .i64 aH,.int .i64 aJ] (aG,aH,aJ) (D1 aO aP aQ) _  bH) ?_)
   obtain⟨x11,bI,aA⟩:=l0 aA
   obtain⟨bO,bA,bJ⟩:=Sl.getG (r:=P0.toRp) (F0.mono aZ aC) bI (by decide) (A0b k6)
   refine aI (fun q=>(bA q).1) ?_
   obtain⟨aR,aS,aT,rfl,rfl,aV,aW,aX⟩:=I1 bJ
   try dsimp only at aA
   refine eX _ (aI (fun q=>(bA q).2) ?_)
   obtain⟨x12,bK,aA⟩:=l0 aA
   refine eX (.int .i64 x12) (aI (fun q=>h04 _ [.int .i64 aR,.int .i64 aS,.int .i64 aT] (aR,aS,aT) (D1 aV aW aX) [.int .i64 aG,.int .i64 aH,.int .i64 aJ] (aG,aH,aJ) (D1 aO aP aQ) _  (F1 bK q)) ?_)
   obtain⟨q13,bL,aA⟩:=l0 aA
   have bW:M0 x12:=O1 bL
   refine aI (fun aY=>?_) (fun aY=>?_)
   ·replace aA:=ifP aA aY
    have hE:=oJ aA;subst hE
    try dsimp only[S3,W3]at aB
    have hE:=oJ aB;subst hE
    exact aI rfl aZ
   ·replace aA:=ifN aA aY
    refine aI rfl (aI (by trivial) (aI (by trivial) (eX m7 (aI ⟨(IntKind.i64.wrap (u5+1)),rfl,rfl,aZ,(N0 _),aA⟩ (nS _)))))
  ·replace aA:=ifN aA bG
   have hE:=oJ aA;subst hE
   try dsimp only[T0,V0]at aB
   have hE:=oJ aB;subst hE
   exact aI rfl aZ
theorem g02(h:Hp)(ap0:Option Addr)(np0 cp0:Nat)(p0:C0)(rp0:J0.R h [.slice ap0 np0 cp0] p0)(p1:Int)(ip1:M0 p1)(r:C0)(aB:H8 p0 p1=some r):
  Tr Tryz.prog 254 #[.slice ap0 np0 cp0,.int .i64 p1] h fun v h'=>∃(a0:Option Addr) (n0 c0:Nat),v = .slice a0 n0 c0∧J0.R h' [.slice a0 n0 c0] r∧Sub h h':=by
 obtain⟨rfl,lp0⟩:=Sl.len rp0
 unfold H8 at aB
 refine Y1 (args:=[.slice ap0 p0.length cp0,.int .i64 p1]) (fn:=Tryz.f254) rfl ?_
 obtain⟨X1,aM,aB⟩:=l0 aB
 refine eX { vars:=[6,7],boxes:=[],owns:=[0],fuel:=true } (eX (fun vs os h'=>∃(u2:Bool) (u3:Int) (wu4:List (List Value)) (u4:List Int),vs.tail = [.bool u2,.int .i64 u3]∧os = [wu4]∧Sub h h'∧M0 u3∧F2 (Wp.int.R h') wu4 u4∧Z3 p0 p1 (K1 vs) u2 u3 u4=some X1) (eX (fun _ _=>0) ?_))
 refine aI (eX S0 ⟨false,0,[],([]:C0),rfl,rfl,(Sub.refl _),(by decide),(show F2 (Wp.int.R h) ([]:List (List Value)) ([]:C0) from trivial),aM⟩) ?_
 rintro v_0 v_1 wu4 m6 k5 ⟨u2,u3,zzu4,u4,aN,aO,aC,iu3,fu4,aA⟩
 cases aN
 cases aO
 replace aA:Z3 p0 p1 m6 u2 u3 u4=some X1:=aA
 obtain _|m6:=m6
 ·cases (show(none:Option _)=some X1 from aA)
 rw[Z3.eq_2]at aA
 refine aI (fun aP=>?_) (fun aP=>?_)
 ·replace aA:=ifP aA aP
  obtain⟨x8,cD,aA⟩:=l0 aA
  obtain⟨cE,cG,cH,cI⟩:=Sl.getI (r:=Wp.int.toRp) (J0.mono aC rp0) cD (by decide)
  refine aI cE ?_
  obtain⟨rfl,cL⟩:=cI
  refine eX _ (aI cH ?_)
  refine aI (fun aQ=>?_) (fun aQ=>?_)
  ·replace aA:=ifP aA aQ
   obtain⟨x10,aR,aA⟩:=l0 aA
   obtain⟨aS,bW,aT,aU⟩:=Sl.getI (r:=Wp.int.toRp) (J0.mono aC rp0) aR (by decide)
   refine aI aS ?_
   obtain⟨rfl,cJ⟩:=aU
   refine eX _ (aI aT ?_)
   refine aI (fun aD=>?_) (fun aD=>?_)
   ·replace aA:=ifP aA aD
    obtain⟨q12,aV,aA⟩:=l0 aA
    refine aI (L1 aV (by first|rw[F2.length fu4,F2.length (show F2 (Wp.int.R k5) ([[.int .i64 p1]]:List (List Value)) [p1] from⟨⟨rfl,ip1⟩,trivial⟩)]|exact congrArg (·+1) (F2.length fu4))) ?_
    obtain⟨x13,aW,aA⟩:=l0 aA
    obtain⟨aX,bX,aY,aZ⟩:=Sl.getI (r:=Wp.int.toRp) (J0.mono aC rp0) aW (by decide)
    refine aI aX ?_
    obtain⟨rfl,aH⟩:=aZ
    refine eX _ (aI aY ?_)
    obtain⟨q14,bA,aA⟩:=l0 aA
    refine aI (L1 bA (by first|rw[F2.length (F2.append fu4 (show F2 (Wp.int.R k5) ([[.int .i64 p1]]:List (List Value)) [p1] from⟨⟨rfl,ip1⟩,trivial⟩)),F2.length (show F2 (Wp.int.R k5) ([[.int .i64 x13]]:List (List Value)) [x13] from⟨⟨rfl,aH⟩,trivial⟩)]|exact congrArg (·+1) (F2.length (F2.append fu4 (show F2 (Wp.int.R k5) ([[.int .i64 p1]]:List (List Value)) [p1] from⟨⟨rfl,ip1⟩,trivial⟩))))) ?_
    refine aI rfl (aI (by trivial) (aI (by trivial) (eX m6 (aI ⟨true,(IntKind.i64.wrap (u3+1)),((wu4++([[.int .i64 p1]]:List (List Value)))++([[.int .i64 x13]]:List (List Value))),((u4 ++ [p1]) ++ [x13]),rfl,rfl,aC,(N0 _),(F2.append (F2.append fu4 (show F2 (Wp.int.R k5) ([[.int .i64 p1]]:List (List Value)) [p1] from⟨⟨rfl,ip1⟩,trivial⟩)) (show F2 (Wp.int.R k5) ([[.int .i64 x13]]:List (List Value)) [x13] from⟨⟨rfl,aH⟩,trivial⟩)),aA⟩ (nS _)))))
   ·replace aA:=ifN aA aD
    obtain⟨x15,bB,aA⟩:=l0 aA
    obtain⟨bC,bY,bD,bE⟩:=Sl.getI (r:=Wp.int.toRp) (J0.mono aC rp0) bB (by decide)
    refine aI bC ?_
    obtain⟨rfl,aJ⟩:=bE
    refine eX _ (aI bD ?_)
    obtain⟨q16,bF,aA⟩:=l0 aA
    refine aI (L1 bF (by first|rw[F2.length fu4,F2.length (show F2 (Wp.int.R k5) ([[.int .i64 x15]]:List (List Value)) [x15] from⟨⟨rfl,aJ⟩,trivial⟩)]|exact congrArg (·+1) (F2.length fu4))) ?_
    refine aI rfl (aI (by trivial) (aI (by trivial) (eX m6 (aI ⟨true,(IntKind.i64.wrap (u3+1)),(wu4++([[.int .i64 x15]]:List (List Value))),(u4 ++ [x15]),rfl,rfl,aC,(N0 _),(F2.append fu4 (show F2 (Wp.int.R k5) ([[.int .i64 x15]]:List (List Value)) [x15] from⟨⟨rfl,aJ⟩,trivial⟩)),aA⟩ (nS _)))))
  ·replace aA:=ifN aA aQ
   obtain⟨x17,bG,aA⟩:=l0 aA
   obtain⟨bH,bZ,bI,bJ⟩:=Sl.getI (r:=Wp.int.toRp) (J0.mono aC rp0) bG (by decide)
   refine aI bH ?_
   obtain⟨rfl,cK⟩:=bJ
   refine eX _ (aI bI ?_)
   refine aI (fun aF=>?_) (fun aF=>?_)
   ·replace aA:=ifP aA aF
    obtain⟨q19,bK,aA⟩:=l0 aA
    refine aI (L1 bK (by first|rw[F2.length fu4,F2.length (show F2 (Wp.int.R k5) ([[.int .i64 p1]]:List (List Value)) [p1] from⟨⟨rfl,ip1⟩,trivial⟩)]|exact congrArg (·+1) (F2.length fu4))) ?_
    obtain⟨x20,bL,aA⟩:=l0 aA
    obtain⟨bM,cA,bN,bO⟩:=Sl.getI (r:=Wp.int.toRp) (J0.mono aC rp0) bL (by decide)
    refine aI bM ?_
    obtain⟨rfl,aK⟩:=bO
    refine eX _ (aI bN ?_)
    obtain⟨q21,bP,aA⟩:=l0 aA
    refine aI (L1 bP (by first|rw[F2.length (F2.append fu4 (show F2 (Wp.int.R k5) ([[.int .i64 p1]]:List (List Value)) [p1] from⟨⟨rfl,ip1⟩,trivial⟩)),F2.length (show F2 (Wp.int.R k5) ([[.int .i64 x20]]:List (List Value)) [x20] from⟨⟨rfl,aK⟩,trivial⟩)]|exact congrArg (·+1) (F2.length (F2.append fu4 (show F2 (Wp.int.R k5) ([[.int .i64 p1]]:List (List Value)) [p1] from⟨⟨rfl,ip1⟩,trivial⟩))))) ?_
    refine aI rfl (aI (by trivial) (aI (by trivial) (eX m6 (aI ⟨true,(IntKind.i64.wrap (u3+1)),((wu4++([[.int .i64 p1]]:List (List Value)))++([[.int .i64 x20]]:List (List Value))),((u4 ++ [p1]) ++ [x20]),rfl,rfl,aC,(N0 _),(F2.append (F2.append fu4 (show F2 (Wp.int.R k5) ([[.int .i64 p1]]:List (List Value)) [p1] from⟨⟨rfl,ip1⟩,trivial⟩)) (show F2 (Wp.int.R k5) ([[.int .i64 x20]]:List (List Value)) [x20] from⟨⟨rfl,aK⟩,trivial⟩)),aA⟩ (nS _)))))
   ·replace aA:=ifN aA aF
    obtain⟨x22,bQ,aA⟩:=l0 aA
    obtain⟨bR,cC,bS,bT⟩:=Sl.getI (r:=Wp.int.toRp) (J0.mono aC rp0) bQ (by decide)
    refine aI bR ?_
    obtain⟨rfl,aL⟩:=bT
    refine eX _ (aI bS ?_)
    obtain⟨q23,bU,aA⟩:=l0 aA
    refine aI (L1 bU (by first|rw[F2.length fu4,F2.length (show F2 (Wp.int.R k5) ([[.int .i64 x22]]:List (List Value)) [x22] from⟨⟨rfl,aL⟩,trivial⟩)]|exact congrArg (·+1) (F2.length fu4))) ?_
    refine aI rfl (aI (by trivial) (aI (by trivial) (eX m6 (aI ⟨u2,(IntKind.i64.wrap (u3+1)),(wu4++([[.int .i64 x22]]:List (List Value))),(u4 ++ [x22]),rfl,rfl,aC,(N0 _),(F2.append fu4 (show F2 (Wp.int.R k5) ([[.int .i64 x22]]:List (List Value)) [x22] from⟨⟨rfl,aL⟩,trivial⟩)),aA⟩ (nS _)))))
 ·replace aA:=ifN aA aP
  have hE:=oJ aA;subst hE
  try dsimp only[T0,V0]at aB
  refine aI (fun aG=>?_) (fun aG=>?_)
  ·replace aB:=ifP aB aG
   obtain⟨q25,bV,aB⟩:=l0 aB
   refine aI (L1 bV (by first|rw[F2.length fu4,F2.length (show F2 (Wp.int.R k5) ([[.int .i64 p1]]:List (List Value)) [p1] from⟨⟨rfl,ip1⟩,trivial⟩)]|exact congrArg (·+1) (F2.length fu4))) ?_
   intro v26 k27 f28
   obtain⟨az29,cz29,rfl,rz29,sz29,lz29⟩:=Z0.out (r:=Wp.int.toRp) f28 (F2.append fu4 (show F2 (Wp.int.R k5) ([[.int .i64 p1]]:List (List Value)) [p1] from⟨⟨rfl,ip1⟩,trivial⟩))
   have hE:=oJ aB;subst hE
   exact⟨az29,((u4 ++ [p1])).length,cz29,rfl,rz29,(aC.trans sz29)⟩
  ·replace aB:=ifN aB aG
   intro v30 k31 f32
   obtain⟨az33,cz33,rfl,rz33,sz33,lz33⟩:=Z0.out (r:=Wp.int.toRp) f32 fu4
   have hE:=oJ aB;subst hE
   exact⟨az33,u4.length,cz33,rfl,rz33,(aC.trans sz33)⟩
theorem h02(h:Hp)(ap0:Option Addr)(np0 cp0:Nat)(p0:C0)(rp0:J0.R h [.slice ap0 np0 cp0] p0)(p1:Int)(ip1:M0 p1)(r:Bool)(aB:I8 p0 p1=some r):
  Tr Tryz.prog 221 #[.slice ap0 np0 cp0,.int .i64 p1] h fun v h'=>v = .bool r∧h'=h:=by
 obtain⟨rfl,lp0⟩:=Sl.len rp0
 unfold I8 at aB
 refine Tr.forget (Y1 (args:=[.slice ap0 p0.length cp0,.int .i64 p1]) (fn:=Tryz.f221) rfl ?_)
 obtain⟨X1,aD,aB⟩:=l0 aB
 refine eX { vars:=[5],boxes:=[],owns:=[],fuel:=true } (eX (fun vs os h'=>∃(u2:Int),vs.tail = [.int .i64 u2]∧os = []∧Sub h h'∧M0 u2∧P8 p0 p1 (K1 vs) u2=some X1) (eX (fun _ _=>0) ?_))
 refine aI (eX S0 ⟨0,rfl,rfl,(Sub.refl _),(by decide),aD⟩) ?_
 rintro v_0 m4 k3 ⟨u2,aF,aG,aC,iu2,aA⟩
 cases aF
 cases aG
 replace aA:P8 p0 p1 m4 u2=some X1:=aA
 obtain _|m4:=m4
 ·cases (show(none:Option _)=some X1 from aA)
 rw[P8.eq_2]at aA
 refine aI (fun aH=>?_) (fun aH=>?_)
 ·replace aA:=ifP aA aH
  obtain⟨x6,aK,aA⟩:=l0 aA
  obtain⟨aL,aM,aN,aO⟩:=Sl.getI (r:=Wp.int.toRp) (J0.mono aC rp0) aK (by decide)
  refine aI aL ?_
  obtain⟨rfl,aP⟩:=aO
  refine eX _ (aI aN ?_)
  refine aI (fun aJ=>?_) (fun aJ=>?_)
  ·replace aA:=ifP aA aJ
   have hE:=oJ aA;subst hE
   try dsimp only[S3,W3]at aB
   have hE:=oJ aB;subst hE
   exact aI rfl aC
  ·replace aA:=ifN aA aJ
   refine aI rfl (aI (by trivial) (aI (by trivial) (eX m4 (aI ⟨(IntKind.i64.wrap (u2+1)),rfl,rfl,aC,(N0 _),aA⟩ (nS _)))))
 ·replace aA:=ifN aA aH
  have hE:=oJ aA;subst hE
  try dsimp only[T0,V0]at aB
  have hE:=oJ aB;subst hE
  exact aI rfl aC
theorem X0b(h:Hp)(aW:List Value)(p0:j0)(rp0:W0.R h aW p0)(p1:Int)(ip1:M0 p1)(p2:Int)(ip2:M0 p2)(r:C0)(aM:B00 p0 p1 p2=some r):
  Tr Tryz.prog 227 #[.agg aW.toArray,.int .i64 p1,.int .i64 p2] h fun v h'=>∃(a0:Option Addr) (n0 c0:Nat),v = .slice a0 n0 c0∧J0.R h' [.slice a0 n0 c0] r∧Sub h h':=by
 obtain⟨aX,aY,aN,bR,aO,aP,rfl,rfl,bS,bT,aC⟩:=B0 rp0
 obtain⟨rfl,bU⟩:=Sl.len aC
 unfold B00 at aM
 dsimp only at aM
 refine Y1 (args:=[.agg #[.int .i64 aX,.int .i64 aY,.slice aN aP.length aO],.int .i64 p1,.int .i64 p2]) (fn:=Tryz.f227) rfl ?_
 obtain⟨X5,aZ,aM⟩:=l0 aM
 refine eX { vars:=[7,8],boxes:=[],owns:=[],fuel:=true,pubs:=[7,10] } (eX (fun vs os h'=>∃(au6:Option Addr) (nu6 cu6:Nat) (u6:C0) (u7:Int),vs.tail = [.slice au6 nu6 cu6,.int .i64 u7]∧os = []∧Sub h h'∧J0.R h' [.slice au6 nu6 cu6] u6∧M0 u7∧L3 aP p2 p1 (K1 vs) u6 u7=some X5) (eX (fun _ _=>0) ?_))
 intro v1 k2 f3
 obtain⟨az4,cz4,rfl,rz4,sz4,lz4⟩:=Z0.out (r:=Wp.int.toRp) f3 (show F2 (Wp.int.R h) ([]:List (List Value)) ([]:C0) from trivial)
 refine aI (eX S0 ⟨az4,(([]:C0)).length,cz4,([]:C0),0,rfl,rfl,sz4,rz4,(by decide),aZ⟩) ?_
 rintro v_0 v_1 m9 k8 ⟨au6,nu6,cu6,u6,u7,bA,bB,bC,ru6,iu7,aA⟩
 cases bA
 cases bB
 replace aA:L3 aP p2 p1 m9 u6 u7=some X5:=aA
 obtain _|m9:=m9
 ·cases (show(none:Option _)=some X5 from aA)
 rw[L3.eq_2]at aA
 obtain⟨rfl,lu6⟩:=Sl.len ru6
 refine aI (fun aF=>?_) (fun aF=>?_)
 ·replace aA:=ifP aA aF
  obtain⟨x11,bD,aA⟩:=l0 aA
  obtain⟨bE,bV,bF,bG⟩:=Sl.getI (r:=P0.toRp) (F0.mono bC aC) bD (by decide)
  refine aI bE ?_
  obtain⟨aD,bW,aQ,rfl,rfl,aB,bH,aG⟩:=I1 bG
  try dsimp only at aA
  refine eX _ (aI bF ?_)
  refine aI (fun aH=>?_) (fun aH=>?_)
  ·replace aA:=ifP aA aH
   obtain⟨x13,bI,aA⟩:=l0 aA
   refine Tr.mono (g02 _ au6 u6.length cu6 u6 ru6 aQ aG _  bI) ?_
   rintro v15 k14 ⟨aR,bX,aS,rfl,aJ,aT⟩
   obtain⟨rfl,bY⟩:=Sl.len aJ
   refine aI (fun aK=>?_) (fun aK=>?_)
   ·replace aA:=ifP aA aK
    obtain⟨x17,bJ,aA⟩:=l0 aA
    refine Tr.mono (g02 _ aR x13.length aS x13 aJ aD aB _  bJ) ?_
    rintro v19 k18 ⟨bK,bZ,bL,rfl,aU,bM⟩
    obtain⟨rfl,cA⟩:=Sl.len aU
    refine aI rfl (aI (by trivial) (aI (by trivial) (eX m9 (aI ⟨bK,x17.length,bL,x17,(IntKind.i64.wrap (u7+1)),rfl,rfl,((bC.trans aT).trans bM),aU,(N0 _),aA⟩ (nS _)))))
   ·replace aA:=ifN aA aK
    refine aI rfl (aI (by trivial) (aI (by trivial) (eX m9 (aI ⟨aR,x13.length,aS,x13,(IntKind.i64.wrap (u7+1)),rfl,rfl,(bC.trans aT),aJ,(N0 _),aA⟩ (nS _)))))
  ·replace aA:=ifN aA aH
   refine aI (fun aL=>?_) (fun aL=>?_)
   ·replace aA:=ifP aA aL
    obtain⟨x21,bN,aA⟩:=l0 aA
    refine Tr.mono (g02 _ au6 u6.length cu6 u6 ru6 aD aB _  bN) ?_
    rintro v23 k22 ⟨bO,cC,bP,rfl,aV,bQ⟩
    obtain⟨rfl,cD⟩:=Sl.len aV
    refine aI rfl (aI (by trivial) (aI (by trivial) (eX m9 (aI ⟨bO,x21.length,bP,x21,(IntKind.i64.wrap (u7+1)),rfl,rfl,(bC.trans bQ),aV,(N0 _),aA⟩ (nS _)))))
   ·replace aA:=ifN aA aL
    refine aI rfl (aI (by trivial) (aI (by trivial) (eX m9 (aI ⟨au6,u6.length,cu6,u6,(IntKind.i64.wrap (u7+1)),rfl,rfl,bC,ru6,(N0 _),aA⟩ (nS _)))))
 ·replace aA:=ifN aA aF
  have hE:=oJ aA;subst hE
  try dsimp only[T0,V0]at aM
  have hE:=oJ aM;subst hE
  exact⟨au6,u6.length,cu6,rfl,ru6,bC⟩
theorem d9(h:Hp)(aK:List Value)(p0:j0)(rp0:W0.R h aK p0)(p1:Int)(ip1:M0 p1)(p2:Int)(ip2:M0 p2)(r:Int)(aA:d5 p0 p1 p2=some r):
  Tr Tryz.prog 182 #[.agg aK.toArray,.int .i64 p1,.int .i64 p2] h fun v h'=>v = .int .i64 r∧h'=h:=by
 obtain⟨aF,aG,aB,aN,aC,aL,rfl,rfl,aH,aJ,aD⟩:=B0 rp0
 obtain⟨rfl,aO⟩:=Sl.len aD
 unfold d5 at aA
 dsimp only at aA
 refine Tr.forget (Y1 (args:=[.agg #[.int .i64 aF,.int .i64 aG,.slice aB aL.length aC],.int .i64 p1,.int .i64 p2]) (fn:=Tryz.f182) rfl ?_)
 obtain⟨x1,aR,aA⟩:=l0 aA
 refine Tr.mono (X0b _ [.int .i64 aF,.int .i64 aG,.slice aB aL.length aC] (aF,aG,aL) (z0 aH aJ aD) p1 ip1 p2 ip2 _  aR) ?_
 rintro v3 k2 ⟨aX,aY,aZ,rfl,aP,aQ⟩
 obtain⟨rfl,bA⟩:=Sl.len aP
 refine aI (fun aM=>?_) (fun aM=>?_)
 ·replace aA:=ifP aA aM
  have hE:=oJ aA;subst hE
  exact aI rfl aQ
 ·replace aA:=ifN aA aM
  obtain⟨x5,aS,aA⟩:=l0 aA
  obtain⟨aT,aU,aV,aW⟩:=Sl.getI (r:=Wp.int.toRp) aP aS (by decide)
  refine aI aT ?_
  obtain⟨rfl,bB⟩:=aW
  refine eX _ (aI aV ?_)
  have hE:=oJ aA;subst hE
  exact aI rfl aQ
theorem t6(h:Hp)(aQ:List Value)(p0:j0)(rp0:W0.R h aQ p0)(r:Bool)(aK:K3 p0=some r):
  Tr Tryz.prog 174 #[.agg aQ.toArray] h fun v h'=>v = .bool r∧h'=h:=by
 obtain⟨aD,aF,aH,bO,aJ,aG,rfl,rfl,aL,aM,aB⟩:=B0 rp0
 obtain⟨rfl,bP⟩:=Sl.len aB
 unfold K3 at aK
 dsimp only at aK
 refine Tr.forget (Y1 (args:=[.agg #[.int .i64 aD,.int .i64 aF,.slice aH aG.length aJ]]) (fn:=Tryz.f174) rfl ?_)
 obtain⟨X1,aR,aK⟩:=l0 aK
 refine eX { vars:=[3],boxes:=[],owns:=[],fuel:=true } (eX (fun vs os h'=>∃(u2:Int),vs.tail = [.int .i64 u2]∧os = []∧Sub h h'∧M0 u2∧i5 aG aD aF (K1 vs) u2=some X1) (eX (fun _ _=>0) ?_))
 refine aI (eX S0 ⟨0,rfl,rfl,(Sub.refl _),(by decide),aR⟩) ?_
 rintro v_0 m4 k3 ⟨u2,aS,aT,aU,iu2,aC⟩
 cases aS
 cases aT
 replace aC:i5 aG aD aF m4 u2=some X1:=aC
 obtain _|m4:=m4
 ·cases (show(none:Option _)=some X1 from aC)
 rw[i5.eq_2]at aC
 obtain⟨x5,bY,aC⟩:=l0 aC
 refine eX (.bool x5) (aI (fun q=>i7 _ [.int .i64 aD,.int .i64 aF,.slice aH aG.length aJ] (aD,aF,aG) (z0 aL aM (F0.mono aU aB)) _  (F1 bY q)) ?_)
 refine aI (fun aV=>?_) (fun aV=>?_)
 ·replace aC:=ifP aC aV
  obtain⟨X7,aW,aC⟩:=l0 aC
  refine eX { vars:=[4],boxes:=[],owns:=[],fuel:=true } (eX (fun vs os h'=>∃(u8:Int),vs.tail = [.int .i64 u8]∧os = []∧Sub k3 h'∧M0 u8∧K6 u2 aG (K1 vs) u8=some X7) (eX (fun _ _=>0) ?_))
  refine aI (eX S0 ⟨0,rfl,rfl,(Sub.refl _),(by decide),aW⟩) ?_
  rintro v_0 m10 k9 ⟨u8,aX,aY,aP,iu8,aA⟩
  cases aX
  cases aY
  replace aA:K6 u2 aG m10 u8=some X7:=aA
  obtain _|m10:=m10
  ·cases (show(none:Option _)=some X7 from aA)
  rw[K6.eq_2]at aA
  refine aI (fun aN=>?_) (fun aN=>?_)
  ·replace aA:=ifP aA aN
   obtain⟨x12,aZ,aA⟩:=l0 aA
   obtain⟨bA,bQ,bB,bC⟩:=Sl.getI (r:=P0.toRp) (F0.mono (aU.trans aP) aB) aZ (by decide)
   refine aI bA ?_
   obtain⟨bR,bS,bT,rfl,rfl,bD,bE,bF⟩:=I1 bC
   try dsimp only at aA
   refine eX _ (aI bB ?_)
   obtain⟨x13,bG,aA⟩:=l0 aA
   obtain⟨bH,bU,bI,bJ⟩:=Sl.getI (r:=P0.toRp) (F0.mono (aU.trans aP) aB) bG (by decide)
   refine aI bH ?_
   obtain⟨bV,bW,bX,rfl,rfl,bK,bL,bM⟩:=I1 bJ
   try dsimp only at aA
   refine eX _ (aI bI ?_)
   refine aI (fun aO=>?_) (fun aO=>?_)
   ·replace aA:=ifP aA aO
    have hE:=oJ aA;subst hE
    try dsimp only[S3,W3]at aC
    have hE:=oJ aC;subst hE
    try dsimp only[S3,W3]at aK
    have hE:=oJ aK;subst hE
    exact aI rfl (aU.trans aP)
   ·replace aA:=ifN aA aO
    refine aI rfl (aI (by trivial) (aI (by trivial) (eX m10 (aI ⟨(IntKind.i64.wrap (u8+1)),rfl,rfl,aP,(N0 _),aA⟩ (nS _)))))
  ·replace aA:=ifN aA aN
   have hE:=oJ aA;subst hE
   try dsimp only[T0,V0]at aC
   refine aI rfl (aI (by trivial) (aI (by trivial) (eX m4 (aI ⟨(IntKind.i64.wrap (u2+1)),rfl,rfl,(aU.trans aP),(N0 _),aC⟩ (nS _)))))
 ·replace aC:=ifN aC aV
  have hE:=oJ aC;subst hE
  try dsimp only[T0,V0]at aK
  obtain⟨x18,bN,aK⟩:=l0 aK
  refine Tr.val (i7 _ [.int .i64 aD,.int .i64 aF,.slice aH aG.length aJ] (aD,aF,aG) (z0 aL aM (F0.mono aU aB)) _  bN) ?_
  have hE:=oJ aK;subst hE
  exact aI rfl aU
theorem X06(h:Hp)(aO:List Value)(p0:j0)(rp0:W0.R h aO p0)(p1:Int)(ip1:M0 p1)(ap2:Option Addr)(np2 cp2:Nat)(p2:C0)(rp2:J0.R h [.slice ap2 np2 cp2] p2)(r:Int×Bool)(aB:a00 p0 p1 p2=some r):
  Tr Tryz.prog 126 #[.agg aO.toArray,.int .i64 p1,.slice ap2 np2 cp2] h fun v h'=>v = .tuple #[.int .i64 r.1,.bool r.2]∧h'=h:=by
 obtain⟨aD,aC,aF,bC,aG,aJ,rfl,rfl,aK,aL,aH⟩:=B0 rp0
 obtain⟨rfl,bD⟩:=Sl.len aH
 obtain⟨rfl,lp2⟩:=Sl.len rp2
 unfold a00 at aB
 dsimp only at aB
 refine Tr.forget (Y1 (args:=[.agg #[.int .i64 aD,.int .i64 aC,.slice aF aJ.length aG],.int .i64 p1,.slice ap2 p2.length cp2]) (fn:=Tryz.f126) rfl ?_)
 obtain⟨x1,bF,aB⟩:=l0 aB
 refine Tr.val (t6 _ [.int .i64 aD,.int .i64 aC,.slice aF aJ.length aG] (aD,aC,aJ) (z0 aK aL aH) _  bF) ?_
 obtain⟨x2,bG,aB⟩:=l0 aB
 refine eX (.bool x2) (aI (fun q=>Q4 _ p1 ip1 0 (by decide) (IntKind.i64.wrap (aC-1)) (N0 _) _  (F1 bG q)) ?_)
 refine aI (fun aP=>?_) (fun aP=>?_)
 ·replace aB:=ifP aB aP
  have hE:=oJ aB;subst hE
  exact aI rfl (Sub.refl _)
 ·replace aB:=ifN aB aP
  obtain⟨X4,aQ,aB⟩:=l0 aB
  refine eX { vars:=[1,8],boxes:=[],owns:=[],fuel:=true } (eX (fun vs os h'=>∃(u5:Int) (u6:Int),vs.tail = [.int .i64 u5,.int .i64 u6]∧os = []∧Sub h h'∧M0 u5∧M0 u6∧L6 p2 aD aC aJ (K1 vs) u5 u6=some X4) (eX (fun _ _=>0) ?_))
  refine aI (eX S0 ⟨p1,0,rfl,rfl,(Sub.refl _),ip1,(by decide),aQ⟩) ?_
  rintro v_0 v_1 m8 k7 ⟨u5,u6,aR,aS,aN,iu5,iu6,aA⟩
  cases aR
  cases aS
  replace aA:L6 p2 aD aC aJ m8 u5 u6=some X4:=aA
  obtain _|m8:=m8
  ·cases (show(none:Option _)=some X4 from aA)
  rw[L6.eq_2]at aA
  refine aI (fun aT=>?_) (fun aT=>?_)
  ·replace aA:=ifP aA aT
   refine Or.inl (aI (aI (by kernel_rfl) (by kernel_rfl)) ?_)
   obtain⟨x10,aU,aA⟩:=l0 aA
   obtain⟨aV,bE,aW,aX⟩:=Sl.getI (r:=Wp.int.toRp) (J0.mono aN rp2) aU (by decide)
   refine aI aV ?_
   obtain⟨rfl,aY⟩:=aX
   refine eX _ (aI aW ?_)
   obtain⟨x11,aZ,aA⟩:=l0 aA
   refine eX (.int .i64 x11) (aI (d9 _ [.int .i64 aD,.int .i64 aC,.slice aF aJ.length aG] (aD,aC,aJ) (z0 aK aL (F0.mono aN aH)) u5 iu5 x10 aY _  aZ) ?_)
   obtain⟨q12,bA,aA⟩:=l0 aA
   have bB:M0 x11:=O1 bA
   refine aI (fun aM=>?_) (fun aM=>?_)
   ·replace aA:=ifP aA aM
    have hE:=oJ aA;subst hE
    try dsimp only[S3,W3]at aB
    have hE:=oJ aB;subst hE
    exact aI rfl aN
   ·replace aA:=ifN aA aM
    refine aI rfl (aI (by trivial) (aI (by trivial) (eX m8 (aI ⟨x11,(IntKind.i64.wrap (u6+1)),rfl,rfl,aN,bB,(N0 _),aA⟩ (nS _)))))
  ·replace aA:=ifN aA aT
   have hE:=oJ aA;subst hE
   try dsimp only[T0,V0]at aB
   have hE:=oJ aB;subst hE
   exact aI rfl aN
theorem Y0b(h:Hp)(aO:List Value)(p0:j0)(rp0:W0.R h aO p0)(p1:Int)(ip1:M0 p1)(p2:Int)(ip2:M0 p2)(r:C0)(aD:C00 p0 p1 p2=some r):
  Tr Tryz.prog 206 #[.agg aO.toArray,.int .i64 p1,.int .i64 p2] h fun v h'=>∃(a0:Option Addr) (n0 c0:Nat),v = .slice a0 n0 c0∧New J0 h h' [.slice a0 n0 c0] r:=by
 obtain⟨aP,aQ,aK,aY,aL,aM,rfl,rfl,aZ,bA,aF⟩:=B0 rp0
 obtain⟨rfl,bB⟩:=Sl.len aF
 unfold C00 at aD
 dsimp only at aD
 refine Y1 (args:=[.agg #[.int .i64 aP,.int .i64 aQ,.slice aK aM.length aL],.int .i64 p1,.int .i64 p2]) (fn:=Tryz.f206) rfl ?_
 obtain⟨X1,aR,aD⟩:=l0 aD
 refine eX { vars:=[14],boxes:=[],owns:=[0],fuel:=true } (eX (fun vs os h'=>∃(u2:Int) (wu3:List (List Value)) (u3:List Int),vs.tail = [.int .i64 u2]∧os = [wu3]∧Sub h h'∧M0 u2∧F2 (Wp.int.R h') wu3 u3∧C4 aM p2 p1 (K1 vs) u2 u3=some X1) (eX (fun _ _=>0) ?_))
 refine aI (eX S0 ⟨0,[],([]:C0),rfl,rfl,(Sub.refl _),(by decide),(show F2 (Wp.int.R h) ([]:List (List Value)) ([]:C0) from trivial),aR⟩) ?_
 rintro v_0 wu3 m5 k4 ⟨u2,zzu3,u3,aS,aT,aN,iu2,fu3,aA⟩
 cases aS
 cases aT
 replace aA:C4 aM p2 p1 m5 u2 u3=some X1:=aA
 obtain _|m5:=m5
 ·cases (show(none:Option _)=some X1 from aA)
 rw[C4.eq_2]at aA
 refine aI (fun aU=>?_) (fun aU=>?_)
 ·replace aA:=ifP aA aU
  obtain⟨x7,bD,aA⟩:=l0 aA
  obtain⟨bE,bF,bG,bH⟩:=Sl.getI (r:=P0.toRp) (F0.mono aN aF) bD (by decide)
  refine aI bE ?_
  obtain⟨aB,bI,aC,rfl,rfl,aG,bC,aH⟩:=I1 bH
  try dsimp only at aA
  refine eX _ (aI bG ?_)
  refine aI (fun aV=>?_) (fun aV=>?_)
  ·replace aA:=ifP aA aV
   obtain⟨q9,bJ,aA⟩:=l0 aA
   refine aI (L1 bJ (by first|rw[F2.length fu3,F2.length (show F2 (Wp.int.R k4) ([[.int .i64 aC]]:List (List Value)) [aC] from⟨⟨rfl,aH⟩,trivial⟩)]|exact congrArg (·+1) (F2.length fu3))) ?_
   refine aI rfl (aI (by trivial) (aI (by trivial) (eX m5 (aI ⟨(IntKind.i64.wrap (u2+1)),(wu3++([[.int .i64 aC]]:List (List Value))),(u3 ++ [aC]),rfl,rfl,aN,(N0 _),(F2.append fu3 (show F2 (Wp.int.R k4) ([[.int .i64 aC]]:List (List Value)) [aC] from⟨⟨rfl,aH⟩,trivial⟩)),aA⟩ (nS _)))))
  ·replace aA:=ifN aA aV
   refine aI (fun aJ=>?_) (fun aJ=>?_)
   ·replace aA:=ifP aA aJ
    obtain⟨q11,aW,aA⟩:=l0 aA
    refine aI (L1 aW (by first|rw[F2.length fu3,F2.length (show F2 (Wp.int.R k4) ([[.int .i64 aB]]:List (List Value)) [aB] from⟨⟨rfl,aG⟩,trivial⟩)]|exact congrArg (·+1) (F2.length fu3))) ?_
    refine aI rfl (aI (by trivial) (aI (by trivial) (eX m5 (aI ⟨(IntKind.i64.wrap (u2+1)),(wu3++([[.int .i64 aB]]:List (List Value))),(u3 ++ [aB]),rfl,rfl,aN,(N0 _),(F2.append fu3 (show F2 (Wp.int.R k4) ([[.int .i64 aB]]:List (List Value)) [aB] from⟨⟨rfl,aG⟩,trivial⟩)),aA⟩ (nS _)))))
   ·replace aA:=ifN aA aJ
    refine aI rfl (aI (by trivial) (aI (by trivial) (eX m5 (aI ⟨(IntKind.i64.wrap (u2+1)),wu3,u3,rfl,rfl,aN,(N0 _),fu3,aA⟩ (nS _)))))
 ·replace aA:=ifN aA aU
  have hE:=oJ aA;subst hE
  try dsimp only[T0,V0]at aD
  refine Or.inl ?_
  intro v12 k13 f14
  obtain⟨q15,aX,aD⟩:=l0 aD
  refine Tr.mono (c0l _ f14 fu3 (O1 aX)) ?_
  rintro _ kz16 ⟨rfl,vsz16,fz16,qz16⟩
  obtain⟨az16,cz16,rfl,rz16,sz16,lz16⟩:=Z0.out (r:=Wp.int.toRp) fz16 qz16
  refine Tr.mono (d0l _ fz16 qz16) ?_
  rintro _ kz17 ⟨vsz17,fz17,qz17⟩
  obtain⟨az17,cz17,rfl,rz17,sz17,lz17⟩:=Z0.out (r:=Wp.int.toRp) fz17 qz17
  have hE:=oJ aD;subst hE
  exact⟨az17,((k03 eqI (b06 Z8 u3))).length,cz17,rfl,(New.from (Z0.newPlain (r:=Wp.int) fz17 qz17 (a06 _)) aN)⟩
theorem B01(h:Hp)(aK:List Value)(p0:j0)(rp0:W0.R h aK p0)(p1:Int)(ip1:M0 p1)(p2:Int)(ip2:M0 p2)(r:Int)(aA:M6 p0 p1 p2=some r):
  Tr Tryz.prog 154 #[.agg aK.toArray,.int .i64 p1,.int .i64 p2] h fun v h'=>v = .int .i64 r∧h'=h:=by
 obtain⟨aF,aG,aB,aN,aC,aL,rfl,rfl,aH,aJ,aD⟩:=B0 rp0
 obtain⟨rfl,aO⟩:=Sl.len aD
 unfold M6 at aA
 dsimp only at aA
 refine Tr.forget (Y1 (args:=[.agg #[.int .i64 aF,.int .i64 aG,.slice aB aL.length aC],.int .i64 p1,.int .i64 p2]) (fn:=Tryz.f154) rfl ?_)
 obtain⟨x1,aR,aA⟩:=l0 aA
 refine Tr.mono (Y0b _ [.int .i64 aF,.int .i64 aG,.slice aB aL.length aC] (aF,aG,aL) (z0 aH aJ aD) p1 ip1 p2 ip2 _  aR) ?_
 rintro v3 k2 ⟨aX,aY,aZ,rfl,wx1⟩
 have aP:Sub h k2:=wx1.sub
 have aQ:=wx1.r
 obtain⟨rfl,bA⟩:=Sl.len aQ
 refine aI (fun aM=>?_) (fun aM=>?_)
 ·replace aA:=ifP aA aM
  have hE:=oJ aA;subst hE
  exact aI rfl aP
 ·replace aA:=ifN aA aM
  obtain⟨x5,aS,aA⟩:=l0 aA
  obtain⟨aT,aU,aV,aW⟩:=Sl.getI (r:=Wp.int.toRp) aQ aS (by decide)
  refine aI aT ?_
  obtain⟨rfl,bB⟩:=aW
  refine eX _ (aI aV ?_)
  have hE:=oJ aA;subst hE
  exact aI rfl aP
theorem f00(h:Hp)(aW:List Value)(p0:j0)(rp0:W0.R h aW p0)(r:Bool)(aC:r6 p0=some r):
  Tr Tryz.prog 136 #[.agg aW.toArray] h fun v h'=>v = .bool r∧h'=h:=by
 obtain⟨aJ,aK,aG,bK,aH,aL,rfl,rfl,aO,aP,aD⟩:=B0 rp0
 obtain⟨rfl,bL⟩:=Sl.len aD
 unfold r6 at aC
 dsimp only at aC
 refine Tr.forget (Y1 (args:=[.agg #[.int .i64 aJ,.int .i64 aK,.slice aG aL.length aH]]) (fn:=Tryz.f136) rfl ?_)
 obtain⟨x1,bU,aC⟩:=l0 aC
 refine Tr.val (N00 _ [.int .i64 aJ,.int .i64 aK,.slice aG aL.length aH] (aJ,aK,aL) (z0 aO aP aD) _  bU) ?_
 refine aI (fun aX=>?_) (fun aX=>?_)
 ·replace aC:=ifP aC aX
  have hE:=oJ aC;subst hE
  exact aI rfl (Sub.refl _)
 ·replace aC:=ifN aC aX
  obtain⟨X3,aY,aC⟩:=l0 aC
  refine eX { vars:=[13],boxes:=[],owns:=[],fuel:=true } (eX (fun vs os h'=>∃(u4:Int),vs.tail = [.int .i64 u4]∧os = []∧Sub h h'∧M0 u4∧O6 aL (K1 vs) u4=some X3) (eX (fun _ _=>0) ?_))
  refine aI (eX S0 ⟨0,rfl,rfl,(Sub.refl _),(by decide),aY⟩) ?_
  rintro v_0 m6 k5 ⟨u4,aZ,bA,bB,iu4,aA⟩
  cases aZ
  cases bA
  replace aA:O6 aL m6 u4=some X3:=aA
  obtain _|m6:=m6
  ·cases (show(none:Option _)=some X3 from aA)
  rw[O6.eq_2]at aA
  refine aI (fun bC=>?_) (fun bC=>?_)
  ·replace aA:=ifP aA bC
   obtain⟨x8,bV,aA⟩:=l0 aA
   obtain⟨bW,bX,bY,bZ⟩:=Sl.getI (r:=P0.toRp) (F0.mono bB aD) bV (by decide)
   refine aI bW ?_
   obtain⟨aQ,aR,aS,rfl,rfl,bM,bN,bO⟩:=I1 bZ
   try dsimp only at aA
   refine eX _ (aI bY ?_)
   obtain⟨x9,cA,aA⟩:=l0 aA
   obtain⟨qx9,vsx9,cC,fx9⟩:=Sl.cutI (r:=P0.toRp) (F0.mono bB aD) cA
   refine aI qx9 (eX vsx9 (aI cC ?_))
   intro vx9 hvx9 _
   obtain⟨cD,cE,rfl,bP⟩:=fx9 vx9 hvx9
   have cG:=(Sl.len bP).2
   obtain⟨X10,aT,aA⟩:=l0 aA
   refine eX { vars:=[24],boxes:=[],owns:=[],fuel:=true } (eX (fun vs os h'=>∃(u11:Int),vs.tail = [.int .i64 u11]∧os = []∧Sub k5 h'∧M0 u11∧N6 x9 aR aQ aS (K1 vs) u11=some X10) (eX (fun _ _=>0) ?_))
   refine aI (eX S0 ⟨0,rfl,rfl,(Sub.refl _),(by decide),aT⟩) ?_
   rintro v_0 m13 k12 ⟨u11,aU,aV,aF,iu11,aB⟩
   cases aU
   cases aV
   replace aB:N6 x9 aR aQ aS m13 u11=some X10:=aB
   obtain _|m13:=m13
   ·cases (show(none:Option _)=some X10 from aB)
   rw[N6.eq_2]at aB
   refine aI (fun aM=>?_) (fun aM=>?_)
   ·replace aB:=ifP aB aM
    obtain⟨x15,bD,aB⟩:=l0 aB
    obtain⟨bE,bQ,bF,bG⟩:=Sl.getI (r:=P0.toRp) (F0.mono aF bP) bD (by decide)
    refine aI bE ?_
    obtain⟨bR,bS,bT,rfl,rfl,bH,bI,bJ⟩:=I1 bG
    try dsimp only at aB
    refine eX _ (aI bF ?_)
    refine aI (fun aN=>?_) (fun aN=>?_)
    ·replace aB:=ifP aB aN
     have hE:=oJ aB;subst hE
     try dsimp only[S3,W3]at aA
     have hE:=oJ aA;subst hE
     try dsimp only[S3,W3]at aC
     have hE:=oJ aC;subst hE
     exact aI rfl (bB.trans aF)
    ·replace aB:=ifN aB aN
     refine aI rfl (aI (by trivial) (aI (by trivial) (eX m13 (aI ⟨(IntKind.i64.wrap (u11+1)),rfl,rfl,aF,(N0 _),aB⟩ (nS _)))))
   ·replace aB:=ifN aB aM
    have hE:=oJ aB;subst hE
    try dsimp only[T0,V0]at aA
    refine aI rfl (aI (by trivial) (aI (by trivial) (eX m6 (aI ⟨(IntKind.i64.wrap (u4+1)),rfl,rfl,(bB.trans aF),(N0 _),aA⟩ (nS _)))))
  ·replace aA:=ifN aA bC
   have hE:=oJ aA;subst hE
   try dsimp only[T0,V0]at aC
   have hE:=oJ aC;subst hE
   exact aI rfl bB
theorem v05(h:Hp)(aO:List Value)(p0:j0)(rp0:W0.R h aO p0)(p1:Int)(ip1:M0 p1)(ap2:Option Addr)(np2 cp2:Nat)(p2:C0)(rp2:J0.R h [.slice ap2 np2 cp2] p2)(r:Int×Int)(aD:b9 p0 p1 p2=some r):
  Tr Tryz.prog 196 #[.agg aO.toArray,.int .i64 p1,.slice ap2 np2 cp2] h fun v h'=>v = .tuple #[.int .i64 r.1,.int .i64 r.2]∧h'=h:=by
 obtain⟨aB,aC,aF,aT,aG,aJ,rfl,rfl,aL,aM,aH⟩:=B0 rp0
 obtain⟨rfl,aU⟩:=Sl.len aH
 obtain⟨rfl,lp2⟩:=Sl.len rp2
 unfold b9 at aD
 dsimp only at aD
 refine Tr.forget (Y1 (args:=[.agg #[.int .i64 aB,.int .i64 aC,.slice aF aJ.length aG],.int .i64 p1,.slice ap2 p2.length cp2]) (fn:=Tryz.f196) rfl ?_)
 obtain⟨X1,aP,aD⟩:=l0 aD
 refine eX { vars:=[1,13],boxes:=[],owns:=[],fuel:=true } (eX (fun vs os h'=>∃(u2:Int) (u3:Int),vs.tail = [.int .i64 u2,.int .i64 u3]∧os = []∧Sub h h'∧M0 u2∧M0 u3∧O5 p2 aB aC aJ (K1 vs) u2 u3=some X1) (eX (fun _ _=>0) ?_))
 refine aI (eX S0 ⟨p1,0,rfl,rfl,(Sub.refl _),ip1,(by decide),aP⟩) ?_
 rintro v_0 v_1 m5 k4 ⟨u2,u3,aQ,aR,aN,iu2,iu3,aA⟩
 cases aQ
 cases aR
 replace aA:O5 p2 aB aC aJ m5 u2 u3=some X1:=aA
 obtain _|m5:=m5
 ·cases (show(none:Option _)=some X1 from aA)
 rw[O5.eq_2]at aA
 refine aI (fun aS=>?_) (fun aS=>?_)
 ·replace aA:=ifP aA aS
  obtain⟨x7,aV,aA⟩:=l0 aA
  obtain⟨aW,aX,aY,aZ⟩:=Sl.getI (r:=Wp.int.toRp) (J0.mono aN rp2) aV (by decide)
  refine aI aW ?_
  obtain⟨rfl,bA⟩:=aZ
  refine eX _ (aI aY ?_)
  obtain⟨x8,bB,aA⟩:=l0 aA
  refine Tr.val (B01 _ [.int .i64 aB,.int .i64 aC,.slice aF aJ.length aG] (aB,aC,aJ) (z0 aL aM (F0.mono aN aH)) u2 iu2 x7 bA _  bB) ?_
  obtain⟨q9,bC,aA⟩:=l0 aA
  have bD:M0 x8:=O1 bC
  refine aI (fun aK=>?_) (fun aK=>?_)
  ·replace aA:=ifP aA aK
   have hE:=oJ aA;subst hE
   try dsimp only[S3,W3]at aD
   have hE:=oJ aD;subst hE
   exact aI rfl aN
  ·replace aA:=ifN aA aK
   refine aI rfl (aI (by trivial) (aI (by trivial) (eX m5 (aI ⟨x8,(IntKind.i64.wrap (u3+1)),rfl,rfl,aN,bD,(N0 _),aA⟩ (nS _)))))
 ·replace aA:=ifN aA aS
  have hE:=oJ aA;subst hE
  try dsimp only[T0,V0]at aD
  have hE:=oJ aD;subst hE
  exact aI rfl aN
theorem j7(h:Hp)(aK:List Value)(p0:j0)(rp0:W0.R h aK p0)(r:j0)(aB:D4 p0=some r):
  Tr Tryz.prog 128 #[.agg aK.toArray] h fun v h'=>∃(cs0:List Value),v = .agg cs0.toArray∧W0.R h' cs0 r∧Sub h h':=by
 obtain⟨aC,aD,aF,aM,aG,aL,rfl,rfl,aH,aJ,aA⟩:=B0 rp0
 obtain⟨rfl,aN⟩:=Sl.len aA
 unfold D4 at aB
 dsimp only at aB
 refine Y1 (args:=[.agg #[.int .i64 aC,.int .i64 aD,.slice aF aL.length aG]]) (fn:=Tryz.f128) rfl ?_
 refine Or.inr (Or.inr (Or.inl (aI (aI (by kernel_rfl) (by kernel_rfl)) ?_)))
 refine Or.inr ?_
 refine Or.inr ?_
 refine Or.inr ?_
 refine Or.inr ?_
 refine Or.inl (eX 0 (aI (aI rfl rfl) ?_))
 refine aI trivial (aI (by first|exact trivial|exact rfl) ?_)
 obtain⟨vsy1,ey1,fy1⟩:=Sl.rows (r:=P0.toRp) aA
 refine eX vsy1 (aI ey1 ?_)
 obtain⟨q2,aO,aB⟩:=l0 aB
 refine aI (L1 aO (by first|rw[F2.length (show F2 (P0.R h) ([]:List (List Value)) ([]:I0) from trivial),F2.length fy1]|exact congrArg (·+1) (F2.length (show F2 (P0.R h) ([]:List (List Value)) ([]:I0) from trivial)))) ?_
 refine aI trivial (aI (by first|exact trivial|exact rfl) ?_)
 refine aI trivial (aI (by first|exact trivial|exact rfl) ?_)
 refine aI trivial (aI (by first|exact trivial|exact rfl) ?_)
 intro v3 k4 f5
 obtain⟨az6,cz6,rfl,rz6,sz6,lz6⟩:=Z0.out (r:=P0.toRp) f5 (F2.append (show F2 (P0.R h) ([]:List (List Value)) ([]:I0) from trivial) fy1)
 have hE:=oJ aB;subst hE
 exact⟨([.int .i64 aC,.int .i64 aD,.slice az6 ((([]:I0)++aL)).length cz6]),rfl,(z0 aH aJ rz6),sz6⟩
theorem u00(h:Hp)(ap0:Option Addr)(np0 cp0:Nat)(p0:I0)(rp0:F0.R h [.slice ap0 np0 cp0] p0)(bT:List Value)(p1:H0)(rp1:P0.R h bT p1)(r:I0)(aV:l7 p0 p1=some r):
  Tr Tryz.prog 184 #[.slice ap0 np0 cp0,.agg bT.toArray] h fun v h'=>∃(a0:Option Addr) (n0 c0:Nat),v = .slice a0 n0 c0∧F0.R h' [.slice a0 n0 c0] r∧Sub h h':=by
 obtain⟨rfl,lp0⟩:=Sl.len rp0
 obtain⟨aA,aB,aC,rfl,rfl,aF,aG,aH⟩:=I1 rp1
 unfold l7 at aV
 dsimp only at aV
 refine Y1 (args:=[.slice ap0 p0.length cp0,.agg #[.int .i64 aA,.int .i64 aB,.int .i64 aC]]) (fn:=Tryz.f184) rfl ?_
 obtain⟨X1,bU,aV⟩:=l0 aV
 refine eX { vars:=[6,7],boxes:=[],owns:=[0],fuel:=true } (eX (fun vs os h'=>∃(u2:Bool) (u3:Int) (wu4:List (List Value)) (u4:List H0),vs.tail = [.bool u2,.int .i64 u3]∧os = [wu4]∧Sub h h'∧M0 u3∧F2 (P0.R h') wu4 u4∧d4 p0 aA aB aC (K1 vs) u2 u3 u4=some X1) (eX (fun _ _=>0) ?_))
 refine aI (eX S0 ⟨false,0,[],([]:I0),rfl,rfl,(Sub.refl _),(by decide),(show F2 (P0.R h) ([]:List (List Value)) ([]:I0) from trivial),bU⟩) ?_
 rintro v_0 v_1 wu4 m6 k5 ⟨u2,u3,zzu4,u4,bV,bW,bI,iu3,fu4,aD⟩
 cases bV
 cases bW
 replace aD:d4 p0 aA aB aC m6 u2 u3 u4=some X1:=aD
 obtain _|m6:=m6
 ·cases (show(none:Option _)=some X1 from aD)
 rw[d4.eq_2]at aD
 refine aI (fun bX=>?_) (fun bX=>?_)
 ·replace aD:=ifP aD bX
  refine Or.inl (aI (aI (by kernel_rfl) (by kernel_rfl)) ?_)
  obtain⟨x8,dC,aD⟩:=l0 aD
  obtain⟨dD,dE,dF,dG⟩:=Sl.getI (r:=P0.toRp) (F0.mono bI rp0) dC (by decide)
  refine aI dD ?_
  obtain⟨bN,bO,bP,rfl,rfl,bQ,bR,bS⟩:=I1 dG
  try dsimp only at aD
  refine eX _ (aI dF ?_)
  obtain⟨x9,dH,aD⟩:=l0 aD
  refine eX (.int .i64 x9) (aI (g04 _ [.int .i64 aA,.int .i64 aB,.int .i64 aC] (aA,aB,aC) (D1 aF aG aH) [.int .i64 bN,.int .i64 bO,.int .i64 bP] (bN,bO,bP) (D1 bQ bR bS) _  dH) ?_)
  obtain⟨q10,bY,aD⟩:=l0 aD
  have dI:M0 x9:=O1 bY
  refine aI (fun bJ=>?_) (fun bJ=>?_)
  ·replace aD:=ifP aD bJ
   refine aI (fun bK=>?_) (fun bK=>?_)
   ·replace aD:=ifP aD bK
    obtain⟨q13,bZ,aD⟩:=l0 aD
    refine aI (L1 bZ (by first|rw[F2.length fu4,F2.length (show F2 (P0.R k5) ([[.int .i64 aA,.int .i64 aB,.int .i64 aC]]:List (List Value)) [(aA,aB,aC)] from⟨(D1 aF aG aH),trivial⟩)]|exact congrArg (·+1) (F2.length fu4))) ?_
    obtain⟨x14,cA,aD⟩:=l0 aD
    obtain⟨cC,cY,cD,cE⟩:=Sl.getI (r:=P0.toRp) (F0.mono bI rp0) cA (by decide)
    refine aI cC ?_
    obtain⟨aJ,aK,aL,rfl,rfl,aW,aX,aY⟩:=I1 cE
    try dsimp only at aD
    refine eX _ (aI cD ?_)
    obtain⟨q15,cG,aD⟩:=l0 aD
    refine aI (L1 cG (by first|rw[F2.length (F2.append fu4 (show F2 (P0.R k5) ([[.int .i64 aA,.int .i64 aB,.int .i64 aC]]:List (List Value)) [(aA,aB,aC)] from⟨(D1 aF aG aH),trivial⟩)),F2.length (show F2 (P0.R k5) ([[.int .i64 aJ,.int .i64 aK,.int .i64 aL]]:List (List Value)) [(aJ,aK,aL)] from⟨(D1 aW aX aY),trivial⟩)]|exact congrArg (·+1) (F2.length (F2.append fu4 (show F2 (P0.R k5) ([[.int .i64 aA,.int .i64 aB,.int .i64 aC]]:List (List Value)) [(aA,aB,aC)] from⟨(D1 aF aG aH),trivial⟩))))) ?_
    refine aI rfl (aI (by trivial) (aI (by trivial) (eX m6 (aI ⟨true,(IntKind.i64.wrap (u3+1)),((wu4++([[.int .i64 aA,.int .i64 aB,.int .i64 aC]]:List (List Value)))++([[.int .i64 aJ,.int .i64 aK,.int .i64 aL]]:List (List Value))),((u4 ++ [(aA,aB,aC)]) ++ [(aJ,aK,aL)]),rfl,rfl,bI,(N0 _),(F2.append (F2.append fu4 (show F2 (P0.R k5) ([[.int .i64 aA,.int .i64 aB,.int .i64 aC]]:List (List Value)) [(aA,aB,aC)] from⟨(D1 aF aG aH),trivial⟩)) (show F2 (P0.R k5) ([[.int .i64 aJ,.int .i64 aK,.int .i64 aL]]:List (List Value)) [(aJ,aK,aL)] from⟨(D1 aW aX aY),trivial⟩)),aD⟩ (nS _)))))
   ·replace aD:=ifN aD bK
    obtain⟨x16,cH,aD⟩:=l0 aD
    obtain⟨cI,cZ,cJ,cK⟩:=Sl.getI (r:=P0.toRp) (F0.mono bI rp0) cH (by decide)
    refine aI cI ?_
    obtain⟨aM,aN,aO,rfl,rfl,aZ,bA,bB⟩:=I1 cK
    try dsimp only at aD
    refine eX _ (aI cJ ?_)
    obtain⟨q17,cL,aD⟩:=l0 aD
    refine aI (L1 cL (by first|rw[F2.length fu4,F2.length (show F2 (P0.R k5) ([[.int .i64 aM,.int .i64 aN,.int .i64 aO]]:List (List Value)) [(aM,aN,aO)] from⟨(D1 aZ bA bB),trivial⟩)]|exact congrArg (·+1) (F2.length fu4))) ?_
    refine aI rfl (aI (by trivial) (aI (by trivial) (eX m6 (aI ⟨true,(IntKind.i64.wrap (u3+1)),(wu4++([[.int .i64 aM,.int .i64 aN,.int .i64 aO]]:List (List Value))),(u4 ++ [(aM,aN,aO)]),rfl,rfl,bI,(N0 _),(F2.append fu4 (show F2 (P0.R k5) ([[.int .i64 aM,.int .i64 aN,.int .i64 aO]]:List (List Value)) [(aM,aN,aO)] from⟨(D1 aZ bA bB),trivial⟩)),aD⟩ (nS _)))))
  ·replace aD:=ifN aD bJ
   refine aI (fun bL=>?_) (fun bL=>?_)
   ·replace aD:=ifP aD bL
    obtain⟨q19,cM,aD⟩:=l0 aD
    refine aI (L1 cM (by first|rw[F2.length fu4,F2.length (show F2 (P0.R k5) ([[.int .i64 aA,.int .i64 aB,.int .i64 aC]]:List (List Value)) [(aA,aB,aC)] from⟨(D1 aF aG aH),trivial⟩)]|exact congrArg (·+1) (F2.length fu4))) ?_
    obtain⟨x20,cN,aD⟩:=l0 aD
    obtain⟨cO,dA,cP,cQ⟩:=Sl.getI (r:=P0.toRp) (F0.mono bI rp0) cN (by decide)
    refine aI cO ?_
    obtain⟨aP,aQ,aR,rfl,rfl,bC,bD,bE⟩:=I1 cQ
    try dsimp only at aD
    refine eX _ (aI cP ?_)
    obtain⟨q21,cR,aD⟩:=l0 aD
    refine aI (L1 cR (by first|rw[F2.length (F2.append fu4 (show F2 (P0.R k5) ([[.int .i64 aA,.int .i64 aB,.int .i64 aC]]:List (List Value)) [(aA,aB,aC)] from⟨(D1 aF aG aH),trivial⟩)),F2.length (show F2 (P0.R k5) ([[.int .i64 aP,.int .i64 aQ,.int .i64 aR]]:List (List Value)) [(aP,aQ,aR)] from⟨(D1 bC bD bE),trivial⟩)]|exact congrArg (·+1) (F2.length (F2.append fu4 (show F2 (P0.R k5) ([[.int .i64 aA,.int .i64 aB,.int .i64 aC]]:List (List Value)) [(aA,aB,aC)] from⟨(D1 aF aG aH),trivial⟩))))) ?_
    refine aI rfl (aI (by trivial) (aI (by trivial) (eX m6 (aI ⟨true,(IntKind.i64.wrap (u3+1)),((wu4++([[.int .i64 aA,.int .i64 aB,.int .i64 aC]]:List (List Value)))++([[.int .i64 aP,.int .i64 aQ,.int .i64 aR]]:List (List Value))),((u4 ++ [(aA,aB,aC)]) ++ [(aP,aQ,aR)]),rfl,rfl,bI,(N0 _),(F2.append (F2.append fu4 (show F2 (P0.R k5) ([[.int .i64 aA,.int .i64 aB,.int .i64 aC]]:List (List Value)) [(aA,aB,aC)] from⟨(D1 aF aG aH),trivial⟩)) (show F2 (P0.R k5) ([[.int .i64 aP,.int .i64 aQ,.int .i64 aR]]:List (List Value)) [(aP,aQ,aR)] from⟨(D1 bC bD bE),trivial⟩)),aD⟩ (nS _)))))
   ·replace aD:=ifN aD bL
    obtain⟨x22,cS,aD⟩:=l0 aD
    obtain⟨cT,dB,cU,cV⟩:=Sl.getI (r:=P0.toRp) (F0.mono bI rp0) cS (by decide)
    refine aI cT ?_
    obtain⟨aS,aT,aU,rfl,rfl,bF,bG,bH⟩:=I1 cV
    try dsimp only at aD
    refine eX _ (aI cU ?_)
    obtain⟨q23,cW,aD⟩:=l0 aD
    refine aI (L1 cW (by first|rw[F2.length fu4,F2.length (show F2 (P0.R k5) ([[.int .i64 aS,.int .i64 aT,.int .i64 aU]]:List (List Value)) [(aS,aT,aU)] from⟨(D1 bF bG bH),trivial⟩)]|exact congrArg (·+1) (F2.length fu4))) ?_
    refine aI rfl (aI (by trivial) (aI (by trivial) (eX m6 (aI ⟨u2,(IntKind.i64.wrap (u3+1)),(wu4++([[.int .i64 aS,.int .i64 aT,.int .i64 aU]]:List (List Value))),(u4 ++ [(aS,aT,aU)]),rfl,rfl,bI,(N0 _),(F2.append fu4 (show F2 (P0.R k5) ([[.int .i64 aS,.int .i64 aT,.int .i64 aU]]:List (List Value)) [(aS,aT,aU)] from⟨(D1 bF bG bH),trivial⟩)),aD⟩ (nS _)))))
 ·replace aD:=ifN aD bX
  have hE:=oJ aD;subst hE
  try dsimp only[T0,V0]at aV
  refine aI (fun bM=>?_) (fun bM=>?_)
  ·replace aV:=ifP aV bM
   obtain⟨q25,cX,aV⟩:=l0 aV
   refine aI (L1 cX (by first|rw[F2.length fu4,F2.length (show F2 (P0.R k5) ([[.int .i64 aA,.int .i64 aB,.int .i64 aC]]:List (List Value)) [(aA,aB,aC)] from⟨(D1 aF aG aH),trivial⟩)]|exact congrArg (·+1) (F2.length fu4))) ?_
   intro v26 k27 f28
   obtain⟨az29,cz29,rfl,rz29,sz29,lz29⟩:=Z0.out (r:=P0.toRp) f28 (F2.append fu4 (show F2 (P0.R k5) ([[.int .i64 aA,.int .i64 aB,.int .i64 aC]]:List (List Value)) [(aA,aB,aC)] from⟨(D1 aF aG aH),trivial⟩))
   have hE:=oJ aV;subst hE
   exact⟨az29,((u4 ++ [(aA,aB,aC)])).length,cz29,rfl,rz29,(bI.trans sz29)⟩
  ·replace aV:=ifN aV bM
   intro v30 k31 f32
   obtain⟨az33,cz33,rfl,rz33,sz33,lz33⟩:=Z0.out (r:=P0.toRp) f32 fu4
   have hE:=oJ aV;subst hE
   exact⟨az33,u4.length,cz33,rfl,rz33,(bI.trans sz33)⟩
theorem R0c(h:Hp)(aL:List Value)(p0:j0)(rp0:W0.R h aL p0)(p1:Int)(ip1:M0 p1)(r:Int)(aG:b00 p0 p1=some r):
  Tr Tryz.prog 220 #[.agg aL.toArray,.int .i64 p1] h fun v h'=>v = .int .i64 r∧h'=h:=by
 obtain⟨aM,aN,aH,bA,aJ,aK,rfl,rfl,bB,bC,aB⟩:=B0 rp0
 obtain⟨rfl,bD⟩:=Sl.len aB
 unfold b00 at aG
 dsimp only at aG
 refine Tr.forget (Y1 (args:=[.agg #[.int .i64 aM,.int .i64 aN,.slice aH aK.length aJ],.int .i64 p1]) (fn:=Tryz.f220) rfl ?_)
 obtain⟨X1,aO,aG⟩:=l0 aG
 refine eX { vars:=[5,6],boxes:=[],owns:=[],fuel:=true } (eX (fun vs os h'=>∃(u2:Int) (u3:Int),vs.tail = [.int .i64 u2,.int .i64 u3]∧os = []∧Sub h h'∧M0 u2∧M0 u3∧l3 aK p1 (K1 vs) u2 u3=some X1) (eX (fun _ _=>0) ?_))
 refine aI (eX S0 ⟨0,0,rfl,rfl,(Sub.refl _),(by decide),(by decide),aO⟩) ?_
 rintro v_0 v_1 m5 k4 ⟨u2,u3,aP,aQ,aC,iu2,iu3,aA⟩
 cases aP
 cases aQ
 replace aA:l3 aK p1 m5 u2 u3=some X1:=aA
 obtain _|m5:=m5
 ·cases (show(none:Option _)=some X1 from aA)
 rw[l3.eq_2]at aA
 refine aI (fun aR=>?_) (fun aR=>?_)
 ·replace aA:=ifP aA aR
  obtain⟨x7,bO,aA⟩:=l0 aA
  obtain⟨bP,bQ,bR,bS⟩:=Sl.getI (r:=P0.toRp) (F0.mono aC aB) bO (by decide)
  refine aI bP ?_
  obtain⟨bT,bU,bV,rfl,rfl,bE,bF,bG⟩:=I1 bS
  try dsimp only at aA
  refine eX _ (aI bR ?_)
  refine aI (fun aS=>?_) (fun aS=>?_)
  ·replace aA:=ifP aA aS
   obtain⟨x9,bW,aA⟩:=l0 aA
   obtain⟨bX,bY,bZ,cA⟩:=Sl.getI (r:=P0.toRp) (F0.mono aC aB) bW (by decide)
   refine aI bX ?_
   obtain⟨cC,cD,cE,rfl,rfl,bH,bI,bJ⟩:=I1 cA
   try dsimp only at aA
   refine eX _ (aI bZ ?_)
   refine aI (fun aD=>?_) (fun aD=>?_)
   ·replace aA:=ifP aA aD
    refine aI rfl (aI (by trivial) (aI (by trivial) (eX m5 (aI ⟨(IntKind.i64.wrap ((IntKind.i64.wrap (u2+1))+1)),(IntKind.i64.wrap (u3+1)),rfl,rfl,aC,(N0 _),(N0 _),aA⟩ (nS _)))))
   ·replace aA:=ifN aA aD
    refine aI rfl (aI (by trivial) (aI (by trivial) (eX m5 (aI ⟨(IntKind.i64.wrap (u2+1)),(IntKind.i64.wrap (u3+1)),rfl,rfl,aC,(N0 _),(N0 _),aA⟩ (nS _)))))
  ·replace aA:=ifN aA aS
   obtain⟨x11,aT,aA⟩:=l0 aA
   obtain⟨aU,bK,aV,aW⟩:=Sl.getI (r:=P0.toRp) (F0.mono aC aB) aT (by decide)
   refine aI aU ?_
   obtain⟨bL,bM,bN,rfl,rfl,aX,aY,aZ⟩:=I1 aW
   try dsimp only at aA
   refine eX _ (aI aV ?_)
   refine aI (fun aF=>?_) (fun aF=>?_)
   ·replace aA:=ifP aA aF
    refine aI rfl (aI (by trivial) (aI (by trivial) (eX m5 (aI ⟨(IntKind.i64.wrap (u2+1)),(IntKind.i64.wrap (u3+1)),rfl,rfl,aC,(N0 _),(N0 _),aA⟩ (nS _)))))
   ·replace aA:=ifN aA aF
    refine aI rfl (aI (by trivial) (aI (by trivial) (eX m5 (aI ⟨u2,(IntKind.i64.wrap (u3+1)),rfl,rfl,aC,iu2,(N0 _),aA⟩ (nS _)))))
 ·replace aA:=ifN aA aR
  have hE:=oJ aA;subst hE
  try dsimp only[T0,V0]at aG
  have hE:=oJ aG;subst hE
  exact aI rfl aC
theorem V04(h:Hp)(aN:List Value)(p0:j0)(rp0:W0.R h aN p0)(aO:List Value)(p1:j0)(rp1:W0.R h aO p1)(r:Bool)(aB:A8 p0 p1=some r):
  Tr Tryz.prog 122 #[.agg aN.toArray,.agg aO.toArray] h fun v h'=>v = .bool r∧h'=h:=by
 obtain⟨aP,aQ,aF,bF,aG,aH,rfl,rfl,bG,bH,aC⟩:=B0 rp0
 obtain⟨rfl,bI⟩:=Sl.len aC
 obtain⟨aR,aS,aJ,bJ,aK,aL,rfl,rfl,bK,bL,aD⟩:=B0 rp1
 obtain⟨rfl,bM⟩:=Sl.len aD
 unfold A8 at aB
 dsimp only at aB
 refine Tr.forget (Y1 (args:=[.agg #[.int .i64 aP,.int .i64 aQ,.slice aF aH.length aG],.agg #[.int .i64 aR,.int .i64 aS,.slice aJ aL.length aK]]) (fn:=Tryz.f122) rfl ?_)
 refine aI (fun aT=>?_) (fun aT=>?_)
 ·replace aB:=ifP aB aT
  have hE:=oJ aB;subst hE
  exact aI rfl (Sub.refl _)
 ·replace aB:=ifN aB aT
  obtain⟨X2,aU,aB⟩:=l0 aB
  refine eX { vars:=[5],boxes:=[],owns:=[],fuel:=true } (eX (fun vs os h'=>∃(u3:Int),vs.tail = [.int .i64 u3]∧os = []∧Sub h h'∧M0 u3∧Z5 aH aL (K1 vs) u3=some X2) (eX (fun _ _=>0) ?_))
  refine aI (eX S0 ⟨0,rfl,rfl,(Sub.refl _),(by decide),aU⟩) ?_
  rintro v_0 m5 k4 ⟨u3,aV,aW,aM,iu3,aA⟩
  cases aV
  cases aW
  replace aA:Z5 aH aL m5 u3=some X2:=aA
  obtain _|m5:=m5
  ·cases (show(none:Option _)=some X2 from aA)
  rw[Z5.eq_2]at aA
  refine aI (fun aX=>?_) (fun aX=>?_)
  ·replace aA:=ifP aA aX
   refine Or.inl (aI (aI (by kernel_rfl) (by kernel_rfl)) ?_)
   obtain⟨x7,bT,aA⟩:=l0 aA
   obtain⟨bU,bV,bW,bX⟩:=Sl.getI (r:=P0.toRp) (F0.mono aM aC) bT (by decide)
   refine aI bU ?_
   obtain⟨aY,aZ,bA,rfl,rfl,bN,bO,bP⟩:=I1 bX
   try dsimp only at aA
   refine eX _ (aI bW ?_)
   obtain⟨x8,bY,aA⟩:=l0 aA
   obtain⟨bZ,cA,cC,cD⟩:=Sl.getI (r:=P0.toRp) (F0.mono aM aD) bY (by decide)
   refine aI bZ ?_
   obtain⟨bB,bC,bD,rfl,rfl,bQ,bR,bS⟩:=I1 cD
   try dsimp only at aA
   refine eX _ (aI cC ?_)
   refine eX (!eqE (aY,aZ,bA) (bB,bC,bD)) (aI (a0i _ _ _ rfl _ _ _ _ _ _) ?_)
   refine aI (fun bE=>?_) (fun bE=>?_)
   ·replace aA:=ifP aA bE
    have hE:=oJ aA;subst hE
    try dsimp only[S3,W3]at aB
    have hE:=oJ aB;subst hE
    exact aI rfl aM
   ·replace aA:=ifN aA bE
    refine aI rfl (aI (by trivial) (aI (by trivial) (eX m5 (aI ⟨(IntKind.i64.wrap (u3+1)),rfl,rfl,aM,(N0 _),aA⟩ (nS _)))))
  ·replace aA:=ifN aA aX
   have hE:=oJ aA;subst hE
   try dsimp only[T0,V0]at aB
   have hE:=oJ aB;subst hE
   exact aI rfl aM
theorem E09(h:Hp)(bJ:List Value)(p0:j0)(rp0:W0.R h bJ p0)(p1:Int)(ip1:M0 p1)(r:C0)(aB:R9 p0 p1=some r):
  Tr Tryz.prog 219 #[.agg bJ.toArray,.int .i64 p1] h fun v h'=>∃(a0:Option Addr) (n0 c0:Nat),v = .slice a0 n0 c0∧J0.R h' [.slice a0 n0 c0] r∧Sub h h':=by
 obtain⟨aP,aL,aN,cE,aO,aG,rfl,rfl,aY,aZ,aH⟩:=B0 rp0
 obtain⟨rfl,cG⟩:=Sl.len aH
 unfold R9 at aB
 dsimp only at aB
 refine Y1 (args:=[.agg #[.int .i64 aP,.int .i64 aL,.slice aN aG.length aO],.int .i64 p1]) (fn:=Tryz.f219) rfl ?_
 obtain⟨x1,cJ,aB⟩:=l0 aB
 refine Tr.val (i7 _ [.int .i64 aP,.int .i64 aL,.slice aN aG.length aO] (aP,aL,aG) (z0 aY aZ aH) _  cJ) ?_
 obtain⟨x2,cK,aB⟩:=l0 aB
 refine eX (.bool x2) (aI (fun q=>Q4 _ p1 ip1 0 (by decide) (IntKind.i64.wrap (aL-1)) (N0 _) _  (F1 cK q)) ?_)
 refine aI (fun bK=>?_) (fun bK=>?_)
 ·replace aB:=ifP aB bK
  intro v4 k5 f6
  obtain⟨az7,cz7,rfl,rz7,sz7,lz7⟩:=Z0.out (r:=Wp.int.toRp) f6 (show F2 (Wp.int.R h) ([]:List (List Value)) ([]:C0) from trivial)
  have hE:=oJ aB;subst hE
  exact⟨az7,(([]:C0)).length,cz7,rfl,rz7,sz7⟩
 ·replace aB:=ifN aB bK
  obtain⟨X12,bA,aB⟩:=l0 aB
  refine eX { vars:=[5,6],boxes:=[],owns:=[],fuel:=true,pubs:=[5,22] } (eX (fun vs os h'=>∃(au13:Option Addr) (nu13 cu13:Nat) (u13:C0) (u14:Int),vs.tail = [.slice au13 nu13 cu13,.int .i64 u14]∧os = []∧Sub h h'∧J0.R h' [.slice au13 nu13 cu13] u13∧M0 u14∧s5 aG (K1 vs) u13 u14=some X12) (eX (fun _ _=>0) ?_))
  intro v8 k9 f10
  obtain⟨az11,cz11,rfl,rz11,sz11,lz11⟩:=Z0.out (r:=Wp.int.toRp) f10 (show F2 (Wp.int.R h) ([[.int .i64 p1]]:List (List Value)) [p1] from⟨⟨rfl,ip1⟩,trivial⟩)
  refine aI (eX S0 ⟨az11,([p1]).length,cz11,[p1],0,rfl,rfl,sz11,rz11,(by decide),bA⟩) ?_
  rintro v_0 v_1 m16 k15 ⟨au13,nu13,cu13,u13,u14,bB,bC,bL,ru13,iu14,aF⟩
  cases bB
  cases bC
  replace aF:s5 aG m16 u13 u14=some X12:=aF
  obtain _|m16:=m16
  ·cases (show(none:Option _)=some X12 from aF)
  rw[s5.eq_2]at aF
  obtain⟨rfl,lu13⟩:=Sl.len ru13
  refine aI (fun aQ=>?_) (fun aQ=>?_)
  ·replace aF:=ifP aF aQ
   obtain⟨X18,bD,aF⟩:=l0 aF
   refine eX { vars:=[5,7],boxes:=[],owns:=[],fuel:=true } (eX (fun vs os h'=>∃(au19:Option Addr) (nu19 cu19:Nat) (u19:C0) (u20:Int),vs.tail = [.slice au19 nu19 cu19,.int .i64 u20]∧os = []∧Sub k15 h'∧J0.R h' [.slice au19 nu19 cu19] u19∧M0 u20∧j3 aG (K1 vs) u19 u20=some X18) (eX (fun _ _=>0) ?_))
   refine aI (eX S0 ⟨au13,u13.length,cu13,u13,0,rfl,rfl,(Sub.refl _),ru13,(by decide),bD⟩) ?_
   rintro v_0 v_1 m22 k21 ⟨au19,nu19,cu19,u19,u20,bE,bF,aR,ru19,iu20,aA⟩
   cases bE
   cases bF
   replace aA:j3 aG m22 u19 u20=some X18:=aA
   obtain _|m22:=m22
   ·cases (show(none:Option _)=some X18 from aA)
   rw[j3.eq_2]at aA
   obtain⟨rfl,lu19⟩:=Sl.len ru19
   refine aI (fun aS=>?_) (fun aS=>?_)
   ·replace aA:=ifP aA aS
    obtain⟨x24,bM,aA⟩:=l0 aA
    obtain⟨bN,cH,bO,bP⟩:=Sl.getI (r:=P0.toRp) (F0.mono (bL.trans aR) aH) bM (by decide)
    refine aI bN ?_
    obtain⟨aJ,cI,aK,rfl,rfl,aC,bQ,aD⟩:=I1 bP
    try dsimp only at aA
    refine eX _ (aI bO ?_)
    obtain⟨x25,bR,aA⟩:=l0 aA
    refine Tr.val (h02 _ au19 u19.length cu19 u19 ru19 aJ aC _  bR) ?_
    refine aI (fun aT=>?_) (fun aT=>?_)
    ·replace aA:=ifP aA aT
     obtain⟨x27,bS,aA⟩:=l0 aA
     refine Tr.mono (g02 _ au19 u19.length cu19 u19 ru19 aK aD _  bS) ?_
     rintro v29 k28 ⟨aU,cL,aV,rfl,aM,bG⟩
     obtain⟨rfl,cM⟩:=Sl.len aM
     obtain⟨x30,bT,aA⟩:=l0 aA
     refine Tr.val (h02 _ aU x27.length aV x27 aM aK aD _  bT) ?_
     refine aI (fun aW=>?_) (fun aW=>?_)
     ·replace aA:=ifP aA aW
      obtain⟨x32,bU,aA⟩:=l0 aA
      refine Tr.mono (g02 _ aU x27.length aV x27 aM aJ aC _  bU) ?_
      rintro v34 k33 ⟨bV,cN,bW,rfl,bH,bX⟩
      obtain⟨rfl,cO⟩:=Sl.len bH
      refine aI rfl (aI (by trivial) (aI (by trivial) (eX m22 (aI ⟨bV,x32.length,bW,x32,(IntKind.i64.wrap (u20+1)),rfl,rfl,((aR.trans bG).trans bX),bH,(N0 _),aA⟩ (nS _)))))
     ·replace aA:=ifN aA aW
      refine aI rfl (aI (by trivial) (aI (by trivial) (eX m22 (aI ⟨aU,x27.length,aV,x27,(IntKind.i64.wrap (u20+1)),rfl,rfl,(aR.trans bG),aM,(N0 _),aA⟩ (nS _)))))
    ·replace aA:=ifN aA aT
     obtain⟨x35,bY,aA⟩:=l0 aA
     refine Tr.val (h02 _ au19 u19.length cu19 u19 ru19 aK aD _  bY) ?_
     refine aI (fun aX=>?_) (fun aX=>?_)
     ·replace aA:=ifP aA aX
      obtain⟨x37,bZ,aA⟩:=l0 aA
      refine Tr.mono (g02 _ au19 u19.length cu19 u19 ru19 aJ aC _  bZ) ?_
      rintro v39 k38 ⟨cA,cP,cC,rfl,bI,cD⟩
      obtain⟨rfl,cQ⟩:=Sl.len bI
      refine aI rfl (aI (by trivial) (aI (by trivial) (eX m22 (aI ⟨cA,x37.length,cC,x37,(IntKind.i64.wrap (u20+1)),rfl,rfl,(aR.trans cD),bI,(N0 _),aA⟩ (nS _)))))
     ·replace aA:=ifN aA aX
      refine aI rfl (aI (by trivial) (aI (by trivial) (eX m22 (aI ⟨au19,u19.length,cu19,u19,(IntKind.i64.wrap (u20+1)),rfl,rfl,aR,ru19,(N0 _),aA⟩ (nS _)))))
   ·replace aA:=ifN aA aS
    have hE:=oJ aA;subst hE
    try dsimp only[T0,V0]at aF
    refine aI rfl (aI (by trivial) (aI (by trivial) (eX m16 (aI ⟨au19,u19.length,cu19,u19,(IntKind.i64.wrap (u14+1)),rfl,rfl,(bL.trans aR),ru19,(N0 _),aF⟩ (nS _)))))
  ·replace aF:=ifN aF aQ
   have hE:=oJ aF;subst hE
   try dsimp only[T0,V0]at aB
   have hE:=oJ aB;subst hE
   exact⟨au13,u13.length,cu13,rfl,ru13,bL⟩
theorem c09(h:Hp)(aO:List Value)(p0:j0)(rp0:W0.R h aO p0)(r:Int)(aH:o01 p0=some r):
  Tr Tryz.prog 175 #[.agg aO.toArray] h fun v h'=>v = .int .i64 r∧h'=h:=by
 obtain⟨aB,aC,aD,aV,aF,aJ,rfl,rfl,aK,aL,aG⟩:=B0 rp0
 obtain⟨rfl,aW⟩:=Sl.len aG
 unfold o01 at aH
 dsimp only at aH
 refine Tr.forget (Y1 (args:=[.agg #[.int .i64 aB,.int .i64 aC,.slice aD aJ.length aF]]) (fn:=Tryz.f175) rfl ?_)
 obtain⟨x1,aY,aH⟩:=l0 aH
 refine Tr.mono (E09 _ [.int .i64 aB,.int .i64 aC,.slice aD aJ.length aF] (aB,aC,aJ) (z0 aK aL aG) 0 (by decide) _  aY) ?_
 rintro v3 k2 ⟨aZ,bC,bA,rfl,aX,bD⟩
 obtain⟨rfl,bE⟩:=Sl.len aX
 obtain⟨X4,aP,aH⟩:=l0 aH
 refine eX { vars:=[4],boxes:=[],owns:=[],fuel:=true } (eX (fun vs os h'=>∃(u5:Int),vs.tail = [.int .i64 u5]∧os = []∧Sub k2 h'∧M0 u5∧g8 aC aB aJ x1 (K1 vs) u5=some X4) (eX (fun _ _=>0) ?_))
 refine aI (eX S0 ⟨1,rfl,rfl,(Sub.refl _),(by decide),aP⟩) ?_
 rintro v_0 m7 k6 ⟨u5,aQ,aR,aN,iu5,aA⟩
 cases aQ
 cases aR
 replace aA:g8 aC aB aJ x1 m7 u5=some X4:=aA
 obtain _|m7:=m7
 ·cases (show(none:Option _)=some X4 from aA)
 rw[g8.eq_2]at aA
 refine aI (fun aS=>?_) (fun aS=>?_)
 ·replace aA:=ifP aA aS
  obtain⟨x9,bB,aA⟩:=l0 aA
  refine Tr.val (R0c _ [.int .i64 aB,.int .i64 aC,.slice aD aJ.length aF] (aB,aC,aJ) (z0 aK aL (F0.mono (bD.trans aN) aG)) u5 iu5 _  bB) ?_
  obtain⟨q10,aT,aA⟩:=l0 aA
  have bF:M0 x9:=O1 aT
  obtain⟨x11,aU,aA⟩:=l0 aA
  refine eX (.bool x11) (aI (fun q=>h02 _ aZ x1.length bA x1 (J0.mono aN aX) u5 iu5 _  (F1 aU q)) ?_)
  refine aI (fun aM=>?_) (fun aM=>?_)
  ·replace aA:=ifP aA aM
   have hE:=oJ aA;subst hE
   try dsimp only[S3,W3]at aH
   have hE:=oJ aH;subst hE
   exact aI rfl (bD.trans aN)
  ·replace aA:=ifN aA aM
   refine aI rfl (aI (by trivial) (aI (by trivial) (eX m7 (aI ⟨(IntKind.i64.wrap (u5+1)),rfl,rfl,aN,(N0 _),aA⟩ (nS _)))))
 ·replace aA:=ifN aA aS
  have hE:=oJ aA;subst hE
  try dsimp only[T0,V0]at aH
  have hE:=oJ aH;subst hE
  exact aI rfl (bD.trans aN)
theorem X01(h:Hp)(bO:List Value)(p0:j0)(rp0:W0.R h bO p0)(ap1:Option Addr)(np1 cp1:Nat)(p1:C0)(rp1:J0.R h [.slice ap1 np1 cp1] p1)(r:j0×Bool)(aB:d6 p0 p1=some r):
  Tr Tryz.prog 185 #[.agg bO.toArray,.slice ap1 np1 cp1] h fun v h'=>∃(cs0:List Value),v = .tuple #[.agg cs0.toArray,.bool r.2]∧W0.R h' cs0 r.1∧Sub h h':=by
 obtain⟨aC,aD,aJ,dR,aK,aG,rfl,rfl,aL,aM,aF⟩:=B0 rp0
 obtain⟨rfl,dS⟩:=Sl.len aF
 obtain⟨rfl,lp1⟩:=Sl.len rp1
 unfold d6 at aB
 dsimp only at aB
 refine Y1 (args:=[.agg #[.int .i64 aC,.int .i64 aD,.slice aJ aG.length aK],.slice ap1 p1.length cp1]) (fn:=Tryz.f185) rfl ?_
 obtain⟨x1,eJ,aB⟩:=l0 aB
 refine Tr.val (i7 _ [.int .i64 aC,.int .i64 aD,.slice aJ aG.length aK] (aC,aD,aG) (z0 aL aM aF) _  eJ) ?_
 refine aI (fun bP=>?_) (fun bP=>?_)
 ·replace aB:=ifP aB bP
  obtain⟨x3,eK,aB⟩:=l0 aB
  refine Tr.mono (j7 _ [.int .i64 aC,.int .i64 aD,.slice aJ aG.length aK] (aC,aD,aG) (z0 aL aM aF) _  eK) ?_
  rintro v5 k4 ⟨eL,rfl,eM,eN⟩
  obtain⟨bQ,bR,aZ,dT,bA,eO,rfl,rfl,bB,bC,aP⟩:=B0 eM
  obtain⟨rfl,dU⟩:=Sl.len aP
  try dsimp only at aB
  have hE:=oJ aB;subst hE
  exact⟨([.int .i64 bQ,.int .i64 bR,.slice aZ eO.length bA]),rfl,(z0 bB bC aP),eN⟩
 ·replace aB:=ifN aB bP
  obtain⟨q6,eP,aB⟩:=l0 aB
  refine aI (O1 eP) ?_
  obtain⟨X7,bS,aB⟩:=l0 aB
  refine eX { vars:=[8],boxes:=[],owns:=[0],fuel:=true,kept:=[0] } (eX (fun vs os h'=>∃(u8:Int) (wu9:List (List Value)) (u9:List Int),vs.tail = [.int .i64 u8]∧os = [wu9]∧Sub h h'∧M0 u8∧F2 (Wp.int.R h') wu9 u9∧i4 p1 aD aC aG (K1 vs) u8 u9=some X7) (eX (fun _ _=>0) ?_))
  refine aI (eX S0 ⟨0,(List.replicate aD.toNat ([.int .i64 0]:List Value)),(List.replicate aD.toNat (0:Int)),rfl,rfl,(Sub.refl _),(by decide),(F2.rep (p:=Wp.int.R h) (a:=[.int .i64 0]) (b:=0) ⟨rfl,(by decide)⟩ (aD.toNat)),bS⟩) ?_
  rintro v_0 wu9 m11 k10 ⟨u8,zzu9,u9,bT,bU,bD,iu8,fu9,aA⟩
  cases bT
  cases bU
  replace aA:i4 p1 aD aC aG m11 u8 u9=some X7:=aA
  obtain _|m11:=m11
  ·cases (show(none:Option _)=some X7 from aA)
  rw[i4.eq_2]at aA
  refine aI (fun aQ=>?_) (fun aQ=>?_)
  ·replace aA:=ifP aA aQ
   refine Or.inl (aI (aI (by kernel_rfl) (by kernel_rfl)) ?_)
   obtain⟨x13,bV,aA⟩:=l0 aA
   obtain⟨bW,dV,bX,bY⟩:=Sl.getI (r:=Wp.int.toRp) (J0.mono bD rp1) bV (by decide)
   refine aI bW ?_
   obtain⟨rfl,bZ⟩:=bY
   refine eX _ (aI bX ?_)
   obtain⟨x14,cA,aA⟩:=l0 aA
   refine eX (.bool x14) (aI (Q4 _ x13 bZ 0 (by decide) (IntKind.i64.wrap (aD-1)) (N0 _) _  cA) ?_)
   obtain⟨x15,cC,aA⟩:=l0 aA
   obtain⟨dW,bE,cD⟩:=Sl.getG (r:=Wp.int.toRp) (J0.mono bD rp1) cC (by decide) (c04 k10)
   refine aI (fun q=>(bE q).1) ?_
   obtain⟨rfl,eQ⟩:=cD
   refine eX _ (aI (fun q=>(bE q).2) ?_)
   obtain⟨x16,cE,aA⟩:=l0 aA
   obtain⟨dX,bF,cG⟩:=Q03 fu9 cE (c04 k10)
   refine aI (fun q=>(bF q).1) ?_
   obtain⟨rfl,eR⟩:=cG
   refine eX _ (aI (fun q=>(bF q).2) ?_)
   refine aI (fun aR=>?_) (fun aR=>?_)
   ·replace aA:=ifP aA aR
    obtain⟨x18,cH,aA⟩:=l0 aA
    refine Tr.mono (j7 _ [.int .i64 aC,.int .i64 aD,.slice aJ aG.length aK] (aC,aD,aG) (z0 aL aM (F0.mono bD aF)) _  cH) ?_
    rintro v20 k19 ⟨dY,rfl,cI,cJ⟩
    obtain⟨bG,bH,aS,cK,aT,dZ,rfl,rfl,aU,aV,aN⟩:=B0 cI
    obtain⟨rfl,cL⟩:=Sl.len aN
    try dsimp only at aA
    have hE:=oJ aA;subst hE
    try dsimp only[S3,W3]at aB
    have hE:=oJ aB;subst hE
    exact⟨([.int .i64 bG,.int .i64 bH,.slice aS dZ.length aT]),rfl,(z0 aU aV aN),(bD.trans cJ)⟩
   ·replace aA:=ifN aA aR
    obtain⟨x21,cM,aA⟩:=l0 aA
    obtain⟨cN,eA,cO,cP⟩:=Sl.getI (r:=Wp.int.toRp) (J0.mono bD rp1) cM (by decide)
    refine aI cN ?_
    obtain⟨rfl,eT⟩:=cP
    refine eX _ (aI cO ?_)
    obtain⟨x22,cQ,aA⟩:=l0 aA
    obtain⟨cR,eB,cS,cT⟩:=G4 fu9 cQ
    refine aI cR ?_
    obtain⟨rfl,eU⟩:=cT
    refine eX _ (aI cS ?_)
    refine aI rfl (aI (by trivial) (aI (by trivial) (eX m11 (aI ⟨(IntKind.i64.wrap (u8+1)),(wu9.set x21.toNat [.int .i64 (IntKind.i64.wrap (u8+1))]),(u9.set x21.toNat (IntKind.i64.wrap (u8+1))),rfl,rfl,bD,(N0 _),(F2.set (p:=Wp.int.R k10) (a:=[.int .i64 (IntKind.i64.wrap (u8+1))]) (b:=(IntKind.i64.wrap (u8+1))) ⟨rfl,(N0 _)⟩ x21.toNat fu9),aA⟩ (nS _)))))
  ·replace aA:=ifN aA aQ
   have hE:=oJ aA;subst hE
   try dsimp only[T0,V0]at aB
   obtain⟨X23,bI,aB⟩:=l0 aB
   refine eX { vars:=[9],boxes:=[2],owns:=[],fuel:=true } (eX (fun vs os h'=>∃(u24:Int) (u25:Int) (u26:Int) (au27:Option Addr) (nu27 cu27:Nat) (u27:I0),vs.tail = [.int .i64 u24,.int .i64 u25,.int .i64 u26,.slice au27 nu27 cu27]∧os = []∧Sub k10 h'∧M0 u24∧M0 u25∧M0 u26∧F0.R h' [.slice au27 nu27 cu27] u27∧G3 aG u9 (K1 vs) u24 u25 u26 u27=some X23) (eX (fun _ _=>0) ?_))
   refine aI (eX S0 ⟨0,aC,((p1.length:Nat):Int),none,0,0,[],rfl,rfl,(Sub.refl _),(by decide),aL,(o0o lp1),(z0b P0 k10),bI⟩) ?_
   rintro v_0 v_1 v_2 v_3 m29 k28 ⟨u24,u25,u26,au27,nu27,cu27,u27,bJ,bK,aH,iu24,iu25,iu26,ru27,aA⟩
   cases bJ
   cases bK
   replace aA:G3 aG u9 m29 u24 u25 u26 u27=some X23:=aA
   obtain _|m29:=m29
   ·cases (show(none:Option _)=some X23 from aA)
   rw[G3.eq_2]at aA
   obtain⟨rfl,lu27⟩:=Sl.len ru27
   refine aI (fun aW=>?_) (fun aW=>?_)
   ·replace aA:=ifP aA aW
    obtain⟨x31,cU,aA⟩:=l0 aA
    obtain⟨cV,eC,cW,cX⟩:=Sl.getI (r:=P0.toRp) (F0.mono (bD.trans aH) aF) cU (by decide)
    refine aI cV ?_
    obtain⟨eD,aO,eE,rfl,rfl,cY,aX,cZ⟩:=I1 cX
    try dsimp only at aA
    refine eX _ (aI cW ?_)
    obtain⟨x32,dA,aA⟩:=l0 aA
    obtain⟨dB,eF,dC,dD⟩:=G4 (F2.up (r:=Wp.int.toRp) aH fu9) dA
    refine aI dB ?_
    obtain⟨rfl,eV⟩:=dD
    refine eX _ (aI dC ?_)
    obtain⟨x33,dE,aA⟩:=l0 aA
    obtain⟨eG,bL,dF⟩:=Q03 (F2.up (r:=Wp.int.toRp) aH fu9) dE (c04 k28)
    refine aI (fun q=>(bL q).1) ?_
    obtain⟨rfl,eW⟩:=dF
    refine eX _ (aI (fun q=>(bL q).2) ?_)
    refine aI (fun aY=>?_) (fun aY=>?_)
    ·replace aA:=ifP aA aY
     refine Or.inr (Or.inr (Or.inl (aI (aI (by kernel_rfl) (by kernel_rfl)) ?_)))
     obtain⟨x35,dG,aA⟩:=l0 aA
     obtain⟨dH,eH,dI,dJ⟩:=G4 (F2.up (r:=Wp.int.toRp) aH fu9) dG
     obtain⟨rfl,eY⟩:=dJ
     refine Or.inl ?_
     apply eX
     refine aI ?_ ?_
     ·intro k36 s37
      exact aI dH (aI rfl (aI rfl rfl))
     refine Or.inl (eX (.val (.int .i64 x35)) (aI ?_ ?_))
     ·intro k38 s39
      exact eX _ (aI dI (aI rfl (aI rfl rfl)))
     refine Or.inl (eX (.val (.int .i64 (IntKind.i64.wrap (x35-1)))) (aI ?_ ?_))
     ·intro k40 s41
      exact aI rfl (aI rfl rfl)
     obtain⟨x42,dK,aA⟩:=l0 aA
     obtain⟨dL,eI,dM,dN⟩:=G4 (F2.up (r:=Wp.int.toRp) aH fu9) dK
     obtain⟨rfl,eZ⟩:=dN
     refine Or.inl ?_
     apply eX
     refine aI ?_ ?_
     ·intro k43 s44
      exact aI dL (aI rfl (aI rfl rfl))
     refine Or.inl (eX (.val (.int .i64 x42)) (aI ?_ ?_))
     ·intro k45 s46
      exact eX _ (aI dM (aI rfl (aI rfl rfl)))
     refine Or.inl (eX (.val (.int .i64 (IntKind.i64.wrap (x42-1)))) (aI ?_ ?_))
     ·intro k47 s48
      exact aI rfl (aI rfl rfl)
     refine Or.inl (eX (.agg [.val (.int .i64 (IntKind.i64.wrap (x35-1))),.val (.int .i64 aO),.val (.int .i64 (IntKind.i64.wrap (x42-1)))]) (aI ?_ ?_))
     ·intro k49 s50
      exact aI rfl (aI rfl rfl)
     refine Or.inr ?_
     refine Or.inr ?_
     refine Or.inl (eX 1 (aI (aI rfl rfl) ?_))
     obtain⟨x51,dO,aA⟩:=l0 aA
     refine Tr.mono (u00 _ au27 u27.length cu27 u27 ru27 [.int .i64 (IntKind.i64.wrap (x35-1)),.int .i64 aO,.int .i64 (IntKind.i64.wrap (x42-1))] ((IntKind.i64.wrap (x35-1)),aO,(IntKind.i64.wrap (x42-1))) (D1 (N0 _) aX (N0 _)) _  dO) ?_
     rintro v53 k52 ⟨dP,fA,dQ,rfl,bM,bN⟩
     obtain⟨rfl,fB⟩:=Sl.len bM
     refine aI (aI rfl bN) (aI (by first|exact trivial|exact rfl) ?_)
     refine aI trivial (aI (by first|exact trivial|exact rfl) ?_)
     refine aI rfl (aI (by trivial) (aI (by trivial) (eX m29 (aI ⟨(IntKind.i64.wrap (u24+1)),u25,u26,dP,x51.length,dQ,x51,rfl,rfl,(aH.trans bN),(N0 _),iu25,iu26,bM,aA⟩ (nS _)))))
    ·replace aA:=ifN aA aY
     refine aI rfl (aI (by trivial) (aI (by trivial) (eX m29 (aI ⟨(IntKind.i64.wrap (u24+1)),u25,u26,au27,u27.length,cu27,u27,rfl,rfl,aH,(N0 _),iu25,iu26,ru27,aA⟩ (nS _)))))
   ·replace aA:=ifN aA aW
    have hE:=oJ aA;subst hE
    try dsimp only[T0,V0]at aB
    have hE:=oJ aB;subst hE
    exact⟨([.int .i64 u25,.int .i64 u26,.slice au27 u27.length cu27]),rfl,(z0 iu25 iu26 ru27),(bD.trans aH)⟩
theorem i02(h:Hp)(p0:Int)(ip0:M0 p0)(r:C0)(aB:w6 p0=some r):
  Tr Tryz.prog 225 #[.int .i64 p0] h fun v h'=>∃(a0:Option Addr) (n0 c0:Nat),v = .slice a0 n0 c0∧J0.R h' [.slice a0 n0 c0] r∧Sub h h':=by
 unfold w6 at aB
 refine Y1 (args:=[.int .i64 p0]) (fn:=Tryz.f225) rfl ?_
 obtain⟨X1,aC,aB⟩:=l0 aB
 refine eX { vars:=[4],boxes:=[],owns:=[0],fuel:=true } (eX (fun vs os h'=>∃(u2:Int) (wu3:List (List Value)) (u3:List Int),vs.tail = [.int .i64 u2]∧os = [wu3]∧Sub h h'∧M0 u2∧F2 (Wp.int.R h') wu3 u3∧g6 p0 (K1 vs) u2 u3=some X1) (eX (fun _ _=>0) ?_))
 refine aI (eX S0 ⟨1,[],([]:C0),rfl,rfl,(Sub.refl _),(by decide),(show F2 (Wp.int.R h) ([]:List (List Value)) ([]:C0) from trivial),aC⟩) ?_
 rintro v_0 wu3 m5 k4 ⟨u2,zzu3,u3,aD,aF,aH,iu2,fu3,aA⟩
 cases aD
 cases aF
 replace aA:g6 p0 m5 u2 u3=some X1:=aA
 obtain _|m5:=m5
 ·cases (show(none:Option _)=some X1 from aA)
 rw[g6.eq_2]at aA
 refine aI (fun aG=>?_) (fun aG=>?_)
 ·replace aA:=ifP aA aG
  obtain⟨q7,aJ,aA⟩:=l0 aA
  refine aI (L1 aJ (by first|rw[F2.length fu3,F2.length (show F2 (Wp.int.R k4) ([[.int .i64 u2]]:List (List Value)) [u2] from⟨⟨rfl,iu2⟩,trivial⟩)]|exact congrArg (·+1) (F2.length fu3))) ?_
  obtain⟨q8,aK,aA⟩:=l0 aA
  refine aI (L1 aK (by first|rw[F2.length (F2.append fu3 (show F2 (Wp.int.R k4) ([[.int .i64 u2]]:List (List Value)) [u2] from⟨⟨rfl,iu2⟩,trivial⟩)),F2.length (show F2 (Wp.int.R k4) ([[.int .i64 (IntKind.i64.wrap (0-u2))]]:List (List Value)) [(IntKind.i64.wrap (0-u2))] from⟨⟨rfl,(N0 _)⟩,trivial⟩)]|exact congrArg (·+1) (F2.length (F2.append fu3 (show F2 (Wp.int.R k4) ([[.int .i64 u2]]:List (List Value)) [u2] from⟨⟨rfl,iu2⟩,trivial⟩))))) ?_
  refine aI rfl (aI (by trivial) (aI (by trivial) (eX m5 (aI ⟨(IntKind.i64.wrap (u2+1)),((wu3++([[.int .i64 u2]]:List (List Value)))++([[.int .i64 (IntKind.i64.wrap (0-u2))]]:List (List Value))),((u3 ++ [u2]) ++ [(IntKind.i64.wrap (0-u2))]),rfl,rfl,aH,(N0 _),(F2.append (F2.append fu3 (show F2 (Wp.int.R k4) ([[.int .i64 u2]]:List (List Value)) [u2] from⟨⟨rfl,iu2⟩,trivial⟩)) (show F2 (Wp.int.R k4) ([[.int .i64 (IntKind.i64.wrap (0-u2))]]:List (List Value)) [(IntKind.i64.wrap (0-u2))] from⟨⟨rfl,(N0 _)⟩,trivial⟩)),aA⟩ (nS _)))))
 ·replace aA:=ifN aA aG
  have hE:=oJ aA;subst hE
  try dsimp only[T0,V0]at aB
  intro v9 k10 f11
  obtain⟨az12,cz12,rfl,rz12,sz12,lz12⟩:=Z0.out (r:=Wp.int.toRp) f11 fu3
  have hE:=oJ aB;subst hE
  exact⟨az12,u3.length,cz12,rfl,rz12,(aH.trans sz12)⟩
theorem c07(h:Hp)(aZ:List Value)(p0:j0)(rp0:W0.R h aZ p0)(r:C0)(aF:p8 p0=some r):
  Tr Tryz.prog 222 #[.agg aZ.toArray] h fun v h'=>∃(a0:Option Addr) (n0 c0:Nat),v = .slice a0 n0 c0∧J0.R h' [.slice a0 n0 c0] r∧Sub h h':=by
 obtain⟨aB,aC,aH,bP,aJ,aG,rfl,rfl,aK,aN,aL⟩:=B0 rp0
 obtain⟨rfl,bQ⟩:=Sl.len aL
 unfold p8 at aF
 dsimp only at aF
 refine Y1 (args:=[.agg #[.int .i64 aB,.int .i64 aC,.slice aH aG.length aJ]]) (fn:=Tryz.f222) rfl ?_
 obtain⟨x1,bU,aF⟩:=l0 aF
 refine Tr.val (t6 _ [.int .i64 aB,.int .i64 aC,.slice aH aG.length aJ] (aB,aC,aG) (z0 aK aN aL) _  bU) ?_
 refine aI (fun bA=>?_) (fun bA=>?_)
 ·replace aF:=ifP aF bA
  intro v3 k4 f5
  obtain⟨az6,cz6,rfl,rz6,sz6,lz6⟩:=Z0.out (r:=Wp.int.toRp) f5 (show F2 (Wp.int.R h) ([]:List (List Value)) ([]:C0) from trivial)
  have hE:=oJ aF;subst hE
  exact⟨az6,(([]:C0)).length,cz6,rfl,rz6,sz6⟩
 ·replace aF:=ifN aF bA
  obtain⟨x7,bV,aF⟩:=l0 aF
  refine Tr.mono (i02 _ aB aK _  bV) ?_
  rintro v9 k8 ⟨bY,bZ,cA,rfl,bR,bW⟩
  obtain⟨rfl,cC⟩:=Sl.len bR
  obtain⟨X10,aS,aF⟩:=l0 aF
  refine eX { vars:=[5],boxes:=[],owns:=[0],fuel:=true } (eX (fun vs os h'=>∃(u11:Int) (wu12:List (List Value)) (u12:List Int),vs.tail = [.int .i64 u11]∧os = [wu12]∧Sub k8 h'∧M0 u11∧F2 (Wp.int.R h') wu12 u12∧Y4 x7 aB aC aG (K1 vs) u11 u12=some X10) (eX (fun _ _=>0) ?_))
  refine aI (eX S0 ⟨0,([[.int .i64 0]]:List (List Value)),[0],rfl,rfl,(Sub.refl _),(by decide),(F2.up (r:=Wp.int.toRp) bW (show F2 (Wp.int.R h) ([[.int .i64 0]]:List (List Value)) [0] from⟨⟨rfl,(by decide)⟩,trivial⟩)),aS⟩) ?_
  rintro v_0 wu12 m14 k13 ⟨u11,zzu12,u12,aT,aU,aV,iu11,fu12,aD⟩
  cases aT
  cases aU
  replace aD:Y4 x7 aB aC aG m14 u11 u12=some X10:=aD
  obtain _|m14:=m14
  ·cases (show(none:Option _)=some X10 from aD)
  rw[Y4.eq_2]at aD
  obtain⟨m15,gm15,aD⟩:=l0 aD
  obtain rfl:wu12.length=m15:=(F2.length fu12).trans (oJ gm15)
  obtain⟨q16,bX,aD⟩:=l0 aD
  refine aI (fun aO=>?_) (fun aO=>?_)
  ·replace aD:=ifP aD aO
   obtain⟨X18,aW,aD⟩:=l0 aD
   refine eX { vars:=[6],boxes:=[],owns:=[0],fuel:=true } (eX (fun vs os h'=>∃(u19:Int) (wu20:List (List Value)) (u20:List Int),vs.tail = [.int .i64 u19]∧os = [wu20]∧Sub k13 h'∧M0 u19∧F2 (Wp.int.R h') wu20 u20∧A3 x7 u11 aB aC aG (K1 vs) u19 u20=some X18) (eX (fun _ _=>0) ?_))
   refine aI (eX S0 ⟨0,wu12,u12,rfl,rfl,(Sub.refl _),(by decide),fu12,aW⟩) ?_
   rintro v_0 wu20 m22 k21 ⟨u19,zzu20,u20,aX,aY,aM,iu19,fu20,aA⟩
   cases aX
   cases aY
   replace aA:A3 x7 u11 aB aC aG m22 u19 u20=some X18:=aA
   obtain _|m22:=m22
   ·cases (show(none:Option _)=some X18 from aA)
   rw[A3.eq_2]at aA
   refine aI (fun aP=>?_) (fun aP=>?_)
   ·replace aA:=ifP aA aP
    refine Or.inl (aI (aI (by kernel_rfl) (by kernel_rfl)) ?_)
    obtain⟨x24,bB,aA⟩:=l0 aA
    obtain⟨bC,bS,bD,bE⟩:=G4 fu20 bB
    refine aI bC ?_
    obtain⟨rfl,bF⟩:=bE
    refine eX _ (aI bD ?_)
    obtain⟨x25,bG,aA⟩:=l0 aA
    obtain⟨bH,bT,bI,bJ⟩:=Sl.getI (r:=Wp.int.toRp) (J0.mono (aV.trans aM) bR) bG (by decide)
    refine aI bH ?_
    obtain⟨rfl,bK⟩:=bJ
    refine eX _ (aI bI ?_)
    obtain⟨x26,bL,aA⟩:=l0 aA
    refine eX (.int .i64 x26) (aI (d9 _ [.int .i64 aB,.int .i64 aC,.slice aH aG.length aJ] (aB,aC,aG) (z0 aK aN (F0.mono ((bW.trans aV).trans aM) aL)) x24 bF x25 bK _  bL) ?_)
    obtain⟨q27,bM,aA⟩:=l0 aA
    have aQ:M0 x26:=O1 bM
    obtain⟨x28,bN,aA⟩:=l0 aA
    refine eX (.bool x28) (aI ?_ ?_)
    ·intro hq
     intro v29 k30 f31
     obtain⟨az32,cz32,rfl,rz32,sz32,lz32⟩:=Z0.out (r:=Wp.int.toRp) f31 fu20
     exact h02 _ az32 u20.length cz32 u20 rz32 x26 aQ _ (F1 bN hq)
    refine aI (fun aR=>?_) (fun aR=>?_)
    ·replace aA:=ifP aA aR
     obtain⟨q34,bO,aA⟩:=l0 aA
     refine aI (L1 bO (by first|rw[F2.length fu20,F2.length (show F2 (Wp.int.R k21) ([[.int .i64 x26]]:List (List Value)) [x26] from⟨⟨rfl,aQ⟩,trivial⟩)]|exact congrArg (·+1) (F2.length fu20))) ?_
     refine aI rfl (aI (by trivial) (aI (by trivial) (eX m22 (aI ⟨(IntKind.i64.wrap (u19+1)),(wu20++([[.int .i64 x26]]:List (List Value))),(u20 ++ [x26]),rfl,rfl,aM,(N0 _),(F2.append fu20 (show F2 (Wp.int.R k21) ([[.int .i64 x26]]:List (List Value)) [x26] from⟨⟨rfl,aQ⟩,trivial⟩)),aA⟩ (nS _)))))
    ·replace aA:=ifN aA aR
     refine aI rfl (aI (by trivial) (aI (by trivial) (eX m22 (aI ⟨(IntKind.i64.wrap (u19+1)),wu20,u20,rfl,rfl,aM,(N0 _),fu20,aA⟩ (nS _)))))
   ·replace aA:=ifN aA aP
    have hE:=oJ aA;subst hE
    try dsimp only[T0,V0]at aD
    refine aI rfl (aI (by trivial) (aI (by trivial) (eX m14 (aI ⟨(IntKind.i64.wrap (u11+1)),wu20,u20,rfl,rfl,(aV.trans aM),(N0 _),fu20,aD⟩ (nS _)))))
  ·replace aD:=ifN aD aO
   have hE:=oJ aD;subst hE
   try dsimp only[T0,V0]at aF
   intro v39 k40 f41
   obtain⟨az42,cz42,rfl,rz42,sz42,lz42⟩:=Z0.out (r:=Wp.int.toRp) f41 fu12
   have hE:=oJ aF;subst hE
   exact⟨az42,u12.length,cz42,rfl,rz42,((bW.trans aV).trans sz42)⟩
theorem m03(h:Hp)(bA:List Value)(p0:j0)(rp0:W0.R h bA p0)(r:j0)(aA:W6 p0=some r):
  Tr Tryz.prog 176 #[.agg bA.toArray] h fun v h'=>∃(cs0:List Value),v = .agg cs0.toArray∧W0.R h' cs0 r∧Sub h h':=by
 obtain⟨aB,aC,aD,bG,aF,aR,rfl,rfl,aJ,aK,aG⟩:=B0 rp0
 obtain⟨rfl,bH⟩:=Sl.len aG
 unfold W6 at aA
 dsimp only at aA
 refine Y1 (args:=[.agg #[.int .i64 aB,.int .i64 aC,.slice aD aR.length aF]]) (fn:=Tryz.f176) rfl ?_
 obtain⟨x1,bM,aA⟩:=l0 aA
 refine Tr.mono (c07 _ [.int .i64 aB,.int .i64 aC,.slice aD aR.length aF] (aB,aC,aR) (z0 aJ aK aG) _  bM) ?_
 rintro v3 k2 ⟨bN,bY,bO,rfl,bI,bJ⟩
 obtain⟨rfl,bZ⟩:=Sl.len bI
 refine aI (fun bB=>?_) (fun bB=>?_)
 ·replace aA:=ifP aA bB
  obtain⟨x5,bP,aA⟩:=l0 aA
  refine Tr.mono (j7 _ [.int .i64 aB,.int .i64 aC,.slice aD aR.length aF] (aB,aC,aR) (z0 aJ aK (F0.mono bJ aG)) _  bP) ?_
  rintro v7 k6 ⟨bQ,rfl,bR,bS⟩
  obtain⟨bC,bD,aU,bK,aV,bT,rfl,rfl,aW,aX,aP⟩:=B0 bR
  obtain⟨rfl,bL⟩:=Sl.len aP
  try dsimp only at aA
  have hE:=oJ aA;subst hE
  exact⟨([.int .i64 bC,.int .i64 bD,.slice aU bT.length aV]),rfl,(z0 aW aX aP),(bJ.trans bS)⟩
 ·replace aA:=ifN aA bB
  obtain⟨x8,bU,aA⟩:=l0 aA
  refine Tr.mono (X01 _ [.int .i64 aB,.int .i64 aC,.slice aD aR.length aF] (aB,aC,aR) (z0 aJ aK (F0.mono bJ aG)) bN x1.length bO x1 bI _  bU) ?_
  rintro v10 k9 ⟨bE,rfl,aQ,bV⟩
  obtain⟨bW,bX⟩:=x8
  dsimp only at aA aQ
  obtain⟨aS,aT,aL,aY,aM,bF,rfl,rfl,aN,aO,aH⟩:=B0 aQ
  obtain⟨rfl,aZ⟩:=Sl.len aH
  try dsimp only at aA
  have hE:=oJ aA;subst hE
  exact⟨([.int .i64 aS,.int .i64 aT,.slice aL bF.length aM]),rfl,(z0 aN aO aH),(bJ.trans bV)⟩
theorem z0f(h:Hp)(aX:List Value)(p0:j0)(rp0:W0.R h aX p0)(r:Bool)(aJ:y00 p0=some r):
  Tr Tryz.prog 120 #[.agg aX.toArray] h fun v h'=>v = .bool r∧h'=h:=by
 obtain⟨aA,aB,aF,bE,aG,aP,rfl,rfl,aK,aL,aH⟩:=B0 rp0
 obtain⟨rfl,bF⟩:=Sl.len aH
 unfold y00 at aJ
 dsimp only at aJ
 refine Tr.forget (Y1 (args:=[.agg #[.int .i64 aA,.int .i64 aB,.slice aF aP.length aG]]) (fn:=Tryz.f120) rfl ?_)
 refine Or.inr (Or.inr (Or.inr (Or.inl (aI (aI (by kernel_rfl) (by kernel_rfl)) ?_))))
 obtain⟨x1,bH,aJ⟩:=l0 aJ
 refine Or.inl (eX (.val (.bool x1)) (aI ?_ ?_))
 ·intro k2 s3
  exact Tr.val (t6 _ [.int .i64 aA,.int .i64 aB,.slice aF aP.length aG] (aA,aB,aP) (z0 aK aL (F0.mono s3 aH)) _ bH) (aI rfl (aI rfl rfl))
 obtain⟨x4,bI,aJ⟩:=l0 aJ
 obtain⟨q5,bJ,aJ⟩:=l0 aJ
 have bK:M0 x4:=O1 bJ
 refine Or.inl (eX (.val (.int .i64 x4)) (aI ?_ ?_))
 ·intro k6 s7 hq
  exact Tr.val (c09 _ [.int .i64 aA,.int .i64 aB,.slice aF aP.length aG] (aA,aB,aP) (z0 aK aL (F0.mono s7 aH)) _ (F1 bI hq)) (aI rfl (aI rfl rfl))
 refine Or.inl (eX (.val (.bool (decide (x4<0)))) (aI ?_ ?_))
 ·intro k8 s9 hq
  exact aI rfl (aI rfl rfl)
 obtain⟨x10,aY,aJ⟩:=l0 aJ
 obtain⟨aM,aN,aV⟩:=x10
 try dsimp only at aJ
 refine Or.inr (eX (fun v hh=>∃(aC:Option Addr) (aD:Nat),v = .agg #[.int .i64 aM,.int .i64 aN,.slice aC aV.length aD]∧M0 aM∧M0 aN∧F0.R hh [.slice aC aV.length aD] aV∧aV.length≤9223372036854775807) (aI (fun v h1 h2 sb q=>by obtain⟨aC,aD,e,f0,f1,f2,f3⟩:=q;exact⟨aC,aD,e,f0,f1,F0.mono sb f2,f3⟩) (aI ?_ ?_)))
 ·intro k11 s12 hq
  refine Tr.mono (m03 _ [.int .i64 aA,.int .i64 aB,.slice aF aP.length aG] (aA,aB,aP) (z0 aK aL (F0.mono s12 aH)) _ (F1 aY hq)) ?_
  rintro _ kk ⟨bG,rfl,aZ,sb⟩
  obtain⟨bA,bB,aQ,aW,aR,bC,rfl,ey,aS,aT,aO⟩:=B0 aZ
  cases ey
  obtain⟨rfl,aU⟩:=Sl.len aO
  exact aI c8 (aI sb ⟨aQ,aR,rfl,aS,aT,aO,aU⟩)
 obtain⟨x13,bD,aJ⟩:=l0 aJ
 refine Or.inl (eX (.val (.bool x13)) (aI ?_ ?_))
 ·intro k14 s15 hq
  rintro _ ⟨az162,cz162,rfl,iz160,iz161,rz162,lz162⟩
  exact Tr.val (V04 _ [.int .i64 aM,.int .i64 aN,.slice az162 aV.length cz162] (aM,aN,aV) (z0 iz160 iz161 rz162) [.int .i64 aA,.int .i64 aB,.slice aF aP.length aG] (aA,aB,aP) (z0 aK aL (F0.mono s15 aH)) _ (F1 bD hq)) (aI rfl (aI rfl rfl))
 intro k17 s18
 have hE:=oJ aJ;subst hE
 exact aI rfl s18
theorem T6(h:Hp)(aK:List Value)(p0:j0)(rp0:W0.R h aK p0)(r:Bool)(aG:O2 p0=some r):
  Tr Tryz.prog 60 #[.agg aK.toArray] h fun v h'=>v = .bool r∧h'=h:=by
 obtain⟨aD,aF,aA,aM,aB,aL,rfl,rfl,aH,aJ,aC⟩:=B0 rp0
 obtain⟨rfl,aN⟩:=Sl.len aC
 unfold O2 at aG
 dsimp only at aG
 refine Tr.forget (Y1 (args:=[.agg #[.int .i64 aD,.int .i64 aF,.slice aA aL.length aB]]) (fn:=Tryz.f60) rfl ?_)
 obtain⟨x1,aO,aG⟩:=l0 aG
 refine Tr.val (z0f _ [.int .i64 aD,.int .i64 aF,.slice aA aL.length aB] (aD,aF,aL) (z0 aH aJ aC) _  aO) ?_
 have hE:=oJ aG;subst hE
 exact aI rfl (Sub.refl _)
set_option maxHeartbeats 0
theorem W0c(h:Hp)(bD:List Value)(p0:j0)(rp0:W0.R h bD p0)(p1:Int)(ip1:M0 p1)(r:(List Bool)×P1)(aD:i01 p0 p1=some r):
  Tr Tryz.prog 255 #[.agg bD.toArray,.int .i64 p1] h fun v h'=>∃(a0:Option Addr) (n0 c0:Nat) (a1:Option Addr) (n1 c1:Nat),v = .tuple #[.slice a0 n0 c0,.slice a1 n1 c1]∧(Wp.slice Wp.bool).R h' [.slice a0 n0 c0] r.1∧Q2.R h' [.slice a1 n1 c1] r.2∧Sub h h':=by
 obtain⟨aB,aF,aJ,cV,aK,aG,rfl,rfl,aL,aR,aM⟩:=B0 rp0
 obtain⟨rfl,cW⟩:=Sl.len aM
 unfold i01 at aD
 dsimp only at aD
 refine Y1 (args:=[.agg #[.int .i64 aB,.int .i64 aF,.slice aJ aG.length aK],.int .i64 p1]) (fn:=Tryz.f255) rfl ?_
 obtain⟨q1,dG,aD⟩:=l0 aD
 refine aI (O1 dG) ?_
 obtain⟨q2,dH,aD⟩:=l0 aD
 refine aI (O1 dH) ?_
 obtain⟨x3,dI,aD⟩:=l0 aD
 obtain⟨dJ,dK,dL,dM⟩:=G4 (F2.rep (p:=Wp.bool.R h) (a:=[.bool false]) (b:=false) rfl (aF.toNat)) dI
 refine aI dJ ?_
 obtain rfl:=dM
 refine eX _ (aI dL ?_)
 obtain⟨x4,dN,aD⟩:=l0 aD
 obtain⟨dO,dP,dQ,cX⟩:=G4 (F2.rep (p:=J0.R h) (a:=[.slice none 0 0]) (b:=[]) (z0b Wp.int h) (aF.toNat)) dN
 refine aI dO ?_
 obtain⟨eC,eD,eE,rfl⟩:=Wp.slice_cell cX
 obtain⟨rfl,eF⟩:=Sl.len cX
 intro v5 k6 f7
 obtain⟨az8,cz8,rfl,rz8,sz8,lz8⟩:=Z0.out (r:=Wp.int.toRp) f7 (show F2 (Wp.int.R h) ([]:List (List Value)) ([]:C0) from trivial)
 refine eX _ (aI dQ ?_)
 obtain⟨x9,dR,aD⟩:=l0 aD
 refine Tr.mono (i02 _ aB aL _  dR) ?_
 rintro v11 k10 ⟨dS,eG,dT,rfl,bE,aS⟩
 obtain⟨rfl,eH⟩:=Sl.len bE
 obtain⟨X12,aT,aD⟩:=l0 aD
 refine eX { vars:=[10],boxes:=[],owns:=[0,1,3],fuel:=true,kept:=[0,1] } (eX (fun vs os h'=>∃(u13:Int) (wu14:List (List Value)) (u14:List Bool) (wu15:List (List Value)) (u15:List C0) (wu16:List (List Value)) (u16:List Int),vs.tail = [.int .i64 u13]∧os = [wu14,wu15,wu16]∧Sub k10 h'∧M0 u13∧F2 (Wp.bool.R h') wu14 u14∧F2 (J0.R h') wu15 u15∧F2 (Wp.int.R h') wu16 u16∧S7 x9 aB aF aG (K1 vs) u13 u14 u15 u16=some X12) (eX (fun _ _=>0) ?_))
 refine aI (eX S0 ⟨0,((List.replicate aF.toNat ([.bool false]:List Value)).set p1.toNat [.bool true]),((List.replicate aF.toNat (false:Bool)).set p1.toNat true),((List.replicate aF.toNat ([.slice none 0 0]:List Value)).set p1.toNat [.slice az8 (([]:C0)).length cz8]),((List.replicate aF.toNat ([]:C0)).set p1.toNat ([]:C0)),([[.int .i64 p1]]:List (List Value)),[p1],rfl,rfl,(Sub.refl _),(by decide),(F2.up (r:=Wp.bool.toRp) (sz8.trans aS) (F2.set (p:=Wp.bool.R h) (a:=[.bool true]) (b:=true) rfl p1.toNat (F2.rep (p:=Wp.bool.R h) (a:=[.bool false]) (b:=false) rfl (aF.toNat)))),(F2.up (r:=J0.toRp) aS (F2.set (p:=J0.R k6) (a:=[.slice az8 (([]:C0)).length cz8]) (b:=([]:C0)) rz8 p1.toNat (F2.up (r:=J0.toRp) sz8 (F2.rep (p:=J0.R h) (a:=[.slice none 0 0]) (b:=[]) (z0b Wp.int h) (aF.toNat))))),(F2.up (r:=Wp.int.toRp) aS (show F2 (Wp.int.R k6) ([[.int .i64 p1]]:List (List Value)) [p1] from⟨⟨rfl,ip1⟩,trivial⟩)),aT⟩) ?_
 rintro v_0 wu14 wu15 wu16 m18 k17 ⟨u13,zzu14,u14,zzu15,u15,zzu16,u16,aU,aV,aW,iu13,fu14,fu15,fu16,aC⟩
 cases aU
 cases aV
 replace aC:S7 x9 aB aF aG m18 u13 u14 u15 u16=some X12:=aC
 obtain _|m18:=m18
 ·cases (show(none:Option _)=some X12 from aC)
 rw[S7.eq_2]at aC
 obtain⟨m19,gm19,aC⟩:=l0 aC
 obtain rfl:wu16.length=m19:=(F2.length fu16).trans (oJ gm19)
 obtain⟨q20,dU,aC⟩:=l0 aC
 refine aI (fun aN=>?_) (fun aN=>?_)
 ·replace aC:=ifP aC aN
  obtain⟨X22,aX,aC⟩:=l0 aC
  refine eX { vars:=[11],boxes:=[],owns:=[0,1,3],fuel:=true,kept:=[0,1] } (eX (fun vs os h'=>∃(u23:Int) (wu24:List (List Value)) (u24:List Bool) (wu25:List (List Value)) (u25:List C0) (wu26:List (List Value)) (u26:List Int),vs.tail = [.int .i64 u23]∧os = [wu24,wu25,wu26]∧Sub k17 h'∧M0 u23∧F2 (Wp.bool.R h') wu24 u24∧F2 (J0.R h') wu25 u25∧F2 (Wp.int.R h') wu26 u26∧V5 x9 u13 aB aF aG (K1 vs) u23 u24 u25 u26=some X22) (eX (fun _ _=>0) ?_))
  refine aI (eX S0 ⟨0,wu14,u14,wu15,u15,wu16,u16,rfl,rfl,(Sub.refl _),(by decide),fu14,fu15,fu16,aX⟩) ?_
  rintro v_0 wu24 wu25 wu26 m28 k27 ⟨u23,zzu24,u24,zzu25,u25,zzu26,u26,aY,aZ,aH,iu23,fu24,fu25,fu26,aA⟩
  cases aY
  cases aZ
  replace aA:V5 x9 u13 aB aF aG m28 u23 u24 u25 u26=some X22:=aA
  obtain _|m28:=m28
  ·cases (show(none:Option _)=some X22 from aA)
  rw[V5.eq_2]at aA
  refine aI (fun aO=>?_) (fun aO=>?_)
  ·replace aA:=ifP aA aO
   refine Or.inl (aI (aI (by kernel_rfl) (by kernel_rfl)) ?_)
   obtain⟨x30,bF,aA⟩:=l0 aA
   obtain⟨bG,cY,bH,bI⟩:=G4 fu26 bF
   refine aI bG ?_
   obtain⟨rfl,bJ⟩:=bI
   refine eX _ (aI bH ?_)
   obtain⟨x31,bK,aA⟩:=l0 aA
   obtain⟨bL,cZ,bM,bN⟩:=Sl.getI (r:=Wp.int.toRp) (J0.mono (aW.trans aH) bE) bK (by decide)
   refine aI bL ?_
   obtain⟨rfl,bO⟩:=bN
   refine eX _ (aI bM ?_)
   obtain⟨x32,bP,aA⟩:=l0 aA
   refine eX (.int .i64 x32) (aI (d9 _ [.int .i64 aB,.int .i64 aF,.slice aJ aG.length aK] (aB,aF,aG) (z0 aL aR (F0.mono (((sz8.trans aS).trans aW).trans aH) aM)) x30 bJ x31 bO _  bP) ?_)
   obtain⟨q33,bQ,aA⟩:=l0 aA
   have bA:M0 x32:=O1 bQ
   obtain⟨x34,bR,aA⟩:=l0 aA
   obtain⟨dA,bB,bS⟩:=Q03 fu24 bR (p0o k27)
   refine aI (fun q=>(bB q).1) ?_
   obtain rfl:=bS
   refine eX _ (aI (fun q=>(bB q).2) ?_)
   refine aI (fun aP=>?_) (fun aP=>?_)
   ·replace aA:=ifP aA aP
    obtain⟨x36,bT,aA⟩:=l0 aA
    obtain⟨bU,dB,bV,bW⟩:=G4 fu24 bT
    refine aI bU ?_
    obtain rfl:=bW
    refine eX _ (aI bV ?_)
    refine Or.inr (Or.inr (Or.inr (Or.inr (eX 16 (aI (aI (by kernel_rfl) (by kernel_rfl)) ?_)))))
    refine Or.inr (eX (fun v hh=>∃(g:Nat),v = .slice (some ⟨g,0,none⟩) 0 0∧k27 g=none∧∃ e,hh g=some (.cells #[] e (0,0))) (aI (fun v h1 h2 sb q=>by obtain⟨g,e,n,t,c⟩:=q;exact⟨g,e,n,t,sb _ _ c⟩) (aI ?_ ?_)))
    ·intro k38 s39
     intro g hg
     exact aI c8 (aI (Sub.set hg) ⟨g,rfl,Sub.back s39 hg,_,Hp.set_same _ _ _⟩)
    obtain⟨x40,bX,aA⟩:=l0 aA
    obtain⟨bY,dC,bZ,cA⟩:=G4 fu26 bX
    obtain⟨rfl,dV⟩:=cA
    refine Or.inl ?_
    apply eX
    refine aI ?_ ?_
    ·intro k41 s42
     exact aI bY (aI rfl (aI rfl rfl))
    refine Or.inl (eX (.val (.int .i64 x40)) (aI ?_ ?_))
    ·intro k43 s44
     exact eX _ (aI bZ (aI rfl (aI rfl rfl)))
    obtain⟨x45,cC,aA⟩:=l0 aA
    obtain⟨cD,dD,cE,aQ⟩:=G4 fu25 cC
    obtain⟨cG,dW,cH,rfl⟩:=Wp.slice_cell aQ
    obtain⟨rfl,dX⟩:=Sl.len aQ
    refine Or.inl ?_
    apply eX
    refine aI ?_ ?_
    ·intro k46 s47
     exact aI cD (aI rfl (aI rfl rfl))
    refine Or.inl (eX (.val (.slice cG x45.length cH)) (aI ?_ ?_))
    ·intro k48 s49
     exact eX _ (aI cE (aI rfl (aI rfl rfl)))
    obtain⟨q50,cI,aA⟩:=l0 aA
    refine Or.inr (eX (fun v hh=>∃(g o c:Nat),v = .slice (some ⟨g,o,none⟩) x45.length c∧New J0 k27 hh [.slice (some ⟨g,o,none⟩) x45.length c] x45∧x45.length≤9223372036854775807) (aI (fun v h1 h2 sb q=>by obtain⟨g,o,c,e,r,l⟩:=q;exact⟨g,o,c,e,New.mono r sb,l⟩) (aI ?_ ?_)))
    ·intro k52 s53
     rintro _ ⟨gz54,rfl,nz54,cz54⟩
     obtain⟨vsz51,ez51,lnz51,zz51,fz51⟩:=New.appZ (r:=Wp.int) nz54 cz54 s53 (J0.mono s53 aQ) (a06 _)
     exact eX vsz51 (aI ez51 (aI (L1 cI lnz51) (aI (fun hz=>aI c8 (aI (Sub.refl _) (zz51 hz))) (fun v h9 hf=>aI c8 (fz51 v h9 _ hf)))))
    obtain⟨x55,cJ,aA⟩:=l0 aA
    obtain⟨cK,dE,cL,cM⟩:=Sl.getI (r:=Wp.int.toRp) (J0.mono (aW.trans aH) bE) cJ (by decide)
    obtain⟨rfl,cN⟩:=cM
    refine Or.inl (eX (.hel (.slice dS x9.length dT) u23 1 0) (aI ?_ ?_))
    ·intro k56 s57
     exact aI cK (aI rfl (aI rfl rfl))
    refine Or.inl (eX (.val (.int .i64 x55)) (aI ?_ ?_))
    ·intro k58 s59
     exact eX _ (aI (w9.up s59 cL) (aI rfl (aI rfl rfl)))
    obtain⟨x60,cO,aA⟩:=l0 aA
    refine Or.inr (eX (fun v hh=>∃(a:Option Addr) (c:Nat),v = .slice a x60.length c∧J0.R hh [.slice a x60.length c] x60∧x60.length≤9223372036854775807) (aI (fun v h1 h2 sb q=>by obtain⟨a,c,e,r,l⟩:=q;exact⟨a,c,e,J0.mono sb r,l⟩) (aI ?_ ?_)))
    ·intro k61 s62
     have cP:[x55]=x60:=oJ cO
     intro v k hf
     obtain⟨a,c,rfl,r,sb,l⟩:=Z0.out (r:=Wp.int.toRp) (xs:=x60) hf (show F2 (Wp.int.R k61) [[.int .i64 x55]] x60 from cP▸(show F2 (Wp.int.R k61) [[.int .i64 x55]] [x55] from⟨⟨rfl,cN⟩,trivial⟩))
     exact aI ⟨rfl,rfl,rfl,[_],rfl⟩ (aI sb ⟨a,c,rfl,r,l⟩)
    intro k63 s64
    rintro _ ⟨az65,cz65,rfl,rz65,lz65⟩
    rintro _ ⟨gz66,oz66,cz66,rfl,rz66,lz66⟩
    rintro _ ⟨gz67,rfl,nz67,cz67⟩
    obtain⟨vsy68,ey68,fy68⟩:=Sl.rows (r:=Wp.int.toRp) rz65
    refine eX vsy68 (aI ey68 ?_)
    obtain⟨q69,cQ,aA⟩:=l0 aA
    obtain⟨vsz70,rxz70,lnz70,apz70⟩:=New.app rz66 (Sub.refl _)
    refine eX vsz70 (aI rxz70 (aI (L1 cQ (by first|rw[lnz70,F2.length fy68]|(rw[lnz70];rfl))) ?_))
    intro vz70 kz70 happz70
    obtain⟨wz70,gz70,oz70,nz70,cz70,rfl⟩:=apz70 _ _ _ _ _ (F3.ofPlain (a06 _) fy68) d7.ofPlain happz70
    have rz70:=wz70.r
    obtain⟨ez70,lz70⟩:=Sl.len rz70
    subst ez70
    obtain⟨x71,cR,aA⟩:=l0 aA
    obtain⟨cS,dF,cT,bC⟩:=G4 (F2.up (r:=J0.toRp) wz70.sub fu25) cR
    refine aI cS ?_
    obtain⟨dY,dZ,eA,rfl⟩:=Wp.slice_cell bC
    obtain⟨rfl,eB⟩:=Sl.len bC
    refine eX _ (aI cT ?_)
    obtain⟨q72,cU,aA⟩:=l0 aA
    refine aI (L1 cU (by first|rw[F2.length (F2.up (r:=Wp.int.toRp) wz70.sub fu26),F2.length (show F2 (Wp.int.R kz70) ([[.int .i64 x32]]:List (List Value)) [x32] from⟨⟨rfl,bA⟩,trivial⟩)]|exact congrArg (·+1) (F2.length (F2.up (r:=Wp.int.toRp) wz70.sub fu26)))) ?_
    refine aI rfl (aI (by trivial) (aI (by trivial) (eX m28 (aI ⟨(IntKind.i64.wrap (u23+1)),(wu24.set x32.toNat [.bool true]),(u24.set x32.toNat true),(wu25.set x32.toNat [.slice (some ⟨gz70,oz70,none⟩) (x45++x60).length cz70]),(u25.set x32.toNat (x45++x60)),(wu26++([[.int .i64 x32]]:List (List Value))),(u26 ++ [x32]),rfl,rfl,(aH.trans wz70.sub),(N0 _),(F2.up (r:=Wp.bool.toRp) wz70.sub (F2.set (p:=Wp.bool.R k27) (a:=[.bool true]) (b:=true) rfl x32.toNat fu24)),(F2.set (p:=J0.R kz70) (a:=[.slice (some ⟨gz70,oz70,none⟩) (x45++x60).length cz70]) (b:=(x45++x60)) rz70 x32.toNat (F2.up (r:=J0.toRp) wz70.sub fu25)),(F2.append (F2.up (r:=Wp.int.toRp) wz70.sub fu26) (show F2 (Wp.int.R kz70) ([[.int .i64 x32]]:List (List Value)) [x32] from⟨⟨rfl,bA⟩,trivial⟩)),aA⟩ (nS _)))))
   ·replace aA:=ifN aA aP
    refine aI rfl (aI (by trivial) (aI (by trivial) (eX m28 (aI ⟨(IntKind.i64.wrap (u23+1)),wu24,u24,wu25,u25,wu26,u26,rfl,rfl,aH,(N0 _),fu24,fu25,fu26,aA⟩ (nS _)))))
  ·replace aA:=ifN aA aO
   have hE:=oJ aA;subst hE
   try dsimp only[T0,V0]at aC
   refine aI rfl (aI (by trivial) (aI (by trivial) (eX m18 (aI ⟨(IntKind.i64.wrap (u13+1)),wu24,u24,wu25,u25,wu26,u26,rfl,rfl,(aW.trans aH),(N0 _),fu24,fu25,fu26,aC⟩ (nS _)))))
 ·replace aC:=ifN aC aN
  have hE:=oJ aC;subst hE
  try dsimp only[T0,V0]at aD
  intro v79 k80 f81
  obtain⟨az82,cz82,rfl,rz82,sz82,lz82⟩:=Z0.out (r:=Wp.bool.toRp) f81 fu14
  intro v83 k84 f85
  obtain⟨az86,cz86,rfl,rz86,sz86,lz86⟩:=Z0.out (r:=J0.toRp) f85 (F2.up (r:=J0.toRp) sz82 fu15)
  have hE:=oJ aD;subst hE
  exact⟨az82,u14.length,cz82,az86,u15.length,cz86,rfl,((Wp.slice Wp.bool).mono sz86 rz82),rz86,((((sz8.trans aS).trans aW).trans sz82).trans sz86)⟩
theorem X0c(h:Hp)(aP:List Value)(p0:j0)(rp0:W0.R h aP p0)(p1:Int)(ip1:M0 p1)(p2:Int)(ip2:M0 p2)(r:C0×Bool)(aA:j8 p0 p1 p2=some r):
  Tr Tryz.prog 226 #[.agg aP.toArray,.int .i64 p1,.int .i64 p2] h fun v h'=>∃(g0:Nat) (n0 c0:Nat),v = .tuple #[.slice (some ⟨g0,0,none⟩) n0 c0,.bool r.2]∧New J0 h h' [.slice (some ⟨g0,0,none⟩) n0 c0] r.1:=by
 obtain⟨aC,aB,aD,aZ,aF,aO,rfl,rfl,aK,aL,aG⟩:=B0 rp0
 obtain⟨rfl,bA⟩:=Sl.len aG
 unfold j8 at aA
 dsimp only at aA
 refine Y1 (args:=[.agg #[.int .i64 aC,.int .i64 aB,.slice aD aO.length aF],.int .i64 p1,.int .i64 p2]) (fn:=Tryz.f226) rfl ?_
 obtain⟨x1,bM,aA⟩:=l0 aA
 refine Tr.val (t6 _ [.int .i64 aC,.int .i64 aB,.slice aD aO.length aF] (aC,aB,aO) (z0 aK aL aG) _  bM) ?_
 obtain⟨x2,bN,aA⟩:=l0 aA
 refine eX (.bool x2) (aI (fun q=>Q4 _ p1 ip1 0 (by decide) (IntKind.i64.wrap (aB-1)) (N0 _) _  (F1 bN q)) ?_)
 obtain⟨x3,bO,aA⟩:=l0 aA
 refine eX (.bool x3) (aI (fun q=>Q4 _ p2 ip2 0 (by decide) (IntKind.i64.wrap (aB-1)) (N0 _) _  (F1 bO q)) ?_)
 refine aI (fun aQ=>?_) (fun aQ=>?_)
 ·replace aA:=ifP aA aQ
  intro v5 k6 f7
  obtain⟨gz8,cz8,rfl,rz8,sz8,lz8⟩:=Z0.outS (r:=Wp.int.toRp) f7 (show F2 (Wp.int.R h) ([]:List (List Value)) ([]:C0) from trivial)
  have hE:=oJ aA;subst hE
  exact⟨gz8,(([]:C0)).length,cz8,rfl,(Z0.newPlain (r:=Wp.int) f7 (show F2 (Wp.int.R h) ([]:List (List Value)) ([]:C0) from trivial) (a06 _))⟩
 ·replace aA:=ifN aA aQ
  obtain⟨x9,bP,aA⟩:=l0 aA
  refine Tr.mono (W0c _ [.int .i64 aC,.int .i64 aB,.slice aD aO.length aF] (aC,aB,aO) (z0 aK aL aG) p1 ip1 _  bP) ?_
  rintro v11 k10 ⟨bB,bC,bD,bE,bF,bG,rfl,aH,aJ,bH⟩
  obtain⟨bQ,bR⟩:=x9
  dsimp only at aA aH aJ
  obtain⟨rfl,bI⟩:=Sl.len aH
  obtain⟨rfl,bJ⟩:=Sl.len aJ
  obtain⟨x12,aR,aA⟩:=l0 aA
  obtain⟨aS,bK,aT,aU⟩:=Sl.getI (r:=Wp.bool.toRp) aH aR (by decide)
  refine aI aS ?_
  obtain rfl:=aU
  refine eX _ (aI aT ?_)
  refine aI (fun aM=>?_) (fun aM=>?_)
  ·replace aA:=ifP aA aM
   intro v14 k15 f16
   obtain⟨gz17,cz17,rfl,rz17,sz17,lz17⟩:=Z0.outS (r:=Wp.int.toRp) f16 (show F2 (Wp.int.R k10) ([]:List (List Value)) ([]:C0) from trivial)
   have hE:=oJ aA;subst hE
   exact⟨gz17,(([]:C0)).length,cz17,rfl,(New.from (Z0.newPlain (r:=Wp.int) f16 (show F2 (Wp.int.R k10) ([]:List (List Value)) ([]:C0) from trivial) (a06 _)) bH)⟩
  ·replace aA:=ifN aA aM
   obtain⟨x18,aV,aA⟩:=l0 aA
   obtain⟨aW,bL,aX,aN⟩:=Sl.getI (r:=J0.toRp) aJ aV (by decide)
   refine aI aW ?_
   obtain⟨bS,bT,bU,rfl⟩:=Wp.slice_cell aN
   obtain⟨rfl,bV⟩:=Sl.len aN
   refine eX _ (aI aX ?_)
   obtain⟨vsy19,ey19,fy19⟩:=Sl.rows (r:=Wp.int.toRp) aN
   refine eX vsy19 (aI ey19 ?_)
   obtain⟨q20,aY,aA⟩:=l0 aA
   refine aI (L1 aY (by first|rw[F2.length (show F2 (Wp.int.R k10) ([]:List (List Value)) ([]:C0) from trivial),F2.length fy19]|exact congrArg (·+1) (F2.length (show F2 (Wp.int.R k10) ([]:List (List Value)) ([]:C0) from trivial)))) ?_
   intro v21 k22 f23
   obtain⟨gz24,cz24,rfl,rz24,sz24,lz24⟩:=Z0.outS (r:=Wp.int.toRp) f23 (F2.append (show F2 (Wp.int.R k10) ([]:List (List Value)) ([]:C0) from trivial) fy19)
   have hE:=oJ aA;subst hE
   exact⟨gz24,((([]:C0)++x18)).length,cz24,rfl,(New.from (Z0.newPlain (r:=Wp.int) f23 (F2.append (show F2 (Wp.int.R k10) ([]:List (List Value)) ([]:C0) from trivial) fy19) (a06 _)) bH)⟩
theorem x02(h:Hp)(aO:List Value)(p0:j0)(rp0:W0.R h aO p0)(p1:Int)(ip1:M0 p1)(r:C0)(aH:c00 p0 p1=some r):
  Tr Tryz.prog 181 #[.agg aO.toArray,.int .i64 p1] h fun v h'=>∃(g0:Nat) (n0 c0:Nat),v = .slice (some ⟨g0,0,none⟩) n0 c0∧New J0 h h' [.slice (some ⟨g0,0,none⟩) n0 c0] r:=by
 obtain⟨aF,aG,aA,aQ,aB,aP,rfl,rfl,aJ,aK,aC⟩:=B0 rp0
 obtain⟨rfl,aR⟩:=Sl.len aC
 unfold c00 at aH
 dsimp only at aH
 refine Y1 (args:=[.agg #[.int .i64 aF,.int .i64 aG,.slice aA aP.length aB],.int .i64 p1]) (fn:=Tryz.f181) rfl ?_
 obtain⟨x1,aU,aH⟩:=l0 aH
 refine Tr.mono (X0c _ [.int .i64 aF,.int .i64 aG,.slice aA aP.length aB] (aF,aG,aP) (z0 aJ aK aC) 0 (by decide) p1 ip1 _  aU) ?_
 rintro v3 k2 ⟨aL,aS,aM,rfl,aD⟩
 obtain⟨aV,aW⟩:=x1
 dsimp only at aH aD
 have aX:Sub h k2:=aD.sub
 have aN:=aD.r
 obtain⟨rfl,aT⟩:=Sl.len aN
 have hE:=oJ aH;subst hE
 exact⟨aL,aV.length,aM,rfl,aD⟩
theorem Y0c(h:Hp)(ap0:Option Addr)(np0 cp0:Nat)(p0:P1)(rp0:Q2.R h [.slice ap0 np0 cp0] p0)(ap1:Option Addr)(np1 cp1:Nat)(p1:C0)(rp1:J0.R h [.slice ap1 np1 cp1] p1)(r:C0)(aD:j01 p0 p1=some r):
  Tr Tryz.prog 63 #[.slice ap0 np0 cp0,.slice ap1 np1 cp1] h fun v h'=>∃(a0:Option Addr) (n0 c0:Nat),v = .slice a0 n0 c0∧J0.R h' [.slice a0 n0 c0] r∧Sub h h':=by
 obtain⟨rfl,lp0⟩:=Sl.len rp0
 obtain⟨rfl,lp1⟩:=Sl.len rp1
 unfold j01 at aD
 refine Y1 (args:=[.slice ap0 p0.length cp0,.slice ap1 p1.length cp1]) (fn:=Tryz.f63) rfl ?_
 obtain⟨X1,aM,aD⟩:=l0 aD
 refine eX { vars:=[6],boxes:=[],owns:=[0],fuel:=true } (eX (fun vs os h'=>∃(u2:Int) (wu3:List (List Value)) (u3:List Int),vs.tail = [.int .i64 u2]∧os = [wu3]∧Sub h h'∧M0 u2∧F2 (Wp.int.R h') wu3 u3∧l5 p1 p0 (K1 vs) u2 u3=some X1) (eX (fun _ _=>0) ?_))
 refine aI (eX S0 ⟨0,[],([]:C0),rfl,rfl,(Sub.refl _),(by decide),(show F2 (Wp.int.R h) ([]:List (List Value)) ([]:C0) from trivial),aM⟩) ?_
 rintro v_0 wu3 m5 k4 ⟨u2,zzu3,u3,aN,aO,aB,iu2,fu3,aA⟩
 cases aN
 cases aO
 replace aA:l5 p1 p0 m5 u2 u3=some X1:=aA
 obtain _|m5:=m5
 ·cases (show(none:Option _)=some X1 from aA)
 rw[l5.eq_2]at aA
 refine aI (fun aP=>?_) (fun aP=>?_)
 ·replace aA:=ifP aA aP
  obtain⟨x7,cC,aA⟩:=l0 aA
  obtain⟨cD,cE,cG,cH⟩:=Sl.getI (r:=Wp.int.toRp) (J0.mono aB rp1) cC (by decide)
  refine aI cD ?_
  obtain⟨rfl,dB⟩:=cH
  refine eX _ (aI cG ?_)
  obtain⟨x8,cI,aA⟩:=l0 aA
  obtain⟨cJ,bU,cK⟩:=Sl.getG (r:=Wp.int.toRp) (J0.mono aB rp1) cI (by decide) (c04 k4)
  refine aI (fun q=>(bU q).1) ?_
  obtain⟨rfl,dC⟩:=cK
  refine eX _ (aI (fun q=>(bU q).2) ?_)
  refine aI (fun aQ=>?_) (fun aQ=>?_)
  ·replace aA:=ifP aA aQ
   obtain⟨x10,aR,aA⟩:=l0 aA
   obtain⟨aS,bV,aT,aU⟩:=Sl.getI (r:=Wp.int.toRp) (J0.mono aB rp1) aR (by decide)
   refine aI aS ?_
   obtain⟨rfl,cL⟩:=aU
   refine eX _ (aI aT ?_)
   obtain⟨x11,aV,aA⟩:=l0 aA
   obtain⟨aW,bW,aX,aF⟩:=Sl.getI (r:=J0.toRp) (Q2.mono aB rp0) aV (by decide)
   refine aI aW ?_
   obtain⟨cM,cN,cO,rfl⟩:=Wp.slice_cell aF
   obtain⟨rfl,cP⟩:=Sl.len aF
   refine eX _ (aI aX ?_)
   obtain⟨vsy12,ey12,fy12⟩:=Sl.rows (r:=Wp.int.toRp) aF
   refine eX vsy12 (aI ey12 ?_)
   obtain⟨q13,aY,aA⟩:=l0 aA
   refine aI (L1 aY (by first|rw[F2.length fu3,F2.length fy12]|exact congrArg (·+1) (F2.length fu3))) ?_
   refine aI rfl (aI (by trivial) (aI (by trivial) (eX m5 (aI ⟨(IntKind.i64.wrap (u2+1)),(wu3++vsy12),(u3++x11),rfl,rfl,aB,(N0 _),(F2.append fu3 fy12),aA⟩ (nS _)))))
  ·replace aA:=ifN aA aQ
   obtain⟨x14,aZ,aA⟩:=l0 aA
   obtain⟨bA,bX,bB,bC⟩:=Sl.getI (r:=Wp.int.toRp) (J0.mono aB rp1) aZ (by decide)
   refine aI bA ?_
   obtain⟨rfl,cQ⟩:=bC
   refine eX _ (aI bB ?_)
   obtain⟨x15,bD,aA⟩:=l0 aA
   obtain⟨bY,aJ,bE⟩:=Sl.getG (r:=Wp.int.toRp) (J0.mono aB rp1) bD (by decide) (c04 k4)
   refine aI (fun q=>(aJ q).1) ?_
   obtain⟨rfl,cR⟩:=bE
   refine eX _ (aI (fun q=>(aJ q).2) ?_)
   refine aI (fun aG=>?_) (fun aG=>?_)
   ·replace aA:=ifP aA aG
    obtain⟨x17,bF,aA⟩:=l0 aA
    obtain⟨bG,bZ,bH,bI⟩:=Sl.getI (r:=Wp.int.toRp) (J0.mono aB rp1) bF (by decide)
    refine aI bG ?_
    obtain⟨rfl,cS⟩:=bI
    refine eX _ (aI bH ?_)
    obtain⟨x18,bJ,aA⟩:=l0 aA
    obtain⟨bK,cA,bL,aH⟩:=Sl.getI (r:=J0.toRp) (Q2.mono aB rp0) bJ (by decide)
    refine aI bK ?_
    obtain⟨bM,cT,bN,rfl⟩:=Wp.slice_cell aH
    obtain⟨rfl,cU⟩:=Sl.len aH
    refine eX _ (aI bL ?_)
    obtain⟨x19,bO,aA⟩:=l0 aA
    refine Tr.mono (A01 _ bM x18.length bN x18 aH _  bO) ?_
    rintro v21 k20 ⟨cV,cW,cX,rfl,aK,aC⟩
    obtain⟨rfl,cY⟩:=Sl.len aK
    obtain⟨vsy22,ey22,fy22⟩:=Sl.rows (r:=Wp.int.toRp) aK
    refine eX vsy22 (aI ey22 ?_)
    obtain⟨q23,bP,aA⟩:=l0 aA
    refine aI (L1 bP (by first|rw[F2.length (F2.up (r:=Wp.int.toRp) aC fu3),F2.length fy22]|exact congrArg (·+1) (F2.length (F2.up (r:=Wp.int.toRp) aC fu3)))) ?_
    refine aI rfl (aI (by trivial) (aI (by trivial) (eX m5 (aI ⟨(IntKind.i64.wrap (u2+1)),(wu3++vsy22),(u3++x19),rfl,rfl,(aB.trans aC),(N0 _),(F2.append (F2.up (r:=Wp.int.toRp) aC fu3) fy22),aA⟩ (nS _)))))
   ·replace aA:=ifN aA aG
    refine aI rfl (aI (by trivial) (aI (by trivial) (eX m5 (aI ⟨(IntKind.i64.wrap (u2+1)),wu3,u3,rfl,rfl,aB,(N0 _),fu3,aA⟩ (nS _)))))
 ·replace aA:=ifN aA aP
  have hE:=oJ aA;subst hE
  try dsimp only[T0,V0]at aD
  refine Or.inl ?_
  intro v24 k25 f26
  obtain⟨az27,cz27,rfl,rz27,sz27,lz27⟩:=Z0.out (r:=Wp.int.toRp) f26 fu3
  obtain⟨x28,bQ,aD⟩:=l0 aD
  refine Tr.mono (W01 _ az27 u3.length cz27 u3 rz27 _  bQ) ?_
  rintro v30 k29 ⟨bR,cZ,bS,rfl,aL,bT⟩
  obtain⟨rfl,dA⟩:=Sl.len aL
  have hE:=oJ aD;subst hE
  exact⟨bR,x28.length,bS,rfl,aL,((aB.trans sz27).trans bT)⟩
theorem X03(h:Hp)(ap0:Option Addr)(np0 cp0:Nat)(p0:C0)(rp0:J0.R h [.slice ap0 np0 cp0] p0)(r:C0)(aA:H7 p0=some r):
  Tr Tryz.prog 143 #[.slice ap0 np0 cp0] h fun v h'=>∃(a0:Option Addr) (n0 c0:Nat),v = .slice a0 n0 c0∧New J0 h h' [.slice a0 n0 c0] r:=by
 obtain⟨rfl,lp0⟩:=Sl.len rp0
 unfold H7 at aA
 refine Y1 (args:=[.slice ap0 p0.length cp0]) (fn:=Tryz.f143) rfl ?_
 refine Or.inl ?_
 intro v1 k2 f3
 obtain⟨az4,cz4,rfl,rz4,sz4,lz4⟩:=Z0.out (r:=J0.toRp) f3 (show F2 (J0.R h) ([[.slice ap0 p0.length cp0]]:List (List Value)) [p0] from⟨rp0,trivial⟩)
 obtain⟨x5,aB,aA⟩:=l0 aA
 refine Tr.mono (U04 _ az4 ([p0]).length cz4 [p0] rz4 _  aB) ?_
 rintro v7 k6 ⟨aC,aG,aD,rfl,wx5⟩
 have aH:Sub k2 k6:=wx5.sub
 have aF:=wx5.r
 obtain⟨rfl,aJ⟩:=Sl.len aF
 have hE:=oJ aA;subst hE
 exact⟨aC,x5.length,aD,rfl,(New.from wx5 sz4)⟩
theorem a0d(h:Hp)(ap0:Option Addr)(np0 cp0:Nat)(p0:C0)(rp0:J0.R h [.slice ap0 np0 cp0] p0)(r:C0)(aA:Z00 p0=some r):
  Tr Tryz.prog 94 #[.slice ap0 np0 cp0] h fun v h'=>∃(g0:Nat) (n0 c0:Nat),v = .slice (some ⟨g0,0,none⟩) n0 c0∧New J0 h h' [.slice (some ⟨g0,0,none⟩) n0 c0] r:=by
 obtain⟨rfl,lp0⟩:=Sl.len rp0
 unfold Z00 at aA
 refine Y1 (args:=[.slice ap0 p0.length cp0]) (fn:=Tryz.f94) rfl ?_
 obtain⟨vsy1,ey1,fy1⟩:=Sl.rows (r:=Wp.int.toRp) rp0
 refine eX vsy1 (aI ey1 ?_)
 obtain⟨q2,aB,aA⟩:=l0 aA
 refine aI (L1 aB (by first|rw[F2.length (show F2 (Wp.int.R h) ([]:List (List Value)) ([]:C0) from trivial),F2.length fy1]|exact congrArg (·+1) (F2.length (show F2 (Wp.int.R h) ([]:List (List Value)) ([]:C0) from trivial)))) ?_
 intro v3 k4 f5
 obtain⟨gz6,cz6,rfl,rz6,sz6,lz6⟩:=Z0.outS (r:=Wp.int.toRp) f5 (F2.append (show F2 (Wp.int.R h) ([]:List (List Value)) ([]:C0) from trivial) fy1)
 have hE:=oJ aA;subst hE
 exact⟨gz6,((([]:C0)++p0)).length,cz6,rfl,(Z0.newPlain (r:=Wp.int) f5 (F2.append (show F2 (Wp.int.R h) ([]:List (List Value)) ([]:C0) from trivial) fy1) (a06 _))⟩
theorem g0d(h:Hp)(ap0:Option Addr)(np0 cp0:Nat)(p0:P1)(rp0:Q2.R h [.slice ap0 np0 cp0] p0)(ap1:Option Addr)(np1 cp1:Nat)(p1:C0)(rp1:J0.R h [.slice ap1 np1 cp1] p1)(r:C0)(aB:k01 p0 p1=some r):
  Tr Tryz.prog 77 #[.slice ap0 np0 cp0,.slice ap1 np1 cp1] h fun v h'=>∃(a0:Option Addr) (n0 c0:Nat),v = .slice a0 n0 c0∧J0.R h' [.slice a0 n0 c0] r∧Sub h h':=by
 obtain⟨rfl,lp0⟩:=Sl.len rp0
 obtain⟨rfl,lp1⟩:=Sl.len rp1
 unfold k01 at aB
 refine Y1 (args:=[.slice ap0 p0.length cp0,.slice ap1 p1.length cp1]) (fn:=Tryz.f77) rfl ?_
 obtain⟨x1,bO,aB⟩:=l0 aB
 obtain⟨qx1,vsx1,bP,fx1⟩:=Sl.cutI (r:=Wp.int.toRp) rp1 bO
 refine aI qx1 (eX vsx1 (aI bP ?_))
 intro vx1 hvx1 _
 obtain⟨cG,cH,rfl,bK⟩:=fx1 vx1 hvx1
 have cI:=(Sl.len bK).2
 obtain⟨X2,aQ,aB⟩:=l0 aB
 refine eX { vars:=[15],boxes:=[],owns:=[0],fuel:=true } (eX (fun vs os h'=>∃(u3:Int) (wu4:List (List Value)) (u4:List C0),vs.tail = [.int .i64 u3]∧os = [wu4]∧Sub h h'∧M0 u3∧F2 (J0.R h') wu4 u4∧n5 x1 p0 (K1 vs) u3 u4=some X2) (eX (fun _ _=>0) ?_))
 refine aI (eX S0 ⟨0,[],([]:P1),rfl,rfl,(Sub.refl _),(by decide),(show F2 (J0.R h) ([]:List (List Value)) ([]:P1) from trivial),aQ⟩) ?_
 rintro v_0 wu4 m6 k5 ⟨u3,zzu4,u4,aR,aS,aO,iu3,fu4,aA⟩
 cases aR
 cases aS
 replace aA:n5 x1 p0 m6 u3 u4=some X2:=aA
 obtain _|m6:=m6
 ·cases (show(none:Option _)=some X2 from aA)
 rw[n5.eq_2]at aA
 refine aI (fun aT=>?_) (fun aT=>?_)
 ·replace aA:=ifP aA aT
  obtain⟨x8,bQ,aA⟩:=l0 aA
  obtain⟨bR,bS,bT,bU⟩:=Sl.getI (r:=Wp.int.toRp) (J0.mono aO bK) bQ (by decide)
  refine aI bR ?_
  obtain⟨rfl,bL⟩:=bU
  refine eX _ (aI bT ?_)
  obtain⟨x9,bV,aA⟩:=l0 aA
  refine Tr.val (M7 _ x8 bL 1 (by decide) ((p0.length:Nat):Int) (o0o lp0) _  bV) ?_
  refine aI (fun aF=>?_) (fun aF=>?_)
  ·replace aA:=ifP aA aF
   obtain⟨x11,aU,aA⟩:=l0 aA
   obtain⟨aV,bM,aW,aC⟩:=Sl.getI (r:=J0.toRp) (Q2.mono aO rp0) aU (by decide)
   refine aI aV ?_
   obtain⟨aG,bW,aH,rfl⟩:=Wp.slice_cell aC
   obtain⟨rfl,bX⟩:=Sl.len aC
   refine eX _ (aI aW ?_)
   obtain⟨q12,aX,aA⟩:=l0 aA
   refine aI (L1 aX (by first|rw[F2.length fu4,F2.length (show F2 (J0.R k5) ([[.slice aG x11.length aH]]:List (List Value)) [x11] from⟨aC,trivial⟩)]|exact congrArg (·+1) (F2.length fu4))) ?_
   refine aI rfl (aI (by trivial) (aI (by trivial) (eX m6 (aI ⟨(IntKind.i64.wrap (u3+1)),(wu4++([[.slice aG x11.length aH]]:List (List Value))),(u4 ++ [x11]),rfl,rfl,aO,(N0 _),(F2.append fu4 (show F2 (J0.R k5) ([[.slice aG x11.length aH]]:List (List Value)) [x11] from⟨aC,trivial⟩)),aA⟩ (nS _)))))
  ·replace aA:=ifN aA aF
   obtain⟨x13,aY,aA⟩:=l0 aA
   refine Tr.val (M7 _ x8 bL (IntKind.i64.wrap (0-((p0.length:Nat):Int))) (N0 _) (-1) (by decide) _  aY) ?_
   refine aI (fun aJ=>?_) (fun aJ=>?_)
   ·replace aA:=ifP aA aJ
    obtain⟨x15,aZ,aA⟩:=l0 aA
    obtain⟨bA,bN,bB,aK⟩:=Sl.getI (r:=J0.toRp) (Q2.mono aO rp0) aZ (by decide)
    refine aI bA ?_
    obtain⟨bC,bY,bD,rfl⟩:=Wp.slice_cell aK
    obtain⟨rfl,bZ⟩:=Sl.len aK
    refine eX _ (aI bB ?_)
    obtain⟨x16,bE,aA⟩:=l0 aA
    refine Tr.mono (f03 _ bC x15.length bD x15 aK _  bE) ?_
    rintro v18 k17 ⟨aL,cA,aM,rfl,wx16⟩
    have aD:Sub k5 k17:=wx16.sub
    have aN:=wx16.r
    obtain⟨rfl,cC⟩:=Sl.len aN
    obtain⟨q19,bF,aA⟩:=l0 aA
    refine aI (L1 bF (by first|rw[F2.length (F2.up (r:=J0.toRp) aD fu4),F2.length (show F2 (J0.R k17) ([[.slice aL x16.length aM]]:List (List Value)) [x16] from⟨aN,trivial⟩)]|exact congrArg (·+1) (F2.length (F2.up (r:=J0.toRp) aD fu4)))) ?_
    refine aI rfl (aI (by trivial) (aI (by trivial) (eX m6 (aI ⟨(IntKind.i64.wrap (u3+1)),(wu4++([[.slice aL x16.length aM]]:List (List Value))),(u4 ++ [x16]),rfl,rfl,(aO.trans aD),(N0 _),(F2.append (F2.up (r:=J0.toRp) aD fu4) (show F2 (J0.R k17) ([[.slice aL x16.length aM]]:List (List Value)) [x16] from⟨aN,trivial⟩)),aA⟩ (nS _)))))
   ·replace aA:=ifN aA aJ
    refine aI rfl (aI (by trivial) (aI (by trivial) (eX m6 (aI ⟨(IntKind.i64.wrap (u3+1)),wu4,u4,rfl,rfl,aO,(N0 _),fu4,aA⟩ (nS _)))))
 ·replace aA:=ifN aA aT
  have hE:=oJ aA;subst hE
  try dsimp only[T0,V0]at aB
  refine Or.inl ?_
  intro v20 k21 f22
  obtain⟨az23,cz23,rfl,rz23,sz23,lz23⟩:=Z0.out (r:=J0.toRp) f22 fu4
  obtain⟨x24,bG,aB⟩:=l0 aB
  refine Tr.mono (U04 _ az23 u4.length cz23 u4 rz23 _  bG) ?_
  rintro v26 k25 ⟨bH,cD,bI,rfl,wx24⟩
  have bJ:Sub k21 k25:=wx24.sub
  have aP:=wx24.r
  obtain⟨rfl,cE⟩:=Sl.len aP
  have hE:=oJ aB;subst hE
  exact⟨bH,x24.length,bI,rfl,aP,((aO.trans sz23).trans bJ)⟩
end Go.Proofs.YtcakocbgbelmeaaGreat
