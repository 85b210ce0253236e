/- Texts of the claim, joined: The walks of batch 1 and others. -/
import Derived.Test.YtcakocbgbelmeaaGreatPart18
import Derived.Test.YtcakocbgbelmeaaGreatChecked
import Derived.Test.YtcakocbgbelmeaaGreatH35
import Derived.Test.YtcakocbgbelmeaaGreatPart17
import Derived.Test.YtcakocbgbelmeaaGreatH36
import Derived.Test.YtcakocbgbelmeaaGreatSI
namespace Go.Proofs.YtcakocbgbelmeaaGreat
open Go.H
set_option linter.unusedVariables false
set_option linter.unusedSimpArgs false
set_option maxRecDepth 10000
theorem w6 (h:Hp) (p0:Int) (ip0:H0 p0) (p1:Int) (ip1:H0 p1) (p2:Int) (ip2:H0 p2) (r:Bool) (aA:K4 p0 p1 p2=some r) :
  Tr Tryz.prog 87 #[.int .i64 p0,.int .i64 p1,.int .i64 p2] h fun v h'=>v = .bool r∧h'=h:=by
 unfold K4 at aA
 refine Tr.forget (C2 (args:=[.int .i64 p0,.int .i64 p1,.int .i64 p2]) (fn:=Tryz.f87) rfl ?_)
 have hE:=oJ aA;subst hE
 exact aI rfl (Sub.refl _)
theorem X08 (h:Hp) (p0:Int) (ip0:H0 p0) (ap1:Option Addr) (np1 cp1:Nat) (p1:D0) (rp1:J0.R h [.slice ap1 np1 cp1] p1) (r:Bool) (aB:e01 p0 p1=some r) :
  Tr Tryz.prog 59 #[.int .i64 p0,.slice ap1 np1 cp1] h fun v h'=>v = .bool r∧h'=h:=by
 obtain⟨rfl,lp1⟩:=Sl.len rp1
 unfold e01 at aB
 refine Tr.forget (C2 (args:=[.int .i64 p0,.slice ap1 p1.length cp1]) (fn:=Tryz.f59) rfl ?_)
 obtain⟨X1,aG,aB⟩:=j0 aB
 refine eX { vars:=[5],boxes:=[],owns:=[],fuel:=true } (eX (fun vs os h'=>∃(u2:Int),vs.tail = [.int .i64 u2]∧os = []∧Sub h h'∧H0 u2∧j8 p1 p0 (H1 vs) u2=some X1) (eX (fun _ _=>0) ?_))
 refine aI (eX N0 ⟨0,rfl,rfl,(Sub.refl _),(by decide),aG⟩) ?_
 rintro v_0 m4 k3 ⟨u2,aH,aJ,aC,iu2,aA⟩
 cases aH
 cases aJ
 replace aA:j8 p1 p0 m4 u2=some X1:=aA
 obtain _|m4:=m4
 ·cases (show(none:Option _)=some X1 from aA)
 rw[j8.eq_2]at aA
 refine aI (fun aK=>?_) (fun aK=>?_)
 ·replace aA:=ifP aA aK
  refine Or.inl (aI (aI (by kernel_rfl) (by kernel_rfl)) ?_)
  obtain⟨x6,aR,aA⟩:=j0 aA
  obtain⟨aS,aT,aU,aV⟩:=Sl.getI (r:=Wp.int.toRp) (J0.mono aC rp1) aR (by decide)
  refine aI aS ?_
  obtain⟨rfl,bF⟩:=aV
  refine eX _ (aI aU ?_)
  obtain⟨x7,aW,aA⟩:=j0 aA
  obtain⟨aX,aO,aY⟩:=Sl.getG (r:=Wp.int.toRp) (J0.mono aC rp1) aW (by decide) (O03 k3)
  refine aI (fun q=>(aO q).1) ?_
  obtain⟨rfl,aZ⟩:=aY
  refine eX _ (aI (fun q=>(aO q).2) ?_)
  obtain⟨x8,bA,aA⟩:=j0 aA
  refine eX (.bool x8) (aI (fun q=>w6 _ x7 aZ (IntKind.i64.wrap (0-p0)) (I0 _) p0 ip0 _  (Q2 bA q)) ?_)
  obtain⟨x9,bB,aA⟩:=j0 aA
  obtain⟨bC,aP,bD⟩:=Sl.getG (r:=Wp.int.toRp) (J0.mono aC rp1) bB (by decide) (O03 k3)
  refine aI (fun q=>(aP q).1) ?_
  obtain⟨rfl,bG⟩:=bD
  refine eX _ (aI (fun q=>(aP q).2) ?_)
  obtain⟨x10,aL,aA⟩:=j0 aA
  obtain⟨aQ,aF,aM⟩:=Sl.getG (r:=Wp.int.toRp) (J0.mono aC rp1) aL (by decide) (O03 k3)
  refine aI (fun q=>(aF q).1) ?_
  obtain⟨rfl,bE⟩:=aM
  refine eX _ (aI (fun q=>(aF q).2) ?_)
  refine aI (fun aD=>?_) (fun aD=>?_)
  ·replace aA:=ifP aA aD
   have hE:=oJ aA;subst hE
   try dsimp only[G2,I2]at aB
   have hE:=oJ aB;subst hE
   exact aI rfl aC
  ·replace aA:=ifN aA aD
   refine aI rfl (aI (by repeat first|exact trivial|refine aI rfl ?_) (aI (by repeat first|exact trivial|refine aI rfl ?_) (eX m4 (aI ⟨(IntKind.i64.wrap (u2+1)),rfl,rfl,aC,(I0 _),aA⟩ (nS _)))))
 ·replace aA:=ifN aA aK
  have hE:=oJ aA;subst hE
  try dsimp only[P0,Q0]at aB
  obtain⟨x12,aN,aB⟩:=j0 aB
  refine Tr.val (w6 _ p0 ip0 1 (by decide) 3 (by decide) _  aN) ?_
  have hE:=oJ aB;subst hE
  exact aI rfl aC
theorem C09 (h:Hp) (ap0:Option Addr) (np0 cp0:Nat) (p0:J1) (rp0:T1.R h [.slice ap0 np0 cp0] p0) (r:Int) (aB:D8 p0=some r) :
  Tr Tryz.prog 119 #[.slice ap0 np0 cp0] h fun v h'=>v = .int .i64 r∧h'=h:=by
 obtain⟨rfl,lp0⟩:=Sl.len rp0
 unfold D8 at aB
 refine Tr.forget (C2 (args:=[.slice ap0 p0.length cp0]) (fn:=Tryz.f119) rfl ?_)
 obtain⟨X1,aC,aB⟩:=j0 aB
 refine eX { vars:=[3,4],boxes:=[],owns:=[],fuel:=true } (eX (fun vs os h'=>∃(u2:Int) (u3:Int),vs.tail = [.int .i64 u2,.int .i64 u3]∧os = []∧Sub h h'∧H0 u2∧H0 u3∧W3 p0 (H1 vs) u2 u3=some X1) (eX (fun _ _=>0) ?_))
 refine aI (eX N0 ⟨0,0,rfl,rfl,(Sub.refl _),(by decide),(by decide),aC⟩) ?_
 rintro v_0 v_1 m5 k4 ⟨u2,u3,aD,aF,aG,iu2,iu3,aA⟩
 cases aD
 cases aF
 replace aA:W3 p0 m5 u2 u3=some X1:=aA
 obtain _|m5:=m5
 ·cases (show(none:Option _)=some X1 from aA)
 rw[W3.eq_2]at aA
 refine aI (fun aH=>?_) (fun aH=>?_)
 ·replace aA:=ifP aA aH
  obtain⟨x7,aK,aA⟩:=j0 aA
  obtain⟨aL,aM,aN,aJ⟩:=Sl.getI (r:=J0.toRp) (T1.mono aG rp0) aK (by decide)
  refine aI aL ?_
  obtain⟨aO,aP,aQ,rfl⟩:=Wp.slice_cell aJ
  obtain⟨rfl,aR⟩:=Sl.len aJ
  refine eX _ (aI aN ?_)
  refine aI rfl (aI (by repeat first|exact trivial|refine aI rfl ?_) (aI (by repeat first|exact trivial|refine aI rfl ?_) (eX m5 (aI ⟨(IntKind.i64.wrap (u2+((x7.length:Nat):Int))),(IntKind.i64.wrap (u3+1)),rfl,rfl,aG,(I0 _),(I0 _),aA⟩ (nS _)))))
 ·replace aA:=ifN aA aH
  have hE:=oJ aA;subst hE
  try dsimp only[P0,Q0]at aB
  have hE:=oJ aB;subst hE
  exact aI rfl aG
theorem X06 (h:Hp) (p0:Int) (ip0:H0 p0) (ap1:Option Addr) (np1 cp1:Nat) (p1:J1) (rp1:T1.R h [.slice ap1 np1 cp1] p1) (r:Bool) (aB:d00 p0 p1=some r) :
  Tr Tryz.prog 58 #[.int .i64 p0,.slice ap1 np1 cp1] h fun v h'=>v = .bool r∧h'=h:=by
 obtain⟨rfl,lp1⟩:=Sl.len rp1
 unfold d00 at aB
 refine Tr.forget (C2 (args:=[.int .i64 p0,.slice ap1 p1.length cp1]) (fn:=Tryz.f58) rfl ?_)
 obtain⟨X1,aD,aB⟩:=j0 aB
 refine eX { vars:=[5],boxes:=[],owns:=[],fuel:=true } (eX (fun vs os h'=>∃(u2:Int),vs.tail = [.int .i64 u2]∧os = []∧Sub h h'∧H0 u2∧O6 p1 p0 (H1 vs) u2=some X1) (eX (fun _ _=>0) ?_))
 refine aI (eX N0 ⟨0,rfl,rfl,(Sub.refl _),(by decide),aD⟩) ?_
 rintro v_0 m4 k3 ⟨u2,aF,aG,aC,iu2,aA⟩
 cases aF
 cases aG
 replace aA:O6 p1 p0 m4 u2=some X1:=aA
 obtain _|m4:=m4
 ·cases (show(none:Option _)=some X1 from aA)
 rw[O6.eq_2]at aA
 refine aI (fun aH=>?_) (fun aH=>?_)
 ·replace aA:=ifP aA aH
  obtain⟨x6,aN,aA⟩:=j0 aA
  obtain⟨aO,aP,aQ,aJ⟩:=Sl.getI (r:=J0.toRp) (T1.mono aC rp1) aN (by decide)
  refine aI aO ?_
  obtain⟨aR,aW,aS,rfl⟩:=Wp.slice_cell aJ
  obtain⟨rfl,aX⟩:=Sl.len aJ
  refine eX _ (aI aQ ?_)
  obtain⟨x7,aT,aA⟩:=j0 aA
  refine Tr.val (X08 _ p0 ip0 aR x6.length aS x6 aJ _  aT) ?_
  refine aI (fun aK=>?_) (fun aK=>?_)
  ·replace aA:=ifP aA aK
   have hE:=oJ aA;subst hE
   try dsimp only[G2,I2]at aB
   have hE:=oJ aB;subst hE
   exact aI rfl aC
  ·replace aA:=ifN aA aK
   refine aI rfl (aI (by repeat first|exact trivial|refine aI rfl ?_) (aI (by repeat first|exact trivial|refine aI rfl ?_) (eX m4 (aI ⟨(IntKind.i64.wrap (u2+1)),rfl,rfl,aC,(I0 _),aA⟩ (nS _)))))
 ·replace aA:=ifN aA aH
  have hE:=oJ aA;subst hE
  try dsimp only[P0,Q0]at aB
  obtain⟨x9,aU,aB⟩:=j0 aB
  refine Tr.val (w6 _ p0 ip0 1 (by decide) 3 (by decide) _  aU) ?_
  obtain⟨x10,aL,aB⟩:=j0 aB
  refine eX (.int .i64 x10) (aI (fun q=>C09 _ ap1 p1.length cp1 p1 (T1.mono aC rp1) _  (Q2 aL q)) ?_)
  obtain⟨q11,aM,aB⟩:=j0 aB
  have aV:H0 x10:=M0 aM
  have hE:=oJ aB;subst hE
  exact aI rfl aC
theorem Y5 (h:Hp) (aM:List Value) (p0:B0) (rp0:E1.R h aM p0) (r:Bool) (aC:l3 p0=some r) :
  Tr Tryz.prog 42 #[.agg aM.toArray] h fun v h'=>v = .bool r∧h'=h:=by
 obtain⟨aH,aD,aT,aF,aG,rfl,rfl,aJ,aB⟩:=D1 rp0
 obtain⟨rfl,aU⟩:=Sl.len aB
 unfold l3 at aC
 dsimp only at aC
 refine Tr.forget (C2 (args:=[.agg #[.int .i64 aH,.slice aD aG.length aF]]) (fn:=Tryz.f42) rfl ?_)
 obtain⟨X1,aN,aC⟩:=j0 aC
 refine eX { vars:=[3],boxes:=[],owns:=[],fuel:=true } (eX (fun vs os h'=>∃(u2:Int),vs.tail = [.int .i64 u2]∧os = []∧Sub h h'∧H0 u2∧B4 aG (H1 vs) u2=some X1) (eX (fun _ _=>0) ?_))
 refine aI (eX N0 ⟨0,rfl,rfl,(Sub.refl _),(by decide),aN⟩) ?_
 rintro v_0 m4 k3 ⟨u2,aO,aP,aK,iu2,aA⟩
 cases aO
 cases aP
 replace aA:B4 aG m4 u2=some X1:=aA
 obtain _|m4:=m4
 ·cases (show(none:Option _)=some X1 from aA)
 rw[B4.eq_2]at aA
 refine aI (fun aQ=>?_) (fun aQ=>?_)
 ·replace aA:=ifP aA aQ
  obtain⟨x6,aX,aA⟩:=j0 aA
  obtain⟨aY,aZ,bA,aL⟩:=Sl.getI (r:=J0.toRp) (T1.mono aK aB) aX (by decide)
  refine aI aY ?_
  obtain⟨bH,bI,bJ,rfl⟩:=Wp.slice_cell aL
  obtain⟨rfl,bK⟩:=Sl.len aL
  refine eX _ (aI bA ?_)
  refine Or.inl (aI (aI (by kernel_rfl) (by kernel_rfl)) ?_)
  obtain⟨x7,bB,aA⟩:=j0 aA
  obtain⟨bC,aV,bD⟩:=Sl.getG (r:=Wp.int.toRp) aL bB (by decide) (O03 k3)
  refine aI (fun q=>(aV q).1) ?_
  obtain⟨rfl,bL⟩:=bD
  refine eX _ (aI (fun q=>(aV q).2) ?_)
  obtain⟨x8,bE,aA⟩:=j0 aA
  obtain⟨bF,aW,bG⟩:=Sl.getG (r:=Wp.int.toRp) aL bE (by decide) (O03 k3)
  refine aI (fun q=>(aW q).1) ?_
  obtain⟨rfl,bM⟩:=bG
  refine eX _ (aI (fun q=>(aW q).2) ?_)
  refine aI (fun aR=>?_) (fun aR=>?_)
  ·replace aA:=ifP aA aR
   have hE:=oJ aA;subst hE
   try dsimp only[G2,I2]at aC
   have hE:=oJ aC;subst hE
   exact aI rfl aK
  ·replace aA:=ifN aA aR
   refine aI rfl (aI (by repeat first|exact trivial|refine aI rfl ?_) (aI (by repeat first|exact trivial|refine aI rfl ?_) (eX m4 (aI ⟨(IntKind.i64.wrap (u2+1)),rfl,rfl,aK,(I0 _),aA⟩ (nS _)))))
 ·replace aA:=ifN aA aQ
  have hE:=oJ aA;subst hE
  try dsimp only[P0,Q0]at aC
  obtain⟨x10,aS,aC⟩:=j0 aC
  refine Tr.val (X06 _ aH aJ aD aG.length aF aG (T1.mono aK aB) _  aS) ?_
  have hE:=oJ aC;subst hE
  exact aI rfl aK
theorem M7 (h:Hp) (p0:Int) (ip0:H0 p0) (p1:Int) (ip1:H0 p1) (p2:Int) (ip2:H0 p2) (r:Bool) (aA:S5 p0 p1 p2=some r) :
  Tr Tryz.prog 89 #[.int .i64 p0,.int .i64 p1,.int .i64 p2] h fun v h'=>v = .bool r∧h'=h:=by
 unfold S5 at aA
 refine Tr.forget (C2 (args:=[.int .i64 p0,.int .i64 p1,.int .i64 p2]) (fn:=Tryz.f89) rfl ?_)
 have hE:=oJ aA;subst hE
 exact aI rfl (Sub.refl _)
theorem z0d (h:Hp) (p0:Int) (ip0:H0 p0) (p1:Int) (ip1:H0 p1) (r:Bool) (aA:O00 p0 p1=some r) :
  Tr Tryz.prog 135 #[.int .i64 p0,.int .i64 p1] h fun v h'=>v = .bool r∧h'=h:=by
 unfold O00 at aA
 refine Tr.forget (C2 (args:=[.int .i64 p0,.int .i64 p1]) (fn:=Tryz.f135) rfl ?_)
 obtain⟨x1,aB,aA⟩:=j0 aA
 refine eX (.bool x1) (aI (fun q=>M7 _ p1 ip1 (IntKind.i64.wrap (0-p0)) (I0 _) p0 ip0 _  (Q2 aB q)) ?_)
 have hE:=oJ aA;subst hE
 exact aI rfl (Sub.refl _)
theorem f05 (h:Hp) (p0:Int) (ip0:H0 p0) (p1:Int) (ip1:H0 p1) (r:Bool) (aA:V8 p0 p1=some r) :
  Tr Tryz.prog 112 #[.int .i64 p0,.int .i64 p1] h fun v h'=>v = .bool r∧h'=h:=by
 unfold V8 at aA
 refine Tr.forget (C2 (args:=[.int .i64 p0,.int .i64 p1]) (fn:=Tryz.f112) rfl ?_)
 have hE:=oJ aA;subst hE
 exact aI rfl (Sub.refl _)
theorem Y08 (h:Hp) (p0:Int) (ip0:H0 p0) (ap1:Option Addr) (np1 cp1:Nat) (p1:D0) (rp1:J0.R h [.slice ap1 np1 cp1] p1) (r:Bool) (aB:f01 p0 p1=some r) :
  Tr Tryz.prog 73 #[.int .i64 p0,.slice ap1 np1 cp1] h fun v h'=>v = .bool r∧h'=h:=by
 obtain⟨rfl,lp1⟩:=Sl.len rp1
 unfold f01 at aB
 refine Tr.forget (C2 (args:=[.int .i64 p0,.slice ap1 p1.length cp1]) (fn:=Tryz.f73) rfl ?_)
 obtain⟨x1,aS,aB⟩:=j0 aB
 refine Tr.val (M7 _ p0 ip0 1 (by decide) 3 (by decide) _  aS) ?_
 refine aI (fun aG=>?_) (fun aG=>?_)
 ·replace aB:=ifP aB aG
  have hE:=oJ aB;subst hE
  exact aI rfl (Sub.refl _)
 ·replace aB:=ifN aB aG
  obtain⟨X3,aH,aB⟩:=j0 aB
  refine eX { vars:=[17],boxes:=[],owns:=[],fuel:=true } (eX (fun vs os h'=>∃(u4:Int),vs.tail = [.int .i64 u4]∧os = []∧Sub h h'∧H0 u4∧l8 p1 p0 (H1 vs) u4=some X3) (eX (fun _ _=>0) ?_))
  refine aI (eX N0 ⟨0,rfl,rfl,(Sub.refl _),(by decide),aH⟩) ?_
  rintro v_0 m6 k5 ⟨u4,aJ,aK,aD,iu4,aA⟩
  cases aJ
  cases aK
  replace aA:l8 p1 p0 m6 u4=some X3:=aA
  obtain _|m6:=m6
  ·cases (show(none:Option _)=some X3 from aA)
  rw[l8.eq_2]at aA
  refine aI (fun aL=>?_) (fun aL=>?_)
  ·replace aA:=ifP aA aL
   obtain⟨x8,aT,aA⟩:=j0 aA
   obtain⟨aU,aV,aW,aX⟩:=Sl.getI (r:=Wp.int.toRp) (J0.mono aD rp1) aT (by decide)
   refine aI aU ?_
   obtain⟨rfl,aQ⟩:=aX
   refine eX _ (aI aW ?_)
   obtain⟨x9,aY,aA⟩:=j0 aA
   refine Tr.val (z0d _ p0 ip0 x8 aQ _  aY) ?_
   obtain⟨x10,aM,aA⟩:=j0 aA
   obtain⟨aR,aF,aN⟩:=Sl.getG (r:=Wp.int.toRp) (J0.mono aD rp1) aM (by decide) (O03 k5)
   refine aI (fun q=>(aF q).1) ?_
   obtain⟨rfl,aO⟩:=aN
   refine eX _ (aI (fun q=>(aF q).2) ?_)
   obtain⟨x11,aP,aA⟩:=j0 aA
   refine eX (.bool x11) (aI (fun q=>f05 _ x10 aO x8 aQ _  (Q2 aP q)) ?_)
   refine aI (fun aC=>?_) (fun aC=>?_)
   ·replace aA:=ifP aA aC
    have hE:=oJ aA;subst hE
    try dsimp only[G2,I2]at aB
    have hE:=oJ aB;subst hE
    exact aI rfl aD
   ·replace aA:=ifN aA aC
    refine aI rfl (aI (by repeat first|exact trivial|refine aI rfl ?_) (aI (by repeat first|exact trivial|refine aI rfl ?_) (eX m6 (aI ⟨(IntKind.i64.wrap (u4+1)),rfl,rfl,aD,(I0 _),aA⟩ (nS _)))))
  ·replace aA:=ifN aA aL
   have hE:=oJ aA;subst hE
   try dsimp only[P0,Q0]at aB
   have hE:=oJ aB;subst hE
   exact aI rfl aD
theorem D09 (h:Hp) (ap0:Option Addr) (np0 cp0:Nat) (p0:J1) (rp0:T1.R h [.slice ap0 np0 cp0] p0) (r:Int) (aB:J9 p0=some r) :
  Tr Tryz.prog 134 #[.slice ap0 np0 cp0] h fun v h'=>v = .int .i64 r∧h'=h:=by
 obtain⟨rfl,lp0⟩:=Sl.len rp0
 unfold J9 at aB
 refine Tr.forget (C2 (args:=[.slice ap0 p0.length cp0]) (fn:=Tryz.f134) rfl ?_)
 obtain⟨X1,aC,aB⟩:=j0 aB
 refine eX { vars:=[3,8],boxes:=[],owns:=[],fuel:=true } (eX (fun vs os h'=>∃(u2:Int) (u3:Int),vs.tail = [.int .i64 u2,.int .i64 u3]∧os = []∧Sub h h'∧H0 u2∧H0 u3∧j6 p0 (H1 vs) u2 u3=some X1) (eX (fun _ _=>0) ?_))
 refine aI (eX N0 ⟨0,0,rfl,rfl,(Sub.refl _),(by decide),(by decide),aC⟩) ?_
 rintro v_0 v_1 m5 k4 ⟨u2,u3,aD,aF,aG,iu2,iu3,aA⟩
 cases aD
 cases aF
 replace aA:j6 p0 m5 u2 u3=some X1:=aA
 obtain _|m5:=m5
 ·cases (show(none:Option _)=some X1 from aA)
 rw[j6.eq_2]at aA
 refine aI (fun aH=>?_) (fun aH=>?_)
 ·replace aA:=ifP aA aH
  obtain⟨x7,aK,aA⟩:=j0 aA
  obtain⟨aL,aM,aN,aJ⟩:=Sl.getI (r:=J0.toRp) (T1.mono aG rp0) aK (by decide)
  refine aI aL ?_
  obtain⟨aO,aP,aQ,rfl⟩:=Wp.slice_cell aJ
  obtain⟨rfl,aR⟩:=Sl.len aJ
  refine eX _ (aI aN ?_)
  refine aI rfl (aI (by repeat first|exact trivial|refine aI rfl ?_) (aI (by repeat first|exact trivial|refine aI rfl ?_) (eX m5 (aI ⟨(IntKind.i64.wrap (u2+((x7.length:Nat):Int))),(IntKind.i64.wrap (u3+1)),rfl,rfl,aG,(I0 _),(I0 _),aA⟩ (nS _)))))
 ·replace aA:=ifN aA aH
  have hE:=oJ aA;subst hE
  try dsimp only[P0,Q0]at aB
  have hE:=oJ aB;subst hE
  exact aI rfl aG
theorem Y06 (h:Hp) (p0:Int) (ip0:H0 p0) (ap1:Option Addr) (np1 cp1:Nat) (p1:J1) (rp1:T1.R h [.slice ap1 np1 cp1] p1) (r:Bool) (aB:e00 p0 p1=some r) :
  Tr Tryz.prog 72 #[.int .i64 p0,.slice ap1 np1 cp1] h fun v h'=>v = .bool r∧h'=h:=by
 obtain⟨rfl,lp1⟩:=Sl.len rp1
 unfold e00 at aB
 refine Tr.forget (C2 (args:=[.int .i64 p0,.slice ap1 p1.length cp1]) (fn:=Tryz.f72) rfl ?_)
 obtain⟨x1,aO,aB⟩:=j0 aB
 refine Tr.val (M7 _ p0 ip0 1 (by decide) 3 (by decide) _  aO) ?_
 refine aI (fun aF=>?_) (fun aF=>?_)
 ·replace aB:=ifP aB aF
  have hE:=oJ aB;subst hE
  exact aI rfl (Sub.refl _)
 ·replace aB:=ifN aB aF
  obtain⟨X3,aG,aB⟩:=j0 aB
  refine eX { vars:=[17],boxes:=[],owns:=[],fuel:=true } (eX (fun vs os h'=>∃(u4:Int),vs.tail = [.int .i64 u4]∧os = []∧Sub h h'∧H0 u4∧P6 p1 p0 (H1 vs) u4=some X3) (eX (fun _ _=>0) ?_))
  refine aI (eX N0 ⟨0,rfl,rfl,(Sub.refl _),(by decide),aG⟩) ?_
  rintro v_0 m6 k5 ⟨u4,aH,aJ,aD,iu4,aA⟩
  cases aH
  cases aJ
  replace aA:P6 p1 p0 m6 u4=some X3:=aA
  obtain _|m6:=m6
  ·cases (show(none:Option _)=some X3 from aA)
  rw[P6.eq_2]at aA
  refine aI (fun aK=>?_) (fun aK=>?_)
  ·replace aA:=ifP aA aK
   obtain⟨x8,aP,aA⟩:=j0 aA
   obtain⟨aQ,aR,aS,aL⟩:=Sl.getI (r:=J0.toRp) (T1.mono aD rp1) aP (by decide)
   refine aI aQ ?_
   obtain⟨aT,aX,aU,rfl⟩:=Wp.slice_cell aL
   obtain⟨rfl,aY⟩:=Sl.len aL
   refine eX _ (aI aS ?_)
   obtain⟨x9,aV,aA⟩:=j0 aA
   refine Tr.val (Y08 _ p0 ip0 aT x8.length aU x8 aL _  aV) ?_
   refine aI (fun aC=>?_) (fun aC=>?_)
   ·replace aA:=ifP aA aC
    have hE:=oJ aA;subst hE
    try dsimp only[G2,I2]at aB
    have hE:=oJ aB;subst hE
    exact aI rfl aD
   ·replace aA:=ifN aA aC
    refine aI rfl (aI (by repeat first|exact trivial|refine aI rfl ?_) (aI (by repeat first|exact trivial|refine aI rfl ?_) (eX m6 (aI ⟨(IntKind.i64.wrap (u4+1)),rfl,rfl,aD,(I0 _),aA⟩ (nS _)))))
  ·replace aA:=ifN aA aK
   have hE:=oJ aA;subst hE
   try dsimp only[P0,Q0]at aB
   obtain⟨x11,aM,aB⟩:=j0 aB
   refine Tr.val (D09 _ ap1 p1.length cp1 p1 (T1.mono aD rp1) _  aM) ?_
   obtain⟨q12,aN,aB⟩:=j0 aB
   have aW:H0 x11:=M0 aN
   have hE:=oJ aB;subst hE
   exact aI rfl aD
theorem Z5 (h:Hp) (aO:List Value) (p0:B0) (rp0:E1.R h aO p0) (r:Bool) (aB:A3 p0=some r) :
  Tr Tryz.prog 49 #[.agg aO.toArray] h fun v h'=>v = .bool r∧h'=h:=by
 obtain⟨aJ,aD,aY,aF,aG,rfl,rfl,aK,aC⟩:=D1 rp0
 obtain⟨rfl,aZ⟩:=Sl.len aC
 unfold A3 at aB
 dsimp only at aB
 refine Tr.forget (C2 (args:=[.agg #[.int .i64 aJ,.slice aD aG.length aF]]) (fn:=Tryz.f49) rfl ?_)
 obtain⟨x1,bC,aB⟩:=j0 aB
 refine Tr.val (Y06 _ aJ aK aD aG.length aF aG aC _  bC) ?_
 refine aI (fun aP=>?_) (fun aP=>?_)
 ·replace aB:=ifP aB aP
  have hE:=oJ aB;subst hE
  exact aI rfl (Sub.refl _)
 ·replace aB:=ifN aB aP
  obtain⟨X3,aQ,aB⟩:=j0 aB
  refine eX { vars:=[14],boxes:=[],owns:=[],fuel:=true } (eX (fun vs os h'=>∃(u4:Int),vs.tail = [.int .i64 u4]∧os = []∧Sub h h'∧H0 u4∧C4 aG (H1 vs) u4=some X3) (eX (fun _ _=>0) ?_))
  refine aI (eX N0 ⟨0,rfl,rfl,(Sub.refl _),(by decide),aQ⟩) ?_
  rintro v_0 m6 k5 ⟨u4,aR,aS,aM,iu4,aA⟩
  cases aR
  cases aS
  replace aA:C4 aG m6 u4=some X3:=aA
  obtain _|m6:=m6
  ·cases (show(none:Option _)=some X3 from aA)
  rw[C4.eq_2]at aA
  refine aI (fun aT=>?_) (fun aT=>?_)
  ·replace aA:=ifP aA aT
   obtain⟨x8,bD,aA⟩:=j0 aA
   obtain⟨bE,bF,bG,aN⟩:=Sl.getI (r:=J0.toRp) (T1.mono aM aC) bD (by decide)
   refine aI bE ?_
   obtain⟨bL,bM,bN,rfl⟩:=Wp.slice_cell aN
   obtain⟨rfl,bO⟩:=Sl.len aN
   refine eX _ (aI bG ?_)
   refine Or.inl (aI (aI (by kernel_rfl) (by kernel_rfl)) ?_)
   obtain⟨x9,bH,aA⟩:=j0 aA
   obtain⟨bI,bA,bJ⟩:=Sl.getG (r:=Wp.int.toRp) aN bH (by decide) (O03 k5)
   refine aI (fun q=>(bA q).1) ?_
   obtain⟨rfl,bK⟩:=bJ
   refine eX _ (aI (fun q=>(bA q).2) ?_)
   obtain⟨x10,aU,aA⟩:=j0 aA
   obtain⟨bB,aL,aV⟩:=Sl.getG (r:=Wp.int.toRp) aN aU (by decide) (O03 k5)
   refine aI (fun q=>(aL q).1) ?_
   obtain⟨rfl,aW⟩:=aV
   refine eX _ (aI (fun q=>(aL q).2) ?_)
   obtain⟨x11,aX,aA⟩:=j0 aA
   refine eX (.bool x11) (aI (fun q=>f05 _ x9 bK x10 aW _  (Q2 aX q)) ?_)
   refine aI (fun aH=>?_) (fun aH=>?_)
   ·replace aA:=ifP aA aH
    have hE:=oJ aA;subst hE
    try dsimp only[G2,I2]at aB
    have hE:=oJ aB;subst hE
    exact aI rfl aM
   ·replace aA:=ifN aA aH
    refine aI rfl (aI (by repeat first|exact trivial|refine aI rfl ?_) (aI (by repeat first|exact trivial|refine aI rfl ?_) (eX m6 (aI ⟨(IntKind.i64.wrap (u4+1)),rfl,rfl,aM,(I0 _),aA⟩ (nS _)))))
  ·replace aA:=ifN aA aT
   have hE:=oJ aA;subst hE
   try dsimp only[P0,Q0]at aB
   have hE:=oJ aB;subst hE
   exact aI rfl aM
theorem H8 (h:Hp) (p0:Int) (ip0:H0 p0) (p1:Int) (ip1:H0 p1) (r:Int) (aA:S3 p0 p1=some r) :
  Tr Tryz.prog 217 #[.int .i64 p0,.int .i64 p1] h fun v h'=>v = .int .i64 r∧h'=h:=by
 unfold S3 at aA
 refine Tr.forget (C2 (args:=[.int .i64 p0,.int .i64 p1]) (fn:=Tryz.f217) rfl ?_)
 refine aI (fun aB=>?_) (fun aB=>?_)
 ·replace aA:=ifP aA aB
  have hE:=oJ aA;subst hE
  exact aI rfl (Sub.refl _)
 ·replace aA:=ifN aA aB
  refine aI (fun aC=>?_) (fun aC=>?_)
  ·replace aA:=ifP aA aC
   have hE:=oJ aA;subst hE
   exact aI rfl (Sub.refl _)
  ·replace aA:=ifN aA aC
   have hE:=oJ aA;subst hE
   exact aI rfl (Sub.refl _)
theorem R01 (h:Hp) (p0:Int) (ip0:H0 p0) (r:ByteArray) (aB:J7 p0=some r) :
  Tr Tryz.prog 45 #[.int .i64 p0] h fun v h'=>v = .string r∧h'=h:=by
 unfold J7 at aB
 refine Tr.forget (C2 (args:=[.int .i64 p0]) (fn:=Tryz.f45) rfl ?_)
 refine aI (fun aF=>?_) (fun aF=>?_)
 ·replace aB:=ifP aB aF
  have hE:=oJ aB;subst hE
  exact aI rfl (Sub.refl _)
 ·replace aB:=ifN aB aF
  obtain⟨X2,aG,aB⟩:=j0 aB
  refine eX { vars:=[0,3],boxes:=[],owns:=[],fuel:=true } (eX (fun vs os h'=>∃(u3:Int) (u4:ByteArray),vs.tail = [.int .i64 u3,.string u4]∧os = []∧Sub h h'∧H0 u3∧u4.size≤9223372036854775807∧S4 (H1 vs) u3 u4=some X2) (eX (fun _ _=>0) ?_))
  refine aI (eX N0 ⟨p0,(⟨#[]⟩:ByteArray),rfl,rfl,(Sub.refl _),ip0,(by decide),aG⟩) ?_
  rintro v_0 v_1 m6 k5 ⟨u3,u4,aH,aJ,aD,iu3,iu4,aA⟩
  cases aH
  cases aJ
  replace aA:S4 m6 u3 u4=some X2:=aA
  obtain _|m6:=m6
  ·cases (show(none:Option _)=some X2 from aA)
  rw[S4.eq_2]at aA
  refine aI (fun aK=>?_) (fun aK=>?_)
  ·replace aA:=ifP aA aK
   obtain⟨q8,aR,aA⟩:=j0 aA
   refine aI (M0 aR) ?_
   refine aI (fun aL=>?_) (fun aL=>?_)
   ·replace aA:=ifP aA aL
    refine eX [(IntKind.u8.wrap (IntKind.i64.wrap (48+(IntKind.i64.wrap (0-(Int.tmod u3 10))))))] (aI (F2.u8 (show F2 (Rp.u8.R k5) ([[.int .u8 (IntKind.u8.wrap (IntKind.i64.wrap (48+(IntKind.i64.wrap (0-(Int.tmod u3 10))))))]]:List (List Value)) [(IntKind.u8.wrap (IntKind.i64.wrap (48+(IntKind.i64.wrap (0-(Int.tmod u3 10))))))] from⟨rfl,trivial⟩)) ?_)
    obtain⟨q10,aS,aA⟩:=j0 aA
    obtain⟨q11,aM,aA⟩:=j0 aA
    have jq11:=M0 aM
    refine aI jq11 ?_
    obtain⟨q12,aN,aA⟩:=j0 aA
    refine aI (M0 aN) ?_
    refine aI rfl (aI (by repeat first|exact trivial|refine aI rfl ?_) (aI (by repeat first|exact trivial|refine aI rfl ?_) (eX m6 (aI ⟨(IntKind.i64.wrap (Int.tdiv u3 10)),((strOfNums [(IntKind.u8.wrap (IntKind.i64.wrap (48+(IntKind.i64.wrap (0-(Int.tmod u3 10))))))])++u4),rfl,rfl,aD,(I0 _),(w04 jq11),aA⟩ (nS _)))))
   ·replace aA:=ifN aA aL
    refine eX [(IntKind.u8.wrap (IntKind.i64.wrap (48+(Int.tmod u3 10))))] (aI (F2.u8 (show F2 (Rp.u8.R k5) ([[.int .u8 (IntKind.u8.wrap (IntKind.i64.wrap (48+(Int.tmod u3 10))))]]:List (List Value)) [(IntKind.u8.wrap (IntKind.i64.wrap (48+(Int.tmod u3 10))))] from⟨rfl,trivial⟩)) ?_)
    obtain⟨q13,aT,aA⟩:=j0 aA
    obtain⟨q14,aO,aA⟩:=j0 aA
    have jq14:=M0 aO
    refine aI jq14 ?_
    obtain⟨q15,aP,aA⟩:=j0 aA
    refine aI (M0 aP) ?_
    refine aI rfl (aI (by repeat first|exact trivial|refine aI rfl ?_) (aI (by repeat first|exact trivial|refine aI rfl ?_) (eX m6 (aI ⟨(IntKind.i64.wrap (Int.tdiv u3 10)),((strOfNums [(IntKind.u8.wrap (IntKind.i64.wrap (48+(Int.tmod u3 10))))])++u4),rfl,rfl,aD,(I0 _),(w04 jq14),aA⟩ (nS _)))))
  ·replace aA:=ifN aA aK
   have hE:=oJ aA;subst hE
   try dsimp only[P0,Q0]at aB
   refine aI (fun aC=>?_) (fun aC=>?_)
   ·replace aB:=ifP aB aC
    obtain⟨q17,aQ,aB⟩:=j0 aB
    have jq17:=M0 aQ
    refine aI jq17 ?_
    have hE:=oJ aB;subst hE
    exact aI rfl aD
   ·replace aB:=ifN aB aC
    have hE:=oJ aB;subst hE
    exact aI rfl aD
theorem A0d (h:Hp) (p0:Int) (ip0:H0 p0) (r:Bool) (aA:Z00 p0=some r) :
  Tr Tryz.prog 208 #[.int .i64 p0] h fun v h'=>v = .bool r∧h'=h:=by
 unfold Z00 at aA
 refine Tr.forget (C2 (args:=[.int .i64 p0]) (fn:=Tryz.f208) rfl ?_)
 obtain⟨x1,aB,aA⟩:=j0 aA
 refine eX (.bool x1) (aI (fun q=>w6 _ p0 ip0 (-3) (by decide) 3 (by decide) _  (Q2 aB q)) ?_)
 have hE:=oJ aA;subst hE
 exact aI rfl (Sub.refl _)
theorem e0g (h:Hp) (p0:Int) (ip0:H0 p0) (r:ByteArray) (aA:o03 p0=some r) :
  Tr Tryz.prog 209 #[.int .i64 p0] h fun v h'=>v = .string r∧h'=h:=by
 unfold o03 at aA
 refine Tr.forget (C2 (args:=[.int .i64 p0]) (fn:=Tryz.f209) rfl ?_)
 refine aI (fun aB=>?_) (fun aB=>?_)
 ·replace aA:=ifP aA aB
  obtain⟨x2,aC,aA⟩:=j0 aA
  obtain⟨aD,aF,aG,aH⟩:=J4 (show F2 (Wp.str.R h) ([[.string (⟨#[65]⟩:ByteArray)],[.string (⟨#[66]⟩:ByteArray)],[.string (⟨#[67]⟩:ByteArray)]]:List (List Value)) [(⟨#[65]⟩:ByteArray),(⟨#[66]⟩:ByteArray),(⟨#[67]⟩:ByteArray)] from⟨⟨rfl,(by decide)⟩,⟨⟨rfl,(by decide)⟩,⟨⟨rfl,(by decide)⟩,trivial⟩⟩⟩) aC
  refine aI aD ?_
  obtain⟨rfl,aO⟩:=aH
  refine eX _ (aI aG ?_)
  have hE:=oJ aA;subst hE
  exact aI rfl (Sub.refl _)
 ·replace aA:=ifN aA aB
  obtain⟨x3,aJ,aA⟩:=j0 aA
  obtain⟨aK,aL,aM,aN⟩:=J4 (show F2 (Wp.str.R h) ([[.string (⟨#[97]⟩:ByteArray)],[.string (⟨#[98]⟩:ByteArray)],[.string (⟨#[99]⟩:ByteArray)]]:List (List Value)) [(⟨#[97]⟩:ByteArray),(⟨#[98]⟩:ByteArray),(⟨#[99]⟩:ByteArray)] from⟨⟨rfl,(by decide)⟩,⟨⟨rfl,(by decide)⟩,⟨⟨rfl,(by decide)⟩,trivial⟩⟩⟩) aJ
  refine aI aK ?_
  obtain⟨rfl,aP⟩:=aN
  refine eX _ (aI aM ?_)
  have hE:=oJ aA;subst hE
  exact aI rfl (Sub.refl _)
theorem g05 (h:Hp) (ap0:Option Addr) (np0 cp0:Nat) (p0:D0) (rp0:J0.R h [.slice ap0 np0 cp0] p0) (r:ByteArray) (aB:a9 p0=some r) :
  Tr Tryz.prog 164 #[.slice ap0 np0 cp0] h fun v h'=>v = .string r∧h'=h:=by
 obtain⟨rfl,lp0⟩:=Sl.len rp0
 unfold a9 at aB
 refine Tr.forget (C2 (args:=[.slice ap0 p0.length cp0]) (fn:=Tryz.f164) rfl ?_)
 obtain⟨X1,aF,aB⟩:=j0 aB
 refine eX { vars:=[3,4],boxes:=[],owns:=[],fuel:=true } (eX (fun vs os h'=>∃(u2:ByteArray) (u3:Int),vs.tail = [.string u2,.int .i64 u3]∧os = []∧Sub h h'∧u2.size≤9223372036854775807∧H0 u3∧V5 p0 (H1 vs) u2 u3=some X1) (eX (fun _ _=>0) ?_))
 refine aI (eX N0 ⟨(⟨#[]⟩:ByteArray),0,rfl,rfl,(Sub.refl _),(by decide),(by decide),aF⟩) ?_
 rintro v_0 v_1 m5 k4 ⟨u2,u3,aG,aH,aD,iu2,iu3,aA⟩
 cases aG
 cases aH
 replace aA:V5 p0 m5 u2 u3=some X1:=aA
 obtain _|m5:=m5
 ·cases (show(none:Option _)=some X1 from aA)
 rw[V5.eq_2]at aA
 refine aI (fun aJ=>?_) (fun aJ=>?_)
 ·replace aA:=ifP aA aJ
  obtain⟨x7,aU,aA⟩:=j0 aA
  obtain⟨aV,aW,aX,aY⟩:=Sl.getI (r:=Wp.int.toRp) (J0.mono aD rp0) aU (by decide)
  refine aI aV ?_
  obtain⟨rfl,aZ⟩:=aY
  refine eX _ (aI aX ?_)
  obtain⟨x8,bA,aA⟩:=j0 aA
  refine Tr.val (A0d _ x7 aZ _  bA) ?_
  refine aI (fun aK=>?_) (fun aK=>?_)
  ·replace aA:=ifP aA aK
   have hE:=oJ aA;subst hE
   try dsimp only[G2,I2]at aB
   have hE:=oJ aB;subst hE
   exact aI rfl aD
  ·replace aA:=ifN aA aK
   obtain⟨x10,aL,aA⟩:=j0 aA
   obtain⟨aM,aT,aN,aO⟩:=Sl.getI (r:=Wp.int.toRp) (J0.mono aD rp0) aL (by decide)
   refine aI aM ?_
   obtain⟨rfl,aP⟩:=aO
   refine eX _ (aI aN ?_)
   obtain⟨x11,aQ,aA⟩:=j0 aA
   refine Tr.val (e0g _ x10 aP _  aQ) ?_
   obtain⟨q12,aR,aA⟩:=j0 aA
   have bB:x11.size≤9223372036854775807:=M0 aR
   obtain⟨q13,aS,aA⟩:=j0 aA
   have jq13:=M0 aS
   refine aI jq13 ?_
   refine aI rfl (aI (by repeat first|exact trivial|refine aI rfl ?_) (aI (by repeat first|exact trivial|refine aI rfl ?_) (eX m5 (aI ⟨(u2++x11),(IntKind.i64.wrap (u3+1)),rfl,rfl,aD,(w04 jq13),(I0 _),aA⟩ (nS _)))))
 ·replace aA:=ifN aA aJ
  have hE:=oJ aA;subst hE
  try dsimp only[P0,Q0]at aB
  refine aI (fun aC=>?_) (fun aC=>?_)
  ·replace aB:=ifP aB aC
   have hE:=oJ aB;subst hE
   exact aI rfl aD
  ·replace aB:=ifN aB aC
   have hE:=oJ aB;subst hE
   exact aI rfl aD
theorem E09 (h:Hp) (ap0:Option Addr) (np0 cp0:Nat) (p0:J1) (rp0:T1.R h [.slice ap0 np0 cp0] p0) (r:ByteArray) (aB:V9 p0=some r) :
  Tr Tryz.prog 108 #[.slice ap0 np0 cp0] h fun v h'=>v = .string r∧h'=h:=by
 obtain⟨rfl,lp0⟩:=Sl.len rp0
 unfold V9 at aB
 refine Tr.forget (C2 (args:=[.slice ap0 p0.length cp0]) (fn:=Tryz.f108) rfl ?_)
 obtain⟨X1,aJ,aB⟩:=j0 aB
 refine eX { vars:=[3,4],boxes:=[],owns:=[],fuel:=true } (eX (fun vs os h'=>∃(u2:ByteArray) (u3:Int),vs.tail = [.string u2,.int .i64 u3]∧os = []∧Sub h h'∧u2.size≤9223372036854775807∧H0 u3∧M3 p0 (H1 vs) u2 u3=some X1) (eX (fun _ _=>0) ?_))
 refine aI (eX N0 ⟨(⟨#[]⟩:ByteArray),0,rfl,rfl,(Sub.refl _),(by decide),(by decide),aJ⟩) ?_
 rintro v_0 v_1 m5 k4 ⟨u2,u3,aK,aL,aC,iu2,iu3,aA⟩
 cases aK
 cases aL
 replace aA:M3 p0 m5 u2 u3=some X1:=aA
 obtain _|m5:=m5
 ·cases (show(none:Option _)=some X1 from aA)
 rw[M3.eq_2]at aA
 refine aI (fun aM=>?_) (fun aM=>?_)
 ·replace aA:=ifP aA aM
  refine aI (fun aN=>?_) (fun aN=>?_)
  ·replace aA:=ifP aA aN
   obtain⟨q8,bB,aA⟩:=j0 aA
   have jq8:=M0 bB
   refine aI jq8 ?_
   obtain⟨x9,bC,aA⟩:=j0 aA
   obtain⟨bD,bE,bF,aO⟩:=Sl.getI (r:=J0.toRp) (T1.mono aC rp0) bC (by decide)
   refine aI bD ?_
   obtain⟨bG,bM,bH,rfl⟩:=Wp.slice_cell aO
   obtain⟨rfl,bN⟩:=Sl.len aO
   refine eX _ (aI bF ?_)
   obtain⟨x10,aP,aA⟩:=j0 aA
   refine Tr.val (g05 _ bG x9.length bH x9 aO _  aP) ?_
   obtain⟨q11,aQ,aA⟩:=j0 aA
   have bI:x10.size≤9223372036854775807:=M0 aQ
   refine aI (fun aD=>?_) (fun aD=>?_)
   ·replace aA:=ifP aA aD
    have hE:=oJ aA;subst hE
    try dsimp only[G2,I2]at aB
    have hE:=oJ aB;subst hE
    exact aI rfl aC
   ·replace aA:=ifN aA aD
    obtain⟨q13,aR,aA⟩:=j0 aA
    have jq13:=M0 aR
    refine aI jq13 ?_
    refine aI rfl (aI (by repeat first|exact trivial|refine aI rfl ?_) (aI (by repeat first|exact trivial|refine aI rfl ?_) (eX m5 (aI ⟨((u2++(⟨#[44]⟩:ByteArray))++x10),(IntKind.i64.wrap (u3+1)),rfl,rfl,aC,(w04 jq13),(I0 _),aA⟩ (nS _)))))
  ·replace aA:=ifN aA aN
   obtain⟨x14,aS,aA⟩:=j0 aA
   obtain⟨aT,bA,aU,aF⟩:=Sl.getI (r:=J0.toRp) (T1.mono aC rp0) aS (by decide)
   refine aI aT ?_
   obtain⟨aV,bJ,aW,rfl⟩:=Wp.slice_cell aF
   obtain⟨rfl,bK⟩:=Sl.len aF
   refine eX _ (aI aU ?_)
   obtain⟨x15,aX,aA⟩:=j0 aA
   refine Tr.val (g05 _ aV x14.length aW x14 aF _  aX) ?_
   obtain⟨q16,aY,aA⟩:=j0 aA
   have bL:x15.size≤9223372036854775807:=M0 aY
   refine aI (fun aG=>?_) (fun aG=>?_)
   ·replace aA:=ifP aA aG
    have hE:=oJ aA;subst hE
    try dsimp only[G2,I2]at aB
    have hE:=oJ aB;subst hE
    exact aI rfl aC
   ·replace aA:=ifN aA aG
    obtain⟨q18,aZ,aA⟩:=j0 aA
    have jq18:=M0 aZ
    refine aI jq18 ?_
    refine aI rfl (aI (by repeat first|exact trivial|refine aI rfl ?_) (aI (by repeat first|exact trivial|refine aI rfl ?_) (eX m5 (aI ⟨(u2++x15),(IntKind.i64.wrap (u3+1)),rfl,rfl,aC,(w04 jq18),(I0 _),aA⟩ (nS _)))))
 ·replace aA:=ifN aA aM
  have hE:=oJ aA;subst hE
  try dsimp only[P0,Q0]at aB
  refine aI (fun aH=>?_) (fun aH=>?_)
  ·replace aB:=ifP aB aH
   have hE:=oJ aB;subst hE
   exact aI rfl aC
  ·replace aB:=ifN aB aH
   have hE:=oJ aB;subst hE
   exact aI rfl aC
theorem I04 (h:Hp) (aJ:List Value) (p0:B0) (rp0:E1.R h aJ p0) (r:ByteArray) (aA:I6 p0=some r) :
  Tr Tryz.prog 43 #[.agg aJ.toArray] h fun v h'=>v = .string r∧h'=h:=by
 obtain⟨aF,aB,aL,aC,aH,rfl,rfl,aG,aD⟩:=D1 rp0
 obtain⟨rfl,aM⟩:=Sl.len aD
 unfold I6 at aA
 dsimp only at aA
 refine Tr.forget (C2 (args:=[.agg #[.int .i64 aF,.slice aB aH.length aC]]) (fn:=Tryz.f43) rfl ?_)
 obtain⟨x1,aN,aA⟩:=j0 aA
 refine Tr.val (Y5 _ [.int .i64 aF,.slice aB aH.length aC] (aF,aH) (O0 aG aD) _  aN) ?_
 refine aI (fun aK=>?_) (fun aK=>?_)
 ·replace aA:=ifP aA aK
  have hE:=oJ aA;subst hE
  exact aI rfl (Sub.refl _)
 ·replace aA:=ifN aA aK
  refine Or.inl (aI (aI (by kernel_rfl) (by kernel_rfl)) ?_)
  obtain⟨x3,aO,aA⟩:=j0 aA
  refine eX (.string x3) (aI (R01 _ aF aG _  aO) ?_)
  obtain⟨q4,aP,aA⟩:=j0 aA
  have aU:x3.size≤9223372036854775807:=M0 aP
  obtain⟨q5,aQ,aA⟩:=j0 aA
  have jq5:=M0 aQ
  refine aI jq5 ?_
  obtain⟨x6,aR,aA⟩:=j0 aA
  refine eX (.string x6) (aI (E09 _ aB aH.length aC aH aD _  aR) ?_)
  obtain⟨q7,aS,aA⟩:=j0 aA
  have aV:x6.size≤9223372036854775807:=M0 aS
  obtain⟨q8,aT,aA⟩:=j0 aA
  have jq8:=M0 aT
  refine aI jq8 ?_
  have hE:=oJ aA;subst hE
  exact aI rfl (Sub.refl _)
theorem S01 (h:Hp) (p0:Int) (ip0:H0 p0) (r:ByteArray) (aB:K7 p0=some r) :
  Tr Tryz.prog 51 #[.int .i64 p0] h fun v h'=>v = .string r∧h'=h:=by
 unfold K7 at aB
 refine Tr.forget (C2 (args:=[.int .i64 p0]) (fn:=Tryz.f51) rfl ?_)
 refine aI (fun aP=>?_) (fun aP=>?_)
 ·replace aB:=ifP aB aP
  have hE:=oJ aB;subst hE
  exact aI rfl (Sub.refl _)
 ·replace aB:=ifN aB aP
  obtain⟨X2,aQ,aB⟩:=j0 aB
  refine eX { vars:=[4],boxes:=[],owns:=[0],fuel:=true } (eX (fun vs os h'=>∃(u3:Int) (wu4:List (List Value)) (u4:List Int),vs.tail = [.int .i64 u3]∧os = [wu4]∧Sub h h'∧H0 u3∧F2 (Rp.u8.R h') wu4 u4∧T4 (H1 vs) u3 u4=some X2) (eX (fun _ _=>0) ?_))
  refine aI (eX N0 ⟨p0,[],([]:(List Int)),rfl,rfl,(Sub.refl _),ip0,(show F2 (Rp.u8.R h) ([]:List (List Value)) ([]:(List Int)) from trivial),aQ⟩) ?_
  rintro v_0 wu4 m6 k5 ⟨u3,zzu4,u4,aR,aS,cI,iu3,fu4,aA⟩
  cases aR
  cases aS
  replace aA:T4 m6 u3 u4=some X2:=aA
  obtain _|m6:=m6
  ·cases (show(none:Option _)=some X2 from aA)
  rw[T4.eq_2]at aA
  refine aI (fun aT=>?_) (fun aT=>?_)
  ·replace aA:=ifP aA aT
   obtain⟨q8,cR,aA⟩:=j0 aA
   refine aI (M0 cR) ?_
   refine aI (fun aU=>?_) (fun aU=>?_)
   ·replace aA:=ifP aA aU
    obtain⟨q10,aV,aA⟩:=j0 aA
    refine aI (P1 aV (by first|rw[F2.length fu4,F2.length (show F2 (Rp.u8.R k5) ([[.int .u8 (IntKind.u8.wrap (IntKind.i64.wrap (48+(IntKind.i64.wrap (0-(Int.tmod u3 10))))))]]:List (List Value)) [(IntKind.u8.wrap (IntKind.i64.wrap (48+(IntKind.i64.wrap (0-(Int.tmod u3 10))))))] from⟨rfl,trivial⟩)]|exact congrArg (·+1) (F2.length fu4))) ?_
    obtain⟨q11,aW,aA⟩:=j0 aA
    refine aI (M0 aW) ?_
    refine aI rfl (aI (by repeat first|exact trivial|refine aI rfl ?_) (aI (by repeat first|exact trivial|refine aI rfl ?_) (eX m6 (aI ⟨(IntKind.i64.wrap (Int.tdiv u3 10)),(wu4++([[.int .u8 (IntKind.u8.wrap (IntKind.i64.wrap (48+(IntKind.i64.wrap (0-(Int.tmod u3 10))))))]]:List (List Value))),(u4 ++ [(IntKind.u8.wrap (IntKind.i64.wrap (48+(IntKind.i64.wrap (0-(Int.tmod u3 10))))))]),rfl,rfl,cI,(I0 _),(F2.append fu4 (show F2 (Rp.u8.R k5) ([[.int .u8 (IntKind.u8.wrap (IntKind.i64.wrap (48+(IntKind.i64.wrap (0-(Int.tmod u3 10))))))]]:List (List Value)) [(IntKind.u8.wrap (IntKind.i64.wrap (48+(IntKind.i64.wrap (0-(Int.tmod u3 10))))))] from⟨rfl,trivial⟩)),aA⟩ (nS _)))))
   ·replace aA:=ifN aA aU
    obtain⟨q12,aX,aA⟩:=j0 aA
    refine aI (P1 aX (by first|rw[F2.length fu4,F2.length (show F2 (Rp.u8.R k5) ([[.int .u8 (IntKind.u8.wrap (IntKind.i64.wrap (48+(Int.tmod u3 10))))]]:List (List Value)) [(IntKind.u8.wrap (IntKind.i64.wrap (48+(Int.tmod u3 10))))] from⟨rfl,trivial⟩)]|exact congrArg (·+1) (F2.length fu4))) ?_
    obtain⟨q13,aY,aA⟩:=j0 aA
    refine aI (M0 aY) ?_
    refine aI rfl (aI (by repeat first|exact trivial|refine aI rfl ?_) (aI (by repeat first|exact trivial|refine aI rfl ?_) (eX m6 (aI ⟨(IntKind.i64.wrap (Int.tdiv u3 10)),(wu4++([[.int .u8 (IntKind.u8.wrap (IntKind.i64.wrap (48+(Int.tmod u3 10))))]]:List (List Value))),(u4 ++ [(IntKind.u8.wrap (IntKind.i64.wrap (48+(Int.tmod u3 10))))]),rfl,rfl,cI,(I0 _),(F2.append fu4 (show F2 (Rp.u8.R k5) ([[.int .u8 (IntKind.u8.wrap (IntKind.i64.wrap (48+(Int.tmod u3 10))))]]:List (List Value)) [(IntKind.u8.wrap (IntKind.i64.wrap (48+(Int.tmod u3 10))))] from⟨rfl,trivial⟩)),aA⟩ (nS _)))))
  ·replace aA:=ifN aA aT
   have hE:=oJ aA;subst hE
   try dsimp only[P0,Q0]at aB
   refine aI (fun aC=>?_) (fun aC=>?_)
   ·replace aB:=ifP aB aC
    obtain⟨q15,aZ,aB⟩:=j0 aB
    refine aI (P1 aZ (by first|rw[F2.length fu4,F2.length (show F2 (Rp.u8.R k5) ([[.int .u8 45]]:List (List Value)) [45] from⟨rfl,trivial⟩)]|exact congrArg (·+1) (F2.length fu4))) ?_
    obtain⟨m16,gm16,aB⟩:=j0 aB
    obtain rfl:(wu4++([[.int .u8 45]]:List (List Value))).length=m16:=(F2.length (F2.append fu4 (show F2 (Rp.u8.R k5) ([[.int .u8 45]]:List (List Value)) [45] from⟨rfl,trivial⟩))).trans (oJ gm16)
    obtain⟨q17,cS,aB⟩:=j0 aB
    obtain⟨X18,aG,aB⟩:=j0 aB
    refine eX { vars:=[6,7],boxes:=[],owns:=[0],fuel:=true,kept:=[0] } (eX (fun vs os h'=>∃(u19:Int) (u20:Int) (wu21:List (List Value)) (u21:List Int),vs.tail = [.int .i64 u19,.int .i64 u20]∧os = [wu21]∧Sub k5 h'∧H0 u19∧H0 u20∧F2 (Rp.u8.R h') wu21 u21∧T3 (H1 vs) u19 u20 u21=some X18) (eX (fun _ _=>0) ?_))
    refine aI (eX N0 ⟨0,(IntKind.i64.wrap ((((wu4++([[.int .u8 45]]:List (List Value))).length:Nat):Int)-1)),(wu4++([[.int .u8 45]]:List (List Value))),(u4 ++ [45]),rfl,rfl,(Sub.refl _),(by decide),(I0 _),(F2.append fu4 (show F2 (Rp.u8.R k5) ([[.int .u8 45]]:List (List Value)) [45] from⟨rfl,trivial⟩)),aG⟩) ?_
    rintro v_0 v_1 wu21 m23 k22 ⟨u19,u20,zzu21,u21,aH,aJ,aK,iu19,iu20,fu21,aA⟩
    cases aH
    cases aJ
    replace aA:T3 m23 u19 u20 u21=some X18:=aA
    obtain _|m23:=m23
    ·cases (show(none:Option _)=some X18 from aA)
    rw[T3.eq_2]at aA
    refine aI (fun aD=>?_) (fun aD=>?_)
    ·replace aA:=ifP aA aD
     refine Or.inr (Or.inr (Or.inl (aI (aI (by kernel_rfl) (by kernel_rfl)) ?_)))
     obtain⟨x25,bA,aA⟩:=j0 aA
     obtain⟨bB,cJ,bC,bD⟩:=J4 fu21 bA
     obtain rfl:=bD
     refine Or.inl ?_
     apply eX
     refine aI ?_ ?_
     ·intro k26 s27
      exact aI bB (aI rfl (aI rfl rfl))
     refine Or.inl (eX (.val (.int .u8 x25)) (aI ?_ ?_))
     ·intro k28 s29
      exact eX _ (aI bC (aI rfl (aI rfl rfl)))
     obtain⟨x30,bE,aA⟩:=j0 aA
     obtain⟨bF,cK,bG,bH⟩:=J4 fu21 bE
     obtain rfl:=bH
     refine Or.inl ?_
     apply eX
     refine aI ?_ ?_
     ·intro k31 s32
      exact aI bF (aI rfl (aI rfl rfl))
     refine Or.inl (eX (.val (.int .u8 x30)) (aI ?_ ?_))
     ·intro k33 s34
      exact eX _ (aI bG (aI rfl (aI rfl rfl)))
     refine Or.inr ?_
     refine Or.inr ?_
     refine Or.inr ?_
     refine Or.inr ?_
     refine Or.inl (eX 0 (aI (aI rfl rfl) ?_))
     obtain⟨x35,bI,aA⟩:=j0 aA
     obtain⟨bJ,cL,bK,bL⟩:=J4 fu21 bI
     refine aI bJ ?_
     obtain rfl:=bL
     refine aI trivial (aI (by first|exact trivial|exact rfl) ?_)
     refine eX _ (aI bK ?_)
     refine aI trivial (aI (by first|exact trivial|exact rfl) ?_)
     obtain⟨x36,bM,aA⟩:=j0 aA
     obtain⟨bN,cM,bO,bP⟩:=J4 (F2.set (p:=Rp.u8.R k22) (a:=[.int .u8 x25]) (b:=x25) rfl u19.toNat fu21) bM
     refine aI bN ?_
     obtain rfl:=bP
     refine aI trivial (aI (by first|exact trivial|exact rfl) ?_)
     refine eX _ (aI bO ?_)
     refine aI trivial (aI (by first|exact trivial|exact rfl) ?_)
     refine aI rfl (aI (by repeat first|exact trivial|refine aI rfl ?_) (aI (by repeat first|exact trivial|refine aI rfl ?_) (eX m23 (aI ⟨(IntKind.i64.wrap (u19+1)),(IntKind.i64.wrap (u20-1)),((wu21.set u19.toNat [.int .u8 x25]).set u20.toNat [.int .u8 x30]),((u21.set u19.toNat x25).set u20.toNat x30),rfl,rfl,aK,(I0 _),(I0 _),(F2.set (p:=Rp.u8.R k22) (a:=[.int .u8 x30]) (b:=x30) rfl u20.toNat (F2.set (p:=Rp.u8.R k22) (a:=[.int .u8 x25]) (b:=x25) rfl u19.toNat fu21)),aA⟩ (nS _)))))
    ·replace aA:=ifN aA aD
     have hE:=oJ aA;subst hE
     try dsimp only[P0,Q0]at aB
     refine eX u21 (aI (F2.u8 fu21) ?_)
     obtain⟨q37,cT,aB⟩:=j0 aB
     have hE:=oJ aB;subst hE
     exact aI rfl (cI.trans aK)
   ·replace aB:=ifN aB aC
    obtain⟨m43,gm43,aB⟩:=j0 aB
    obtain rfl:wu4.length=m43:=(F2.length fu4).trans (oJ gm43)
    obtain⟨q44,cU,aB⟩:=j0 aB
    obtain⟨X45,aL,aB⟩:=j0 aB
    refine eX { vars:=[6,7],boxes:=[],owns:=[0],fuel:=true,kept:=[0] } (eX (fun vs os h'=>∃(u46:Int) (u47:Int) (wu48:List (List Value)) (u48:List Int),vs.tail = [.int .i64 u46,.int .i64 u47]∧os = [wu48]∧Sub k5 h'∧H0 u46∧H0 u47∧F2 (Rp.u8.R h') wu48 u48∧T3 (H1 vs) u46 u47 u48=some X45) (eX (fun _ _=>0) ?_))
    refine aI (eX N0 ⟨0,(IntKind.i64.wrap (((wu4.length:Nat):Int)-1)),wu4,u4,rfl,rfl,(Sub.refl _),(by decide),(I0 _),fu4,aL⟩) ?_
    rintro v_0 v_1 wu48 m50 k49 ⟨u46,u47,zzu48,u48,aM,aN,aO,iu46,iu47,fu48,aA⟩
    cases aM
    cases aN
    replace aA:T3 m50 u46 u47 u48=some X45:=aA
    obtain _|m50:=m50
    ·cases (show(none:Option _)=some X45 from aA)
    rw[T3.eq_2]at aA
    refine aI (fun aF=>?_) (fun aF=>?_)
    ·replace aA:=ifP aA aF
     refine Or.inr (Or.inr (Or.inl (aI (aI (by kernel_rfl) (by kernel_rfl)) ?_)))
     obtain⟨x52,bQ,aA⟩:=j0 aA
     obtain⟨bR,cN,bS,bT⟩:=J4 fu48 bQ
     obtain rfl:=bT
     refine Or.inl ?_
     apply eX
     refine aI ?_ ?_
     ·intro k53 s54
      exact aI bR (aI rfl (aI rfl rfl))
     refine Or.inl (eX (.val (.int .u8 x52)) (aI ?_ ?_))
     ·intro k55 s56
      exact eX _ (aI bS (aI rfl (aI rfl rfl)))
     obtain⟨x57,bU,aA⟩:=j0 aA
     obtain⟨bV,cO,bW,bX⟩:=J4 fu48 bU
     obtain rfl:=bX
     refine Or.inl ?_
     apply eX
     refine aI ?_ ?_
     ·intro k58 s59
      exact aI bV (aI rfl (aI rfl rfl))
     refine Or.inl (eX (.val (.int .u8 x57)) (aI ?_ ?_))
     ·intro k60 s61
      exact eX _ (aI bW (aI rfl (aI rfl rfl)))
     refine Or.inr ?_
     refine Or.inr ?_
     refine Or.inr ?_
     refine Or.inr ?_
     refine Or.inl (eX 0 (aI (aI rfl rfl) ?_))
     obtain⟨x62,bY,aA⟩:=j0 aA
     obtain⟨bZ,cP,cA,cC⟩:=J4 fu48 bY
     refine aI bZ ?_
     obtain rfl:=cC
     refine aI trivial (aI (by first|exact trivial|exact rfl) ?_)
     refine eX _ (aI cA ?_)
     refine aI trivial (aI (by first|exact trivial|exact rfl) ?_)
     obtain⟨x63,cD,aA⟩:=j0 aA
     obtain⟨cE,cQ,cG,cH⟩:=J4 (F2.set (p:=Rp.u8.R k49) (a:=[.int .u8 x52]) (b:=x52) rfl u46.toNat fu48) cD
     refine aI cE ?_
     obtain rfl:=cH
     refine aI trivial (aI (by first|exact trivial|exact rfl) ?_)
     refine eX _ (aI cG ?_)
     refine aI trivial (aI (by first|exact trivial|exact rfl) ?_)
     refine aI rfl (aI (by repeat first|exact trivial|refine aI rfl ?_) (aI (by repeat first|exact trivial|refine aI rfl ?_) (eX m50 (aI ⟨(IntKind.i64.wrap (u46+1)),(IntKind.i64.wrap (u47-1)),((wu48.set u46.toNat [.int .u8 x52]).set u47.toNat [.int .u8 x57]),((u48.set u46.toNat x52).set u47.toNat x57),rfl,rfl,aO,(I0 _),(I0 _),(F2.set (p:=Rp.u8.R k49) (a:=[.int .u8 x57]) (b:=x57) rfl u47.toNat (F2.set (p:=Rp.u8.R k49) (a:=[.int .u8 x52]) (b:=x52) rfl u46.toNat fu48)),aA⟩ (nS _)))))
    ·replace aA:=ifN aA aF
     have hE:=oJ aA;subst hE
     try dsimp only[P0,Q0]at aB
     refine eX u48 (aI (F2.u8 fu48) ?_)
     obtain⟨q64,cV,aB⟩:=j0 aB
     have hE:=oJ aB;subst hE
     exact aI rfl (cI.trans aO)
theorem o0b (h:Hp) (p0:Int) (ip0:H0 p0) (r:ByteArray) (aA:n00 p0=some r) :
  Tr Tryz.prog 214 #[.int .i64 p0] h fun v h'=>v = .string r∧h'=h:=by
 unfold n00 at aA
 refine Tr.forget (C2 (args:=[.int .i64 p0]) (fn:=Tryz.f214) rfl ?_)
 obtain⟨x1,aD,aA⟩:=j0 aA
 refine Tr.val (M7 _ p0 ip0 1 (by decide) 3 (by decide) _  aD) ?_
 refine aI (fun aB=>?_) (fun aB=>?_)
 ·replace aA:=ifP aA aB
  obtain⟨q3,aF,aA⟩:=j0 aA
  refine aI (M0 aF) ?_
  have hE:=oJ aA;subst hE
  exact aI rfl (Sub.refl _)
 ·replace aA:=ifN aA aB
  obtain⟨x4,aG,aA⟩:=j0 aA
  refine Tr.val (M7 _ p0 ip0 (-3) (by decide) (-1) (by decide) _  aG) ?_
  refine aI (fun aC=>?_) (fun aC=>?_)
  ·replace aA:=ifP aA aC
   obtain⟨q6,aH,aA⟩:=j0 aA
   refine aI (M0 aH) ?_
   have hE:=oJ aA;subst hE
   exact aI rfl (Sub.refl _)
  ·replace aA:=ifN aA aC
   have hE:=oJ aA;subst hE
   exact aI rfl (Sub.refl _)
theorem p0b (h:Hp) (ap0:Option Addr) (np0 cp0:Nat) (p0:D0) (rp0:J0.R h [.slice ap0 np0 cp0] p0) (r:ByteArray) (aB:o00 p0=some r) :
  Tr Tryz.prog 169 #[.slice ap0 np0 cp0] h fun v h'=>v = .string r∧h'=h:=by
 obtain⟨rfl,lp0⟩:=Sl.len rp0
 unfold o00 at aB
 refine Tr.forget (C2 (args:=[.slice ap0 p0.length cp0]) (fn:=Tryz.f169) rfl ?_)
 refine aI (fun aF=>?_) (fun aF=>?_)
 ·replace aB:=ifP aB aF
  have hE:=oJ aB;subst hE
  exact aI rfl (Sub.refl _)
 ·replace aB:=ifN aB aF
  obtain⟨X2,aG,aB⟩:=j0 aB
  refine eX { vars:=[3,12],boxes:=[],owns:=[],fuel:=true } (eX (fun vs os h'=>∃(u3:ByteArray) (u4:Int),vs.tail = [.string u3,.int .i64 u4]∧os = []∧Sub h h'∧u3.size≤9223372036854775807∧H0 u4∧W5 p0 (H1 vs) u3 u4=some X2) (eX (fun _ _=>0) ?_))
  refine aI (eX N0 ⟨(⟨#[]⟩:ByteArray),0,rfl,rfl,(Sub.refl _),(by decide),(by decide),aG⟩) ?_
  rintro v_0 v_1 m6 k5 ⟨u3,u4,aH,aJ,aD,iu3,iu4,aA⟩
  cases aH
  cases aJ
  replace aA:W5 p0 m6 u3 u4=some X2:=aA
  obtain _|m6:=m6
  ·cases (show(none:Option _)=some X2 from aA)
  rw[W5.eq_2]at aA
  refine aI (fun aK=>?_) (fun aK=>?_)
  ·replace aA:=ifP aA aK
   obtain⟨x8,aN,aA⟩:=j0 aA
   obtain⟨aO,aP,aQ,aR⟩:=Sl.getI (r:=Wp.int.toRp) (J0.mono aD rp0) aN (by decide)
   refine aI aO ?_
   obtain⟨rfl,aS⟩:=aR
   refine eX _ (aI aQ ?_)
   obtain⟨x9,aT,aA⟩:=j0 aA
   refine Tr.val (o0b _ x8 aS _  aT) ?_
   obtain⟨q10,aL,aA⟩:=j0 aA
   have aU:x9.size≤9223372036854775807:=M0 aL
   refine aI (fun aC=>?_) (fun aC=>?_)
   ·replace aA:=ifP aA aC
    have hE:=oJ aA;subst hE
    try dsimp only[G2,I2]at aB
    have hE:=oJ aB;subst hE
    exact aI rfl aD
   ·replace aA:=ifN aA aC
    obtain⟨q12,aM,aA⟩:=j0 aA
    have jq12:=M0 aM
    refine aI jq12 ?_
    refine aI rfl (aI (by repeat first|exact trivial|refine aI rfl ?_) (aI (by repeat first|exact trivial|refine aI rfl ?_) (eX m6 (aI ⟨(u3++x9),(IntKind.i64.wrap (u4+1)),rfl,rfl,aD,(w04 jq12),(I0 _),aA⟩ (nS _)))))
  ·replace aA:=ifN aA aK
   have hE:=oJ aA;subst hE
   try dsimp only[P0,Q0]at aB
   have hE:=oJ aB;subst hE
   exact aI rfl aD
theorem q0b (h:Hp) (ap0:Option Addr) (np0 cp0:Nat) (p0:(List ByteArray)) (rp0:(Wp.slice Wp.str).R h [.slice ap0 np0 cp0] p0) (p1:ByteArray) (ip1:p1.size≤9223372036854775807) (p2:ByteArray) (ip2:p2.size≤9223372036854775807) (r:ByteArray) (aB:Q01 p0 p1 p2=some r) :
  Tr Tryz.prog 114 #[.slice ap0 np0 cp0,.string p1,.string p2] h fun v h'=>v = .string r∧h'=h:=by
 obtain⟨rfl,lp0⟩:=Sl.len rp0
 unfold Q01 at aB
 refine Tr.forget (C2 (args:=[.slice ap0 p0.length cp0,.string p1,.string p2]) (fn:=Tryz.f114) rfl ?_)
 refine aI (fun aC=>?_) (fun aC=>?_)
 ·replace aB:=ifP aB aC
  have hE:=oJ aB;subst hE
  exact aI rfl (Sub.refl _)
 ·replace aB:=ifN aB aC
  obtain⟨x2,aS,aB⟩:=j0 aB
  obtain⟨aT,aU,aV,aW⟩:=Sl.getI (r:=Wp.str.toRp) rp0 aS (by decide)
  refine aI aT ?_
  obtain⟨rfl,aX⟩:=aW
  refine eX _ (aI aV ?_)
  obtain⟨x3,aY,aB⟩:=j0 aB
  obtain⟨qx3,vsx3,aZ,fx3⟩:=Sl.cutI (r:=Wp.str.toRp) rp0 aY
  refine aI qx3 (eX vsx3 (aI aZ ?_))
  intro vx3 hvx3 _
  obtain⟨bB,bC,rfl,aQ⟩:=fx3 vx3 hvx3
  have bD:=(Sl.len aQ).2
  obtain⟨X4,aD,aB⟩:=j0 aB
  refine eX { vars:=[7,20],boxes:=[],owns:=[],fuel:=true } (eX (fun vs os h'=>∃(u5:ByteArray) (u6:Int),vs.tail = [.string u5,.int .i64 u6]∧os = []∧Sub h h'∧u5.size≤9223372036854775807∧H0 u6∧U8 x3 p1 (H1 vs) u5 u6=some X4) (eX (fun _ _=>0) ?_))
  refine aI (eX N0 ⟨x2,0,rfl,rfl,(Sub.refl _),aX,(by decide),aD⟩) ?_
  rintro v_0 v_1 m8 k7 ⟨u5,u6,aF,aG,aH,iu5,iu6,aA⟩
  cases aF
  cases aG
  replace aA:U8 x3 p1 m8 u5 u6=some X4:=aA
  obtain _|m8:=m8
  ·cases (show(none:Option _)=some X4 from aA)
  rw[U8.eq_2]at aA
  refine aI (fun aJ=>?_) (fun aJ=>?_)
  ·replace aA:=ifP aA aJ
   obtain⟨x10,aK,aA⟩:=j0 aA
   obtain⟨aL,aR,aM,aN⟩:=Sl.getI (r:=Wp.str.toRp) ((Wp.slice Wp.str).mono aH aQ) aK (by decide)
   refine aI aL ?_
   obtain⟨rfl,bA⟩:=aN
   refine eX _ (aI aM ?_)
   obtain⟨q11,aO,aA⟩:=j0 aA
   have jq11:=M0 aO
   refine aI jq11 ?_
   obtain⟨q12,aP,aA⟩:=j0 aA
   have jq12:=M0 aP
   refine aI jq12 ?_
   refine aI rfl (aI (by repeat first|exact trivial|refine aI rfl ?_) (aI (by repeat first|exact trivial|refine aI rfl ?_) (eX m8 (aI ⟨((u5++p1)++x10),(IntKind.i64.wrap (u6+1)),rfl,rfl,aH,(w04 jq12),(I0 _),aA⟩ (nS _)))))
  ·replace aA:=ifN aA aJ
   have hE:=oJ aA;subst hE
   try dsimp only[P0,Q0]at aB
   have hE:=oJ aB;subst hE
   exact aI rfl aH
theorem F09 (h:Hp) (ap0:Option Addr) (np0 cp0:Nat) (p0:J1) (rp0:T1.R h [.slice ap0 np0 cp0] p0) (r:ByteArray) (aB:W9 p0=some r) :
  Tr Tryz.prog 115 #[.slice ap0 np0 cp0] h fun v h'=>v = .string r∧h'=h:=by
 obtain⟨rfl,lp0⟩:=Sl.len rp0
 unfold W9 at aB
 refine Tr.forget (C2 (args:=[.slice ap0 p0.length cp0]) (fn:=Tryz.f115) rfl ?_)
 obtain⟨X1,aF,aB⟩:=j0 aB
 refine eX { vars:=[10],boxes:=[],owns:=[0],fuel:=true } (eX (fun vs os h'=>∃(u2:Int) (wu3:List (List Value)) (u3:List ByteArray),vs.tail = [.int .i64 u2]∧os = [wu3]∧Sub h h'∧H0 u2∧F2 (Wp.str.R h') wu3 u3∧K5 p0 (H1 vs) u2 u3=some X1) (eX (fun _ _=>0) ?_))
 refine aI (eX N0 ⟨0,[],([]:(List ByteArray)),rfl,rfl,(Sub.refl _),(by decide),(show F2 (Wp.str.R h) ([]:List (List Value)) ([]:(List ByteArray)) from trivial),aF⟩) ?_
 rintro v_0 wu3 m5 k4 ⟨u2,zzu3,u3,aG,aH,aD,iu2,fu3,aA⟩
 cases aG
 cases aH
 replace aA:K5 p0 m5 u2 u3=some X1:=aA
 obtain _|m5:=m5
 ·cases (show(none:Option _)=some X1 from aA)
 rw[K5.eq_2]at aA
 refine aI (fun aJ=>?_) (fun aJ=>?_)
 ·replace aA:=ifP aA aJ
  obtain⟨x7,aP,aA⟩:=j0 aA
  obtain⟨aQ,aR,aS,aK⟩:=Sl.getI (r:=J0.toRp) (T1.mono aD rp0) aP (by decide)
  refine aI aQ ?_
  obtain⟨aT,aY,aU,rfl⟩:=Wp.slice_cell aK
  obtain⟨rfl,aZ⟩:=Sl.len aK
  refine eX _ (aI aS ?_)
  obtain⟨x8,aV,aA⟩:=j0 aA
  refine Tr.val (p0b _ aT x7.length aU x7 aK _  aV) ?_
  obtain⟨q9,aW,aA⟩:=j0 aA
  have aO:x8.size≤9223372036854775807:=M0 aW
  refine aI (fun aC=>?_) (fun aC=>?_)
  ·replace aA:=ifP aA aC
   have hE:=oJ aA;subst hE
   try dsimp only[G2,I2]at aB
   have hE:=oJ aB;subst hE
   exact aI rfl aD
  ·replace aA:=ifN aA aC
   obtain⟨q11,aL,aA⟩:=j0 aA
   refine aI (P1 aL (by first|rw[F2.length fu3,F2.length (show F2 (Wp.str.R k4) ([[.string x8]]:List (List Value)) [x8] from⟨⟨rfl,aO⟩,trivial⟩)]|exact congrArg (·+1) (F2.length fu3))) ?_
   refine aI rfl (aI (by repeat first|exact trivial|refine aI rfl ?_) (aI (by repeat first|exact trivial|refine aI rfl ?_) (eX m5 (aI ⟨(IntKind.i64.wrap (u2+1)),(wu3++([[.string x8]]:List (List Value))),(u3 ++ [x8]),rfl,rfl,aD,(I0 _),(F2.append fu3 (show F2 (Wp.str.R k4) ([[.string x8]]:List (List Value)) [x8] from⟨⟨rfl,aO⟩,trivial⟩)),aA⟩ (nS _)))))
 ·replace aA:=ifN aA aJ
  have hE:=oJ aA;subst hE
  try dsimp only[P0,Q0]at aB
  refine Or.inr ?_
  intro v12 k13 f14
  obtain⟨az15,cz15,rfl,rz15,sz15,lz15⟩:=j1.out (r:=Wp.str.toRp) f14 fu3
  obtain⟨x16,aM,aB⟩:=j0 aB
  refine Tr.val (q0b _ az15 u3.length cz15 u3 rz15 (⟨#[44]⟩:ByteArray) (by decide) (⟨#[110,111,110,101]⟩:ByteArray) (by decide) _  aM) (aI rfl ?_)
  obtain⟨q17,aN,aB⟩:=j0 aB
  have aX:x16.size≤9223372036854775807:=M0 aN
  have hE:=oJ aB;subst hE
  exact aI rfl aD
theorem Y01 (h:Hp) (aJ:List Value) (p0:B0) (rp0:E1.R h aJ p0) (r:ByteArray) (aA:M5 p0=some r) :
  Tr Tryz.prog 53 #[.agg aJ.toArray] h fun v h'=>v = .string r∧h'=h:=by
 obtain⟨aF,aB,aL,aC,aH,rfl,rfl,aG,aD⟩:=D1 rp0
 obtain⟨rfl,aM⟩:=Sl.len aD
 unfold M5 at aA
 dsimp only at aA
 refine Tr.forget (C2 (args:=[.agg #[.int .i64 aF,.slice aB aH.length aC]]) (fn:=Tryz.f53) rfl ?_)
 obtain⟨x1,aN,aA⟩:=j0 aA
 refine Tr.val (Z5 _ [.int .i64 aF,.slice aB aH.length aC] (aF,aH) (O0 aG aD) _  aN) ?_
 refine aI (fun aK=>?_) (fun aK=>?_)
 ·replace aA:=ifP aA aK
  have hE:=oJ aA;subst hE
  exact aI rfl (Sub.refl _)
 ·replace aA:=ifN aA aK
  refine Or.inl (aI (aI (by kernel_rfl) (by kernel_rfl)) ?_)
  obtain⟨x3,aO,aA⟩:=j0 aA
  refine eX (.string x3) (aI (S01 _ aF aG _  aO) ?_)
  obtain⟨q4,aP,aA⟩:=j0 aA
  have aU:x3.size≤9223372036854775807:=M0 aP
  obtain⟨q5,aQ,aA⟩:=j0 aA
  have jq5:=M0 aQ
  refine aI jq5 ?_
  obtain⟨x6,aR,aA⟩:=j0 aA
  refine eX (.string x6) (aI (F09 _ aB aH.length aC aH aD _  aR) ?_)
  obtain⟨q7,aS,aA⟩:=j0 aA
  have aV:x6.size≤9223372036854775807:=M0 aS
  obtain⟨q8,aT,aA⟩:=j0 aA
  have jq8:=M0 aT
  refine aI jq8 ?_
  have hE:=oJ aA;subst hE
  exact aI rfl (Sub.refl _)
theorem r0b (h:Hp) (ap0:Option Addr) (np0 cp0:Nat) (p0:D0) (rp0:J0.R h [.slice ap0 np0 cp0] p0) (r:D0) (aB:Y8 p0=some r) :
  Tr Tryz.prog 68 #[.slice ap0 np0 cp0] h fun v h'=>∃(a0:Option Addr) (n0 c0:Nat),v = .slice a0 n0 c0∧J0.R h' [.slice a0 n0 c0] r∧Sub h h':=by
 obtain⟨rfl,lp0⟩:=Sl.len rp0
 unfold Y8 at aB
 refine C2 (args:=[.slice ap0 p0.length cp0]) (fn:=Tryz.f68) rfl ?_
 obtain⟨X1,aC,aB⟩:=j0 aB
 refine eX { vars:=[4],boxes:=[],owns:=[0],fuel:=true } (eX (fun vs os h'=>∃(u2:Int) (wu3:List (List Value)) (u3:List Int),vs.tail = [.int .i64 u2]∧os = [wu3]∧Sub h h'∧H0 u2∧F2 (Wp.int.R h') wu3 u3∧G4 p0 (H1 vs) u2 u3=some X1) (eX (fun _ _=>0) ?_))
 refine aI (eX N0 ⟨(IntKind.i64.wrap (((p0.length:Nat):Int)-1)),[],([]:D0),rfl,rfl,(Sub.refl _),(I0 _),(show F2 (Wp.int.R h) ([]:List (List Value)) ([]:D0) from trivial),aC⟩) ?_
 rintro v_0 wu3 m5 k4 ⟨u2,zzu3,u3,aD,aF,aH,iu2,fu3,aA⟩
 cases aD
 cases aF
 replace aA:G4 p0 m5 u2 u3=some X1:=aA
 obtain _|m5:=m5
 ·cases (show(none:Option _)=some X1 from aA)
 rw[G4.eq_2]at aA
 refine aI (fun aG=>?_) (fun aG=>?_)
 ·replace aA:=ifP aA aG
  obtain⟨x7,aJ,aA⟩:=j0 aA
  obtain⟨aK,aL,aM,aN⟩:=Sl.getI (r:=Wp.int.toRp) (J0.mono aH rp0) aJ (by decide)
  refine aI aK ?_
  obtain⟨rfl,aP⟩:=aN
  refine eX _ (aI aM ?_)
  obtain⟨q8,aO,aA⟩:=j0 aA
  refine aI (P1 aO (by first|rw[F2.length fu3,F2.length (show F2 (Wp.int.R k4) ([[.int .i64 (IntKind.i64.wrap (0-x7))]]:List (List Value)) [(IntKind.i64.wrap (0-x7))] from⟨⟨rfl,(I0 _)⟩,trivial⟩)]|exact congrArg (·+1) (F2.length fu3))) ?_
  refine aI rfl (aI (by repeat first|exact trivial|refine aI rfl ?_) (aI (by repeat first|exact trivial|refine aI rfl ?_) (eX m5 (aI ⟨(IntKind.i64.wrap (u2-1)),(wu3++([[.int .i64 (IntKind.i64.wrap (0-x7))]]:List (List Value))),(u3 ++ [(IntKind.i64.wrap (0-x7))]),rfl,rfl,aH,(I0 _),(F2.append fu3 (show F2 (Wp.int.R k4) ([[.int .i64 (IntKind.i64.wrap (0-x7))]]:List (List Value)) [(IntKind.i64.wrap (0-x7))] from⟨⟨rfl,(I0 _)⟩,trivial⟩)),aA⟩ (nS _)))))
 ·replace aA:=ifN aA aG
  have hE:=oJ aA;subst hE
  try dsimp only[P0,Q0]at aB
  intro v9 k10 f11
  obtain⟨az12,cz12,rfl,rz12,sz12,lz12⟩:=j1.out (r:=Wp.int.toRp) f11 fu3
  have hE:=oJ aB;subst hE
  exact⟨az12,u3.length,cz12,rfl,rz12,(aH.trans sz12)⟩
theorem s0b (h:Hp) (ap0:Option Addr) (np0 cp0:Nat) (p0:D0) (rp0:J0.R h [.slice ap0 np0 cp0] p0) (r:D0) (aB:l00 p0=some r) :
  Tr Tryz.prog 82 #[.slice ap0 np0 cp0] h fun v h'=>∃(a0:Option Addr) (n0 c0:Nat),v = .slice a0 n0 c0∧New J0 h h' [.slice a0 n0 c0] r:=by
 obtain⟨rfl,lp0⟩:=Sl.len rp0
 unfold l00 at aB
 refine C2 (args:=[.slice ap0 p0.length cp0]) (fn:=Tryz.f82) rfl ?_
 obtain⟨q1,aJ,aB⟩:=j0 aB
 refine aI (M0 aJ) ?_
 obtain⟨X2,aC,aB⟩:=j0 aB
 refine eX { vars:=[4],boxes:=[],owns:=[0],fuel:=true } (eX (fun vs os h'=>∃(u3:Int) (wu4:List (List Value)) (u4:List Int),vs.tail = [.int .i64 u3]∧os = [wu4]∧Sub h h'∧H0 u3∧F2 (Wp.int.R h') wu4 u4∧L6 p0 (H1 vs) u3 u4=some X2) (eX (fun _ _=>0) ?_))
 refine aI (eX N0 ⟨(IntKind.i64.wrap (((p0.length:Nat):Int)-1)),(List.replicate (0:Int).toNat ([.int .i64 0]:List Value)),(List.replicate (0:Int).toNat (0:Int)),rfl,rfl,(Sub.refl _),(I0 _),(F2.rep (p:=Wp.int.R h) (a:=[.int .i64 0]) (b:=0) ⟨rfl,(by decide)⟩ ((0:Int).toNat)),aC⟩) ?_
 rintro v_0 wu4 m6 k5 ⟨u3,zzu4,u4,aD,aF,aG,iu3,fu4,aA⟩
 cases aD
 cases aF
 replace aA:L6 p0 m6 u3 u4=some X2:=aA
 obtain _|m6:=m6
 ·cases (show(none:Option _)=some X2 from aA)
 rw[L6.eq_2]at aA
 refine aI (fun aH=>?_) (fun aH=>?_)
 ·replace aA:=ifP aA aH
  obtain⟨x8,aK,aA⟩:=j0 aA
  obtain⟨aL,aM,aN,aO⟩:=Sl.getI (r:=Wp.int.toRp) (J0.mono aG rp0) aK (by decide)
  refine aI aL ?_
  obtain⟨rfl,aQ⟩:=aO
  refine eX _ (aI aN ?_)
  obtain⟨q9,aP,aA⟩:=j0 aA
  refine aI (P1 aP (by first|rw[F2.length fu4,F2.length (show F2 (Wp.int.R k5) ([[.int .i64 (IntKind.i64.wrap (0-x8))]]:List (List Value)) [(IntKind.i64.wrap (0-x8))] from⟨⟨rfl,(I0 _)⟩,trivial⟩)]|exact congrArg (·+1) (F2.length fu4))) ?_
  refine aI rfl (aI (by repeat first|exact trivial|refine aI rfl ?_) (aI (by repeat first|exact trivial|refine aI rfl ?_) (eX m6 (aI ⟨(IntKind.i64.wrap (u3-1)),(wu4++([[.int .i64 (IntKind.i64.wrap (0-x8))]]:List (List Value))),(u4 ++ [(IntKind.i64.wrap (0-x8))]),rfl,rfl,aG,(I0 _),(F2.append fu4 (show F2 (Wp.int.R k5) ([[.int .i64 (IntKind.i64.wrap (0-x8))]]:List (List Value)) [(IntKind.i64.wrap (0-x8))] from⟨⟨rfl,(I0 _)⟩,trivial⟩)),aA⟩ (nS _)))))
 ·replace aA:=ifN aA aH
  have hE:=oJ aA;subst hE
  try dsimp only[P0,Q0]at aB
  intro v10 k11 f12
  obtain⟨az13,cz13,rfl,rz13,sz13,lz13⟩:=j1.out (r:=Wp.int.toRp) f12 fu4
  have hE:=oJ aB;subst hE
  exact⟨az13,u4.length,cz13,rfl,(New.from (j1.newPlain (r:=Wp.int) f12 fu4 (I0e _)) aG)⟩
theorem Z06 (h:Hp) (ap0:Option Addr) (np0 cp0:Nat) (p0:D0) (rp0:J0.R h [.slice ap0 np0 cp0] p0) (r:D0) (aA:o8 p0=some r) :
  Tr Tryz.prog 94 #[.slice ap0 np0 cp0] h fun v h'=>∃(g0:Nat) (n0 c0:Nat),v = .slice (some ⟨g0,0,none⟩) n0 c0∧New J0 h h' [.slice (some ⟨g0,0,none⟩) n0 c0] r:=by
 obtain⟨rfl,lp0⟩:=Sl.len rp0
 unfold o8 at aA
 refine C2 (args:=[.slice ap0 p0.length cp0]) (fn:=Tryz.f94) rfl ?_
 obtain⟨vsy1,ey1,fy1⟩:=Sl.rows (r:=Wp.int.toRp) rp0
 refine eX vsy1 (aI ey1 ?_)
 obtain⟨q2,aB,aA⟩:=j0 aA
 refine aI (P1 aB (by first|rw[F2.length (show F2 (Wp.int.R h) ([]:List (List Value)) ([]:D0) from trivial),F2.length fy1]|exact congrArg (·+1) (F2.length (show F2 (Wp.int.R h) ([]:List (List Value)) ([]:D0) from trivial)))) ?_
 intro v3 k4 f5
 obtain⟨gz6,cz6,rfl,rz6,sz6,lz6⟩:=j1.outS (r:=Wp.int.toRp) f5 (F2.append (show F2 (Wp.int.R h) ([]:List (List Value)) ([]:D0) from trivial) fy1)
 have hE:=oJ aA;subst hE
 exact⟨gz6,((([]:D0)++p0)).length,cz6,rfl,(j1.newPlain (r:=Wp.int) f5 (F2.append (show F2 (Wp.int.R h) ([]:List (List Value)) ([]:D0) from trivial) fy1) (I0e _))⟩
theorem h05 (h:Hp) (ap0:Option Addr) (np0 cp0:Nat) (p0:D0) (rp0:J0.R h [.slice ap0 np0 cp0] p0) (ap1:Option Addr) (np1 cp1:Nat) (p1:D0) (rp1:J0.R h [.slice ap1 np1 cp1] p1) (r:Bool) (aB:r01 p0 p1=some r) :
  Tr Tryz.prog 76 #[.slice ap0 np0 cp0,.slice ap1 np1 cp1] h fun v h'=>v = .bool r∧h'=h:=by
 obtain⟨rfl,lp0⟩:=Sl.len rp0
 obtain⟨rfl,lp1⟩:=Sl.len rp1
 unfold r01 at aB
 refine Tr.forget (C2 (args:=[.slice ap0 p0.length cp0,.slice ap1 p1.length cp1]) (fn:=Tryz.f76) rfl ?_)
 refine aI (fun aD=>?_) (fun aD=>?_)
 ·replace aB:=ifP aB aD
  have hE:=oJ aB;subst hE
  exact aI rfl (Sub.refl _)
 ·replace aB:=ifN aB aD
  obtain⟨X2,aF,aB⟩:=j0 aB
  refine eX { vars:=[13],boxes:=[],owns:=[],fuel:=true } (eX (fun vs os h'=>∃(u3:Int),vs.tail = [.int .i64 u3]∧os = []∧Sub h h'∧H0 u3∧N6 p0 p1 (H1 vs) u3=some X2) (eX (fun _ _=>0) ?_))
  refine aI (eX N0 ⟨0,rfl,rfl,(Sub.refl _),(by decide),aF⟩) ?_
  rintro v_0 m5 k4 ⟨u3,aG,aH,aC,iu3,aA⟩
  cases aG
  cases aH
  replace aA:N6 p0 p1 m5 u3=some X2:=aA
  obtain _|m5:=m5
  ·cases (show(none:Option _)=some X2 from aA)
  rw[N6.eq_2]at aA
  refine aI (fun aJ=>?_) (fun aJ=>?_)
  ·replace aA:=ifP aA aJ
   refine Or.inl (aI (aI (by kernel_rfl) (by kernel_rfl)) ?_)
   obtain⟨x7,aL,aA⟩:=j0 aA
   obtain⟨aM,aN,aO,aP⟩:=Sl.getI (r:=Wp.int.toRp) (J0.mono aC rp0) aL (by decide)
   refine aI aM ?_
   obtain⟨rfl,aV⟩:=aP
   refine eX _ (aI aO ?_)
   obtain⟨x8,aQ,aA⟩:=j0 aA
   obtain⟨aR,aS,aT,aU⟩:=Sl.getI (r:=Wp.int.toRp) (J0.mono aC rp1) aQ (by decide)
   refine aI aR ?_
   obtain⟨rfl,aW⟩:=aU
   refine eX _ (aI aT ?_)
   refine aI (fun aK=>?_) (fun aK=>?_)
   ·replace aA:=ifP aA aK
    have hE:=oJ aA;subst hE
    try dsimp only[G2,I2]at aB
    have hE:=oJ aB;subst hE
    exact aI rfl aC
   ·replace aA:=ifN aA aK
    refine aI rfl (aI (by repeat first|exact trivial|refine aI rfl ?_) (aI (by repeat first|exact trivial|refine aI rfl ?_) (eX m5 (aI ⟨(IntKind.i64.wrap (u3+1)),rfl,rfl,aC,(I0 _),aA⟩ (nS _)))))
  ·replace aA:=ifN aA aJ
   have hE:=oJ aA;subst hE
   try dsimp only[P0,Q0]at aB
   have hE:=oJ aB;subst hE
   exact aI rfl aC
theorem N0f (h:Hp) (p0:Int) (ip0:H0 p0) (p1:Int) (ip1:H0 p1) (r:Int) (aA:I01 p0 p1=some r) :
  Tr Tryz.prog 241 #[.int .i64 p0,.int .i64 p1] h fun v h'=>v = .int .i64 r∧h'=h:=by
 unfold I01 at aA
 refine Tr.forget (C2 (args:=[.int .i64 p0,.int .i64 p1]) (fn:=Tryz.f241) rfl ?_)
 refine aI (fun aB=>?_) (fun aB=>?_)
 ·replace aA:=ifP aA aB
  have hE:=oJ aA;subst hE
  exact aI rfl (Sub.refl _)
 ·replace aA:=ifN aA aB
  refine aI (fun aC=>?_) (fun aC=>?_)
  ·replace aA:=ifP aA aC
   have hE:=oJ aA;subst hE
   exact aI rfl (Sub.refl _)
  ·replace aA:=ifN aA aC
   have hE:=oJ aA;subst hE
   exact aI rfl (Sub.refl _)
theorem B08 (h:Hp) (ap0:Option Addr) (np0 cp0:Nat) (p0:D0) (rp0:J0.R h [.slice ap0 np0 cp0] p0) (ap1:Option Addr) (np1 cp1:Nat) (p1:D0) (rp1:J0.R h [.slice ap1 np1 cp1] p1) (r:Int) (aB:d8 p0 p1=some r) :
  Tr Tryz.prog 212 #[.slice ap0 np0 cp0,.slice ap1 np1 cp1] h fun v h'=>v = .int .i64 r∧h'=h:=by
 obtain⟨rfl,lp0⟩:=Sl.len rp0
 obtain⟨rfl,lp1⟩:=Sl.len rp1
 unfold d8 at aB
 refine Tr.forget (C2 (args:=[.slice ap0 p0.length cp0,.slice ap1 p1.length cp1]) (fn:=Tryz.f212) rfl ?_)
 refine aI (fun aF=>?_) (fun aF=>?_)
 ·replace aB:=ifP aB aF
  refine aI (fun aG=>?_) (fun aG=>?_)
  ·replace aB:=ifP aB aG
   have hE:=oJ aB;subst hE
   exact aI rfl (Sub.refl _)
  ·replace aB:=ifN aB aG
   have hE:=oJ aB;subst hE
   exact aI rfl (Sub.refl _)
 ·replace aB:=ifN aB aF
  obtain⟨X3,aH,aB⟩:=j0 aB
  refine eX { vars:=[5],boxes:=[],owns:=[],fuel:=true } (eX (fun vs os h'=>∃(u4:Int),vs.tail = [.int .i64 u4]∧os = []∧Sub h h'∧H0 u4∧V2 p0 p1 (H1 vs) u4=some X3) (eX (fun _ _=>0) ?_))
  refine aI (eX N0 ⟨0,rfl,rfl,(Sub.refl _),(by decide),aH⟩) ?_
  rintro v_0 m6 k5 ⟨u4,aJ,aK,aD,iu4,aA⟩
  cases aJ
  cases aK
  replace aA:V2 p0 p1 m6 u4=some X3:=aA
  obtain _|m6:=m6
  ·cases (show(none:Option _)=some X3 from aA)
  rw[V2.eq_2]at aA
  refine aI (fun aL=>?_) (fun aL=>?_)
  ·replace aA:=ifP aA aL
   refine Or.inl (aI (aI (by kernel_rfl) (by kernel_rfl)) ?_)
   obtain⟨x8,aO,aA⟩:=j0 aA
   obtain⟨aP,aQ,aR,aS⟩:=Sl.getI (r:=Wp.int.toRp) (J0.mono aD rp0) aO (by decide)
   refine aI aP ?_
   obtain⟨rfl,aT⟩:=aS
   refine eX _ (aI aR ?_)
   obtain⟨x9,aU,aA⟩:=j0 aA
   obtain⟨aV,aW,aX,aY⟩:=Sl.getI (r:=Wp.int.toRp) (J0.mono aD rp1) aU (by decide)
   refine aI aV ?_
   obtain⟨rfl,aZ⟩:=aY
   refine eX _ (aI aX ?_)
   obtain⟨x10,aM,aA⟩:=j0 aA
   refine eX (.int .i64 x10) (aI (N0f _ x8 aT x9 aZ _  aM) ?_)
   obtain⟨q11,aN,aA⟩:=j0 aA
   have bA:H0 x10:=M0 aN
   refine aI (fun aC=>?_) (fun aC=>?_)
   ·replace aA:=ifP aA aC
    have hE:=oJ aA;subst hE
    try dsimp only[G2,I2]at aB
    have hE:=oJ aB;subst hE
    exact aI rfl aD
   ·replace aA:=ifN aA aC
    refine aI rfl (aI (by repeat first|exact trivial|refine aI rfl ?_) (aI (by repeat first|exact trivial|refine aI rfl ?_) (eX m6 (aI ⟨(IntKind.i64.wrap (u4+1)),rfl,rfl,aD,(I0 _),aA⟩ (nS _)))))
  ·replace aA:=ifN aA aL
   have hE:=oJ aA;subst hE
   try dsimp only[P0,Q0]at aB
   have hE:=oJ aB;subst hE
   exact aI rfl aD
theorem c07 (h:Hp) (p0:Int) (ip0:H0 p0) (p1:Int) (ip1:H0 p1) (r:Int) (aA:z8 p0 p1=some r) :
  Tr Tryz.prog 218 #[.int .i64 p0,.int .i64 p1] h fun v h'=>v = .int .i64 r∧h'=h:=by
 unfold z8 at aA
 refine Tr.forget (C2 (args:=[.int .i64 p0,.int .i64 p1]) (fn:=Tryz.f218) rfl ?_)
 refine aI (fun aB=>?_) (fun aB=>?_)
 ·replace aA:=ifP aA aB
  have hE:=oJ aA;subst hE
  exact aI rfl (Sub.refl _)
 ·replace aA:=ifN aA aB
  refine aI (fun aC=>?_) (fun aC=>?_)
  ·replace aA:=ifP aA aC
   have hE:=oJ aA;subst hE
   exact aI rfl (Sub.refl _)
  ·replace aA:=ifN aA aC
   refine aI (fun aD=>?_) (fun aD=>?_)
   ·replace aA:=ifP aA aD
    have hE:=oJ aA;subst hE
    exact aI rfl (Sub.refl _)
   ·replace aA:=ifN aA aD
    obtain⟨x4,aG,aA⟩:=j0 aA
    refine Tr.val (H8 _ (if(IntKind.i64.wrap (0-p0))>p0 then(IntKind.i64.wrap (0-p0))else p0) (L7 (I0 _) ip0) (if(IntKind.i64.wrap (0-p1))>p1 then(IntKind.i64.wrap (0-p1))else p1) (L7 (I0 _) ip1) _  aG) ?_
    obtain⟨q5,aH,aA⟩:=j0 aA
    have aL:H0 x4:=M0 aH
    refine aI (fun aF=>?_) (fun aF=>?_)
    ·replace aA:=ifP aA aF
     have hE:=oJ aA;subst hE
     exact aI rfl (Sub.refl _)
    ·replace aA:=ifN aA aF
     obtain⟨x7,aJ,aA⟩:=j0 aA
     refine Tr.val (H8 _ p1 ip1 p0 ip0 _  aJ) ?_
     obtain⟨q8,aK,aA⟩:=j0 aA
     have aM:H0 x7:=M0 aK
     have hE:=oJ aA;subst hE
     exact aI rfl (Sub.refl _)
theorem C08 (h:Hp) (ap0:Option Addr) (np0 cp0:Nat) (p0:D0) (rp0:J0.R h [.slice ap0 np0 cp0] p0) (ap1:Option Addr) (np1 cp1:Nat) (p1:D0) (rp1:J0.R h [.slice ap1 np1 cp1] p1) (r:Int) (aB:u00 p0 p1=some r) :
  Tr Tryz.prog 172 #[.slice ap0 np0 cp0,.slice ap1 np1 cp1] h fun v h'=>v = .int .i64 r∧h'=h:=by
 obtain⟨rfl,lp0⟩:=Sl.len rp0
 obtain⟨rfl,lp1⟩:=Sl.len rp1
 unfold u00 at aB
 refine Tr.forget (C2 (args:=[.slice ap0 p0.length cp0,.slice ap1 p1.length cp1]) (fn:=Tryz.f172) rfl ?_)
 obtain⟨x1,aT,aB⟩:=j0 aB
 refine Tr.val (H8 _ ((p0.length:Nat):Int) (d0m lp0) ((p1.length:Nat):Int) (d0m lp1) _  aT) ?_
 obtain⟨q2,aU,aB⟩:=j0 aB
 have bC:H0 x1:=M0 aU
 refine aI (fun aF=>?_) (fun aF=>?_)
 ·replace aB:=ifP aB aF
  have hE:=oJ aB;subst hE
  exact aI rfl (Sub.refl _)
 ·replace aB:=ifN aB aF
  obtain⟨X4,aG,aB⟩:=j0 aB
  refine eX { vars:=[18],boxes:=[],owns:=[],fuel:=true } (eX (fun vs os h'=>∃(u5:Int),vs.tail = [.int .i64 u5]∧os = []∧Sub h h'∧H0 u5∧A4 p0 p1 (H1 vs) u5=some X4) (eX (fun _ _=>0) ?_))
  refine aI (eX N0 ⟨0,rfl,rfl,(Sub.refl _),(by decide),aG⟩) ?_
  rintro v_0 m7 k6 ⟨u5,aH,aJ,aD,iu5,aA⟩
  cases aH
  cases aJ
  replace aA:A4 p0 p1 m7 u5=some X4:=aA
  obtain _|m7:=m7
  ·cases (show(none:Option _)=some X4 from aA)
  rw[A4.eq_2]at aA
  refine aI (fun aK=>?_) (fun aK=>?_)
  ·replace aA:=ifP aA aK
   refine Or.inl (aI (aI (by kernel_rfl) (by kernel_rfl)) ?_)
   obtain⟨x9,aV,aA⟩:=j0 aA
   obtain⟨aW,aX,aY,aZ⟩:=Sl.getI (r:=Wp.int.toRp) (J0.mono aD rp0) aV (by decide)
   refine aI aW ?_
   obtain⟨rfl,bA⟩:=aZ
   refine eX _ (aI aY ?_)
   obtain⟨x10,aL,aA⟩:=j0 aA
   obtain⟨aM,aS,aN,aO⟩:=Sl.getI (r:=Wp.int.toRp) (J0.mono aD rp1) aL (by decide)
   refine aI aM ?_
   obtain⟨rfl,aP⟩:=aO
   refine eX _ (aI aN ?_)
   obtain⟨x11,aQ,aA⟩:=j0 aA
   refine eX (.int .i64 x11) (aI (c07 _ x9 bA x10 aP _  aQ) ?_)
   obtain⟨q12,aR,aA⟩:=j0 aA
   have bB:H0 x11:=M0 aR
   refine aI (fun aC=>?_) (fun aC=>?_)
   ·replace aA:=ifP aA aC
    have hE:=oJ aA;subst hE
    try dsimp only[G2,I2]at aB
    have hE:=oJ aB;subst hE
    exact aI rfl aD
   ·replace aA:=ifN aA aC
    refine aI rfl (aI (by repeat first|exact trivial|refine aI rfl ?_) (aI (by repeat first|exact trivial|refine aI rfl ?_) (eX m7 (aI ⟨(IntKind.i64.wrap (u5+1)),rfl,rfl,aD,(I0 _),aA⟩ (nS _)))))
  ·replace aA:=ifN aA aK
   have hE:=oJ aA;subst hE
   try dsimp only[P0,Q0]at aB
   have hE:=oJ aB;subst hE
   exact aI rfl aD
theorem i05 (h:Hp) (ap0:Option Addr) (np0 cp0:Nat) (p0:D0) (rp0:J0.R h [.slice ap0 np0 cp0] p0) (p1:Int) (ip1:H0 p1) (r:D0) (aB:Z8 p0 p1=some r) :
  Tr Tryz.prog 167 #[.slice ap0 np0 cp0,.int .i64 p1] h fun v h'=>∃(a0:Option Addr) (n0 c0:Nat),v = .slice a0 n0 c0∧J0.R h' [.slice a0 n0 c0] r∧Sub h h':=by
 obtain⟨rfl,lp0⟩:=Sl.len rp0
 unfold Z8 at aB
 refine C2 (args:=[.slice ap0 p0.length cp0,.int .i64 p1]) (fn:=Tryz.f167) rfl ?_
 obtain⟨X1,aD,aB⟩:=j0 aB
 refine eX { vars:=[6],boxes:=[],owns:=[0],fuel:=true } (eX (fun vs os h'=>∃(u2:Int) (wu3:List (List Value)) (u3:List Int),vs.tail = [.int .i64 u2]∧os = [wu3]∧Sub h h'∧H0 u2∧F2 (Wp.int.R h') wu3 u3∧U5 p0 p1 (H1 vs) u2 u3=some X1) (eX (fun _ _=>0) ?_))
 refine aI (eX N0 ⟨0,[],([]:D0),rfl,rfl,(Sub.refl _),(by decide),(show F2 (Wp.int.R h) ([]:List (List Value)) ([]:D0) from trivial),aD⟩) ?_
 rintro v_0 wu3 m5 k4 ⟨u2,zzu3,u3,aF,aG,aO,iu2,fu3,aA⟩
 cases aF
 cases aG
 replace aA:U5 p0 p1 m5 u2 u3=some X1:=aA
 obtain _|m5:=m5
 ·cases (show(none:Option _)=some X1 from aA)
 rw[U5.eq_2]at aA
 refine aI (fun aH=>?_) (fun aH=>?_)
 ·replace aA:=ifP aA aH
  obtain⟨q7,aQ,aA⟩:=j0 aA
  refine aI (M0 aQ) ?_
  obtain⟨q8,aR,aA⟩:=j0 aA
  refine aI (M0 aR) ?_
  obtain⟨q9,aS,aA⟩:=j0 aA
  refine aI (M0 aS) ?_
  obtain⟨x10,aJ,aA⟩:=j0 aA
  obtain⟨aK,aP,aL,aM⟩:=Sl.getI (r:=Wp.int.toRp) (J0.mono aO rp0) aJ (by decide)
  refine aI aK ?_
  obtain⟨rfl,aC⟩:=aM
  refine eX _ (aI aL ?_)
  obtain⟨q11,aN,aA⟩:=j0 aA
  refine aI (P1 aN (by first|rw[F2.length fu3,F2.length (show F2 (Wp.int.R k4) ([[.int .i64 x10]]:List (List Value)) [x10] from⟨⟨rfl,aC⟩,trivial⟩)]|exact congrArg (·+1) (F2.length fu3))) ?_
  refine aI rfl (aI (by repeat first|exact trivial|refine aI rfl ?_) (aI (by repeat first|exact trivial|refine aI rfl ?_) (eX m5 (aI ⟨(IntKind.i64.wrap (u2+1)),(wu3++([[.int .i64 x10]]:List (List Value))),(u3 ++ [x10]),rfl,rfl,aO,(I0 _),(F2.append fu3 (show F2 (Wp.int.R k4) ([[.int .i64 x10]]:List (List Value)) [x10] from⟨⟨rfl,aC⟩,trivial⟩)),aA⟩ (nS _)))))
 ·replace aA:=ifN aA aH
  have hE:=oJ aA;subst hE
  try dsimp only[P0,Q0]at aB
  intro v12 k13 f14
  obtain⟨az15,cz15,rfl,rz15,sz15,lz15⟩:=j1.out (r:=Wp.int.toRp) f14 fu3
  have hE:=oJ aB;subst hE
  exact⟨az15,u3.length,cz15,rfl,rz15,(aO.trans sz15)⟩
theorem Z08 (h:Hp) (ap0:Option Addr) (np0 cp0:Nat) (p0:J1) (rp0:T1.R h [.slice ap0 np0 cp0] p0) (ap1:Option Addr) (np1 cp1:Nat) (p1:D0) (rp1:J0.R h [.slice ap1 np1 cp1] p1) (r:J1) (aB:j01 p0 p1=some r) :
  Tr Tryz.prog 166 #[.slice ap0 np0 cp0,.slice ap1 np1 cp1] h fun v h'=>∃(a0:Option Addr) (n0 c0:Nat),v = .slice a0 n0 c0∧T1.R h' [.slice a0 n0 c0] r∧Sub h h':=by
 obtain⟨rfl,lp0⟩:=Sl.len rp0
 obtain⟨rfl,lp1⟩:=Sl.len rp1
 unfold j01 at aB
 refine C2 (args:=[.slice ap0 p0.length cp0,.slice ap1 p1.length cp1]) (fn:=Tryz.f166) rfl ?_
 obtain⟨X1,aV,aB⟩:=j0 aB
 refine eX { vars:=[6,7],boxes:=[],owns:=[0],fuel:=true } (eX (fun vs os h'=>∃(u2:Bool) (u3:Int) (wu4:List (List Value)) (u4:List D0),vs.tail = [.bool u2,.int .i64 u3]∧os = [wu4]∧Sub h h'∧H0 u3∧F2 (J0.R h') wu4 u4∧d4 p0 p1 (H1 vs) u2 u3 u4=some X1) (eX (fun _ _=>0) ?_))
 refine aI (eX N0 ⟨false,0,[],([]:J1),rfl,rfl,(Sub.refl _),(by decide),(show F2 (J0.R h) ([]:List (List Value)) ([]:J1) from trivial),aV⟩) ?_
 rintro v_0 v_1 wu4 m6 k5 ⟨u2,u3,zzu4,u4,aW,aX,aC,iu3,fu4,aA⟩
 cases aW
 cases aX
 replace aA:d4 p0 p1 m6 u2 u3 u4=some X1:=aA
 obtain _|m6:=m6
 ·cases (show(none:Option _)=some X1 from aA)
 rw[d4.eq_2]at aA
 refine aI (fun aY=>?_) (fun aY=>?_)
 ·replace aA:=ifP aA aY
  obtain⟨x8,cC,aA⟩:=j0 aA
  obtain⟨cD,cE,cG,aZ⟩:=Sl.getI (r:=J0.toRp) (T1.mono aC rp0) cC (by decide)
  refine aI cD ?_
  obtain⟨cH,cS,cI,rfl⟩:=Wp.slice_cell aZ
  obtain⟨rfl,cT⟩:=Sl.len aZ
  refine eX _ (aI cG ?_)
  obtain⟨x9,cJ,aA⟩:=j0 aA
  refine Tr.val (B08 _ ap1 p1.length cp1 p1 (J0.mono aC rp1) cH x8.length cI x8 aZ _  cJ) ?_
  obtain⟨q10,bA,aA⟩:=j0 aA
  have cU:H0 x9:=M0 bA
  refine aI (fun aJ=>?_) (fun aJ=>?_)
  ·replace aA:=ifP aA aJ
   refine aI (fun aK=>?_) (fun aK=>?_)
   ·replace aA:=ifP aA aK
    obtain⟨vsy13,ey13,fy13⟩:=Sl.rows (r:=Wp.int.toRp) (J0.mono aC rp1)
    refine eX vsy13 (aI ey13 ?_)
    obtain⟨q14,bB,aA⟩:=j0 aA
    refine aI (P1 bB (by first|rw[F2.length (show F2 (Wp.int.R k5) ([]:List (List Value)) ([]:D0) from trivial),F2.length fy13]|exact congrArg (·+1) (F2.length (show F2 (Wp.int.R k5) ([]:List (List Value)) ([]:D0) from trivial)))) ?_
    intro v15 k16 f17
    obtain⟨az18,cz18,rfl,rz18,sz18,lz18⟩:=j1.out (r:=Wp.int.toRp) f17 (F2.append (show F2 (Wp.int.R k5) ([]:List (List Value)) ([]:D0) from trivial) fy13)
    obtain⟨q19,bC,aA⟩:=j0 aA
    refine aI (P1 bC (by first|rw[F2.length (F2.up (r:=J0.toRp) sz18 fu4),F2.length (show F2 (J0.R k16) ([[.slice az18 ((([]:D0)++p1)).length cz18]]:List (List Value)) [(([]:D0)++p1)] from⟨rz18,trivial⟩)]|exact congrArg (·+1) (F2.length (F2.up (r:=J0.toRp) sz18 fu4)))) ?_
    obtain⟨x20,bD,aA⟩:=j0 aA
    obtain⟨bE,bX,bF,aD⟩:=Sl.getI (r:=J0.toRp) (T1.mono (aC.trans sz18) rp0) bD (by decide)
    refine aI bE ?_
    obtain⟨aL,cK,aM,rfl⟩:=Wp.slice_cell aD
    obtain⟨rfl,cL⟩:=Sl.len aD
    refine eX _ (aI bF ?_)
    obtain⟨q21,bG,aA⟩:=j0 aA
    refine aI (P1 bG (by first|rw[F2.length (F2.append (F2.up (r:=J0.toRp) sz18 fu4) (show F2 (J0.R k16) ([[.slice az18 ((([]:D0)++p1)).length cz18]]:List (List Value)) [(([]:D0)++p1)] from⟨rz18,trivial⟩)),F2.length (show F2 (J0.R k16) ([[.slice aL x20.length aM]]:List (List Value)) [x20] from⟨aD,trivial⟩)]|exact congrArg (·+1) (F2.length (F2.append (F2.up (r:=J0.toRp) sz18 fu4) (show F2 (J0.R k16) ([[.slice az18 ((([]:D0)++p1)).length cz18]]:List (List Value)) [(([]:D0)++p1)] from⟨rz18,trivial⟩))))) ?_
    refine aI rfl (aI (by repeat first|exact trivial|refine aI rfl ?_) (aI (by repeat first|exact trivial|refine aI rfl ?_) (eX m6 (aI ⟨true,(IntKind.i64.wrap (u3+1)),((wu4++([[.slice az18 ((([]:D0)++p1)).length cz18]]:List (List Value)))++([[.slice aL x20.length aM]]:List (List Value))),((u4 ++ [(([]:D0)++p1)]) ++ [x20]),rfl,rfl,(aC.trans sz18),(I0 _),(F2.append (F2.append (F2.up (r:=J0.toRp) sz18 fu4) (show F2 (J0.R k16) ([[.slice az18 ((([]:D0)++p1)).length cz18]]:List (List Value)) [(([]:D0)++p1)] from⟨rz18,trivial⟩)) (show F2 (J0.R k16) ([[.slice aL x20.length aM]]:List (List Value)) [x20] from⟨aD,trivial⟩)),aA⟩ (nS _)))))
   ·replace aA:=ifN aA aK
    obtain⟨x22,bH,aA⟩:=j0 aA
    obtain⟨bI,bY,bJ,aF⟩:=Sl.getI (r:=J0.toRp) (T1.mono aC rp0) bH (by decide)
    refine aI bI ?_
    obtain⟨aN,cM,aO,rfl⟩:=Wp.slice_cell aF
    obtain⟨rfl,cN⟩:=Sl.len aF
    refine eX _ (aI bJ ?_)
    obtain⟨q23,bK,aA⟩:=j0 aA
    refine aI (P1 bK (by first|rw[F2.length fu4,F2.length (show F2 (J0.R k5) ([[.slice aN x22.length aO]]:List (List Value)) [x22] from⟨aF,trivial⟩)]|exact congrArg (·+1) (F2.length fu4))) ?_
    refine aI rfl (aI (by repeat first|exact trivial|refine aI rfl ?_) (aI (by repeat first|exact trivial|refine aI rfl ?_) (eX m6 (aI ⟨true,(IntKind.i64.wrap (u3+1)),(wu4++([[.slice aN x22.length aO]]:List (List Value))),(u4 ++ [x22]),rfl,rfl,aC,(I0 _),(F2.append fu4 (show F2 (J0.R k5) ([[.slice aN x22.length aO]]:List (List Value)) [x22] from⟨aF,trivial⟩)),aA⟩ (nS _)))))
  ·replace aA:=ifN aA aJ
   refine aI (fun aP=>?_) (fun aP=>?_)
   ·replace aA:=ifP aA aP
    obtain⟨vsy25,ey25,fy25⟩:=Sl.rows (r:=Wp.int.toRp) (J0.mono aC rp1)
    refine eX vsy25 (aI ey25 ?_)
    obtain⟨q26,bL,aA⟩:=j0 aA
    refine aI (P1 bL (by first|rw[F2.length (show F2 (Wp.int.R k5) ([]:List (List Value)) ([]:D0) from trivial),F2.length fy25]|exact congrArg (·+1) (F2.length (show F2 (Wp.int.R k5) ([]:List (List Value)) ([]:D0) from trivial)))) ?_
    intro v27 k28 f29
    obtain⟨az30,cz30,rfl,rz30,sz30,lz30⟩:=j1.out (r:=Wp.int.toRp) f29 (F2.append (show F2 (Wp.int.R k5) ([]:List (List Value)) ([]:D0) from trivial) fy25)
    obtain⟨q31,bM,aA⟩:=j0 aA
    refine aI (P1 bM (by first|rw[F2.length (F2.up (r:=J0.toRp) sz30 fu4),F2.length (show F2 (J0.R k28) ([[.slice az30 ((([]:D0)++p1)).length cz30]]:List (List Value)) [(([]:D0)++p1)] from⟨rz30,trivial⟩)]|exact congrArg (·+1) (F2.length (F2.up (r:=J0.toRp) sz30 fu4)))) ?_
    obtain⟨x32,bN,aA⟩:=j0 aA
    obtain⟨bO,bZ,bP,aG⟩:=Sl.getI (r:=J0.toRp) (T1.mono (aC.trans sz30) rp0) bN (by decide)
    refine aI bO ?_
    obtain⟨aQ,cO,aR,rfl⟩:=Wp.slice_cell aG
    obtain⟨rfl,cP⟩:=Sl.len aG
    refine eX _ (aI bP ?_)
    obtain⟨q33,bQ,aA⟩:=j0 aA
    refine aI (P1 bQ (by first|rw[F2.length (F2.append (F2.up (r:=J0.toRp) sz30 fu4) (show F2 (J0.R k28) ([[.slice az30 ((([]:D0)++p1)).length cz30]]:List (List Value)) [(([]:D0)++p1)] from⟨rz30,trivial⟩)),F2.length (show F2 (J0.R k28) ([[.slice aQ x32.length aR]]:List (List Value)) [x32] from⟨aG,trivial⟩)]|exact congrArg (·+1) (F2.length (F2.append (F2.up (r:=J0.toRp) sz30 fu4) (show F2 (J0.R k28) ([[.slice az30 ((([]:D0)++p1)).length cz30]]:List (List Value)) [(([]:D0)++p1)] from⟨rz30,trivial⟩))))) ?_
    refine aI rfl (aI (by repeat first|exact trivial|refine aI rfl ?_) (aI (by repeat first|exact trivial|refine aI rfl ?_) (eX m6 (aI ⟨true,(IntKind.i64.wrap (u3+1)),((wu4++([[.slice az30 ((([]:D0)++p1)).length cz30]]:List (List Value)))++([[.slice aQ x32.length aR]]:List (List Value))),((u4 ++ [(([]:D0)++p1)]) ++ [x32]),rfl,rfl,(aC.trans sz30),(I0 _),(F2.append (F2.append (F2.up (r:=J0.toRp) sz30 fu4) (show F2 (J0.R k28) ([[.slice az30 ((([]:D0)++p1)).length cz30]]:List (List Value)) [(([]:D0)++p1)] from⟨rz30,trivial⟩)) (show F2 (J0.R k28) ([[.slice aQ x32.length aR]]:List (List Value)) [x32] from⟨aG,trivial⟩)),aA⟩ (nS _)))))
   ·replace aA:=ifN aA aP
    obtain⟨x34,bR,aA⟩:=j0 aA
    obtain⟨bS,cA,bT,aH⟩:=Sl.getI (r:=J0.toRp) (T1.mono aC rp0) bR (by decide)
    refine aI bS ?_
    obtain⟨aS,cQ,aT,rfl⟩:=Wp.slice_cell aH
    obtain⟨rfl,cR⟩:=Sl.len aH
    refine eX _ (aI bT ?_)
    obtain⟨q35,bU,aA⟩:=j0 aA
    refine aI (P1 bU (by first|rw[F2.length fu4,F2.length (show F2 (J0.R k5) ([[.slice aS x34.length aT]]:List (List Value)) [x34] from⟨aH,trivial⟩)]|exact congrArg (·+1) (F2.length fu4))) ?_
    refine aI rfl (aI (by repeat first|exact trivial|refine aI rfl ?_) (aI (by repeat first|exact trivial|refine aI rfl ?_) (eX m6 (aI ⟨u2,(IntKind.i64.wrap (u3+1)),(wu4++([[.slice aS x34.length aT]]:List (List Value))),(u4 ++ [x34]),rfl,rfl,aC,(I0 _),(F2.append fu4 (show F2 (J0.R k5) ([[.slice aS x34.length aT]]:List (List Value)) [x34] from⟨aH,trivial⟩)),aA⟩ (nS _)))))
 ·replace aA:=ifN aA aY
  have hE:=oJ aA;subst hE
  try dsimp only[P0,Q0]at aB
  refine aI (fun aU=>?_) (fun aU=>?_)
  ·replace aB:=ifP aB aU
   obtain⟨vsy37,ey37,fy37⟩:=Sl.rows (r:=Wp.int.toRp) (J0.mono aC rp1)
   refine eX vsy37 (aI ey37 ?_)
   obtain⟨q38,bV,aB⟩:=j0 aB
   refine aI (P1 bV (by first|rw[F2.length (show F2 (Wp.int.R k5) ([]:List (List Value)) ([]:D0) from trivial),F2.length fy37]|exact congrArg (·+1) (F2.length (show F2 (Wp.int.R k5) ([]:List (List Value)) ([]:D0) from trivial)))) ?_
   intro v39 k40 f41
   obtain⟨az42,cz42,rfl,rz42,sz42,lz42⟩:=j1.out (r:=Wp.int.toRp) f41 (F2.append (show F2 (Wp.int.R k5) ([]:List (List Value)) ([]:D0) from trivial) fy37)
   obtain⟨q43,bW,aB⟩:=j0 aB
   refine aI (P1 bW (by first|rw[F2.length (F2.up (r:=J0.toRp) sz42 fu4),F2.length (show F2 (J0.R k40) ([[.slice az42 ((([]:D0)++p1)).length cz42]]:List (List Value)) [(([]:D0)++p1)] from⟨rz42,trivial⟩)]|exact congrArg (·+1) (F2.length (F2.up (r:=J0.toRp) sz42 fu4)))) ?_
   intro v44 k45 f46
   obtain⟨az47,cz47,rfl,rz47,sz47,lz47⟩:=j1.out (r:=J0.toRp) f46 (F2.append (F2.up (r:=J0.toRp) sz42 fu4) (show F2 (J0.R k40) ([[.slice az42 ((([]:D0)++p1)).length cz42]]:List (List Value)) [(([]:D0)++p1)] from⟨rz42,trivial⟩))
   have hE:=oJ aB;subst hE
   exact⟨az47,((u4 ++ [(([]:D0)++p1)])).length,cz47,rfl,rz47,((aC.trans sz42).trans sz47)⟩
  ·replace aB:=ifN aB aU
   intro v48 k49 f50
   obtain⟨az51,cz51,rfl,rz51,sz51,lz51⟩:=j1.out (r:=J0.toRp) f50 fu4
   have hE:=oJ aB;subst hE
   exact⟨az51,u4.length,cz51,rfl,rz51,(aC.trans sz51)⟩
theorem V02 (h:Hp) (bC:List Value) (p0:B0) (rp0:E1.R h bC p0) (r:J1) (aN:Y6 p0=some r) :
  Tr Tryz.prog 110 #[.agg bC.toArray] h fun v h'=>∃(a0:Option Addr) (n0 c0:Nat),v = .slice a0 n0 c0∧T1.R h' [.slice a0 n0 c0] r∧Sub h h':=by
 obtain⟨aC,aG,cD,aH,aJ,rfl,rfl,aO,aD⟩:=D1 rp0
 obtain⟨rfl,cE⟩:=Sl.len aD
 unfold Y6 at aN
 dsimp only at aN
 refine C2 (args:=[.agg #[.int .i64 aC,.slice aG aJ.length aH]]) (fn:=Tryz.f110) rfl ?_
 obtain⟨X5,bD,aN⟩:=j0 aN
 refine eX { vars:=[3,4],boxes:=[],owns:=[],fuel:=true,pubs:=[3,7] } (eX (fun vs os h'=>∃(au6:Option Addr) (nu6 cu6:Nat) (u6:J1) (u7:Int),vs.tail = [.slice au6 nu6 cu6,.int .i64 u7]∧os = []∧Sub h h'∧T1.R h' [.slice au6 nu6 cu6] u6∧H0 u7∧j3 aJ aC (H1 vs) u6 u7=some X5) (eX (fun _ _=>0) ?_))
 intro v1 k2 f3
 obtain⟨az4,cz4,rfl,rz4,sz4,lz4⟩:=j1.out (r:=J0.toRp) f3 (show F2 (J0.R h) ([]:List (List Value)) ([]:J1) from trivial)
 refine aI (eX N0 ⟨az4,(([]:J1)).length,cz4,([]:J1),0,rfl,rfl,sz4,rz4,(by decide),bD⟩) ?_
 rintro v_0 v_1 m9 k8 ⟨au6,nu6,cu6,u6,u7,bE,bF,bG,ru6,iu7,aB⟩
 cases bE
 cases bF
 replace aB:j3 aJ aC m9 u6 u7=some X5:=aB
 obtain _|m9:=m9
 ·cases (show(none:Option _)=some X5 from aB)
 rw[j3.eq_2]at aB
 obtain⟨rfl,lu6⟩:=Sl.len ru6
 obtain⟨x10,bH,aB⟩:=j0 aB
 refine eX (.bool x10) (aI (fun q=>Y5 _ [.int .i64 aC,.slice aG aJ.length aH] (aC,aJ) (O0 aO (T1.mono bG aD)) _  (Q2 bH q)) ?_)
 refine aI (fun aK=>?_) (fun aK=>?_)
 ·replace aB:=ifP aB aK
  obtain⟨x12,bI,aB⟩:=j0 aB
  obtain⟨bJ,cG,bK,aF⟩:=Sl.getI (r:=J0.toRp) (T1.mono bG aD) bI (by decide)
  refine aI bJ ?_
  obtain⟨aP,cH,aQ,rfl⟩:=Wp.slice_cell aF
  obtain⟨rfl,cI⟩:=Sl.len aF
  refine eX _ (aI bK ?_)
  obtain⟨X13,aR,aB⟩:=j0 aB
  refine eX { vars:=[3,6],boxes:=[],owns:=[],fuel:=true } (eX (fun vs os h'=>∃(au14:Option Addr) (nu14 cu14:Nat) (u14:J1) (u15:Int),vs.tail = [.slice au14 nu14 cu14,.int .i64 u15]∧os = []∧Sub k8 h'∧T1.R h' [.slice au14 nu14 cu14] u14∧H0 u15∧D4 x12 (H1 vs) u14 u15=some X13) (eX (fun _ _=>0) ?_))
  refine aI (eX N0 ⟨au6,u6.length,cu6,u6,0,rfl,rfl,(Sub.refl _),ru6,(by decide),aR⟩) ?_
  rintro v_0 v_1 m17 k16 ⟨au14,nu14,cu14,u14,u15,aS,aT,aU,ru14,iu15,aA⟩
  cases aS
  cases aT
  replace aA:D4 x12 m17 u14 u15=some X13:=aA
  obtain _|m17:=m17
  ·cases (show(none:Option _)=some X13 from aA)
  rw[D4.eq_2]at aA
  obtain⟨rfl,lu14⟩:=Sl.len ru14
  refine aI (fun aL=>?_) (fun aL=>?_)
  ·replace aA:=ifP aA aL
   obtain⟨x19,bL,aA⟩:=j0 aA
   refine Tr.mono (i05 _ aP x12.length aQ x12 (J0.mono aU aF) u15 iu15 _  bL) ?_
   rintro v21 k20 ⟨bM,cJ,bN,rfl,aV,aM⟩
   obtain⟨rfl,cK⟩:=Sl.len aV
   obtain⟨x22,bO,aA⟩:=j0 aA
   refine Tr.mono (Z08 _ au14 u14.length cu14 u14 (T1.mono aM ru14) bM x19.length bN x19 aV _  bO) ?_
   rintro v24 k23 ⟨bP,cL,bQ,rfl,aW,aX⟩
   obtain⟨rfl,cM⟩:=Sl.len aW
   obtain⟨x25,bR,aA⟩:=j0 aA
   refine Tr.mono (i05 _ aP x12.length aQ x12 (J0.mono ((aU.trans aM).trans aX) aF) u15 iu15 _  bR) ?_
   rintro v27 k26 ⟨bS,cN,bT,rfl,aY,bU⟩
   obtain⟨rfl,cO⟩:=Sl.len aY
   obtain⟨x28,bV,aA⟩:=j0 aA
   refine Tr.mono (r0b _ bS x25.length bT x25 aY _  bV) ?_
   rintro v30 k29 ⟨bW,cP,bX,rfl,aZ,bA⟩
   obtain⟨rfl,cQ⟩:=Sl.len aZ
   obtain⟨x31,bY,aA⟩:=j0 aA
   refine Tr.mono (Z08 _ bP x22.length bQ x22 (T1.mono (bU.trans bA) aW) bW x28.length bX x28 aZ _  bY) ?_
   rintro v33 k32 ⟨bZ,cR,cA,rfl,bB,cC⟩
   obtain⟨rfl,cS⟩:=Sl.len bB
   refine aI rfl (aI (by repeat first|exact trivial|refine aI rfl ?_) (aI (by repeat first|exact trivial|refine aI rfl ?_) (eX m17 (aI ⟨bZ,x31.length,cA,x31,(IntKind.i64.wrap (u15+1)),rfl,rfl,(((((aU.trans aM).trans aX).trans bU).trans bA).trans cC),bB,(I0 _),aA⟩ (nS _)))))
  ·replace aA:=ifN aA aL
   have hE:=oJ aA;subst hE
   try dsimp only[P0,Q0]at aB
   refine aI rfl (aI (by repeat first|exact trivial|refine aI rfl ?_) (aI (by repeat first|exact trivial|refine aI rfl ?_) (eX m9 (aI ⟨au14,u14.length,cu14,u14,(IntKind.i64.wrap (u7+1)),rfl,rfl,(bG.trans aU),ru14,(I0 _),aB⟩ (nS _)))))
 ·replace aB:=ifN aB aK
  have hE:=oJ aB;subst hE
  try dsimp only[P0,Q0]at aN
  have hE:=oJ aN;subst hE
  exact⟨au6,u6.length,cu6,rfl,ru6,bG⟩
theorem h06 (h:Hp) (ap0:Option Addr) (np0 cp0:Nat) (p0:D0) (rp0:J0.R h [.slice ap0 np0 cp0] p0) (ap1:Option Addr) (np1 cp1:Nat) (p1:D0) (rp1:J0.R h [.slice ap1 np1 cp1] p1) (r:Int) (aB:D9 p0 p1=some r) :
  Tr Tryz.prog 111 #[.slice ap0 np0 cp0,.slice ap1 np1 cp1] h fun v h'=>v = .int .i64 r∧h'=h:=by
 obtain⟨rfl,lp0⟩:=Sl.len rp0
 obtain⟨rfl,lp1⟩:=Sl.len rp1
 unfold D9 at aB
 refine Tr.forget (C2 (args:=[.slice ap0 p0.length cp0,.slice ap1 p1.length cp1]) (fn:=Tryz.f111) rfl ?_)
 obtain⟨X1,aD,aB⟩:=j0 aB
 refine eX { vars:=[5],boxes:=[],owns:=[],fuel:=true } (eX (fun vs os h'=>∃(u2:Int),vs.tail = [.int .i64 u2]∧os = []∧Sub h h'∧H0 u2∧n7 p0 p1 (H1 vs) u2=some X1) (eX (fun _ _=>0) ?_))
 refine aI (eX N0 ⟨0,rfl,rfl,(Sub.refl _),(by decide),aD⟩) ?_
 rintro v_0 m4 k3 ⟨u2,aF,aG,aC,iu2,aA⟩
 cases aF
 cases aG
 replace aA:n7 p0 p1 m4 u2=some X1:=aA
 obtain _|m4:=m4
 ·cases (show(none:Option _)=some X1 from aA)
 rw[n7.eq_2]at aA
 refine Or.inl (aI (aI (by kernel_rfl) (by kernel_rfl)) ?_)
 obtain⟨x5,aL,aA⟩:=j0 aA
 obtain⟨aM,aJ,aN⟩:=Sl.getG (r:=Wp.int.toRp) (J0.mono aC rp0) aL (by decide) (O03 k3)
 refine aI (fun q=>(aJ q).1) ?_
 obtain⟨rfl,aR⟩:=aN
 refine eX _ (aI (fun q=>(aJ q).2) ?_)
 obtain⟨x6,aO,aA⟩:=j0 aA
 obtain⟨aP,aK,aQ⟩:=Sl.getG (r:=Wp.int.toRp) (J0.mono aC rp1) aO (by decide) (O03 k3)
 refine aI (fun q=>(aK q).1) ?_
 obtain⟨rfl,aS⟩:=aQ
 refine eX _ (aI (fun q=>(aK q).2) ?_)
 refine aI (fun aH=>?_) (fun aH=>?_)
 ·replace aA:=ifP aA aH
  refine aI rfl (aI (by repeat first|exact trivial|refine aI rfl ?_) (aI (by repeat first|exact trivial|refine aI rfl ?_) (eX m4 (aI ⟨(IntKind.i64.wrap (u2+1)),rfl,rfl,aC,(I0 _),aA⟩ (nS _)))))
 ·replace aA:=ifN aA aH
  have hE:=oJ aA;subst hE
  try dsimp only[P0,Q0]at aB
  have hE:=oJ aB;subst hE
  exact aI rfl aC
theorem S03 (h:Hp) (aR:List Value) (p0:B0) (rp0:E1.R h aR p0) (r:Int) (aD:f8 p0=some r) :
  Tr Tryz.prog 46 #[.agg aR.toArray] h fun v h'=>v = .int .i64 r∧h'=h:=by
 obtain⟨aJ,aF,bL,aG,aS,rfl,rfl,aN,aH⟩:=D1 rp0
 obtain⟨rfl,bM⟩:=Sl.len aH
 unfold f8 at aD
 dsimp only at aD
 refine Tr.forget (C2 (args:=[.agg #[.int .i64 aJ,.slice aF aS.length aG]]) (fn:=Tryz.f46) rfl ?_)
 obtain⟨x1,bP,aD⟩:=j0 aD
 refine Tr.mono (V02 _ [.int .i64 aJ,.slice aF aS.length aG] (aJ,aS) (O0 aN aH) _  bP) ?_
 rintro v3 k2 ⟨bV,bW,bX,rfl,aT,bY⟩
 obtain⟨rfl,bZ⟩:=Sl.len aT
 obtain⟨X4,aU,aD⟩:=j0 aD
 refine eX { vars:=[4,5],boxes:=[],owns:=[],fuel:=true } (eX (fun vs os h'=>∃(u5:Int) (u6:Int),vs.tail = [.int .i64 u5,.int .i64 u6]∧os = []∧Sub k2 h'∧H0 u5∧H0 u6∧j5 x1 (H1 vs) u5 u6=some X4) (eX (fun _ _=>0) ?_))
 refine aI (eX N0 ⟨0,0,rfl,rfl,(Sub.refl _),(by decide),(by decide),aU⟩) ?_
 rintro v_0 v_1 m8 k7 ⟨u5,u6,aV,aW,bQ,iu5,iu6,aB⟩
 cases aV
 cases aW
 replace aB:j5 x1 m8 u5 u6=some X4:=aB
 obtain _|m8:=m8
 ·cases (show(none:Option _)=some X4 from aB)
 rw[j5.eq_2]at aB
 refine aI (fun aX=>?_) (fun aX=>?_)
 ·replace aB:=ifP aB aX
  obtain⟨X10,aO,aB⟩:=j0 aB
  refine eX { vars:=[4,6],boxes:=[],owns:=[],fuel:=true } (eX (fun vs os h'=>∃(u11:Int) (u12:Int),vs.tail = [.int .i64 u11,.int .i64 u12]∧os = []∧Sub k7 h'∧H0 u11∧H0 u12∧i5 u6 x1 (H1 vs) u11 u12=some X10) (eX (fun _ _=>0) ?_))
  refine aI (eX N0 ⟨u5,0,rfl,rfl,(Sub.refl _),iu5,(by decide),aO⟩) ?_
  rintro v_0 v_1 m14 k13 ⟨u11,u12,aP,aQ,aC,iu11,iu12,aA⟩
  cases aP
  cases aQ
  replace aA:i5 u6 x1 m14 u11 u12=some X10:=aA
  obtain _|m14:=m14
  ·cases (show(none:Option _)=some X10 from aA)
  rw[i5.eq_2]at aA
  refine aI (fun aK=>?_) (fun aK=>?_)
  ·replace aA:=ifP aA aK
   refine Or.inl (aI (aI (by kernel_rfl) (by kernel_rfl)) ?_)
   obtain⟨x16,aY,aA⟩:=j0 aA
   obtain⟨aZ,bN,bA,aL⟩:=Sl.getI (r:=J0.toRp) (T1.mono (bQ.trans aC) aT) aY (by decide)
   refine aI aZ ?_
   obtain⟨bB,bR,bC,rfl⟩:=Wp.slice_cell aL
   obtain⟨rfl,bS⟩:=Sl.len aL
   refine eX _ (aI bA ?_)
   obtain⟨x17,bD,aA⟩:=j0 aA
   obtain⟨bE,bO,bF,aM⟩:=Sl.getI (r:=J0.toRp) (T1.mono (bQ.trans aC) aT) bD (by decide)
   refine aI bE ?_
   obtain⟨bG,bT,bH,rfl⟩:=Wp.slice_cell aM
   obtain⟨rfl,bU⟩:=Sl.len aM
   refine eX _ (aI bF ?_)
   obtain⟨x18,bI,aA⟩:=j0 aA
   refine eX (.int .i64 x18) (aI (h06 _ bB x16.length bC x16 aL bG x17.length bH x17 aM _  bI) ?_)
   obtain⟨q19,bJ,aA⟩:=j0 aA
   have bK:H0 x18:=M0 bJ
   refine aI rfl (aI (by repeat first|exact trivial|refine aI rfl ?_) (aI (by repeat first|exact trivial|refine aI rfl ?_) (eX m14 (aI ⟨(if x18>u11 then x18 else u11),(IntKind.i64.wrap (u12+1)),rfl,rfl,aC,(L7 bK iu11),(I0 _),aA⟩ (nS _)))))
  ·replace aA:=ifN aA aK
   have hE:=oJ aA;subst hE
   try dsimp only[P0,Q0]at aB
   refine aI rfl (aI (by repeat first|exact trivial|refine aI rfl ?_) (aI (by repeat first|exact trivial|refine aI rfl ?_) (eX m8 (aI ⟨u11,(IntKind.i64.wrap (u6+1)),rfl,rfl,(bQ.trans aC),iu11,(I0 _),aB⟩ (nS _)))))
 ·replace aB:=ifN aB aX
  have hE:=oJ aB;subst hE
  try dsimp only[P0,Q0]at aD
  have hE:=oJ aD;subst hE
  exact aI rfl (bY.trans bQ)
theorem Y07 (h:Hp) (aV:List Value) (p0:B0) (rp0:E1.R h aV p0) (r:Bool) (aC:C00 p0=some r) :
  Tr Tryz.prog 48 #[.agg aV.toArray] h fun v h'=>v = .bool r∧h'=h:=by
 obtain⟨aD,aF,bO,aG,aP,rfl,rfl,aJ,aH⟩:=D1 rp0
 obtain⟨rfl,bP⟩:=Sl.len aH
 unfold C00 at aC
 dsimp only at aC
 refine Tr.forget (C2 (args:=[.agg #[.int .i64 aD,.slice aF aP.length aG]]) (fn:=Tryz.f48) rfl ?_)
 obtain⟨x1,bT,aC⟩:=j0 aC
 refine Tr.mono (V02 _ [.int .i64 aD,.slice aF aP.length aG] (aD,aP) (O0 aJ aH) _  bT) ?_
 rintro v3 k2 ⟨cE,cG,cH,rfl,aU,cI⟩
 obtain⟨rfl,cJ⟩:=Sl.len aU
 obtain⟨X4,aW,aC⟩:=j0 aC
 refine eX { vars:=[4],boxes:=[],owns:=[],fuel:=true } (eX (fun vs os h'=>∃(u5:Int),vs.tail = [.int .i64 u5]∧os = []∧Sub k2 h'∧H0 u5∧G7 x1 (H1 vs) u5=some X4) (eX (fun _ _=>0) ?_))
 refine aI (eX N0 ⟨0,rfl,rfl,(Sub.refl _),(by decide),aW⟩) ?_
 rintro v_0 m7 k6 ⟨u5,aX,aY,aZ,iu5,aB⟩
 cases aX
 cases aY
 replace aB:G7 x1 m7 u5=some X4:=aB
 obtain _|m7:=m7
 ·cases (show(none:Option _)=some X4 from aB)
 rw[G7.eq_2]at aB
 refine aI (fun bA=>?_) (fun bA=>?_)
 ·replace aB:=ifP aB bA
  obtain⟨X9,bB,aB⟩:=j0 aB
  refine eX { vars:=[5],boxes:=[],owns:=[],fuel:=true } (eX (fun vs os h'=>∃(u10:Int),vs.tail = [.int .i64 u10]∧os = []∧Sub k6 h'∧H0 u10∧F7 x1 u5 (H1 vs) u10=some X9) (eX (fun _ _=>0) ?_))
  refine aI (eX N0 ⟨0,rfl,rfl,(Sub.refl _),(by decide),bB⟩) ?_
  rintro v_0 m12 k11 ⟨u10,bC,bD,aO,iu10,aA⟩
  cases bC
  cases bD
  replace aA:F7 x1 u5 m12 u10=some X9:=aA
  obtain _|m12:=m12
  ·cases (show(none:Option _)=some X9 from aA)
  rw[F7.eq_2]at aA
  refine aI (fun aK=>?_) (fun aK=>?_)
  ·replace aA:=ifP aA aK
   refine Or.inl (aI (aI (by kernel_rfl) (by kernel_rfl)) ?_)
   obtain⟨x14,bE,aA⟩:=j0 aA
   obtain⟨bQ,aQ,aL⟩:=Sl.getG (r:=J0.toRp) (T1.mono (aZ.trans aO) aU) bE (by decide) (e0r Wp.int k11)
   refine aI (fun q=>(aQ q).1) ?_
   obtain⟨bF,bU,bG,rfl⟩:=Wp.slice_cell aL
   obtain⟨rfl,bV⟩:=Sl.len aL
   refine eX _ (aI (fun q=>(aQ q).2) ?_)
   obtain⟨x15,bH,aA⟩:=j0 aA
   obtain⟨bR,aR,aM⟩:=Sl.getG (r:=J0.toRp) (T1.mono (aZ.trans aO) aU) bH (by decide) (e0r Wp.int k11)
   refine aI (fun q=>(aR q).1) ?_
   obtain⟨bI,bW,bJ,rfl⟩:=Wp.slice_cell aM
   obtain⟨rfl,bX⟩:=Sl.len aM
   refine eX _ (aI (fun q=>(aR q).2) ?_)
   obtain⟨x16,bK,aA⟩:=j0 aA
   refine eX (.int .i64 x16) (aI (fun q=>h06 _ bF x14.length bG x14 aL bI x15.length bJ x15 aM _  (Q2 bK q)) ?_)
   obtain⟨q17,bL,aA⟩:=j0 aA
   have bY:H0 x16:=M0 bL
   obtain⟨x18,bM,aA⟩:=j0 aA
   obtain⟨bS,aS,aT⟩:=Sl.getG (r:=J0.toRp) (T1.mono (aZ.trans aO) aU) bM (by decide) (e0r Wp.int k11)
   refine aI (fun q=>(aS q).1) ?_
   obtain⟨bZ,cA,cC,rfl⟩:=Wp.slice_cell aT
   obtain⟨rfl,cD⟩:=Sl.len aT
   refine eX _ (aI (fun q=>(aS q).2) ?_)
   refine aI (fun aN=>?_) (fun aN=>?_)
   ·replace aA:=ifP aA aN
    have hE:=oJ aA;subst hE
    try dsimp only[G2,I2]at aB
    have hE:=oJ aB;subst hE
    try dsimp only[G2,I2]at aC
    have hE:=oJ aC;subst hE
    exact aI rfl ((cI.trans aZ).trans aO)
   ·replace aA:=ifN aA aN
    refine aI rfl (aI (by repeat first|exact trivial|refine aI rfl ?_) (aI (by repeat first|exact trivial|refine aI rfl ?_) (eX m12 (aI ⟨(IntKind.i64.wrap (u10+1)),rfl,rfl,aO,(I0 _),aA⟩ (nS _)))))
  ·replace aA:=ifN aA aK
   have hE:=oJ aA;subst hE
   try dsimp only[P0,Q0]at aB
   refine aI rfl (aI (by repeat first|exact trivial|refine aI rfl ?_) (aI (by repeat first|exact trivial|refine aI rfl ?_) (eX m7 (aI ⟨(IntKind.i64.wrap (u5+1)),rfl,rfl,(aZ.trans aO),(I0 _),aB⟩ (nS _)))))
 ·replace aB:=ifN aB bA
  have hE:=oJ aB;subst hE
  try dsimp only[P0,Q0]at aC
  obtain⟨x23,bN,aC⟩:=j0 aC
  refine Tr.val (Y5 _ [.int .i64 aD,.slice aF aP.length aG] (aD,aP) (O0 aJ (T1.mono (cI.trans aZ) aH)) _  bN) ?_
  have hE:=oJ aC;subst hE
  exact aI rfl (cI.trans aZ)
theorem t0b (h:Hp) (ap0:Option Addr) (np0 cp0:Nat) (p0:D0) (rp0:J0.R h [.slice ap0 np0 cp0] p0) (p1:Int) (ip1:H0 p1) (r:D0) (aA:m00 p0 p1=some r) :
  Tr Tryz.prog 170 #[.slice ap0 np0 cp0,.int .i64 p1] h fun v h'=>∃(a0:Option Addr) (n0 c0:Nat),v = .slice a0 n0 c0∧New J0 h h' [.slice a0 n0 c0] r:=by
 obtain⟨rfl,lp0⟩:=Sl.len rp0
 unfold m00 at aA
 refine C2 (args:=[.slice ap0 p0.length cp0,.int .i64 p1]) (fn:=Tryz.f170) rfl ?_
 refine aI (fun aD=>?_) (fun aD=>?_)
 ·replace aA:=ifP aA aD
  intro v2 k3 f4
  obtain⟨az5,cz5,rfl,rz5,sz5,lz5⟩:=j1.out (r:=Wp.int.toRp) f4 (show F2 (Wp.int.R h) ([]:List (List Value)) ([]:D0) from trivial)
  have hE:=oJ aA;subst hE
  exact⟨az5,(([]:D0)).length,cz5,rfl,(j1.newPlain (r:=Wp.int) f4 (show F2 (Wp.int.R h) ([]:List (List Value)) ([]:D0) from trivial) (I0e _))⟩
 ·replace aA:=ifN aA aD
  obtain⟨q6,aM,aA⟩:=j0 aA
  refine aI (M0 aM) ?_
  obtain⟨q7,aN,aA⟩:=j0 aA
  refine aI (M0 aN) ?_
  refine Or.inr (Or.inr (Or.inl (aI (aI (by kernel_rfl) (by kernel_rfl)) ?_)))
  obtain⟨x8,aO,aA⟩:=j0 aA
  obtain⟨aH,aJ,qx8,aK,aP,aQ⟩:=Sl.cutX (r:=Wp.int.toRp) rp0 aO
  have aZ:=(Sl.len aK).2
  refine Or.inl (eX (.val (.slice aH x8.length aJ)) (aI ?_ ?_))
  ·intro hh sb
   obtain⟨vs,e⟩:=aQ hh sb
   exact aI aP (eX vs (aI e (fun v _ hv=>aI (congrArg AV.val (qx8 v hv)) (aI rfl rfl))))
  refine Or.inr ?_
  obtain⟨x9,aR,aA⟩:=j0 aA
  obtain⟨aS,aT,qx9,aL,aU,aV⟩:=Sl.cutX (r:=Wp.int.toRp) rp0 aR
  have bA:=(Sl.len aL).2
  refine Or.inl (eX (.val (.slice aS x9.length aT)) (aI ?_ ?_))
  ·intro hh sb
   obtain⟨vs,e⟩:=aV hh sb
   exact aI aU (eX vs (aI e (fun v _ hv=>aI (congrArg AV.val (qx9 v hv)) (aI rfl rfl))))
  refine Or.inr ?_
  refine Or.inr ?_
  refine Or.inl (eX 1 (aI (aI rfl rfl) ?_))
  obtain⟨x10,aB,aA⟩:=j0 aA
  refine Tr.mono (Z06 _ aH x8.length aJ x8 aK _  aB) ?_
  rintro v12 k11 ⟨aB,aW,aX,rfl,wx10⟩
  have aC:Sub h k11:=wx10.sub
  have aF:=wx10.r
  obtain⟨rfl,aY⟩:=Sl.len aF
  refine aI (aI rfl aC) (aI (by first|exact trivial|exact rfl) ?_)
  obtain⟨vsy13,ey13,fy13⟩:=Sl.rows (r:=Wp.int.toRp) (J0.mono aC aL)
  refine eX vsy13 (aI ey13 ?_)
  obtain⟨q14,aG,aA⟩:=j0 aA
  obtain⟨vsz15,rxz15,lnz15,apz15⟩:=New.app wx10 (Sub.refl _)
  refine eX vsz15 (aI rxz15 (aI (P1 aG (by first|rw[lnz15,F2.length fy13]|(rw[lnz15];rfl))) ?_))
  intro vz15 kz15 happz15
  obtain⟨wz15,gz15,oz15,nz15,cz15,rfl⟩:=apz15 _ _ _ _ _ (F3.ofPlain (I0e _) fy13) d6.ofPlain happz15
  have rz15:=wz15.r
  obtain⟨ez15,lz15⟩:=Sl.len rz15
  subst ez15
  refine aI trivial (aI (by first|exact trivial|exact rfl) ?_)
  refine aI trivial (aI (by first|exact trivial|exact rfl) ?_)
  have hE:=oJ aA;subst hE
  exact⟨(some ⟨gz15,oz15,none⟩),(x10++x9).length,cz15,rfl,wz15⟩
theorem a09 (h:Hp) (ap0:Option Addr) (np0 cp0:Nat) (p0:D0) (rp0:J0.R h [.slice ap0 np0 cp0] p0) (ap1:Option Addr) (np1 cp1:Nat) (p1:D0) (rp1:J0.R h [.slice ap1 np1 cp1] p1) (r:Int) (aB:t00 p0 p1=some r) :
  Tr Tryz.prog 117 #[.slice ap0 np0 cp0,.slice ap1 np1 cp1] h fun v h'=>v = .int .i64 r∧h'=h:=by
 obtain⟨rfl,lp0⟩:=Sl.len rp0
 obtain⟨rfl,lp1⟩:=Sl.len rp1
 unfold t00 at aB
 refine Tr.forget (C2 (args:=[.slice ap0 p0.length cp0,.slice ap1 p1.length cp1]) (fn:=Tryz.f117) rfl ?_)
 obtain⟨X1,aD,aB⟩:=j0 aB
 refine eX { vars:=[5],boxes:=[],owns:=[],fuel:=true } (eX (fun vs os h'=>∃(u2:Int),vs.tail = [.int .i64 u2]∧os = []∧Sub h h'∧H0 u2∧B6 p0 p1 (H1 vs) u2=some X1) (eX (fun _ _=>0) ?_))
 refine aI (eX N0 ⟨0,rfl,rfl,(Sub.refl _),(by decide),aD⟩) ?_
 rintro v_0 m4 k3 ⟨u2,aF,aG,aC,iu2,aA⟩
 cases aF
 cases aG
 replace aA:B6 p0 p1 m4 u2=some X1:=aA
 obtain _|m4:=m4
 ·cases (show(none:Option _)=some X1 from aA)
 rw[B6.eq_2]at aA
 refine Or.inl (aI (aI (by kernel_rfl) (by kernel_rfl)) ?_)
 obtain⟨x5,aL,aA⟩:=j0 aA
 obtain⟨aM,aJ,aN⟩:=Sl.getG (r:=Wp.int.toRp) (J0.mono aC rp0) aL (by decide) (O03 k3)
 refine aI (fun q=>(aJ q).1) ?_
 obtain⟨rfl,aR⟩:=aN
 refine eX _ (aI (fun q=>(aJ q).2) ?_)
 obtain⟨x6,aO,aA⟩:=j0 aA
 obtain⟨aP,aK,aQ⟩:=Sl.getG (r:=Wp.int.toRp) (J0.mono aC rp1) aO (by decide) (O03 k3)
 refine aI (fun q=>(aK q).1) ?_
 obtain⟨rfl,aS⟩:=aQ
 refine eX _ (aI (fun q=>(aK q).2) ?_)
 refine aI (fun aH=>?_) (fun aH=>?_)
 ·replace aA:=ifP aA aH
  refine aI rfl (aI (by repeat first|exact trivial|refine aI rfl ?_) (aI (by repeat first|exact trivial|refine aI rfl ?_) (eX m4 (aI ⟨(IntKind.i64.wrap (u2+1)),rfl,rfl,aC,(I0 _),aA⟩ (nS _)))))
 ·replace aA:=ifN aA aH
  have hE:=oJ aA;subst hE
  try dsimp only[P0,Q0]at aB
  have hE:=oJ aB;subst hE
  exact aI rfl aC
theorem b09 (h:Hp) (p0:Bool) (p1:ByteArray) (ip1:p1.size≤9223372036854775807) (r:ByteArray) (aA:k01 p0 p1=some r) :
  Tr Tryz.prog 47 #[.bool p0,.string p1] h fun v h'=>v = .string r∧h'=h:=by
 unfold k01 at aA
 refine Tr.forget (C2 (args:=[.bool p0,.string p1]) (fn:=Tryz.f47) rfl ?_)
 refine aI (fun aB=>?_) (fun aB=>?_)
 ·replace aA:=ifP aA aB
  have hE:=oJ aA;subst hE
  exact aI rfl (Sub.refl _)
 ·replace aA:=ifN aA aB
  have hE:=oJ aA;subst hE
  exact aI rfl (Sub.refl _)
theorem c09 (h:Hp) (aP:List Value) (p0:l0) (rp0:K1.R h aP p0) (aQ:List Value) (p1:K0) (rp1:C1.R h aQ p1) (r:Bool) (aA:g01 p0 p1=some r) :
  Tr Tryz.prog 228 #[.agg aP.toArray,.agg aQ.toArray] h fun v h'=>v = .bool r∧h'=h:=by
 obtain⟨aC,aB,aD,aR,aF,aU,rfl,rfl,aG,aS,aH⟩:=F0 rp0
 obtain⟨rfl,aT⟩:=Sl.len aH
 obtain⟨aJ,aK,aL,rfl,rfl,aM,aN,aO⟩:=M1 rp1
 unfold g01 at aA
 dsimp only at aA
 refine Tr.forget (C2 (args:=[.agg #[.int .i64 aC,.int .i64 aB,.slice aD aU.length aF],.agg #[.int .i64 aJ,.int .i64 aK,.int .i64 aL]]) (fn:=Tryz.f228) rfl ?_)
 obtain⟨x1,aV,aA⟩:=j0 aA
 refine Tr.val (w6 _ aJ aM 0 (by decide) (IntKind.i64.wrap (aB-1)) (I0 _) _  aV) ?_
 obtain⟨x2,aW,aA⟩:=j0 aA
 refine eX (.bool x2) (aI (fun q=>w6 _ aL aO 0 (by decide) (IntKind.i64.wrap (aB-1)) (I0 _) _  (Q2 aW q)) ?_)
 obtain⟨x3,aX,aA⟩:=j0 aA
 refine eX (.bool x3) (aI (fun q=>w6 _ aK aN 1 (by decide) aC aG _  (Q2 aX q)) ?_)
 have hE:=oJ aA;subst hE
 exact aI rfl (Sub.refl _)
theorem T03 (h:Hp) (aS:List Value) (p0:K0) (rp0:C1.R h aS p0) (aT:List Value) (p1:K0) (rp1:C1.R h aT p1) (r:Int) (aJ:Z7 p0 p1=some r) :
  Tr Tryz.prog 229 #[.agg aS.toArray,.agg aT.toArray] h fun v h'=>v = .int .i64 r∧h'=h:=by
 obtain⟨aB,aC,aD,rfl,rfl,aK,aL,aM⟩:=M1 rp0
 obtain⟨aF,aG,aH,rfl,rfl,aN,aO,aP⟩:=M1 rp1
 unfold Z7 at aJ
 dsimp only at aJ
 refine Tr.forget (C2 (args:=[.agg #[.int .i64 aB,.int .i64 aC,.int .i64 aD],.agg #[.int .i64 aF,.int .i64 aG,.int .i64 aH]]) (fn:=Tryz.f229) rfl ?_)
 obtain⟨X1,aU,aJ⟩:=j0 aJ
 refine eX { vars:=[7],boxes:=[],owns:=[],fuel:=true } (eX (fun vs os h'=>∃(u2:Int),vs.tail = [.int .i64 u2]∧os = []∧Sub h h'∧H0 u2∧W6 aB aC aD aF aG aH (H1 vs) u2=some X1) (eX (fun _ _=>0) ?_))
 refine aI (eX N0 ⟨0,rfl,rfl,(Sub.refl _),(by decide),aU⟩) ?_
 rintro v_0 m4 k3 ⟨u2,aV,aW,aQ,iu2,aA⟩
 cases aV
 cases aW
 replace aA:W6 aB aC aD aF aG aH m4 u2=some X1:=aA
 obtain _|m4:=m4
 ·cases (show(none:Option _)=some X1 from aA)
 rw[W6.eq_2]at aA
 refine aI (fun aX=>?_) (fun aX=>?_)
 ·replace aA:=ifP aA aX
  refine Or.inl (aI (aI (by kernel_rfl) (by kernel_rfl)) ?_)
  obtain⟨x6,bE,aA⟩:=j0 aA
  obtain⟨bF,bG,bH,bI⟩:=J4 (F2.up (r:=Wp.int.toRp) aQ (show F2 (Wp.int.R h) ([[.int .i64 aB],[.int .i64 aC],[.int .i64 aD]]:List (List Value)) [aB,aC,aD] from⟨⟨rfl,aK⟩,⟨⟨rfl,aL⟩,⟨⟨rfl,aM⟩,trivial⟩⟩⟩)) bE
  refine aI bF ?_
  obtain⟨rfl,bU⟩:=bI
  refine eX _ (aI bH ?_)
  obtain⟨x7,bJ,aA⟩:=j0 aA
  obtain⟨bK,bL,bM,bN⟩:=J4 (F2.up (r:=Wp.int.toRp) aQ (show F2 (Wp.int.R h) ([[.int .i64 aF],[.int .i64 aG],[.int .i64 aH]]:List (List Value)) [aF,aG,aH] from⟨⟨rfl,aN⟩,⟨⟨rfl,aO⟩,⟨⟨rfl,aP⟩,trivial⟩⟩⟩)) bJ
  refine aI bK ?_
  obtain⟨rfl,bV⟩:=bN
  refine eX _ (aI bM ?_)
  refine aI (fun aY=>?_) (fun aY=>?_)
  ·replace aA:=ifP aA aY
   have hE:=oJ aA;subst hE
   try dsimp only[G2,I2]at aJ
   have hE:=oJ aJ;subst hE
   exact aI rfl aQ
  ·replace aA:=ifN aA aY
   refine Or.inl (aI (aI (by kernel_rfl) (by kernel_rfl)) ?_)
   obtain⟨x9,bO,aA⟩:=j0 aA
   obtain⟨bP,bQ,bR,bS⟩:=J4 (F2.up (r:=Wp.int.toRp) aQ (show F2 (Wp.int.R h) ([[.int .i64 aB],[.int .i64 aC],[.int .i64 aD]]:List (List Value)) [aB,aC,aD] from⟨⟨rfl,aK⟩,⟨⟨rfl,aL⟩,⟨⟨rfl,aM⟩,trivial⟩⟩⟩)) bO
   refine aI bP ?_
   obtain⟨rfl,bW⟩:=bS
   refine eX _ (aI bR ?_)
   obtain⟨x10,aZ,aA⟩:=j0 aA
   obtain⟨bA,bD,bB,bC⟩:=J4 (F2.up (r:=Wp.int.toRp) aQ (show F2 (Wp.int.R h) ([[.int .i64 aF],[.int .i64 aG],[.int .i64 aH]]:List (List Value)) [aF,aG,aH] from⟨⟨rfl,aN⟩,⟨⟨rfl,aO⟩,⟨⟨rfl,aP⟩,trivial⟩⟩⟩)) aZ
   refine aI bA ?_
   obtain⟨rfl,bT⟩:=bC
   refine eX _ (aI bB ?_)
   refine aI (fun aR=>?_) (fun aR=>?_)
   ·replace aA:=ifP aA aR
    have hE:=oJ aA;subst hE
    try dsimp only[G2,I2]at aJ
    have hE:=oJ aJ;subst hE
    exact aI rfl aQ
   ·replace aA:=ifN aA aR
    refine aI rfl (aI (by repeat first|exact trivial|refine aI rfl ?_) (aI (by repeat first|exact trivial|refine aI rfl ?_) (eX m4 (aI ⟨(IntKind.i64.wrap (u2+1)),rfl,rfl,aQ,(I0 _),aA⟩ (nS _)))))
 ·replace aA:=ifN aA aX
  have hE:=oJ aA;subst hE
  try dsimp only[P0,Q0]at aJ
  have hE:=oJ aJ;subst hE
  exact aI rfl aQ
theorem A6 (h:Hp) (bG:List Value) (p0:l0) (rp0:K1.R h bG p0) (r:Bool) (aF:i4 p0=some r) :
  Tr Tryz.prog 183 #[.agg bG.toArray] h fun v h'=>v = .bool r∧h'=h:=by
 obtain⟨aC,aD,aG,bP,aH,aL,rfl,rfl,aJ,aK,aB⟩:=F0 rp0
 obtain⟨rfl,bQ⟩:=Sl.len aB
 unfold i4 at aF
 dsimp only at aF
 refine Tr.forget (C2 (args:=[.agg #[.int .i64 aC,.int .i64 aD,.slice aG aL.length aH]]) (fn:=Tryz.f183) rfl ?_)
 obtain⟨X1,bH,aF⟩:=j0 aF
 refine eX { vars:=[3],boxes:=[],owns:=[],fuel:=true } (eX (fun vs os h'=>∃(u2:Int),vs.tail = [.int .i64 u2]∧os = []∧Sub h h'∧H0 u2∧r7 aL aC aD (H1 vs) u2=some X1) (eX (fun _ _=>0) ?_))
 refine aI (eX N0 ⟨0,rfl,rfl,(Sub.refl _),(by decide),bH⟩) ?_
 rintro v_0 m4 k3 ⟨u2,bI,bJ,aM,iu2,aA⟩
 cases bI
 cases bJ
 replace aA:r7 aL aC aD m4 u2=some X1:=aA
 obtain _|m4:=m4
 ·cases (show(none:Option _)=some X1 from aA)
 rw[r7.eq_2]at aA
 refine aI (fun bK=>?_) (fun bK=>?_)
 ·replace aA:=ifP aA bK
  refine Or.inl (aI (aI (by kernel_rfl) (by kernel_rfl)) ?_)
  obtain⟨x6,bT,aA⟩:=j0 aA
  obtain⟨bU,bV,bW,bX⟩:=Sl.getI (r:=C1.toRp) (S0.mono aM aB) bT (by decide)
  refine aI bU ?_
  obtain⟨aO,aP,aQ,rfl,rfl,aR,aS,aT⟩:=M1 bX
  try dsimp only at aA
  refine eX _ (aI bW ?_)
  obtain⟨x7,bY,aA⟩:=j0 aA
  refine eX (.bool x7) (aI (c09 _ [.int .i64 aC,.int .i64 aD,.slice aG aL.length aH] (aC,aD,aL) (z0 aJ aK (S0.mono aM aB)) [.int .i64 aO,.int .i64 aP,.int .i64 aQ] (aO,aP,aQ) (G1 aR aS aT) _  bY) ?_)
  obtain⟨x8,bZ,aA⟩:=j0 aA
  obtain⟨cA,bR,cC⟩:=Sl.getG (r:=C1.toRp) (S0.mono aM aB) bZ (by decide) (W0k k3)
  refine aI (fun q=>(bR q).1) ?_
  obtain⟨aU,aV,aW,rfl,rfl,aX,aY,aZ⟩:=M1 cC
  try dsimp only at aA
  refine eX _ (aI (fun q=>(bR q).2) ?_)
  obtain⟨x9,cD,aA⟩:=j0 aA
  obtain⟨cE,bS,cG⟩:=Sl.getG (r:=C1.toRp) (S0.mono aM aB) cD (by decide) (W0k k3)
  refine aI (fun q=>(bS q).1) ?_
  obtain⟨bA,bB,bC,rfl,rfl,bD,bE,bF⟩:=M1 cG
  try dsimp only at aA
  refine eX _ (aI (fun q=>(bS q).2) ?_)
  obtain⟨x10,bL,aA⟩:=j0 aA
  refine eX (.int .i64 x10) (aI (fun q=>T03 _ [.int .i64 aU,.int .i64 aV,.int .i64 aW] (aU,aV,aW) (G1 aX aY aZ) [.int .i64 bA,.int .i64 bB,.int .i64 bC] (bA,bB,bC) (G1 bD bE bF) _  (Q2 bL q)) ?_)
  obtain⟨q11,bM,aA⟩:=j0 aA
  have cH:H0 x10:=M0 bM
  refine aI (fun aN=>?_) (fun aN=>?_)
  ·replace aA:=ifP aA aN
   have hE:=oJ aA;subst hE
   try dsimp only[G2,I2]at aF
   have hE:=oJ aF;subst hE
   exact aI rfl aM
  ·replace aA:=ifN aA aN
   refine aI rfl (aI (by repeat first|exact trivial|refine aI rfl ?_) (aI (by repeat first|exact trivial|refine aI rfl ?_) (eX m4 (aI ⟨(IntKind.i64.wrap (u2+1)),rfl,rfl,aM,(I0 _),aA⟩ (nS _)))))
 ·replace aA:=ifN aA bK
  have hE:=oJ aA;subst hE
  try dsimp only[P0,Q0]at aF
  obtain⟨x13,bN,aF⟩:=j0 aF
  refine Tr.val (w6 _ aC aJ 1 (by decide) 3 (by decide) _  bN) ?_
  obtain⟨x14,bO,aF⟩:=j0 aF
  refine eX (.bool x14) (aI (fun q=>w6 _ aD aK 1 (by decide) 40 (by decide) _  (Q2 bO q)) ?_)
  have hE:=oJ aF;subst hE
  exact aI rfl aM
theorem T01 (h:Hp) (aG:List Value) (p0:l0) (rp0:K1.R h aG p0) (p1:Int) (ip1:H0 p1) (r:Bool) (aA:D6 p0 p1=some r) :
  Tr Tryz.prog 199 #[.agg aG.toArray,.int .i64 p1] h fun v h'=>v = .bool r∧h'=h:=by
 obtain⟨aH,aB,aC,aJ,aD,aN,rfl,rfl,aK,aL,aF⟩:=F0 rp0
 obtain⟨rfl,aM⟩:=Sl.len aF
 unfold D6 at aA
 dsimp only at aA
 refine Tr.forget (C2 (args:=[.agg #[.int .i64 aH,.int .i64 aB,.slice aC aN.length aD],.int .i64 p1]) (fn:=Tryz.f199) rfl ?_)
 obtain⟨x1,aO,aA⟩:=j0 aA
 refine Tr.val (M7 _ p1 ip1 0 (by decide) (IntKind.i64.wrap (aB-1)) (I0 _) _  aO) ?_
 have hE:=oJ aA;subst hE
 exact aI rfl (Sub.refl _)
theorem H03 (h:Hp) (aR:List Value) (p0:l0) (rp0:K1.R h aR p0) (aS:List Value) (p1:K0) (rp1:C1.R h aS p1) (r:Bool) (aH:s7 p0 p1=some r) :
  Tr Tryz.prog 230 #[.agg aR.toArray,.agg aS.toArray] h fun v h'=>v = .bool r∧h'=h:=by
 obtain⟨aA,aB,aC,aT,aD,aK,rfl,rfl,aF,aJ,aG⟩:=F0 rp0
 obtain⟨rfl,aU⟩:=Sl.len aG
 obtain⟨aL,aM,aN,rfl,rfl,aO,aP,aQ⟩:=M1 rp1
 unfold s7 at aH
 dsimp only at aH
 refine Tr.forget (C2 (args:=[.agg #[.int .i64 aA,.int .i64 aB,.slice aC aK.length aD],.agg #[.int .i64 aL,.int .i64 aM,.int .i64 aN]]) (fn:=Tryz.f230) rfl ?_)
 obtain⟨x1,aV,aH⟩:=j0 aH
 refine Tr.val (T01 _ [.int .i64 aA,.int .i64 aB,.slice aC aK.length aD] (aA,aB,aK) (z0 aF aJ aG) aL aO _  aV) ?_
 obtain⟨x2,aW,aH⟩:=j0 aH
 refine eX (.bool x2) (aI (fun q=>T01 _ [.int .i64 aA,.int .i64 aB,.slice aC aK.length aD] (aA,aB,aK) (z0 aF aJ aG) aN aQ _  (Q2 aW q)) ?_)
 obtain⟨x3,aX,aH⟩:=j0 aH
 refine eX (.bool x3) (aI (fun q=>M7 _ aM aP 1 (by decide) aA aF _  (Q2 aX q)) ?_)
 have hE:=oJ aH;subst hE
 exact aI rfl (Sub.refl _)
theorem U03 (h:Hp) (aP:List Value) (p0:K0) (rp0:C1.R h aP p0) (aQ:List Value) (p1:K0) (rp1:C1.R h aQ p1) (r:Int) (aA:g9 p0 p1=some r) :
  Tr Tryz.prog 231 #[.agg aP.toArray,.agg aQ.toArray] h fun v h'=>v = .int .i64 r∧h'=h:=by
 obtain⟨aB,aC,aD,rfl,rfl,aF,aG,aH⟩:=M1 rp0
 obtain⟨aJ,aK,aL,rfl,rfl,aM,aN,aO⟩:=M1 rp1
 unfold g9 at aA
 dsimp only at aA
 refine Tr.forget (C2 (args:=[.agg #[.int .i64 aB,.int .i64 aC,.int .i64 aD],.agg #[.int .i64 aJ,.int .i64 aK,.int .i64 aL]]) (fn:=Tryz.f231) rfl ?_)
 obtain⟨x1,aT,aA⟩:=j0 aA
 refine Tr.val (H8 _ aB aF aJ aM _  aT) ?_
 obtain⟨q2,aU,aA⟩:=j0 aA
 have aZ:H0 x1:=M0 aU
 refine aI (fun aR=>?_) (fun aR=>?_)
 ·replace aA:=ifP aA aR
  have hE:=oJ aA;subst hE
  exact aI rfl (Sub.refl _)
 ·replace aA:=ifN aA aR
  obtain⟨x4,aV,aA⟩:=j0 aA
  refine Tr.val (H8 _ aC aG aK aN _  aV) ?_
  obtain⟨q5,aW,aA⟩:=j0 aA
  have bA:H0 x4:=M0 aW
  refine aI (fun aS=>?_) (fun aS=>?_)
  ·replace aA:=ifP aA aS
   have hE:=oJ aA;subst hE
   exact aI rfl (Sub.refl _)
  ·replace aA:=ifN aA aS
   obtain⟨x7,aX,aA⟩:=j0 aA
   refine Tr.val (H8 _ aD aH aL aO _  aX) ?_
   obtain⟨q8,aY,aA⟩:=j0 aA
   have bB:H0 x7:=M0 aY
   have hE:=oJ aA;subst hE
   exact aI rfl (Sub.refl _)
theorem Y9 (h:Hp) (bB:List Value) (p0:l0) (rp0:K1.R h bB p0) (r:Bool) (aB:l6 p0=some r) :
  Tr Tryz.prog 188 #[.agg bB.toArray] h fun v h'=>v = .bool r∧h'=h:=by
 obtain⟨aD,aF,aK,bM,aL,aU,rfl,rfl,aM,aN,aC⟩:=F0 rp0
 obtain⟨rfl,bN⟩:=Sl.len aC
 unfold l6 at aB
 dsimp only at aB
 refine Tr.forget (C2 (args:=[.agg #[.int .i64 aD,.int .i64 aF,.slice aK aU.length aL]]) (fn:=Tryz.f188) rfl ?_)
 obtain⟨x1,bP,aB⟩:=j0 aB
 refine Tr.val (M7 _ aD aM 1 (by decide) 3 (by decide) _  bP) ?_
 obtain⟨x2,bQ,aB⟩:=j0 aB
 refine eX (.bool x2) (aI (fun q=>M7 _ aF aN 1 (by decide) 40 (by decide) _  (Q2 bQ q)) ?_)
 refine aI (fun bC=>?_) (fun bC=>?_)
 ·replace aB:=ifP aB bC
  have hE:=oJ aB;subst hE
  exact aI rfl (Sub.refl _)
 ·replace aB:=ifN aB bC
  obtain⟨X4,bD,aB⟩:=j0 aB
  refine eX { vars:=[24],boxes:=[],owns:=[],fuel:=true } (eX (fun vs os h'=>∃(u5:Int),vs.tail = [.int .i64 u5]∧os = []∧Sub h h'∧H0 u5∧t7 aU aD aF (H1 vs) u5=some X4) (eX (fun _ _=>0) ?_))
  refine aI (eX N0 ⟨0,rfl,rfl,(Sub.refl _),(by decide),bD⟩) ?_
  rintro v_0 m7 k6 ⟨u5,bE,bF,aZ,iu5,aA⟩
  cases bE
  cases bF
  replace aA:t7 aU aD aF m7 u5=some X4:=aA
  obtain _|m7:=m7
  ·cases (show(none:Option _)=some X4 from aA)
  rw[t7.eq_2]at aA
  refine aI (fun bG=>?_) (fun bG=>?_)
  ·replace aA:=ifP aA bG
   obtain⟨x9,bR,aA⟩:=j0 aA
   obtain⟨bS,bT,bU,bV⟩:=Sl.getI (r:=C1.toRp) (S0.mono aZ aC) bR (by decide)
   refine aI bS ?_
   obtain⟨aG,aH,aJ,rfl,rfl,aO,aP,aQ⟩:=M1 bV
   try dsimp only at aA
   refine eX _ (aI bU ?_)
   refine Or.inl (aI (aI (by kernel_rfl) (by kernel_rfl)) ?_)
   obtain⟨x10,bH,aA⟩:=j0 aA
   refine eX (.bool x10) (aI (H03 _ [.int .i64 aD,.int .i64 aF,.slice aK aU.length aL] (aD,aF,aU) (z0 aM aN (S0.mono aZ aC)) [.int .i64 aG,.int .i64 aH,.int .i64 aJ] (aG,aH,aJ) (G1 aO aP aQ) _  bH) ?_)
   obtain⟨x11,bI,aA⟩:=j0 aA
   obtain⟨bO,bA,bJ⟩:=Sl.getG (r:=C1.toRp) (S0.mono aZ aC) bI (by decide) (W0k k6)
   refine aI (fun q=>(bA q).1) ?_
   obtain⟨aR,aS,aT,rfl,rfl,aV,aW,aX⟩:=M1 bJ
   try dsimp only at aA
   refine eX _ (aI (fun q=>(bA q).2) ?_)
   obtain⟨x12,bK,aA⟩:=j0 aA
   refine eX (.int .i64 x12) (aI (fun q=>U03 _ [.int .i64 aR,.int .i64 aS,.int .i64 aT] (aR,aS,aT) (G1 aV aW aX) [.int .i64 aG,.int .i64 aH,.int .i64 aJ] (aG,aH,aJ) (G1 aO aP aQ) _  (Q2 bK q)) ?_)
   obtain⟨q13,bL,aA⟩:=j0 aA
   have bW:H0 x12:=M0 bL
   refine aI (fun aY=>?_) (fun aY=>?_)
   ·replace aA:=ifP aA aY
    have hE:=oJ aA;subst hE
    try dsimp only[G2,I2]at aB
    have hE:=oJ aB;subst hE
    exact aI rfl aZ
   ·replace aA:=ifN aA aY
    refine aI rfl (aI (by repeat first|exact trivial|refine aI rfl ?_) (aI (by repeat first|exact trivial|refine aI rfl ?_) (eX m7 (aI ⟨(IntKind.i64.wrap (u5+1)),rfl,rfl,aZ,(I0 _),aA⟩ (nS _)))))
  ·replace aA:=ifN aA bG
   have hE:=oJ aA;subst hE
   try dsimp only[P0,Q0]at aB
   have hE:=oJ aB;subst hE
   exact aI rfl aZ
theorem U01 (h:Hp) (ap0:Option Addr) (np0 cp0:Nat) (p0:D0) (rp0:J0.R h [.slice ap0 np0 cp0] p0) (p1:Int) (ip1:H0 p1) (r:D0) (aB:K8 p0 p1=some r) :
  Tr Tryz.prog 254 #[.slice ap0 np0 cp0,.int .i64 p1] h fun v h'=>∃(a0:Option Addr) (n0 c0:Nat),v = .slice a0 n0 c0∧J0.R h' [.slice a0 n0 c0] r∧Sub h h':=by
 obtain⟨rfl,lp0⟩:=Sl.len rp0
 unfold K8 at aB
 refine C2 (args:=[.slice ap0 p0.length cp0,.int .i64 p1]) (fn:=Tryz.f254) rfl ?_
 obtain⟨X1,aM,aB⟩:=j0 aB
 refine eX { vars:=[6,7],boxes:=[],owns:=[0],fuel:=true } (eX (fun vs os h'=>∃(u2:Bool) (u3:Int) (wu4:List (List Value)) (u4:List Int),vs.tail = [.bool u2,.int .i64 u3]∧os = [wu4]∧Sub h h'∧H0 u3∧F2 (Wp.int.R h') wu4 u4∧L4 p0 p1 (H1 vs) u2 u3 u4=some X1) (eX (fun _ _=>0) ?_))
 refine aI (eX N0 ⟨false,0,[],([]:D0),rfl,rfl,(Sub.refl _),(by decide),(show F2 (Wp.int.R h) ([]:List (List Value)) ([]:D0) from trivial),aM⟩) ?_
 rintro v_0 v_1 wu4 m6 k5 ⟨u2,u3,zzu4,u4,aN,aO,aC,iu3,fu4,aA⟩
 cases aN
 cases aO
 replace aA:L4 p0 p1 m6 u2 u3 u4=some X1:=aA
 obtain _|m6:=m6
 ·cases (show(none:Option _)=some X1 from aA)
 rw[L4.eq_2]at aA
 refine aI (fun aP=>?_) (fun aP=>?_)
 ·replace aA:=ifP aA aP
  obtain⟨x8,cD,aA⟩:=j0 aA
  obtain⟨cE,cG,cH,cI⟩:=Sl.getI (r:=Wp.int.toRp) (J0.mono aC rp0) cD (by decide)
  refine aI cE ?_
  obtain⟨rfl,cL⟩:=cI
  refine eX _ (aI cH ?_)
  refine aI (fun aQ=>?_) (fun aQ=>?_)
  ·replace aA:=ifP aA aQ
   obtain⟨x10,aR,aA⟩:=j0 aA
   obtain⟨aS,bW,aT,aU⟩:=Sl.getI (r:=Wp.int.toRp) (J0.mono aC rp0) aR (by decide)
   refine aI aS ?_
   obtain⟨rfl,cJ⟩:=aU
   refine eX _ (aI aT ?_)
   refine aI (fun aD=>?_) (fun aD=>?_)
   ·replace aA:=ifP aA aD
    obtain⟨q12,aV,aA⟩:=j0 aA
    refine aI (P1 aV (by first|rw[F2.length fu4,F2.length (show F2 (Wp.int.R k5) ([[.int .i64 p1]]:List (List Value)) [p1] from⟨⟨rfl,ip1⟩,trivial⟩)]|exact congrArg (·+1) (F2.length fu4))) ?_
    obtain⟨x13,aW,aA⟩:=j0 aA
    obtain⟨aX,bX,aY,aZ⟩:=Sl.getI (r:=Wp.int.toRp) (J0.mono aC rp0) aW (by decide)
    refine aI aX ?_
    obtain⟨rfl,aH⟩:=aZ
    refine eX _ (aI aY ?_)
    obtain⟨q14,bA,aA⟩:=j0 aA
    refine aI (P1 bA (by first|rw[F2.length (F2.append fu4 (show F2 (Wp.int.R k5) ([[.int .i64 p1]]:List (List Value)) [p1] from⟨⟨rfl,ip1⟩,trivial⟩)),F2.length (show F2 (Wp.int.R k5) ([[.int .i64 x13]]:List (List Value)) [x13] from⟨⟨rfl,aH⟩,trivial⟩)]|exact congrArg (·+1) (F2.length (F2.append fu4 (show F2 (Wp.int.R k5) ([[.int .i64 p1]]:List (List Value)) [p1] from⟨⟨rfl,ip1⟩,trivial⟩))))) ?_
    refine aI rfl (aI (by repeat first|exact trivial|refine aI rfl ?_) (aI (by repeat first|exact trivial|refine aI rfl ?_) (eX m6 (aI ⟨true,(IntKind.i64.wrap (u3+1)),((wu4++([[.int .i64 p1]]:List (List Value)))++([[.int .i64 x13]]:List (List Value))),((u4 ++ [p1]) ++ [x13]),rfl,rfl,aC,(I0 _),(F2.append (F2.append fu4 (show F2 (Wp.int.R k5) ([[.int .i64 p1]]:List (List Value)) [p1] from⟨⟨rfl,ip1⟩,trivial⟩)) (show F2 (Wp.int.R k5) ([[.int .i64 x13]]:List (List Value)) [x13] from⟨⟨rfl,aH⟩,trivial⟩)),aA⟩ (nS _)))))
   ·replace aA:=ifN aA aD
    obtain⟨x15,bB,aA⟩:=j0 aA
    obtain⟨bC,bY,bD,bE⟩:=Sl.getI (r:=Wp.int.toRp) (J0.mono aC rp0) bB (by decide)
    refine aI bC ?_
    obtain⟨rfl,aJ⟩:=bE
    refine eX _ (aI bD ?_)
    obtain⟨q16,bF,aA⟩:=j0 aA
    refine aI (P1 bF (by first|rw[F2.length fu4,F2.length (show F2 (Wp.int.R k5) ([[.int .i64 x15]]:List (List Value)) [x15] from⟨⟨rfl,aJ⟩,trivial⟩)]|exact congrArg (·+1) (F2.length fu4))) ?_
    refine aI rfl (aI (by repeat first|exact trivial|refine aI rfl ?_) (aI (by repeat first|exact trivial|refine aI rfl ?_) (eX m6 (aI ⟨true,(IntKind.i64.wrap (u3+1)),(wu4++([[.int .i64 x15]]:List (List Value))),(u4 ++ [x15]),rfl,rfl,aC,(I0 _),(F2.append fu4 (show F2 (Wp.int.R k5) ([[.int .i64 x15]]:List (List Value)) [x15] from⟨⟨rfl,aJ⟩,trivial⟩)),aA⟩ (nS _)))))
  ·replace aA:=ifN aA aQ
   obtain⟨x17,bG,aA⟩:=j0 aA
   obtain⟨bH,bZ,bI,bJ⟩:=Sl.getI (r:=Wp.int.toRp) (J0.mono aC rp0) bG (by decide)
   refine aI bH ?_
   obtain⟨rfl,cK⟩:=bJ
   refine eX _ (aI bI ?_)
   refine aI (fun aF=>?_) (fun aF=>?_)
   ·replace aA:=ifP aA aF
    obtain⟨q19,bK,aA⟩:=j0 aA
    refine aI (P1 bK (by first|rw[F2.length fu4,F2.length (show F2 (Wp.int.R k5) ([[.int .i64 p1]]:List (List Value)) [p1] from⟨⟨rfl,ip1⟩,trivial⟩)]|exact congrArg (·+1) (F2.length fu4))) ?_
    obtain⟨x20,bL,aA⟩:=j0 aA
    obtain⟨bM,cA,bN,bO⟩:=Sl.getI (r:=Wp.int.toRp) (J0.mono aC rp0) bL (by decide)
    refine aI bM ?_
    obtain⟨rfl,aK⟩:=bO
    refine eX _ (aI bN ?_)
    obtain⟨q21,bP,aA⟩:=j0 aA
    refine aI (P1 bP (by first|rw[F2.length (F2.append fu4 (show F2 (Wp.int.R k5) ([[.int .i64 p1]]:List (List Value)) [p1] from⟨⟨rfl,ip1⟩,trivial⟩)),F2.length (show F2 (Wp.int.R k5) ([[.int .i64 x20]]:List (List Value)) [x20] from⟨⟨rfl,aK⟩,trivial⟩)]|exact congrArg (·+1) (F2.length (F2.append fu4 (show F2 (Wp.int.R k5) ([[.int .i64 p1]]:List (List Value)) [p1] from⟨⟨rfl,ip1⟩,trivial⟩))))) ?_
    refine aI rfl (aI (by repeat first|exact trivial|refine aI rfl ?_) (aI (by repeat first|exact trivial|refine aI rfl ?_) (eX m6 (aI ⟨true,(IntKind.i64.wrap (u3+1)),((wu4++([[.int .i64 p1]]:List (List Value)))++([[.int .i64 x20]]:List (List Value))),((u4 ++ [p1]) ++ [x20]),rfl,rfl,aC,(I0 _),(F2.append (F2.append fu4 (show F2 (Wp.int.R k5) ([[.int .i64 p1]]:List (List Value)) [p1] from⟨⟨rfl,ip1⟩,trivial⟩)) (show F2 (Wp.int.R k5) ([[.int .i64 x20]]:List (List Value)) [x20] from⟨⟨rfl,aK⟩,trivial⟩)),aA⟩ (nS _)))))
   ·replace aA:=ifN aA aF
    obtain⟨x22,bQ,aA⟩:=j0 aA
    obtain⟨bR,cC,bS,bT⟩:=Sl.getI (r:=Wp.int.toRp) (J0.mono aC rp0) bQ (by decide)
    refine aI bR ?_
    obtain⟨rfl,aL⟩:=bT
    refine eX _ (aI bS ?_)
    obtain⟨q23,bU,aA⟩:=j0 aA
    refine aI (P1 bU (by first|rw[F2.length fu4,F2.length (show F2 (Wp.int.R k5) ([[.int .i64 x22]]:List (List Value)) [x22] from⟨⟨rfl,aL⟩,trivial⟩)]|exact congrArg (·+1) (F2.length fu4))) ?_
    refine aI rfl (aI (by repeat first|exact trivial|refine aI rfl ?_) (aI (by repeat first|exact trivial|refine aI rfl ?_) (eX m6 (aI ⟨u2,(IntKind.i64.wrap (u3+1)),(wu4++([[.int .i64 x22]]:List (List Value))),(u4 ++ [x22]),rfl,rfl,aC,(I0 _),(F2.append fu4 (show F2 (Wp.int.R k5) ([[.int .i64 x22]]:List (List Value)) [x22] from⟨⟨rfl,aL⟩,trivial⟩)),aA⟩ (nS _)))))
 ·replace aA:=ifN aA aP
  have hE:=oJ aA;subst hE
  try dsimp only[P0,Q0]at aB
  refine aI (fun aG=>?_) (fun aG=>?_)
  ·replace aB:=ifP aB aG
   obtain⟨q25,bV,aB⟩:=j0 aB
   refine aI (P1 bV (by first|rw[F2.length fu4,F2.length (show F2 (Wp.int.R k5) ([[.int .i64 p1]]:List (List Value)) [p1] from⟨⟨rfl,ip1⟩,trivial⟩)]|exact congrArg (·+1) (F2.length fu4))) ?_
   intro v26 k27 f28
   obtain⟨az29,cz29,rfl,rz29,sz29,lz29⟩:=j1.out (r:=Wp.int.toRp) f28 (F2.append fu4 (show F2 (Wp.int.R k5) ([[.int .i64 p1]]:List (List Value)) [p1] from⟨⟨rfl,ip1⟩,trivial⟩))
   have hE:=oJ aB;subst hE
   exact⟨az29,((u4 ++ [p1])).length,cz29,rfl,rz29,(aC.trans sz29)⟩
  ·replace aB:=ifN aB aG
   intro v30 k31 f32
   obtain⟨az33,cz33,rfl,rz33,sz33,lz33⟩:=j1.out (r:=Wp.int.toRp) f32 fu4
   have hE:=oJ aB;subst hE
   exact⟨az33,u4.length,cz33,rfl,rz33,(aC.trans sz33)⟩
theorem M02 (h:Hp) (ap0:Option Addr) (np0 cp0:Nat) (p0:D0) (rp0:J0.R h [.slice ap0 np0 cp0] p0) (p1:Int) (ip1:H0 p1) (r:Bool) (aB:o9 p0 p1=some r) :
  Tr Tryz.prog 221 #[.slice ap0 np0 cp0,.int .i64 p1] h fun v h'=>v = .bool r∧h'=h:=by
 obtain⟨rfl,lp0⟩:=Sl.len rp0
 unfold o9 at aB
 refine Tr.forget (C2 (args:=[.slice ap0 p0.length cp0,.int .i64 p1]) (fn:=Tryz.f221) rfl ?_)
 obtain⟨X1,aD,aB⟩:=j0 aB
 refine eX { vars:=[5],boxes:=[],owns:=[],fuel:=true } (eX (fun vs os h'=>∃(u2:Int),vs.tail = [.int .i64 u2]∧os = []∧Sub h h'∧H0 u2∧R8 p0 p1 (H1 vs) u2=some X1) (eX (fun _ _=>0) ?_))
 refine aI (eX N0 ⟨0,rfl,rfl,(Sub.refl _),(by decide),aD⟩) ?_
 rintro v_0 m4 k3 ⟨u2,aF,aG,aC,iu2,aA⟩
 cases aF
 cases aG
 replace aA:R8 p0 p1 m4 u2=some X1:=aA
 obtain _|m4:=m4
 ·cases (show(none:Option _)=some X1 from aA)
 rw[R8.eq_2]at aA
 refine aI (fun aH=>?_) (fun aH=>?_)
 ·replace aA:=ifP aA aH
  obtain⟨x6,aK,aA⟩:=j0 aA
  obtain⟨aL,aM,aN,aO⟩:=Sl.getI (r:=Wp.int.toRp) (J0.mono aC rp0) aK (by decide)
  refine aI aL ?_
  obtain⟨rfl,aP⟩:=aO
  refine eX _ (aI aN ?_)
  refine aI (fun aJ=>?_) (fun aJ=>?_)
  ·replace aA:=ifP aA aJ
   have hE:=oJ aA;subst hE
   try dsimp only[G2,I2]at aB
   have hE:=oJ aB;subst hE
   exact aI rfl aC
  ·replace aA:=ifN aA aJ
   refine aI rfl (aI (by repeat first|exact trivial|refine aI rfl ?_) (aI (by repeat first|exact trivial|refine aI rfl ?_) (eX m4 (aI ⟨(IntKind.i64.wrap (u2+1)),rfl,rfl,aC,(I0 _),aA⟩ (nS _)))))
 ·replace aA:=ifN aA aH
  have hE:=oJ aA;subst hE
  try dsimp only[P0,Q0]at aB
  have hE:=oJ aB;subst hE
  exact aI rfl aC
theorem y0c (h:Hp) (aW:List Value) (p0:l0) (rp0:K1.R h aW p0) (p1:Int) (ip1:H0 p1) (p2:Int) (ip2:H0 p2) (r:D0) (aM:w00 p0 p1 p2=some r) :
  Tr Tryz.prog 227 #[.agg aW.toArray,.int .i64 p1,.int .i64 p2] h fun v h'=>∃(a0:Option Addr) (n0 c0:Nat),v = .slice a0 n0 c0∧J0.R h' [.slice a0 n0 c0] r∧Sub h h':=by
 obtain⟨aX,aY,aN,bR,aO,aP,rfl,rfl,bS,bT,aC⟩:=F0 rp0
 obtain⟨rfl,bU⟩:=Sl.len aC
 unfold w00 at aM
 dsimp only at aM
 refine C2 (args:=[.agg #[.int .i64 aX,.int .i64 aY,.slice aN aP.length aO],.int .i64 p1,.int .i64 p2]) (fn:=Tryz.f227) rfl ?_
 obtain⟨X5,aZ,aM⟩:=j0 aM
 refine eX { vars:=[7,8],boxes:=[],owns:=[],fuel:=true,pubs:=[7,10] } (eX (fun vs os h'=>∃(au6:Option Addr) (nu6 cu6:Nat) (u6:D0) (u7:Int),vs.tail = [.slice au6 nu6 cu6,.int .i64 u7]∧os = []∧Sub h h'∧J0.R h' [.slice au6 nu6 cu6] u6∧H0 u7∧j4 aP p2 p1 (H1 vs) u6 u7=some X5) (eX (fun _ _=>0) ?_))
 intro v1 k2 f3
 obtain⟨az4,cz4,rfl,rz4,sz4,lz4⟩:=j1.out (r:=Wp.int.toRp) f3 (show F2 (Wp.int.R h) ([]:List (List Value)) ([]:D0) from trivial)
 refine aI (eX N0 ⟨az4,(([]:D0)).length,cz4,([]:D0),0,rfl,rfl,sz4,rz4,(by decide),aZ⟩) ?_
 rintro v_0 v_1 m9 k8 ⟨au6,nu6,cu6,u6,u7,bA,bB,bC,ru6,iu7,aA⟩
 cases bA
 cases bB
 replace aA:j4 aP p2 p1 m9 u6 u7=some X5:=aA
 obtain _|m9:=m9
 ·cases (show(none:Option _)=some X5 from aA)
 rw[j4.eq_2]at aA
 obtain⟨rfl,lu6⟩:=Sl.len ru6
 refine aI (fun aF=>?_) (fun aF=>?_)
 ·replace aA:=ifP aA aF
  obtain⟨x11,bD,aA⟩:=j0 aA
  obtain⟨bE,bV,bF,bG⟩:=Sl.getI (r:=C1.toRp) (S0.mono bC aC) bD (by decide)
  refine aI bE ?_
  obtain⟨aD,bW,aQ,rfl,rfl,aB,bH,aG⟩:=M1 bG
  try dsimp only at aA
  refine eX _ (aI bF ?_)
  refine aI (fun aH=>?_) (fun aH=>?_)
  ·replace aA:=ifP aA aH
   obtain⟨x13,bI,aA⟩:=j0 aA
   refine Tr.mono (U01 _ au6 u6.length cu6 u6 ru6 aQ aG _  bI) ?_
   rintro v15 k14 ⟨aR,bX,aS,rfl,aJ,aT⟩
   obtain⟨rfl,bY⟩:=Sl.len aJ
   refine aI (fun aK=>?_) (fun aK=>?_)
   ·replace aA:=ifP aA aK
    obtain⟨x17,bJ,aA⟩:=j0 aA
    refine Tr.mono (U01 _ aR x13.length aS x13 aJ aD aB _  bJ) ?_
    rintro v19 k18 ⟨bK,bZ,bL,rfl,aU,bM⟩
    obtain⟨rfl,cA⟩:=Sl.len aU
    refine aI rfl (aI (by repeat first|exact trivial|refine aI rfl ?_) (aI (by repeat first|exact trivial|refine aI rfl ?_) (eX m9 (aI ⟨bK,x17.length,bL,x17,(IntKind.i64.wrap (u7+1)),rfl,rfl,((bC.trans aT).trans bM),aU,(I0 _),aA⟩ (nS _)))))
   ·replace aA:=ifN aA aK
    refine aI rfl (aI (by repeat first|exact trivial|refine aI rfl ?_) (aI (by repeat first|exact trivial|refine aI rfl ?_) (eX m9 (aI ⟨aR,x13.length,aS,x13,(IntKind.i64.wrap (u7+1)),rfl,rfl,(bC.trans aT),aJ,(I0 _),aA⟩ (nS _)))))
  ·replace aA:=ifN aA aH
   refine aI (fun aL=>?_) (fun aL=>?_)
   ·replace aA:=ifP aA aL
    obtain⟨x21,bN,aA⟩:=j0 aA
    refine Tr.mono (U01 _ au6 u6.length cu6 u6 ru6 aD aB _  bN) ?_
    rintro v23 k22 ⟨bO,cC,bP,rfl,aV,bQ⟩
    obtain⟨rfl,cD⟩:=Sl.len aV
    refine aI rfl (aI (by repeat first|exact trivial|refine aI rfl ?_) (aI (by repeat first|exact trivial|refine aI rfl ?_) (eX m9 (aI ⟨bO,x21.length,bP,x21,(IntKind.i64.wrap (u7+1)),rfl,rfl,(bC.trans bQ),aV,(I0 _),aA⟩ (nS _)))))
   ·replace aA:=ifN aA aL
    refine aI rfl (aI (by repeat first|exact trivial|refine aI rfl ?_) (aI (by repeat first|exact trivial|refine aI rfl ?_) (eX m9 (aI ⟨au6,u6.length,cu6,u6,(IntKind.i64.wrap (u7+1)),rfl,rfl,bC,ru6,(I0 _),aA⟩ (nS _)))))
 ·replace aA:=ifN aA aF
  have hE:=oJ aA;subst hE
  try dsimp only[P0,Q0]at aM
  have hE:=oJ aM;subst hE
  exact⟨au6,u6.length,cu6,rfl,ru6,bC⟩
theorem N02 (h:Hp) (aK:List Value) (p0:l0) (rp0:K1.R h aK p0) (p1:Int) (ip1:H0 p1) (p2:Int) (ip2:H0 p2) (r:Int) (aA:P7 p0 p1 p2=some r) :
  Tr Tryz.prog 182 #[.agg aK.toArray,.int .i64 p1,.int .i64 p2] h fun v h'=>v = .int .i64 r∧h'=h:=by
 obtain⟨aF,aG,aB,aN,aC,aL,rfl,rfl,aH,aJ,aD⟩:=F0 rp0
 obtain⟨rfl,aO⟩:=Sl.len aD
 unfold P7 at aA
 dsimp only at aA
 refine Tr.forget (C2 (args:=[.agg #[.int .i64 aF,.int .i64 aG,.slice aB aL.length aC],.int .i64 p1,.int .i64 p2]) (fn:=Tryz.f182) rfl ?_)
 obtain⟨x1,aR,aA⟩:=j0 aA
 refine Tr.mono (y0c _ [.int .i64 aF,.int .i64 aG,.slice aB aL.length aC] (aF,aG,aL) (z0 aH aJ aD) p1 ip1 p2 ip2 _  aR) ?_
 rintro v3 k2 ⟨aX,aY,aZ,rfl,aP,aQ⟩
 obtain⟨rfl,bA⟩:=Sl.len aP
 refine aI (fun aM=>?_) (fun aM=>?_)
 ·replace aA:=ifP aA aM
  have hE:=oJ aA;subst hE
  exact aI rfl aQ
 ·replace aA:=ifN aA aM
  obtain⟨x5,aS,aA⟩:=j0 aA
  obtain⟨aT,aU,aV,aW⟩:=Sl.getI (r:=Wp.int.toRp) aP aS (by decide)
  refine aI aT ?_
  obtain⟨rfl,bB⟩:=aW
  refine eX _ (aI aV ?_)
  have hE:=oJ aA;subst hE
  exact aI rfl aQ
theorem a01 (h:Hp) (aQ:List Value) (p0:l0) (rp0:K1.R h aQ p0) (r:Bool) (aK:i7 p0=some r) :
  Tr Tryz.prog 174 #[.agg aQ.toArray] h fun v h'=>v = .bool r∧h'=h:=by
 obtain⟨aD,aF,aH,bO,aJ,aG,rfl,rfl,aL,aM,aB⟩:=F0 rp0
 obtain⟨rfl,bP⟩:=Sl.len aB
 unfold i7 at aK
 dsimp only at aK
 refine Tr.forget (C2 (args:=[.agg #[.int .i64 aD,.int .i64 aF,.slice aH aG.length aJ]]) (fn:=Tryz.f174) rfl ?_)
 obtain⟨X1,aR,aK⟩:=j0 aK
 refine eX { vars:=[3],boxes:=[],owns:=[],fuel:=true } (eX (fun vs os h'=>∃(u2:Int),vs.tail = [.int .i64 u2]∧os = []∧Sub h h'∧H0 u2∧D5 aG aD aF (H1 vs) u2=some X1) (eX (fun _ _=>0) ?_))
 refine aI (eX N0 ⟨0,rfl,rfl,(Sub.refl _),(by decide),aR⟩) ?_
 rintro v_0 m4 k3 ⟨u2,aS,aT,aU,iu2,aC⟩
 cases aS
 cases aT
 replace aC:D5 aG aD aF m4 u2=some X1:=aC
 obtain _|m4:=m4
 ·cases (show(none:Option _)=some X1 from aC)
 rw[D5.eq_2]at aC
 obtain⟨x5,bY,aC⟩:=j0 aC
 refine eX (.bool x5) (aI (fun q=>A6 _ [.int .i64 aD,.int .i64 aF,.slice aH aG.length aJ] (aD,aF,aG) (z0 aL aM (S0.mono aU aB)) _  (Q2 bY q)) ?_)
 refine aI (fun aV=>?_) (fun aV=>?_)
 ·replace aC:=ifP aC aV
  obtain⟨X7,aW,aC⟩:=j0 aC
  refine eX { vars:=[4],boxes:=[],owns:=[],fuel:=true } (eX (fun vs os h'=>∃(u8:Int),vs.tail = [.int .i64 u8]∧os = []∧Sub k3 h'∧H0 u8∧Q6 u2 aG (H1 vs) u8=some X7) (eX (fun _ _=>0) ?_))
  refine aI (eX N0 ⟨0,rfl,rfl,(Sub.refl _),(by decide),aW⟩) ?_
  rintro v_0 m10 k9 ⟨u8,aX,aY,aP,iu8,aA⟩
  cases aX
  cases aY
  replace aA:Q6 u2 aG m10 u8=some X7:=aA
  obtain _|m10:=m10
  ·cases (show(none:Option _)=some X7 from aA)
  rw[Q6.eq_2]at aA
  refine aI (fun aN=>?_) (fun aN=>?_)
  ·replace aA:=ifP aA aN
   obtain⟨x12,aZ,aA⟩:=j0 aA
   obtain⟨bA,bQ,bB,bC⟩:=Sl.getI (r:=C1.toRp) (S0.mono (aU.trans aP) aB) aZ (by decide)
   refine aI bA ?_
   obtain⟨bR,bS,bT,rfl,rfl,bD,bE,bF⟩:=M1 bC
   try dsimp only at aA
   refine eX _ (aI bB ?_)
   obtain⟨x13,bG,aA⟩:=j0 aA
   obtain⟨bH,bU,bI,bJ⟩:=Sl.getI (r:=C1.toRp) (S0.mono (aU.trans aP) aB) bG (by decide)
   refine aI bH ?_
   obtain⟨bV,bW,bX,rfl,rfl,bK,bL,bM⟩:=M1 bJ
   try dsimp only at aA
   refine eX _ (aI bI ?_)
   refine aI (fun aO=>?_) (fun aO=>?_)
   ·replace aA:=ifP aA aO
    have hE:=oJ aA;subst hE
    try dsimp only[G2,I2]at aC
    have hE:=oJ aC;subst hE
    try dsimp only[G2,I2]at aK
    have hE:=oJ aK;subst hE
    exact aI rfl (aU.trans aP)
   ·replace aA:=ifN aA aO
    refine aI rfl (aI (by repeat first|exact trivial|refine aI rfl ?_) (aI (by repeat first|exact trivial|refine aI rfl ?_) (eX m10 (aI ⟨(IntKind.i64.wrap (u8+1)),rfl,rfl,aP,(I0 _),aA⟩ (nS _)))))
  ·replace aA:=ifN aA aN
   have hE:=oJ aA;subst hE
   try dsimp only[P0,Q0]at aC
   refine aI rfl (aI (by repeat first|exact trivial|refine aI rfl ?_) (aI (by repeat first|exact trivial|refine aI rfl ?_) (eX m4 (aI ⟨(IntKind.i64.wrap (u2+1)),rfl,rfl,(aU.trans aP),(I0 _),aC⟩ (nS _)))))
 ·replace aC:=ifN aC aV
  have hE:=oJ aC;subst hE
  try dsimp only[P0,Q0]at aK
  obtain⟨x18,bN,aK⟩:=j0 aK
  refine Tr.val (A6 _ [.int .i64 aD,.int .i64 aF,.slice aH aG.length aJ] (aD,aF,aG) (z0 aL aM (S0.mono aU aB)) _  bN) ?_
  have hE:=oJ aK;subst hE
  exact aI rfl aU
theorem B0d (h:Hp) (aO:List Value) (p0:l0) (rp0:K1.R h aO p0) (p1:Int) (ip1:H0 p1) (ap2:Option Addr) (np2 cp2:Nat) (p2:D0) (rp2:J0.R h [.slice ap2 np2 cp2] p2) (r:Int×Bool) (aB:P00 p0 p1 p2=some r) :
  Tr Tryz.prog 126 #[.agg aO.toArray,.int .i64 p1,.slice ap2 np2 cp2] h fun v h'=>v = .tuple #[.int .i64 r.1,.bool r.2]∧h'=h:=by
 obtain⟨aD,aC,aF,bC,aG,aJ,rfl,rfl,aK,aL,aH⟩:=F0 rp0
 obtain⟨rfl,bD⟩:=Sl.len aH
 obtain⟨rfl,lp2⟩:=Sl.len rp2
 unfold P00 at aB
 dsimp only at aB
 refine Tr.forget (C2 (args:=[.agg #[.int .i64 aD,.int .i64 aC,.slice aF aJ.length aG],.int .i64 p1,.slice ap2 p2.length cp2]) (fn:=Tryz.f126) rfl ?_)
 obtain⟨x1,bF,aB⟩:=j0 aB
 refine Tr.val (a01 _ [.int .i64 aD,.int .i64 aC,.slice aF aJ.length aG] (aD,aC,aJ) (z0 aK aL aH) _  bF) ?_
 obtain⟨x2,bG,aB⟩:=j0 aB
 refine eX (.bool x2) (aI (fun q=>w6 _ p1 ip1 0 (by decide) (IntKind.i64.wrap (aC-1)) (I0 _) _  (Q2 bG q)) ?_)
 refine aI (fun aP=>?_) (fun aP=>?_)
 ·replace aB:=ifP aB aP
  have hE:=oJ aB;subst hE
  exact aI rfl (Sub.refl _)
 ·replace aB:=ifN aB aP
  obtain⟨X4,aQ,aB⟩:=j0 aB
  refine eX { vars:=[1,8],boxes:=[],owns:=[],fuel:=true } (eX (fun vs os h'=>∃(u5:Int) (u6:Int),vs.tail = [.int .i64 u5,.int .i64 u6]∧os = []∧Sub h h'∧H0 u5∧H0 u6∧R6 p2 aD aC aJ (H1 vs) u5 u6=some X4) (eX (fun _ _=>0) ?_))
  refine aI (eX N0 ⟨p1,0,rfl,rfl,(Sub.refl _),ip1,(by decide),aQ⟩) ?_
  rintro v_0 v_1 m8 k7 ⟨u5,u6,aR,aS,aN,iu5,iu6,aA⟩
  cases aR
  cases aS
  replace aA:R6 p2 aD aC aJ m8 u5 u6=some X4:=aA
  obtain _|m8:=m8
  ·cases (show(none:Option _)=some X4 from aA)
  rw[R6.eq_2]at aA
  refine aI (fun aT=>?_) (fun aT=>?_)
  ·replace aA:=ifP aA aT
   refine Or.inl (aI (aI (by kernel_rfl) (by kernel_rfl)) ?_)
   obtain⟨x10,aU,aA⟩:=j0 aA
   obtain⟨aV,bE,aW,aX⟩:=Sl.getI (r:=Wp.int.toRp) (J0.mono aN rp2) aU (by decide)
   refine aI aV ?_
   obtain⟨rfl,aY⟩:=aX
   refine eX _ (aI aW ?_)
   obtain⟨x11,aZ,aA⟩:=j0 aA
   refine eX (.int .i64 x11) (aI (N02 _ [.int .i64 aD,.int .i64 aC,.slice aF aJ.length aG] (aD,aC,aJ) (z0 aK aL (S0.mono aN aH)) u5 iu5 x10 aY _  aZ) ?_)
   obtain⟨q12,bA,aA⟩:=j0 aA
   have bB:H0 x11:=M0 bA
   refine aI (fun aM=>?_) (fun aM=>?_)
   ·replace aA:=ifP aA aM
    have hE:=oJ aA;subst hE
    try dsimp only[G2,I2]at aB
    have hE:=oJ aB;subst hE
    exact aI rfl aN
   ·replace aA:=ifN aA aM
    refine aI rfl (aI (by repeat first|exact trivial|refine aI rfl ?_) (aI (by repeat first|exact trivial|refine aI rfl ?_) (eX m8 (aI ⟨x11,(IntKind.i64.wrap (u6+1)),rfl,rfl,aN,bB,(I0 _),aA⟩ (nS _)))))
  ·replace aA:=ifN aA aT
   have hE:=oJ aA;subst hE
   try dsimp only[P0,Q0]at aB
   have hE:=oJ aB;subst hE
   exact aI rfl aN
theorem z0c (h:Hp) (aO:List Value) (p0:l0) (rp0:K1.R h aO p0) (p1:Int) (ip1:H0 p1) (p2:Int) (ip2:H0 p2) (r:D0) (aD:x00 p0 p1 p2=some r) :
  Tr Tryz.prog 206 #[.agg aO.toArray,.int .i64 p1,.int .i64 p2] h fun v h'=>∃(a0:Option Addr) (n0 c0:Nat),v = .slice a0 n0 c0∧New J0 h h' [.slice a0 n0 c0] r:=by
 obtain⟨aP,aQ,aK,aY,aL,aM,rfl,rfl,aZ,bA,aF⟩:=F0 rp0
 obtain⟨rfl,bB⟩:=Sl.len aF
 unfold x00 at aD
 dsimp only at aD
 refine C2 (args:=[.agg #[.int .i64 aP,.int .i64 aQ,.slice aK aM.length aL],.int .i64 p1,.int .i64 p2]) (fn:=Tryz.f206) rfl ?_
 obtain⟨X1,aR,aD⟩:=j0 aD
 refine eX { vars:=[14],boxes:=[],owns:=[0],fuel:=true } (eX (fun vs os h'=>∃(u2:Int) (wu3:List (List Value)) (u3:List Int),vs.tail = [.int .i64 u2]∧os = [wu3]∧Sub h h'∧H0 u2∧F2 (Wp.int.R h') wu3 u3∧R4 aM p2 p1 (H1 vs) u2 u3=some X1) (eX (fun _ _=>0) ?_))
 refine aI (eX N0 ⟨0,[],([]:D0),rfl,rfl,(Sub.refl _),(by decide),(show F2 (Wp.int.R h) ([]:List (List Value)) ([]:D0) from trivial),aR⟩) ?_
 rintro v_0 wu3 m5 k4 ⟨u2,zzu3,u3,aS,aT,aN,iu2,fu3,aA⟩
 cases aS
 cases aT
 replace aA:R4 aM p2 p1 m5 u2 u3=some X1:=aA
 obtain _|m5:=m5
 ·cases (show(none:Option _)=some X1 from aA)
 rw[R4.eq_2]at aA
 refine aI (fun aU=>?_) (fun aU=>?_)
 ·replace aA:=ifP aA aU
  obtain⟨x7,bD,aA⟩:=j0 aA
  obtain⟨bE,bF,bG,bH⟩:=Sl.getI (r:=C1.toRp) (S0.mono aN aF) bD (by decide)
  refine aI bE ?_
  obtain⟨aB,bI,aC,rfl,rfl,aG,bC,aH⟩:=M1 bH
  try dsimp only at aA
  refine eX _ (aI bG ?_)
  refine aI (fun aV=>?_) (fun aV=>?_)
  ·replace aA:=ifP aA aV
   obtain⟨q9,bJ,aA⟩:=j0 aA
   refine aI (P1 bJ (by first|rw[F2.length fu3,F2.length (show F2 (Wp.int.R k4) ([[.int .i64 aC]]:List (List Value)) [aC] from⟨⟨rfl,aH⟩,trivial⟩)]|exact congrArg (·+1) (F2.length fu3))) ?_
   refine aI rfl (aI (by repeat first|exact trivial|refine aI rfl ?_) (aI (by repeat first|exact trivial|refine aI rfl ?_) (eX m5 (aI ⟨(IntKind.i64.wrap (u2+1)),(wu3++([[.int .i64 aC]]:List (List Value))),(u3 ++ [aC]),rfl,rfl,aN,(I0 _),(F2.append fu3 (show F2 (Wp.int.R k4) ([[.int .i64 aC]]:List (List Value)) [aC] from⟨⟨rfl,aH⟩,trivial⟩)),aA⟩ (nS _)))))
  ·replace aA:=ifN aA aV
   refine aI (fun aJ=>?_) (fun aJ=>?_)
   ·replace aA:=ifP aA aJ
    obtain⟨q11,aW,aA⟩:=j0 aA
    refine aI (P1 aW (by first|rw[F2.length fu3,F2.length (show F2 (Wp.int.R k4) ([[.int .i64 aB]]:List (List Value)) [aB] from⟨⟨rfl,aG⟩,trivial⟩)]|exact congrArg (·+1) (F2.length fu3))) ?_
    refine aI rfl (aI (by repeat first|exact trivial|refine aI rfl ?_) (aI (by repeat first|exact trivial|refine aI rfl ?_) (eX m5 (aI ⟨(IntKind.i64.wrap (u2+1)),(wu3++([[.int .i64 aB]]:List (List Value))),(u3 ++ [aB]),rfl,rfl,aN,(I0 _),(F2.append fu3 (show F2 (Wp.int.R k4) ([[.int .i64 aB]]:List (List Value)) [aB] from⟨⟨rfl,aG⟩,trivial⟩)),aA⟩ (nS _)))))
   ·replace aA:=ifN aA aJ
    refine aI rfl (aI (by repeat first|exact trivial|refine aI rfl ?_) (aI (by repeat first|exact trivial|refine aI rfl ?_) (eX m5 (aI ⟨(IntKind.i64.wrap (u2+1)),wu3,u3,rfl,rfl,aN,(I0 _),fu3,aA⟩ (nS _)))))
 ·replace aA:=ifN aA aU
  have hE:=oJ aA;subst hE
  try dsimp only[P0,Q0]at aD
  refine Or.inl ?_
  intro v12 k13 f14
  obtain⟨q15,aX,aD⟩:=j0 aD
  refine Tr.mono (z0l _ f14 fu3 (M0 aX)) ?_
  rintro _ kz16 ⟨rfl,vsz16,fz16,qz16⟩
  obtain⟨az16,cz16,rfl,rz16,sz16,lz16⟩:=j1.out (r:=Wp.int.toRp) fz16 qz16
  refine Tr.mono (A0l _ fz16 qz16) ?_
  rintro _ kz17 ⟨vsz17,fz17,qz17⟩
  obtain⟨az17,cz17,rfl,rz17,sz17,lz17⟩:=j1.out (r:=Wp.int.toRp) fz17 qz17
  have hE:=oJ aD;subst hE
  exact⟨az17,((b00 eqI (w02 C6 u3))).length,cz17,rfl,(New.from (j1.newPlain (r:=Wp.int) fz17 qz17 (I0e _)) aN)⟩
theorem O02 (h:Hp) (aK:List Value) (p0:l0) (rp0:K1.R h aK p0) (p1:Int) (ip1:H0 p1) (p2:Int) (ip2:H0 p2) (r:Int) (aA:Q7 p0 p1 p2=some r) :
  Tr Tryz.prog 154 #[.agg aK.toArray,.int .i64 p1,.int .i64 p2] h fun v h'=>v = .int .i64 r∧h'=h:=by
 obtain⟨aF,aG,aB,aN,aC,aL,rfl,rfl,aH,aJ,aD⟩:=F0 rp0
 obtain⟨rfl,aO⟩:=Sl.len aD
 unfold Q7 at aA
 dsimp only at aA
 refine Tr.forget (C2 (args:=[.agg #[.int .i64 aF,.int .i64 aG,.slice aB aL.length aC],.int .i64 p1,.int .i64 p2]) (fn:=Tryz.f154) rfl ?_)
 obtain⟨x1,aR,aA⟩:=j0 aA
 refine Tr.mono (z0c _ [.int .i64 aF,.int .i64 aG,.slice aB aL.length aC] (aF,aG,aL) (z0 aH aJ aD) p1 ip1 p2 ip2 _  aR) ?_
 rintro v3 k2 ⟨aX,aY,aZ,rfl,wx1⟩
 have aP:Sub h k2:=wx1.sub
 have aQ:=wx1.r
 obtain⟨rfl,bA⟩:=Sl.len aQ
 refine aI (fun aM=>?_) (fun aM=>?_)
 ·replace aA:=ifP aA aM
  have hE:=oJ aA;subst hE
  exact aI rfl aP
 ·replace aA:=ifN aA aM
  obtain⟨x5,aS,aA⟩:=j0 aA
  obtain⟨aT,aU,aV,aW⟩:=Sl.getI (r:=Wp.int.toRp) aQ aS (by decide)
  refine aI aT ?_
  obtain⟨rfl,bB⟩:=aW
  refine eX _ (aI aV ?_)
  have hE:=oJ aA;subst hE
  exact aI rfl aP
theorem b01 (h:Hp) (aW:List Value) (p0:l0) (rp0:K1.R h aW p0) (r:Bool) (aC:j7 p0=some r) :
  Tr Tryz.prog 136 #[.agg aW.toArray] h fun v h'=>v = .bool r∧h'=h:=by
 obtain⟨aJ,aK,aG,bK,aH,aL,rfl,rfl,aO,aP,aD⟩:=F0 rp0
 obtain⟨rfl,bL⟩:=Sl.len aD
 unfold j7 at aC
 dsimp only at aC
 refine Tr.forget (C2 (args:=[.agg #[.int .i64 aJ,.int .i64 aK,.slice aG aL.length aH]]) (fn:=Tryz.f136) rfl ?_)
 obtain⟨x1,bU,aC⟩:=j0 aC
 refine Tr.val (Y9 _ [.int .i64 aJ,.int .i64 aK,.slice aG aL.length aH] (aJ,aK,aL) (z0 aO aP aD) _  bU) ?_
 refine aI (fun aX=>?_) (fun aX=>?_)
 ·replace aC:=ifP aC aX
  have hE:=oJ aC;subst hE
  exact aI rfl (Sub.refl _)
 ·replace aC:=ifN aC aX
  obtain⟨X3,aY,aC⟩:=j0 aC
  refine eX { vars:=[13],boxes:=[],owns:=[],fuel:=true } (eX (fun vs os h'=>∃(u4:Int),vs.tail = [.int .i64 u4]∧os = []∧Sub h h'∧H0 u4∧T6 aL (H1 vs) u4=some X3) (eX (fun _ _=>0) ?_))
  refine aI (eX N0 ⟨0,rfl,rfl,(Sub.refl _),(by decide),aY⟩) ?_
  rintro v_0 m6 k5 ⟨u4,aZ,bA,bB,iu4,aA⟩
  cases aZ
  cases bA
  replace aA:T6 aL m6 u4=some X3:=aA
  obtain _|m6:=m6
  ·cases (show(none:Option _)=some X3 from aA)
  rw[T6.eq_2]at aA
  refine aI (fun bC=>?_) (fun bC=>?_)
  ·replace aA:=ifP aA bC
   obtain⟨x8,bV,aA⟩:=j0 aA
   obtain⟨bW,bX,bY,bZ⟩:=Sl.getI (r:=C1.toRp) (S0.mono bB aD) bV (by decide)
   refine aI bW ?_
   obtain⟨aQ,aR,aS,rfl,rfl,bM,bN,bO⟩:=M1 bZ
   try dsimp only at aA
   refine eX _ (aI bY ?_)
   obtain⟨x9,cA,aA⟩:=j0 aA
   obtain⟨qx9,vsx9,cC,fx9⟩:=Sl.cutI (r:=C1.toRp) (S0.mono bB aD) cA
   refine aI qx9 (eX vsx9 (aI cC ?_))
   intro vx9 hvx9 _
   obtain⟨cD,cE,rfl,bP⟩:=fx9 vx9 hvx9
   have cG:=(Sl.len bP).2
   obtain⟨X10,aT,aA⟩:=j0 aA
   refine eX { vars:=[24],boxes:=[],owns:=[],fuel:=true } (eX (fun vs os h'=>∃(u11:Int),vs.tail = [.int .i64 u11]∧os = []∧Sub k5 h'∧H0 u11∧S6 x9 aR aQ aS (H1 vs) u11=some X10) (eX (fun _ _=>0) ?_))
   refine aI (eX N0 ⟨0,rfl,rfl,(Sub.refl _),(by decide),aT⟩) ?_
   rintro v_0 m13 k12 ⟨u11,aU,aV,aF,iu11,aB⟩
   cases aU
   cases aV
   replace aB:S6 x9 aR aQ aS m13 u11=some X10:=aB
   obtain _|m13:=m13
   ·cases (show(none:Option _)=some X10 from aB)
   rw[S6.eq_2]at aB
   refine aI (fun aM=>?_) (fun aM=>?_)
   ·replace aB:=ifP aB aM
    obtain⟨x15,bD,aB⟩:=j0 aB
    obtain⟨bE,bQ,bF,bG⟩:=Sl.getI (r:=C1.toRp) (S0.mono aF bP) bD (by decide)
    refine aI bE ?_
    obtain⟨bR,bS,bT,rfl,rfl,bH,bI,bJ⟩:=M1 bG
    try dsimp only at aB
    refine eX _ (aI bF ?_)
    refine aI (fun aN=>?_) (fun aN=>?_)
    ·replace aB:=ifP aB aN
     have hE:=oJ aB;subst hE
     try dsimp only[G2,I2]at aA
     have hE:=oJ aA;subst hE
     try dsimp only[G2,I2]at aC
     have hE:=oJ aC;subst hE
     exact aI rfl (bB.trans aF)
    ·replace aB:=ifN aB aN
     refine aI rfl (aI (by repeat first|exact trivial|refine aI rfl ?_) (aI (by repeat first|exact trivial|refine aI rfl ?_) (eX m13 (aI ⟨(IntKind.i64.wrap (u11+1)),rfl,rfl,aF,(I0 _),aB⟩ (nS _)))))
   ·replace aB:=ifN aB aM
    have hE:=oJ aB;subst hE
    try dsimp only[P0,Q0]at aA
    refine aI rfl (aI (by repeat first|exact trivial|refine aI rfl ?_) (aI (by repeat first|exact trivial|refine aI rfl ?_) (eX m6 (aI ⟨(IntKind.i64.wrap (u4+1)),rfl,rfl,(bB.trans aF),(I0 _),aA⟩ (nS _)))))
  ·replace aA:=ifN aA bC
   have hE:=oJ aA;subst hE
   try dsimp only[P0,Q0]at aC
   have hE:=oJ aC;subst hE
   exact aI rfl bB
theorem u0b (h:Hp) (aO:List Value) (p0:l0) (rp0:K1.R h aO p0) (p1:Int) (ip1:H0 p1) (ap2:Option Addr) (np2 cp2:Nat) (p2:D0) (rp2:J0.R h [.slice ap2 np2 cp2] p2) (r:Int×Int) (aD:k00 p0 p1 p2=some r) :
  Tr Tryz.prog 196 #[.agg aO.toArray,.int .i64 p1,.slice ap2 np2 cp2] h fun v h'=>v = .tuple #[.int .i64 r.1,.int .i64 r.2]∧h'=h:=by
 obtain⟨aB,aC,aF,aT,aG,aJ,rfl,rfl,aL,aM,aH⟩:=F0 rp0
 obtain⟨rfl,aU⟩:=Sl.len aH
 obtain⟨rfl,lp2⟩:=Sl.len rp2
 unfold k00 at aD
 dsimp only at aD
 refine Tr.forget (C2 (args:=[.agg #[.int .i64 aB,.int .i64 aC,.slice aF aJ.length aG],.int .i64 p1,.slice ap2 p2.length cp2]) (fn:=Tryz.f196) rfl ?_)
 obtain⟨X1,aP,aD⟩:=j0 aD
 refine eX { vars:=[1,13],boxes:=[],owns:=[],fuel:=true } (eX (fun vs os h'=>∃(u2:Int) (u3:Int),vs.tail = [.int .i64 u2,.int .i64 u3]∧os = []∧Sub h h'∧H0 u2∧H0 u3∧T5 p2 aB aC aJ (H1 vs) u2 u3=some X1) (eX (fun _ _=>0) ?_))
 refine aI (eX N0 ⟨p1,0,rfl,rfl,(Sub.refl _),ip1,(by decide),aP⟩) ?_
 rintro v_0 v_1 m5 k4 ⟨u2,u3,aQ,aR,aN,iu2,iu3,aA⟩
 cases aQ
 cases aR
 replace aA:T5 p2 aB aC aJ m5 u2 u3=some X1:=aA
 obtain _|m5:=m5
 ·cases (show(none:Option _)=some X1 from aA)
 rw[T5.eq_2]at aA
 refine aI (fun aS=>?_) (fun aS=>?_)
 ·replace aA:=ifP aA aS
  obtain⟨x7,aV,aA⟩:=j0 aA
  obtain⟨aW,aX,aY,aZ⟩:=Sl.getI (r:=Wp.int.toRp) (J0.mono aN rp2) aV (by decide)
  refine aI aW ?_
  obtain⟨rfl,bA⟩:=aZ
  refine eX _ (aI aY ?_)
  obtain⟨x8,bB,aA⟩:=j0 aA
  refine Tr.val (O02 _ [.int .i64 aB,.int .i64 aC,.slice aF aJ.length aG] (aB,aC,aJ) (z0 aL aM (S0.mono aN aH)) u2 iu2 x7 bA _  bB) ?_
  obtain⟨q9,bC,aA⟩:=j0 aA
  have bD:H0 x8:=M0 bC
  refine aI (fun aK=>?_) (fun aK=>?_)
  ·replace aA:=ifP aA aK
   have hE:=oJ aA;subst hE
   try dsimp only[G2,I2]at aD
   have hE:=oJ aD;subst hE
   exact aI rfl aN
  ·replace aA:=ifN aA aK
   refine aI rfl (aI (by repeat first|exact trivial|refine aI rfl ?_) (aI (by repeat first|exact trivial|refine aI rfl ?_) (eX m5 (aI ⟨x8,(IntKind.i64.wrap (u3+1)),rfl,rfl,aN,bD,(I0 _),aA⟩ (nS _)))))
 ·replace aA:=ifN aA aS
  have hE:=oJ aA;subst hE
  try dsimp only[P0,Q0]at aD
  have hE:=oJ aD;subst hE
  exact aI rfl aN
theorem H09 (h:Hp) (bB:List Value) (p0:B0) (rp0:E1.R h bB p0) (bC:List Value) (p1:l0) (rp1:K1.R h bC p1) (r:Int×Int) (aQ:F8 p0 p1=some r) :
  Tr Tryz.prog 239 #[.agg bB.toArray,.agg bC.toArray] h fun v h'=>v = .tuple #[.int .i64 r.1,.int .i64 r.2]∧h'=h:=by
 obtain⟨aG,aH,bR,aJ,aK,rfl,rfl,aX,aL⟩:=D1 rp0
 obtain⟨rfl,bS⟩:=Sl.len aL
 obtain⟨aB,aC,aM,bT,aN,aF,rfl,rfl,aR,aS,aO⟩:=F0 rp1
 obtain⟨rfl,bU⟩:=Sl.len aO
 unfold F8 at aQ
 dsimp only at aQ
 refine Tr.forget (C2 (args:=[.agg #[.int .i64 aG,.slice aH aK.length aJ],.agg #[.int .i64 aB,.int .i64 aC,.slice aM aF.length aN]]) (fn:=Tryz.f239) rfl ?_)
 obtain⟨X1,bD,aQ⟩:=j0 aQ
 refine eX { vars:=[6],boxes:=[],owns:=[],fuel:=true } (eX (fun vs os h'=>∃(u2:Int),vs.tail = [.int .i64 u2]∧os = []∧Sub h h'∧H0 u2∧Y3 aC aG aK aB aF (H1 vs) u2=some X1) (eX (fun _ _=>0) ?_))
 refine aI (eX N0 ⟨0,rfl,rfl,(Sub.refl _),(by decide),bD⟩) ?_
 rintro v_0 m4 k3 ⟨u2,bE,bF,bG,iu2,aD⟩
 cases bE
 cases bF
 replace aD:Y3 aC aG aK aB aF m4 u2=some X1:=aD
 obtain _|m4:=m4
 ·cases (show(none:Option _)=some X1 from aD)
 rw[Y3.eq_2]at aD
 obtain⟨x5,bW,aD⟩:=j0 aD
 refine eX (.bool x5) (aI (fun q=>Y5 _ [.int .i64 aG,.slice aH aK.length aJ] (aG,aK) (O0 aX (T1.mono bG aL)) _  (Q2 bW q)) ?_)
 obtain⟨x6,bX,aD⟩:=j0 aD
 refine eX (.bool x6) (aI (fun q=>a01 _ [.int .i64 aB,.int .i64 aC,.slice aM aF.length aN] (aB,aC,aF) (z0 aR aS (S0.mono bG aO)) _  (Q2 bX q)) ?_)
 refine aI (fun bH=>?_) (fun bH=>?_)
 ·replace aD:=ifP aD bH
  obtain⟨X8,bI,aD⟩:=j0 aD
  refine eX { vars:=[7],boxes:=[],owns:=[],fuel:=true } (eX (fun vs os h'=>∃(u9:Int),vs.tail = [.int .i64 u9]∧os = []∧Sub k3 h'∧H0 u9∧H5 aK aB aC aF u2 (H1 vs) u9=some X8) (eX (fun _ _=>0) ?_))
  refine aI (eX N0 ⟨0,rfl,rfl,(Sub.refl _),(by decide),bI⟩) ?_
  rintro v_0 m11 k10 ⟨u9,bJ,bK,bA,iu9,aA⟩
  cases bJ
  cases bK
  replace aA:H5 aK aB aC aF u2 m11 u9=some X8:=aA
  obtain _|m11:=m11
  ·cases (show(none:Option _)=some X8 from aA)
  rw[H5.eq_2]at aA
  refine aI (fun aU=>?_) (fun aU=>?_)
  ·replace aA:=ifP aA aU
   refine Or.inr (Or.inr (Or.inr (Or.inl (aI (aI (by kernel_rfl) (by kernel_rfl)) ?_))))
   obtain⟨x13,bL,aA⟩:=j0 aA
   obtain⟨bM,bV,bN,aV⟩:=Sl.getI (r:=J0.toRp) (T1.mono (bG.trans bA) aL) bL (by decide)
   obtain⟨aY,bY,aZ,rfl⟩:=Wp.slice_cell aV
   obtain⟨rfl,bZ⟩:=Sl.len aV
   refine Or.inl (eX (.hel (.slice aH aK.length aJ) u9 1 0) (aI ?_ ?_))
   ·intro k14 s15
    exact aI bM (aI rfl (aI rfl rfl))
   refine Or.inl (eX (.val (.slice aY x13.length aZ)) (aI ?_ ?_))
   ·intro k16 s17
    exact eX _ (aI (A8.up s17 bN) (aI rfl (aI rfl rfl)))
   obtain⟨x18,bO,aA⟩:=j0 aA
   obtain⟨aP,aT⟩:=x18
   try dsimp only at aA
   obtain⟨q19,bP,aA⟩:=j0 aA
   have bQ:H0 aP:=M0 bP
   refine Or.inl (eX (.val (.tuple #[.int .i64 aP,.bool aT])) (aI ?_ ?_))
   ·intro k20 s21
    exact Tr.val (B0d _ [.int .i64 aB,.int .i64 aC,.slice aM aF.length aN] (aB,aC,aF) (z0 aR aS (S0.mono ((bG.trans bA).trans s21) aO)) u2 iu2 aY x13.length aZ x13 (J0.mono s21 aV) _ bO) (aI rfl (aI rfl rfl))
   refine Or.inl (eX (.val (.int .i64 aP)) (aI ?_ ?_))
   ·intro k22 s23
    exact aI rfl (aI rfl rfl)
   refine Or.inl (eX (.val (.bool aT)) (aI ?_ ?_))
   ·intro k24 s25
    exact aI rfl (aI rfl rfl)
   intro k26 s27
   refine aI (fun aW=>?_) (fun aW=>?_)
   ·replace aA:=ifP aA aW
    have hE:=oJ aA;subst hE
    try dsimp only[G2,I2]at aD
    have hE:=oJ aD;subst hE
    try dsimp only[G2,I2]at aQ
    have hE:=oJ aQ;subst hE
    exact aI rfl ((bG.trans bA).trans s27)
   ·replace aA:=ifN aA aW
    refine aI rfl (aI (by repeat first|exact trivial|refine aI rfl ?_) (aI (by repeat first|exact trivial|refine aI rfl ?_) (eX m11 (aI ⟨(IntKind.i64.wrap (u9+1)),rfl,rfl,(bA.trans s27),(I0 _),aA⟩ (nS _)))))
  ·replace aA:=ifN aA aU
   have hE:=oJ aA;subst hE
   try dsimp only[P0,Q0]at aD
   refine aI rfl (aI (by repeat first|exact trivial|refine aI rfl ?_) (aI (by repeat first|exact trivial|refine aI rfl ?_) (eX m4 (aI ⟨(IntKind.i64.wrap (u2+1)),rfl,rfl,(bG.trans bA),(I0 _),aD⟩ (nS _)))))
 ·replace aD:=ifN aD bH
  have hE:=oJ aD;subst hE
  try dsimp only[P0,Q0]at aQ
  have hE:=oJ aQ;subst hE
  exact aI rfl bG
theorem I09 (h:Hp) (aZ:List Value) (p0:B0) (rp0:E1.R h aZ p0) (bA:List Value) (p1:l0) (rp1:K1.R h bA p1) (r:Int×Int) (aD:G8 p0 p1=some r) :
  Tr Tryz.prog 242 #[.agg aZ.toArray,.agg bA.toArray] h fun v h'=>v = .tuple #[.int .i64 r.1,.int .i64 r.2]∧h'=h:=by
 obtain⟨aR,aN,bT,aO,aH,rfl,rfl,aV,aJ⟩:=D1 rp0
 obtain⟨rfl,bU⟩:=Sl.len aJ
 obtain⟨aB,aC,aK,bV,aL,aG,rfl,rfl,aP,aQ,aM⟩:=F0 rp1
 obtain⟨rfl,bW⟩:=Sl.len aM
 unfold G8 at aD
 dsimp only at aD
 refine Tr.forget (C2 (args:=[.agg #[.int .i64 aR,.slice aN aH.length aO],.agg #[.int .i64 aB,.int .i64 aC,.slice aK aG.length aL]]) (fn:=Tryz.f242) rfl ?_)
 obtain⟨x1,bY,aD⟩:=j0 aD
 refine Tr.val (Z5 _ [.int .i64 aR,.slice aN aH.length aO] (aR,aH) (O0 aV aJ) _  bY) ?_
 obtain⟨x2,bZ,aD⟩:=j0 aD
 refine eX (.bool x2) (aI (fun q=>b01 _ [.int .i64 aB,.int .i64 aC,.slice aK aG.length aL] (aB,aC,aG) (z0 aP aQ aM) _  (Q2 bZ q)) ?_)
 refine aI (fun bB=>?_) (fun bB=>?_)
 ·replace aD:=ifP aD bB
  have hE:=oJ aD;subst hE
  exact aI rfl (Sub.refl _)
 ·replace aD:=ifN aD bB
  obtain⟨X4,bC,aD⟩:=j0 aD
  refine eX { vars:=[6],boxes:=[],owns:=[],fuel:=true } (eX (fun vs os h'=>∃(u5:Int),vs.tail = [.int .i64 u5]∧os = []∧Sub h h'∧H0 u5∧J5 aC aH aB aG (H1 vs) u5=some X4) (eX (fun _ _=>0) ?_))
  refine aI (eX N0 ⟨0,rfl,rfl,(Sub.refl _),(by decide),bC⟩) ?_
  rintro v_0 m7 k6 ⟨u5,bD,bE,cA,iu5,aF⟩
  cases bD
  cases bE
  replace aF:J5 aC aH aB aG m7 u5=some X4:=aF
  obtain _|m7:=m7
  ·cases (show(none:Option _)=some X4 from aF)
  rw[J5.eq_2]at aF
  refine aI (fun bF=>?_) (fun bF=>?_)
  ·replace aF:=ifP aF bF
   obtain⟨X9,bG,aF⟩:=j0 aF
   refine eX { vars:=[35],boxes:=[],owns:=[],fuel:=true } (eX (fun vs os h'=>∃(u10:Int),vs.tail = [.int .i64 u10]∧os = []∧Sub k6 h'∧H0 u10∧I5 aH aB aC aG u5 (H1 vs) u10=some X9) (eX (fun _ _=>0) ?_))
   refine aI (eX N0 ⟨0,rfl,rfl,(Sub.refl _),(by decide),bG⟩) ?_
   rintro v_0 m12 k11 ⟨u10,bH,bI,aW,iu10,aA⟩
   cases bH
   cases bI
   replace aA:I5 aH aB aC aG u5 m12 u10=some X9:=aA
   obtain _|m12:=m12
   ·cases (show(none:Option _)=some X9 from aA)
   rw[I5.eq_2]at aA
   refine aI (fun aS=>?_) (fun aS=>?_)
   ·replace aA:=ifP aA aS
    obtain⟨x14,bJ,aA⟩:=j0 aA
    obtain⟨bK,bX,bL,aT⟩:=Sl.getI (r:=J0.toRp) (T1.mono (cA.trans aW) aJ) bJ (by decide)
    refine aI bK ?_
    obtain⟨bM,cC,bN,rfl⟩:=Wp.slice_cell aT
    obtain⟨rfl,cD⟩:=Sl.len aT
    refine eX _ (aI bL ?_)
    obtain⟨x15,bO,aA⟩:=j0 aA
    obtain⟨aX,aY⟩:=x15
    try dsimp only at aA
    refine Tr.val (u0b _ [.int .i64 aB,.int .i64 aC,.slice aK aG.length aL] (aB,aC,aG) (z0 aP aQ (S0.mono (cA.trans aW) aM)) u5 iu5 bM x14.length bN x14 aT _  bO) ?_
    obtain⟨q16,bP,aA⟩:=j0 aA
    have bQ:H0 aX:=M0 bP
    obtain⟨q17,bR,aA⟩:=j0 aA
    have bS:H0 aY:=M0 bR
    refine aI (fun aU=>?_) (fun aU=>?_)
    ·replace aA:=ifP aA aU
     have hE:=oJ aA;subst hE
     try dsimp only[G2,I2]at aF
     have hE:=oJ aF;subst hE
     try dsimp only[G2,I2]at aD
     have hE:=oJ aD;subst hE
     exact aI rfl (cA.trans aW)
    ·replace aA:=ifN aA aU
     refine aI rfl (aI (by repeat first|exact trivial|refine aI rfl ?_) (aI (by repeat first|exact trivial|refine aI rfl ?_) (eX m12 (aI ⟨(IntKind.i64.wrap (u10+1)),rfl,rfl,aW,(I0 _),aA⟩ (nS _)))))
   ·replace aA:=ifN aA aS
    have hE:=oJ aA;subst hE
    try dsimp only[P0,Q0]at aF
    refine aI rfl (aI (by repeat first|exact trivial|refine aI rfl ?_) (aI (by repeat first|exact trivial|refine aI rfl ?_) (eX m7 (aI ⟨(IntKind.i64.wrap (u5+1)),rfl,rfl,(cA.trans aW),(I0 _),aF⟩ (nS _)))))
  ·replace aF:=ifN aF bF
   have hE:=oJ aF;subst hE
   try dsimp only[P0,Q0]at aD
   have hE:=oJ aD;subst hE
   exact aI rfl cA
theorem j05 (h:Hp) (ap0:Option Addr) (np0 cp0:Nat) (p0:(List ByteArray)) (rp0:(Wp.slice Wp.str).R h [.slice ap0 np0 cp0] p0) (r:ByteArray) (aA:J00 p0=some r) :
  Tr Tryz.prog 52 #[.slice ap0 np0 cp0] h fun v h'=>v = .string r∧h'=h:=by
 obtain⟨rfl,lp0⟩:=Sl.len rp0
 unfold J00 at aA
 refine Tr.forget (C2 (args:=[.slice ap0 p0.length cp0]) (fn:=Tryz.f52) rfl ?_)
 obtain⟨x1,aB,aA⟩:=j0 aA
 refine Tr.val (q0b _ ap0 p0.length cp0 p0 rp0 (⟨#[32]⟩:ByteArray) (by decide) (⟨#[]⟩:ByteArray) (by decide) _  aB) ?_
 obtain⟨q2,aC,aA⟩:=j0 aA
 have aD:x1.size≤9223372036854775807:=M0 aC
 have hE:=oJ aA;subst hE
 exact aI rfl (Sub.refl _)
end Go.Proofs.YtcakocbgbelmeaaGreat
