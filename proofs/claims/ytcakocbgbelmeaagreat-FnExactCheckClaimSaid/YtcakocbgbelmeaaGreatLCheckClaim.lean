/- What the law on CheckClaim does. -/
import Derived.Test.YtcakocbgbelmeaaGreatKCheckClaim
import Derived.Test.YtcakocbgbelmeaaGreatPart17
namespace Go.Proofs.YtcakocbgbelmeaaGreat
open Go.H
set_option linter.unusedVariables false
set_option linter.unusedSimpArgs false
set_option maxRecDepth 10000
theorem h0d(h:Hp)(ds0:List Value)(y0:S00)(hy0:u01.R h ds0 y0):
  Tr Tryz.prog 4 #[.agg ds0.toArray] h fun v h'=>v = .bool true∧Sub h h':=by
 obtain⟨x0p0,x1p0,a2p0,n2p0,c2p0,x2p0,a3p0,n3p0,c3p0,x3p0,a4p0,n4p0,c4p0,x4p0,x5_0p0,x5_1p0,a5_2p0,n5_2p0,c5_2p0,x5_2p0,x6p0,rfl,rfl,h0p0,h1p0,h2p0,h3p0,h4p0,h5_0p0,h5_1p0,h5_2p0,h6p0⟩:=n01 hy0
 refine Y1 (args:=[.agg #[.int .i64 x0p0,.int .i64 x1p0,.slice a2p0 n2p0 c2p0,.slice a3p0 n3p0 c3p0,.slice a4p0 n4p0 c4p0,.int .i64 x5_0p0,.int .i64 x5_1p0,.slice a5_2p0 n5_2p0 c5_2p0,.int .i64 x6p0]]) (fn:=Tryz.f4) rfl ?_
 refine Tr.val (r0n _ [.int .i64 x0p0,.int .i64 x1p0,.slice a2p0 n2p0 c2p0,.slice a3p0 n3p0 c3p0,.slice a4p0 n4p0 c4p0,.int .i64 x5_0p0,.int .i64 x5_1p0,.slice a5_2p0 n5_2p0 c5_2p0,.int .i64 x6p0] (x0p0,x1p0,x2p0,x3p0,x4p0,(x5_0p0,x5_1p0,x5_2p0),x6p0) (1048576) (J06 h0p0 h1p0 h2p0 h3p0 h4p0 h5_0p0 h5_1p0 h5_2p0 h6p0) ⟨by omega,by omega⟩) ?_
 refine aI (fun hc=>aI rfl (Sub.refl _)) (fun hc=>?_)
 have hz0:0≤szR (1048576) (X02 (x0p0,x1p0,x2p0,x3p0,x4p0,(x5_0p0,x5_1p0,x5_2p0),x6p0):Nat):=by simpa using hc
 have hq0:=s09 hz0
 have hm0:X02 (x0p0,x1p0,x2p0,x3p0,x4p0,(x5_0p0,x5_1p0,x5_2p0),x6p0)≤1048576:=by omega
 refine Tr.mono (h0c _ [.int .i64 x0p0,.int .i64 x1p0,.slice a2p0 n2p0 c2p0,.slice a3p0 n3p0 c3p0,.slice a4p0 n4p0 c4p0,.int .i64 x5_0p0,.int .i64 x5_1p0,.slice a5_2p0 n5_2p0 c5_2p0,.int .i64 x6p0] (x0p0,x1p0,x2p0,x3p0,x4p0,(x5_0p0,x5_1p0,x5_2p0),x6p0) (J06 h0p0 h1p0 h2p0 h3p0 h4p0 h5_0p0 h5_1p0 h5_2p0 h6p0) hm0) ?_
 rintro v1 k1 ⟨cs1,rfl,n1⟩
 obtain⟨x0w,x1w,a2w,n2w,c2w,x2w,a3w,n3w,c3w,x3w,a4w,n4w,c4w,x4w,x5_0w,x5_1w,a5_2w,n5_2w,c5_2w,x5_2w,x6w,rfl,ezw,_,_,_,_,_,_,_,_,_⟩:=n01 n1.r
 refine Tr.val (f0c _ [.int .i64 x0w,.int .i64 x1w,.slice a2w n2w c2w,.slice a3w n3w c3w,.slice a4w n4w c4w,.int .i64 x5_0w,.int .i64 x5_1w,.slice a5_2w n5_2w c5_2w,.int .i64 x6w] (x0p0,x1p0,x2p0,x3p0,x4p0,(x5_0p0,x5_1p0,x5_2p0),x6p0) n1.r hm0) ?_
 refine Tr.mono (h0c _ [.int .i64 x0p0,.int .i64 x1p0,.slice a2p0 n2p0 c2p0,.slice a3p0 n3p0 c3p0,.slice a4p0 n4p0 c4p0,.int .i64 x5_0p0,.int .i64 x5_1p0,.slice a5_2p0 n5_2p0 c5_2p0,.int .i64 x6p0] (x0p0,x1p0,x2p0,x3p0,x4p0,(x5_0p0,x5_1p0,x5_2p0),x6p0) (u01.mono n1.sub (J06 h0p0 h1p0 h2p0 h3p0 h4p0 h5_0p0 h5_1p0 h5_2p0 h6p0)) hm0) ?_
 rintro v2 kx0 ⟨csx0,rfl,NX0⟩
 have sx0:=NX0.sub
 obtain⟨x0x0,x1x0,a2x0,n2x0,c2x0,x2x0,a3x0,n3x0,c3x0,x3x0,a4x0,n4x0,c4x0,x4x0,x5_0x0,x5_1x0,a5_2x0,n5_2x0,c5_2x0,x5_2x0,x6x0,rfl,ezx0,_,_,_,_,_,_,_,_,_⟩:=n01 NX0.r
 refine Tr.val (g0c _ [.int .i64 x0x0,.int .i64 x1x0,.slice a2x0 n2x0 c2x0,.slice a3x0 n3x0 c3x0,.slice a4x0 n4x0 c4x0,.int .i64 x5_0x0,.int .i64 x5_1x0,.slice a5_2x0 n5_2x0 c5_2x0,.int .i64 x6x0] (x0p0,x1p0,x2p0,x3p0,x4p0,(x5_0p0,x5_1p0,x5_2p0),x6p0) NX0.r hm0) ?_
 refine aI (fun hc=>?_) (fun hc=>?_)
 ·exact absurd hc (by simp)
 clear hc
 refine Or.inr (Or.inl (aI (aI (by kernel_rfl) (by kernel_rfl)) ?_))
 refine eX (fun v hh=>∃ cs,v = .agg cs.toArray∧u01.R hh cs (x0p0,x1p0,x2p0,x3p0,x4p0,(x5_0p0,x5_1p0,x5_2p0),x6p0)) (aI (fun v ha hb s hh=>by obtain⟨cs,e,q⟩:=hh;exact⟨cs,e,u01.mono s q⟩) (aI ?_ ?_))
 ·intro h3 s3
  refine Tr.mono (h0c h3 [.int .i64 x0p0,.int .i64 x1p0,.slice a2p0 n2p0 c2p0,.slice a3p0 n3p0 c3p0,.slice a4p0 n4p0 c4p0,.int .i64 x5_0p0,.int .i64 x5_1p0,.slice a5_2p0 n5_2p0 c5_2p0,.int .i64 x6p0] (x0p0,x1p0,x2p0,x3p0,x4p0,(x5_0p0,x5_1p0,x5_2p0),x6p0) (u01.mono ((n1.sub.trans sx0).trans s3) (J06 h0p0 h1p0 h2p0 h3p0 h4p0 h5_0p0 h5_1p0 h5_2p0 h6p0)) hm0) ?_
  rintro v h4 ⟨cs4,rfl,n4⟩
  exact aI rfl (aI n4.sub ⟨cs4,rfl,n4.r⟩)
 refine eX (fun v hh=>v = .bool true) (aI (fun _ _ _ _ e=>e) (aI ?_ ?_))
 ·rintro h3 s3 v ⟨cs4,rfl,q⟩
  obtain⟨x0z,x1z,a2z,n2z,c2z,x2z,a3z,n3z,c3z,x3z,a4z,n4z,c4z,x4z,x5_0z,x5_1z,a5_2z,n5_2z,c5_2z,x5_2z,x6z,rfl,ez,_,_,_,_,_,_,_,_,_⟩:=n01 q
  refine Tr.mono (v0n h3 [.int .i64 x0x0,.int .i64 x1x0,.slice a2x0 n2x0 c2x0,.slice a3x0 n3x0 c3x0,.slice a4x0 n4x0 c4x0,.int .i64 x5_0x0,.int .i64 x5_1x0,.slice a5_2x0 n5_2x0 c5_2x0,.int .i64 x6x0] [.int .i64 x0z,.int .i64 x1z,.slice a2z n2z c2z,.slice a3z n3z c3z,.slice a4z n4z c4z,.int .i64 x5_0z,.int .i64 x5_1z,.slice a5_2z n5_2z c5_2z,.int .i64 x6z] (x0p0,x1p0,x2p0,x3p0,x4p0,(x5_0p0,x5_1p0,x5_2p0),x6p0) (x0p0,x1p0,x2p0,x3p0,x4p0,(x5_0p0,x5_1p0,x5_2p0),x6p0) (u01.mono s3 NX0.r) q) ?_
  rintro v h4 ⟨rfl,rfl⟩
  exact aI rfl (aI (Sub.refl _) (by simp))
 refine eX (fun v hh=>v = .bool false) (aI (fun _ _ _ _ e=>e) (aI ?_ ?_))
 ·rintro h3 s3 v rfl
  exact aI rfl (aI (Sub.refl _) rfl)
 rintro ke0 te0 v9 rfl v8 rfl v7 f7
 refine aI (fun hc=>?_) (fun hc=>?_)
 ·cases hc
 clear hc
 exact aI rfl ((n1.sub.trans sx0).trans te0)
end Go.Proofs.YtcakocbgbelmeaaGreat
