/- What the law on GroupLine does. -/
import Derived.Test.YtcakocbgbelmeaaGreatKGroupLine
import Derived.Test.YtcakocbgbelmeaaGreatPart17
namespace Go.Proofs.YtcakocbgbelmeaaGreat
open Go.H
set_option linter.unusedVariables false
set_option linter.unusedSimpArgs false
set_option maxRecDepth 10000
theorem R0f (h:Hp) (ds0:List Value) (y0:B0) (hy0:E1.R h ds0 y0) :
  Tr Tryz.prog 3 #[.agg ds0.toArray] h fun v h'=>v = .bool true∧Sub h h':=by
 obtain⟨x0p0,a1p0,n1p0,c1p0,x1p0,rfl,rfl,h0p0,h1p0⟩:=D1 hy0
 refine C2 (args:=[.agg #[.int .i64 x0p0,.slice a1p0 n1p0 c1p0]]) (fn:=Tryz.f3) rfl ?_
 refine Tr.val (L0c _ [.int .i64 x0p0,.slice a1p0 n1p0 c1p0] (x0p0,x1p0) (1048576) (O0 h0p0 h1p0) ⟨by omega,by omega⟩) ?_
 refine aI (fun hc=>aI rfl (Sub.refl _)) (fun hc=>?_)
 have hz0:0≤szR (1048576) (J8 (x0p0,x1p0):Nat):=by simpa using hc
 have hq0:=U0k hz0
 have hm0:J8 (x0p0,x1p0)≤1048576:=by omega
 refine Tr.mono (j03 _ [.int .i64 x0p0,.slice a1p0 n1p0 c1p0] (x0p0,x1p0) (O0 h0p0 h1p0) hm0) ?_
 rintro v1 k1 ⟨cs1,rfl,n1⟩
 obtain⟨x0w,a1w,n1w,c1w,x1w,rfl,ezw,_,_⟩:=D1 n1.r
 refine Tr.val (M0d _ [.int .i64 x0w,.slice a1w n1w c1w] (x0p0,x1p0) n1.r hm0) ?_
 refine Tr.mono (j03 _ [.int .i64 x0p0,.slice a1p0 n1p0 c1p0] (x0p0,x1p0) (E1.mono n1.sub (O0 h0p0 h1p0)) hm0) ?_
 rintro v2 kx0 ⟨csx0,rfl,NX0⟩
 have sx0:=NX0.sub
 obtain⟨x0x0,a1x0,n1x0,c1x0,x1x0,rfl,ezx0,_,_⟩:=D1 NX0.r
 refine Tr.val (N0d _ [.int .i64 x0x0,.slice a1x0 n1x0 c1x0] (x0p0,x1p0) NX0.r hm0) ?_
 refine aI (fun hc=>?_) (fun hc=>?_)
 ·exact absurd hc (by simp)
 clear hc
 refine Or.inr (Or.inl (aI (aI (by kernel_rfl) (by kernel_rfl)) ?_))
 refine eX (fun v hh=>∃ cs,v = .agg cs.toArray∧E1.R hh cs (x0p0,x1p0)) (aI (fun v ha hb s hh=>by obtain⟨cs,e,q⟩:=hh;exact⟨cs,e,E1.mono s q⟩) (aI ?_ ?_))
 ·intro h3 s3
  refine Tr.mono (j03 h3 [.int .i64 x0p0,.slice a1p0 n1p0 c1p0] (x0p0,x1p0) (E1.mono ((n1.sub.trans sx0).trans s3) (O0 h0p0 h1p0)) hm0) ?_
  rintro v h4 ⟨cs4,rfl,n4⟩
  exact aI rfl (aI n4.sub ⟨cs4,rfl,n4.r⟩)
 refine eX (fun v hh=>v = .bool true) (aI (fun _ _ _ _ e=>e) (aI ?_ ?_))
 ·rintro h3 s3 v ⟨cs4,rfl,q⟩
  obtain⟨x0z,a1z,n1z,c1z,x1z,rfl,ez,_,_⟩:=D1 q
  refine Tr.mono (M0c h3 [.int .i64 x0x0,.slice a1x0 n1x0 c1x0] [.int .i64 x0z,.slice a1z n1z c1z] (x0p0,x1p0) (x0p0,x1p0) (E1.mono s3 NX0.r) q) ?_
  rintro v h4 ⟨rfl,rfl⟩
  exact aI rfl (aI (Sub.refl _) (by simp))
 refine eX (fun v hh=>v = .bool false) (aI (fun _ _ _ _ e=>e) (aI ?_ ?_))
 ·rintro h3 s3 v rfl
  exact aI rfl (aI (Sub.refl _) rfl)
 rintro ke0 te0 v9 rfl v8 rfl v7 f7
 refine aI (fun hc=>?_) (fun hc=>?_)
 ·cases hc
 clear hc
 exact aI rfl ((n1.sub.trans sx0).trans te0)
end Go.Proofs.YtcakocbgbelmeaaGreat
