/- What the law on SubgroupLine does. -/
import Derived.Test.YtkjhghloldgioaaGreatKSubgroupLine
import Derived.Test.YtkjhghloldgioaaGreatPart19
namespace Go.Proofs.YtkjhghloldgioaaGreat
open Go.H
set_option linter.unusedVariables false
set_option linter.unusedSimpArgs false
set_option maxRecDepth 10000
theorem C0a(h:Hp)(aB:List Value)(y0:j0)(aF:Z0.R h aB y0):
  Tr Tryz.prog 8 #[.agg aB.toArray] h λv h'=>v = .bool true/\Sub h h':=by
 obtain⟨x0p0,x1p0,a2p0,n2p0,c2p0,x2p0,rfl,rfl,h0p0,h1p0,h2p0⟩:=H0 aF
 refine O2 (args:=[.agg #[.int .i64 x0p0,.int .i64 x1p0,.slice a2p0 n2p0 c2p0]]) (fn:=Tryz.f8) rfl ?_
 refine Tr.val (I0n _ [.int .i64 x0p0,.int .i64 x1p0,.slice a2p0 n2p0 c2p0] (x0p0,x1p0,x2p0) (1048576) (B0 h0p0 h1p0 h2p0) ⟨by omega,by omega⟩) ?_
 refine aI (λhc=>aI rfl (Sub.refl _)) (λhc=>?_)
 have aG:0<=szR (1048576) (p05 (x0p0,x1p0,x2p0):Nat):=by simpa using hc
 have aL:=y0o aG
 have aA:p05 (x0p0,x1p0,x2p0)<=1048576:=by omega
 refine Tr.mono (Q0b _ [.int .i64 x0p0,.int .i64 x1p0,.slice a2p0 n2p0 c2p0] (x0p0,x1p0,x2p0) (B0 h0p0 h1p0 h2p0) aA) ?_
 rintro v1 k1 ⟨aM,rfl,n1⟩
 obtain⟨x0w,x1w,a2w,n2w,c2w,x2w,rfl,ezw,_,_,_⟩:=H0 n1.r
 refine Tr.val (s09 _ [.int .i64 x0w,.int .i64 x1w,.slice a2w n2w c2w] (x0p0,x1p0,x2p0) n1.r aA) ?_
 refine Tr.mono (Q0b _ [.int .i64 x0p0,.int .i64 x1p0,.slice a2p0 n2p0 c2p0] (x0p0,x1p0,x2p0) (Z0.mono n1.sub (B0 h0p0 h1p0 h2p0)) aA) ?_
 rintro v2 aN ⟨aH,rfl,NX0⟩
 have aC:=NX0.sub
 obtain⟨x0x0,x1x0,a2x0,n2x0,c2x0,x2x0,rfl,aJ,_,_,_⟩:=H0 NX0.r
 refine Tr.val (t09 _ [.int .i64 x0x0,.int .i64 x1x0,.slice a2x0 n2x0 c2x0] (x0p0,x1p0,x2p0) NX0.r aA) ?_
 refine aI (λhc=>?_) (λhc=>?_)
 ·exact absurd hc (by simp)
 clear hc
 refine Or.inr (Or.inr (Or.inr (Or.inl (aI (aI (by kernel_rfl) (by kernel_rfl)) ?_))))
 refine Or.inr (eX (λv hh=>∃ cs,v = .agg cs.toArray/\Z0.R hh cs (x0p0,x1p0,x2p0)) (aI (λv ha hb s hh=>by obtain⟨cs,e,q⟩:=hh;exact⟨cs,e,Z0.mono s q⟩) (aI ?_ ?_)))
 ·intro h3 s3
  refine Tr.mono (Q0b h3 [.int .i64 x0p0,.int .i64 x1p0,.slice a2p0 n2p0 c2p0] (x0p0,x1p0,x2p0) (Z0.mono ((n1.sub.trans aC).trans s3) (B0 h0p0 h1p0 h2p0)) aA) ?_
  rintro v h4 ⟨aD,rfl,n4⟩
  exact aI Y02 (aI n4.sub ⟨aD,rfl,n4.r⟩)
 refine Or.inr (eX (λv hh=>v = .bool true) (aI (λ_ _ _ _ e=>e) (aI ?_ ?_)))
 ·rintro h3 s3 v ⟨aD,rfl,q⟩
  obtain⟨x0z,x1z,a2z,n2z,c2z,x2z,rfl,ez,_,_,_⟩:=H0 q
  refine Tr.mono (K0n h3 [.int .i64 x0x0,.int .i64 x1x0,.slice a2x0 n2x0 c2x0] [.int .i64 x0z,.int .i64 x1z,.slice a2z n2z c2z] (x0p0,x1p0,x2p0) (x0p0,x1p0,x2p0) (Z0.mono s3 NX0.r) q) ?_
  rintro v h4 ⟨rfl,rfl⟩
  exact aI Y02 (aI (Sub.refl _) (by simp))
 refine Or.inr (eX (λv hh=>v = .bool false) (aI (λ_ _ _ _ e=>e) (aI ?_ ?_)))
 ·rintro h3 s3 v rfl
  exact aI Y02 (aI (Sub.refl _) rfl)
 rintro aO aK v9 rfl v8 rfl v7 f7
 refine aI (λhc=>?_) (λhc=>?_)
 ·cases hc
 clear hc
 exact aI rfl ((n1.sub.trans aC).trans aK)
end Go.Proofs.YtkjhghloldgioaaGreat
