/- Texts of the claim, joined: The walks of batch h1; The walks of batch h2; The walks of batch i1; The walks of batch i3; The walks of batch g2; The walks of batch g3; The walks of batch g4. -/
import Derived.Test.YtfdlgbfeceodeaaGreatPart18
import Derived.Test.YtfdlgbfeceodeaaGreatChecked
import Derived.Test.YtfdlgbfeceodeaaGreatH35
import Derived.Test.YtfdlgbfeceodeaaGreatPart25
import Derived.Test.YtfdlgbfeceodeaaGreatSE
import Derived.Test.YtfdlgbfeceodeaaGreatPart21
import Derived.Test.YtfdlgbfeceodeaaGreatH40
import Derived.Test.YtfdlgbfeceodeaaGreatH41
namespace Go.Proofs.YtfdlgbfeceodeaaGreat
open Go.H
set_option linter.unusedVariables false
set_option linter.unusedSimpArgs false
set_option maxRecDepth 10000
theorem d0a (h : Hp) (p0 : Int) (ip0 : D0 p0) (r : l0 × Bool) (aA : P9 p0 = some r) :
  Tr Tryz.prog 186 #[.int .i64 p0] h fun v h' => ∃ (cs0 : List Value), v = .tuple #[.agg cs0.toArray, .bool r.2] ∧ W0.R h' cs0 r.1 ∧ Sub h h' := by
 unfold P9 at aA
 refine Q2 (args := [.int .i64 p0]) (fn := Tryz.f186) rfl ?_
 obtain ⟨x1, aC, aA⟩ := j0 aA
 refine Tr.val (W5 _ p0 ip0 1 (by decide) 3 (by decide) _  aC) ?_
 refine And.intro (fun aB => ?_) (fun aB => ?_)
 ·replace aA := ifP aA aB
  have hE := Option.some.inj aA; subst hE
  exact ⟨([.int .i64 0, .int .i64 0, .slice none 0 0]), rfl, (z0 (by decide) (by decide) (U0d S0 h)), (Sub.refl _)⟩
 ·replace aA := ifN aA aB
  have hE := Option.some.inj aA; subst hE
  exact ⟨([.int .i64 p0, .int .i64 1, .slice none 0 0]), rfl, (z0 ip0 (by decide) (U0d S0 h)), (Sub.refl _)⟩
theorem J05 (h : Hp) (bF : List Value) (p0 : l0) (rp0 : W0.R h bF p0) (p1 : Int) (ip1 : D0 p1) (ap2 : Option Addr) (np2 cp2 : Nat) (p2 : P0) (rp2 : Z0.R h [.slice ap2 np2 cp2] p2) (p3 : Int) (ip3 : D0 p3) (r : l0 × Bool) (aB : F8 p0 p1 p2 p3 = some r) :
  Tr Tryz.prog 90 #[.agg bF.toArray, .int .i64 p1, .slice ap2 np2 cp2, .int .i64 p3] h fun v h' => ∃ (cs0 : List Value), v = .tuple #[.agg cs0.toArray, .bool r.2] ∧ W0.R h' cs0 r.1 ∧ Sub h h' := by
 obtain ⟨aD, aC, aF, dA, aG, aU, rfl, rfl, aH, aK, aI⟩ := B0 rp0
 obtain ⟨rfl, dB⟩ := Sl.len aI
 obtain ⟨rfl, lp2⟩ := Sl.len rp2
 unfold F8 at aB
 dsimp only at aB
 refine Q2 (args := [.agg #[.int .i64 aD, .int .i64 aC, .slice aF aU.length aG], .int .i64 p1, .slice ap2 p2.length cp2, .int .i64 p3]) (fn := Tryz.f90) rfl ?_
 obtain ⟨x1, dK, aB⟩ := j0 aB
 refine Tr.mono (W3 _ [.int .i64 aD, .int .i64 aC, .slice aF aU.length aG] (aD, aC, aU) (z0 aH aK aI) _  dK) ?_
 rintro v3 k2 ⟨dL, rfl, dM, bG⟩
 obtain ⟨aV, aW, aL, dC, aM, bH, rfl, rfl, aN, aO, aJ⟩ := B0 dM
 obtain ⟨rfl, dD⟩ := Sl.len aJ
 try dsimp only at aB
 obtain ⟨x4, dN, aB⟩ := j0 aB
 refine Tr.val (E5 _ [.int .i64 aD, .int .i64 aC, .slice aF aU.length aG] (aD, aC, aU) (z0 aH aK (I0.mono bG aI)) _  dN) ?_
 obtain ⟨x5, dO, aB⟩ := j0 aB
 refine Exists.intro (.bool x5) (And.intro (fun q => W5 _ p1 ip1 0 (by decide) (IntKind.i64.wrap (aC - 1)) (K0 _) _  (V1 dO q)) ?_)
 obtain ⟨x6, dP, aB⟩ := j0 aB
 refine Exists.intro (.bool x6) (And.intro (fun q => W5 _ p3 ip3 0 (by decide) (IntKind.i64.wrap (aC - 1)) (K0 _) _  (V1 dP q)) ?_)
 obtain ⟨x7, dQ, aB⟩ := j0 aB
 refine Exists.intro (.bool x7) (And.intro (fun q => z03 _ aD aH ap2 p2.length cp2 p2 (Z0.mono bG rp2) _  (V1 dQ q)) ?_)
 refine And.intro (fun bI => ?_) (fun bI => ?_)
 ·replace aB := ifP aB bI
  have hE := Option.some.inj aB; subst hE
  exact ⟨([.int .i64 aV, .int .i64 aW, .slice aL bH.length aM]), rfl, (z0 aN aO aJ), bG⟩
 ·replace aB := ifN aB bI
  obtain ⟨X9, bJ, aB⟩ := j0 aB
  refine Exists.intro { vars := [11, 12], boxes := [2], owns := [], fuel := true } (Exists.intro (fun vs os h' => ∃ (u10 : Int) (u11 : Int) (u12 : Int) (u13 : Int) (au14 : Option Addr) (nu14 cu14 : Nat) (u14 : M0), vs.tail = [.int .i64 u10, .int .i64 u11, .int .i64 u12, .int .i64 u13, .slice au14 nu14 cu14] ∧ os = [] ∧ Sub k2 h' ∧ D0 u10 ∧ D0 u11 ∧ D0 u12 ∧ D0 u13 ∧ I0.R h' [.slice au14 nu14 cu14] u14 ∧ K4 p2 p3 (L1 vs) u10 u11 u12 u13 u14 = some X9) (Exists.intro (fun _ _ => 0) ?_))
  refine And.intro (Exists.intro Q0 ⟨p1, 0, aV, aW, aL, bH.length, aM, bH, rfl, rfl, (Sub.refl _), ip1, (by decide), aN, aO, aJ, bJ⟩) ?_
  rintro v_0 v_1 v_2 v_3 v_4 m16 k15 ⟨u10, u11, u12, u13, au14, nu14, cu14, u14, bK, bL, aP, iu10, iu11, iu12, iu13, ru14, aA⟩
  cases bK
  cases bL
  replace aA : K4 p2 p3 m16 u10 u11 u12 u13 u14 = some X9 := aA
  obtain _ | m16 := m16
  ·cases (show (none : Option _) = some X9 from aA)
  rw [K4.eq_2] at aA
  obtain ⟨rfl, lu14⟩ := Sl.len ru14
  refine And.intro (fun aQ => ?_) (fun aQ => ?_)
  ·replace aA := ifP aA aQ
   refine And.intro (fun aR => ?_) (fun aR => ?_)
   ·replace aA := ifP aA aR
    obtain ⟨x19, bM, aA⟩ := j0 aA
    obtain ⟨bN, dE, bO, bP⟩ := Sl.getI (r := Wp.int.toRp) (Z0.mono (bG.trans aP) rp2) bM (by decide)
    refine And.intro bN ?_
    obtain ⟨rfl, dR⟩ := bP
    refine Exists.intro _ (And.intro bO ?_)
    refine And.intro (fun aS => ?_) (fun aS => ?_)
    ·replace aA := ifP aA aS
     refine Or.inr (Or.inr (Or.inl (And.intro (And.intro (by kernel_rfl) (by kernel_rfl)) ?_)))
     obtain ⟨x21, bQ, aA⟩ := j0 aA
     obtain ⟨bR, dF, bS, bT⟩ := Sl.getI (r := Wp.int.toRp) (Z0.mono (bG.trans aP) rp2) bQ (by decide)
     obtain ⟨rfl, bU⟩ := bT
     refine Or.inl (Exists.intro (.hel (.slice ap2 p2.length cp2) u11 1 0) (And.intro ?_ ?_))
     ·intro k22 s23
      exact And.intro bR (And.intro rfl (And.intro rfl rfl))
     refine Or.inl (Exists.intro (.val (.int .i64 x21)) (And.intro ?_ ?_))
     ·intro k24 s25
      exact Exists.intro _ (And.intro (j7.up s25 bS) (And.intro rfl (And.intro rfl rfl)))
     refine Or.inl (Exists.intro (.agg [.val (.int .i64 u10), .val (.int .i64 x21), .val (.int .i64 u13)]) (And.intro ?_ ?_))
     ·intro k26 s27
      exact And.intro rfl (And.intro rfl rfl)
     refine Or.inr ?_
     refine Or.inr ?_
     refine Exists.intro 1 (And.intro (And.intro rfl rfl) ?_)
     obtain ⟨x28, bV, aA⟩ := j0 aA
     refine Tr.mono (K9 _ au14 u14.length cu14 u14 ru14 [.int .i64 u10, .int .i64 x21, .int .i64 u13] (u10, x21, u13) (V0 iu10 bU iu13) _  bV) ?_
     rintro v30 k29 ⟨bW, dS, bX, rfl, aX, aY⟩
     obtain ⟨rfl, dT⟩ := Sl.len aX
     refine And.intro (And.intro rfl aY) (And.intro (by first | exact trivial | exact rfl) ?_)
     refine And.intro trivial (And.intro (by first | exact trivial | exact rfl) ?_)
     refine And.intro rfl (And.intro (by repeat first|exact trivial|refine And.intro rfl ?_) (And.intro (by repeat first|exact trivial|refine And.intro rfl ?_) (Exists.intro m16 (And.intro ⟨u13, (IntKind.i64.wrap (u11 + 1)), u12, (IntKind.i64.wrap (u13 + 1)), bW, x28.length, bX, x28, rfl, rfl, (aP.trans aY), iu13, (K0 _), iu12, (K0 _), aX, aA⟩ (Nat.lt_succ_self _)))))
    ·replace aA := ifN aA aS
     refine Or.inr (Or.inr (Or.inl (And.intro (And.intro (by kernel_rfl) (by kernel_rfl)) ?_)))
     obtain ⟨x31, bY, aA⟩ := j0 aA
     obtain ⟨bZ, dG, cA, cC⟩ := Sl.getI (r := Wp.int.toRp) (Z0.mono (bG.trans aP) rp2) bY (by decide)
     obtain ⟨rfl, dU⟩ := cC
     refine Or.inl (Exists.intro (.hel (.slice ap2 p2.length cp2) u11 1 0) (And.intro ?_ ?_))
     ·intro k32 s33
      exact And.intro bZ (And.intro rfl (And.intro rfl rfl))
     refine Or.inl (Exists.intro (.val (.int .i64 x31)) (And.intro ?_ ?_))
     ·intro k34 s35
      exact Exists.intro _ (And.intro (j7.up s35 cA) (And.intro rfl (And.intro rfl rfl)))
     refine Or.inl (Exists.intro (.val (.int .i64 (IntKind.i64.wrap (0 - x31)))) (And.intro ?_ ?_))
     ·intro k36 s37
      exact And.intro rfl (And.intro rfl rfl)
     refine Or.inl (Exists.intro (.agg [.val (.int .i64 u13), .val (.int .i64 (IntKind.i64.wrap (0 - x31))), .val (.int .i64 u10)]) (And.intro ?_ ?_))
     ·intro k38 s39
      exact And.intro rfl (And.intro rfl rfl)
     refine Or.inr ?_
     refine Or.inr ?_
     refine Exists.intro 1 (And.intro (And.intro rfl rfl) ?_)
     obtain ⟨x40, cD, aA⟩ := j0 aA
     refine Tr.mono (K9 _ au14 u14.length cu14 u14 ru14 [.int .i64 u13, .int .i64 (IntKind.i64.wrap (0 - x31)), .int .i64 u10] (u13, (IntKind.i64.wrap (0 - x31)), u10) (V0 iu13 (K0 _) iu10) _  cD) ?_
     rintro v42 k41 ⟨cE, dV, cG, rfl, aZ, bA⟩
     obtain ⟨rfl, dW⟩ := Sl.len aZ
     refine And.intro (And.intro rfl bA) (And.intro (by first | exact trivial | exact rfl) ?_)
     refine And.intro trivial (And.intro (by first | exact trivial | exact rfl) ?_)
     refine And.intro rfl (And.intro (by repeat first|exact trivial|refine And.intro rfl ?_) (And.intro (by repeat first|exact trivial|refine And.intro rfl ?_) (Exists.intro m16 (And.intro ⟨u13, (IntKind.i64.wrap (u11 + 1)), u12, (IntKind.i64.wrap (u13 + 1)), cE, x40.length, cG, x40, rfl, rfl, (aP.trans bA), iu13, (K0 _), iu12, (K0 _), aZ, aA⟩ (Nat.lt_succ_self _)))))
   ·replace aA := ifN aA aR
    obtain ⟨x43, cH, aA⟩ := j0 aA
    obtain ⟨cI, dH, cJ, cK⟩ := Sl.getI (r := Wp.int.toRp) (Z0.mono (bG.trans aP) rp2) cH (by decide)
    refine And.intro cI ?_
    obtain ⟨rfl, dX⟩ := cK
    refine Exists.intro _ (And.intro cJ ?_)
    refine And.intro (fun aT => ?_) (fun aT => ?_)
    ·replace aA := ifP aA aT
     refine Or.inr (Or.inr (Or.inl (And.intro (And.intro (by kernel_rfl) (by kernel_rfl)) ?_)))
     obtain ⟨x45, cL, aA⟩ := j0 aA
     obtain ⟨cM, dI, cN, cO⟩ := Sl.getI (r := Wp.int.toRp) (Z0.mono (bG.trans aP) rp2) cL (by decide)
     obtain ⟨rfl, cP⟩ := cO
     refine Or.inl (Exists.intro (.hel (.slice ap2 p2.length cp2) u11 1 0) (And.intro ?_ ?_))
     ·intro k46 s47
      exact And.intro cM (And.intro rfl (And.intro rfl rfl))
     refine Or.inl (Exists.intro (.val (.int .i64 x45)) (And.intro ?_ ?_))
     ·intro k48 s49
      exact Exists.intro _ (And.intro (j7.up s49 cN) (And.intro rfl (And.intro rfl rfl)))
     refine Or.inl (Exists.intro (.agg [.val (.int .i64 u10), .val (.int .i64 x45), .val (.int .i64 p3)]) (And.intro ?_ ?_))
     ·intro k50 s51
      exact And.intro rfl (And.intro rfl rfl)
     refine Or.inr ?_
     refine Or.inr ?_
     refine Exists.intro 1 (And.intro (And.intro rfl rfl) ?_)
     obtain ⟨x52, cQ, aA⟩ := j0 aA
     refine Tr.mono (K9 _ au14 u14.length cu14 u14 ru14 [.int .i64 u10, .int .i64 x45, .int .i64 p3] (u10, x45, p3) (V0 iu10 cP ip3) _  cQ) ?_
     rintro v54 k53 ⟨cR, dY, cS, rfl, bB, bC⟩
     obtain ⟨rfl, dZ⟩ := Sl.len bB
     refine And.intro (And.intro rfl bC) (And.intro (by first | exact trivial | exact rfl) ?_)
     refine And.intro trivial (And.intro (by first | exact trivial | exact rfl) ?_)
     refine And.intro rfl (And.intro (by repeat first|exact trivial|refine And.intro rfl ?_) (And.intro (by repeat first|exact trivial|refine And.intro rfl ?_) (Exists.intro m16 (And.intro ⟨p3, (IntKind.i64.wrap (u11 + 1)), u12, u13, cR, x52.length, cS, x52, rfl, rfl, (aP.trans bC), ip3, (K0 _), iu12, iu13, bB, aA⟩ (Nat.lt_succ_self _)))))
    ·replace aA := ifN aA aT
     refine Or.inr (Or.inr (Or.inl (And.intro (And.intro (by kernel_rfl) (by kernel_rfl)) ?_)))
     obtain ⟨x55, cT, aA⟩ := j0 aA
     obtain ⟨cU, dJ, cV, cW⟩ := Sl.getI (r := Wp.int.toRp) (Z0.mono (bG.trans aP) rp2) cT (by decide)
     obtain ⟨rfl, eA⟩ := cW
     refine Or.inl (Exists.intro (.hel (.slice ap2 p2.length cp2) u11 1 0) (And.intro ?_ ?_))
     ·intro k56 s57
      exact And.intro cU (And.intro rfl (And.intro rfl rfl))
     refine Or.inl (Exists.intro (.val (.int .i64 x55)) (And.intro ?_ ?_))
     ·intro k58 s59
      exact Exists.intro _ (And.intro (j7.up s59 cV) (And.intro rfl (And.intro rfl rfl)))
     refine Or.inl (Exists.intro (.val (.int .i64 (IntKind.i64.wrap (0 - x55)))) (And.intro ?_ ?_))
     ·intro k60 s61
      exact And.intro rfl (And.intro rfl rfl)
     refine Or.inl (Exists.intro (.agg [.val (.int .i64 p3), .val (.int .i64 (IntKind.i64.wrap (0 - x55))), .val (.int .i64 u10)]) (And.intro ?_ ?_))
     ·intro k62 s63
      exact And.intro rfl (And.intro rfl rfl)
     refine Or.inr ?_
     refine Or.inr ?_
     refine Exists.intro 1 (And.intro (And.intro rfl rfl) ?_)
     obtain ⟨x64, cX, aA⟩ := j0 aA
     refine Tr.mono (K9 _ au14 u14.length cu14 u14 ru14 [.int .i64 p3, .int .i64 (IntKind.i64.wrap (0 - x55)), .int .i64 u10] (p3, (IntKind.i64.wrap (0 - x55)), u10) (V0 ip3 (K0 _) iu10) _  cX) ?_
     rintro v66 k65 ⟨cY, eB, cZ, rfl, bD, bE⟩
     obtain ⟨rfl, eC⟩ := Sl.len bD
     refine And.intro (And.intro rfl bE) (And.intro (by first | exact trivial | exact rfl) ?_)
     refine And.intro trivial (And.intro (by first | exact trivial | exact rfl) ?_)
     refine And.intro rfl (And.intro (by repeat first|exact trivial|refine And.intro rfl ?_) (And.intro (by repeat first|exact trivial|refine And.intro rfl ?_) (Exists.intro m16 (And.intro ⟨p3, (IntKind.i64.wrap (u11 + 1)), u12, u13, cY, x64.length, cZ, x64, rfl, rfl, (aP.trans bE), ip3, (K0 _), iu12, iu13, bD, aA⟩ (Nat.lt_succ_self _)))))
  ·replace aA := ifN aA aQ
   have hE := Option.some.inj aA; subst hE
   try dsimp only [T0, U0] at aB
   have hE := Option.some.inj aB; subst hE
   exact ⟨([.int .i64 u12, .int .i64 u13, .slice au14 u14.length cu14]), rfl, (z0 iu12 iu13 ru14), (bG.trans aP)⟩
theorem e0a (h : Hp) (aT : List Value) (p0 : l0) (rp0 : W0.R h aT p0) (ap1 : Option Addr) (np1 cp1 : Nat) (p1 : P0) (rp1 : Z0.R h [.slice ap1 np1 cp1] p1) (r : l0 × Bool) (aK : Q9 p0 p1 = some r) :
  Tr Tryz.prog 187 #[.agg aT.toArray, .slice ap1 np1 cp1] h fun v h' => ∃ (cs0 : List Value), v = .tuple #[.agg cs0.toArray, .bool r.2] ∧ W0.R h' cs0 r.1 ∧ Sub h h' := by
 obtain ⟨aL, aM, aG, aX, aH, aU, rfl, rfl, aP, aQ, aI⟩ := B0 rp0
 obtain ⟨rfl, aY⟩ := Sl.len aI
 obtain ⟨rfl, lp1⟩ := Sl.len rp1
 unfold Q9 at aK
 dsimp only at aK
 refine Q2 (args := [.agg #[.int .i64 aL, .int .i64 aM, .slice aG aU.length aH], .slice ap1 p1.length cp1]) (fn := Tryz.f187) rfl ?_
 obtain ⟨x1, aZ, aK⟩ := j0 aK
 refine Tr.mono (J05 _ [.int .i64 aL, .int .i64 aM, .slice aG aU.length aH] (aL, aM, aU) (z0 aP aQ aI) 0 (by decide) ap1 p1.length cp1 p1 rp1 0 (by decide) _  aZ) ?_
 rintro v3 k2 ⟨aV, rfl, aJ, bA⟩
 obtain ⟨bB, bC⟩ := x1
 dsimp only at aK aJ
 obtain ⟨aN, aO, aB, aR, aC, aW, rfl, rfl, aD, aF, aA⟩ := B0 aJ
 obtain ⟨rfl, aS⟩ := Sl.len aA
 try dsimp only at aK
 have hE := Option.some.inj aK; subst hE
 exact ⟨([.int .i64 aN, .int .i64 aO, .slice aB aW.length aC]), rfl, (z0 aD aF aA), bA⟩
theorem f0a (h : Hp) (p0 : Int) (ip0 : D0 p0) (ap1 : Option Addr) (np1 cp1 : Nat) (p1 : V3) (rp1 : n5.R h [.slice ap1 np1 cp1] p1) (r : l0 × Bool) (aL : R9 p0 p1 = some r) :
  Tr Tryz.prog 128 #[.int .i64 p0, .slice ap1 np1 cp1] h fun v h' => ∃ (cs0 : List Value), v = .tuple #[.agg cs0.toArray, .bool r.2] ∧ W0.R h' cs0 r.1 ∧ Sub h h' := by
 obtain ⟨rfl, lp1⟩ := Sl.len rp1
 unfold R9 at aL
 refine Q2 (args := [.int .i64 p0, .slice ap1 p1.length cp1]) (fn := Tryz.f128) rfl ?_
 obtain ⟨x1, bY, aL⟩ := j0 aL
 refine Tr.val (L04 _ p0 ip0 ap1 p1.length cp1 p1 rp1 _  bY) ?_
 refine And.intro (fun bN => ?_) (fun bN => ?_)
 ·replace aL := ifP aL bN
  have hE := Option.some.inj aL; subst hE
  exact ⟨([.int .i64 0, .int .i64 0, .slice none 0 0]), rfl, (z0 (by decide) (by decide) (U0d S0 h)), (Sub.refl _)⟩
 ·replace aL := ifN aL bN
  obtain ⟨x3, bZ, aL⟩ := j0 aL
  refine Tr.mono (d0a _ p0 ip0 _  bZ) ?_
  rintro v5 k4 ⟨bO, rfl, aW, cG⟩
  obtain ⟨cA, cC⟩ := x3
  dsimp only at aL aW
  obtain ⟨aX, aY, aS, bK, aT, aZ, rfl, rfl, aU, aV, aN⟩ := B0 aW
  obtain ⟨rfl, bL⟩ := Sl.len aN
  try dsimp only at aL
  obtain ⟨X6, bP, aL⟩ := j0 aL
  refine Exists.intro { vars := [8], boxes := [1], owns := [], fuel := true } (Exists.intro (fun vs os h' => ∃ (u7 : Int) (u8 : Int) (u9 : Int) (au10 : Option Addr) (nu10 cu10 : Nat) (u10 : M0), vs.tail = [.int .i64 u7, .int .i64 u8, .int .i64 u9, .slice au10 nu10 cu10] ∧ os = [] ∧ Sub k4 h' ∧ D0 u7 ∧ D0 u8 ∧ D0 u9 ∧ I0.R h' [.slice au10 nu10 cu10] u10 ∧ V5 p1 (L1 vs) u7 u8 u9 u10 = some X6) (Exists.intro (fun _ _ => 0) ?_))
  refine And.intro (Exists.intro Q0 ⟨0, aX, aY, aS, aZ.length, aT, aZ, rfl, rfl, (Sub.refl _), (by decide), aU, aV, aN, bP⟩) ?_
  rintro v_0 v_1 v_2 v_3 m12 k11 ⟨u7, u8, u9, au10, nu10, cu10, u10, bQ, bR, bW, iu7, iu8, iu9, ru10, aM⟩
  cases bQ
  cases bR
  replace aM : V5 p1 m12 u7 u8 u9 u10 = some X6 := aM
  obtain _ | m12 := m12
  ·cases (show (none : Option _) = some X6 from aM)
  rw [V5.eq_2] at aM
  obtain ⟨rfl, lu10⟩ := Sl.len ru10
  refine And.intro (fun bA => ?_) (fun bA => ?_)
  ·replace aM := ifP aM bA
   refine Or.inr (Or.inr (Or.inr (Or.inr (Exists.intro 10 (And.intro (And.intro (by kernel_rfl) (by kernel_rfl)) ?_)))))
   obtain ⟨x14, bS, aM⟩ := j0 aM
   obtain ⟨bT, bX, bU, bB⟩ := Sl.getI (r := Z0.toRp) (n5.mono (cG.trans bW) rp1) bS (by decide)
   obtain ⟨bE, cD, bF, rfl⟩ := Wp.slice_cell bB
   obtain ⟨rfl, cE⟩ := Sl.len bB
   refine Or.inl (Exists.intro (.hel (.slice ap1 p1.length cp1) u7 1 0) (And.intro ?_ ?_))
   ·intro k15 s16
    exact And.intro bT (And.intro rfl (And.intro rfl rfl))
   refine Or.inl (Exists.intro (.val (.slice bE x14.length bF)) (And.intro ?_ ?_))
   ·intro k17 s18
    exact Exists.intro _ (And.intro (j7.up s18 bU) (And.intro rfl (And.intro rfl rfl)))
   obtain ⟨x19, bV, aM⟩ := j0 aM
   obtain ⟨bG, aR⟩ := x19
   try dsimp only at aM
   obtain ⟨aC, aD, aG⟩ := bG
   try dsimp only at aM
   refine Or.inr (Exists.intro (fun v hh => ∃ (aF : Value), v = .tuple #[aF, .bool aR] ∧ (fun v hh => ∃ (aA : Option Addr) (aB : Nat), v = .agg #[.int .i64 aC, .int .i64 aD, .slice aA aG.length aB] ∧ D0 aC ∧ D0 aD ∧ I0.R hh [.slice aA aG.length aB] aG ∧ aG.length ≤ 9223372036854775807) aF hh) (And.intro (fun v h1 h2 sb q => by obtain ⟨aF, e, aK⟩ := q; exact ⟨aF, e, (by obtain ⟨aA, aB, e, f0, f1, f2, f3⟩ := aK; exact ⟨aA, aB, e, f0, f1, I0.mono sb f2, f3⟩)⟩) (And.intro ?_ ?_)))
   ·intro k20 s21
    refine Tr.mono (e0a _ [.int .i64 u8, .int .i64 u9, .slice au10 u10.length cu10] (u8, u9, u10) (z0 iu8 iu9 (I0.mono s21 ru10)) bE x14.length bF x14 (Z0.mono s21 bB) _ bV) ?_
    rintro _ kk ⟨bM, rfl, bC, sb⟩
    obtain ⟨bH, bI, aH, bD, aI, bJ, rfl, ey, aO, aP, aJ⟩ := B0 bC
    cases ey
    obtain ⟨rfl, aQ⟩ := Sl.len aJ
    exact And.intro J02 (And.intro sb ⟨(.agg #[.int .i64 aC, .int .i64 aD, .slice aH aG.length aI]), rfl, ⟨aH, aI, rfl, aO, aP, aJ, aQ⟩⟩)
   refine Or.inr (Exists.intro (fun v hh => ∃ (aF : Value), v = .tuple #[aF, .bool aR] ∧ (fun v hh => ∃ (aA : Option Addr) (aB : Nat), v = .agg #[.int .i64 aC, .int .i64 aD, .slice aA aG.length aB] ∧ D0 aC ∧ D0 aD ∧ I0.R hh [.slice aA aG.length aB] aG ∧ aG.length ≤ 9223372036854775807) aF hh) (And.intro (fun v h1 h2 sb q => by obtain ⟨aF, e, aK⟩ := q; exact ⟨aF, e, (by obtain ⟨aA, aB, e, f0, f1, f2, f3⟩ := aK; exact ⟨aA, aB, e, f0, f1, I0.mono sb f2, f3⟩)⟩) (And.intro ?_ ?_)))
   ·intro k22 s23
    rintro _ ⟨_, rfl, ⟨az24p02, cz24p02, rfl, iz24p00, iz24p01, rz24p02, lz24p02⟩⟩
    exact And.intro J02 (And.intro (Sub.refl _) ⟨(.agg #[.int .i64 aC, .int .i64 aD, .slice az24p02 aG.length cz24p02]), rfl, ⟨az24p02, cz24p02, rfl, iz24p00, iz24p01, rz24p02, lz24p02⟩⟩)
   refine Or.inr (Exists.intro (fun v hh => ∃ (aA : Option Addr) (aB : Nat), v = .agg #[.int .i64 aC, .int .i64 aD, .slice aA aG.length aB] ∧ D0 aC ∧ D0 aD ∧ I0.R hh [.slice aA aG.length aB] aG ∧ aG.length ≤ 9223372036854775807) (And.intro (fun v h1 h2 sb q => by obtain ⟨aA, aB, e, f0, f1, f2, f3⟩ := q; exact ⟨aA, aB, e, f0, f1, I0.mono sb f2, f3⟩) (And.intro ?_ ?_)))
   ·intro k25 s26
    rintro _ ⟨_, rfl, ⟨az27p02, cz27p02, rfl, iz27p00, iz27p01, rz27p02, lz27p02⟩⟩
    exact And.intro J02 (And.intro (Sub.refl _) ⟨az27p02, cz27p02, rfl, iz27p00, iz27p01, rz27p02, lz27p02⟩)
   refine Or.inl (Exists.intro (.val (.bool aR)) (And.intro ?_ ?_))
   ·intro k28 s29
    rintro _ ⟨_, rfl, ⟨az30p02, cz30p02, rfl, iz30p00, iz30p01, rz30p02, lz30p02⟩⟩
    exact And.intro rfl (And.intro rfl rfl)
   intro k31 s32
   rintro _ ⟨az332, cz332, rfl, iz330, iz331, rz332, lz332⟩
   rintro _ ⟨_, rfl, ⟨az34p02, cz34p02, rfl, iz34p00, iz34p01, rz34p02, lz34p02⟩⟩
   rintro _ ⟨_, rfl, ⟨az35p02, cz35p02, rfl, iz35p00, iz35p01, rz35p02, lz35p02⟩⟩
   refine And.intro rfl (And.intro (by repeat first|exact trivial|refine And.intro rfl ?_) (And.intro (by repeat first|exact trivial|refine And.intro rfl ?_) (Exists.intro m12 (And.intro ⟨(IntKind.i64.wrap (u7 + 1)), aC, aD, az332, aG.length, cz332, aG, rfl, rfl, (bW.trans s32), (K0 _), iz330, iz331, rz332, aM⟩ (Nat.lt_succ_self _)))))
  ·replace aM := ifN aM bA
   have hE := Option.some.inj aM; subst hE
   try dsimp only [T0, U0] at aL
   have hE := Option.some.inj aL; subst hE
   exact ⟨([.int .i64 u8, .int .i64 u9, .slice au10 u10.length cu10]), rfl, (z0 iu8 iu9 ru10), (cG.trans bW)⟩
theorem d0c (h : Hp) (aV : List Value) (p0 : l0) (rp0 : W0.R h aV p0) (r : I7) (aS : y00 p0 = some r) :
  Tr Tryz.prog 220 #[.agg aV.toArray] h fun v h' => ∃ (a0 : Option Addr) (n0 c0 : Nat), v = .slice a0 n0 c0 ∧ V0d.R h' [.slice a0 n0 c0] r ∧ Sub h h' := by
 obtain ⟨aW, aX, aT, bS, aU, aM, rfl, rfl, bT, bU, aL⟩ := B0 rp0
 obtain ⟨rfl, bV⟩ := Sl.len aL
 unfold y00 at aS
 dsimp only at aS
 refine Q2 (args := [.agg #[.int .i64 aW, .int .i64 aX, .slice aT aM.length aU]]) (fn := Tryz.f220) rfl ?_
 obtain ⟨X1, aY, aS⟩ := j0 aS
 refine Exists.intro { vars := [4], boxes := [], owns := [0], fuel := true } (Exists.intro (fun vs os h' => ∃ (u2 : Int) (wu3 : List (List Value)) (u3 : List C4), vs.tail = [.int .i64 u2] ∧ os = [wu3] ∧ Sub h h' ∧ D0 u2 ∧ F2 (A4.R h') wu3 u3 ∧ B6 aM (L1 vs) u2 u3 = some X1) (Exists.intro (fun _ _ => 0) ?_))
 refine And.intro (Exists.intro Q0 ⟨0, [], ([] : I7), rfl, rfl, (Sub.refl _), (by decide), (show F2 (A4.R h) ([] : List (List Value)) ([] : I7) from trivial), aY⟩) ?_
 rintro v_0 wu3 m5 k4 ⟨u2, zzu3, u3, aZ, bA, cA, iu2, fu3, aK⟩
 cases aZ
 cases bA
 replace aK : B6 aM m5 u2 u3 = some X1 := aK
 obtain _ | m5 := m5
 ·cases (show (none : Option _) = some X1 from aK)
 rw [B6.eq_2] at aK
 refine And.intro (fun bB => ?_) (fun bB => ?_)
 ·replace aK := ifP aK bB
  obtain ⟨X7, bC, aK⟩ := j0 aK
  refine Exists.intro { vars := [5], boxes := [], owns := [0], fuel := true } (Exists.intro (fun vs os h' => ∃ (u8 : Int) (wu9 : List (List Value)) (u9 : List C4), vs.tail = [.int .i64 u8] ∧ os = [wu9] ∧ Sub k4 h' ∧ D0 u8 ∧ F2 (A4.R h') wu9 u9 ∧ Y3 aM u2 (L1 vs) u8 u9 = some X7) (Exists.intro (fun _ _ => 0) ?_))
  refine And.intro (Exists.intro Q0 ⟨(IntKind.i64.wrap (u2 + 1)), wu3, u3, rfl, rfl, (Sub.refl _), (K0 _), fu3, bC⟩) ?_
  rintro v_0 wu9 m11 k10 ⟨u8, zzu9, u9, bD, bE, aN, iu8, fu9, aH⟩
  cases bD
  cases bE
  replace aH : Y3 aM u2 m11 u8 u9 = some X7 := aH
  obtain _ | m11 := m11
  ·cases (show (none : Option _) = some X7 from aH)
  rw [Y3.eq_2] at aH
  refine And.intro (fun aO => ?_) (fun aO => ?_)
  ·replace aH := ifP aH aO
   obtain ⟨x13, bF, aH⟩ := j0 aH
   obtain ⟨bG, bW, bH, bI⟩ := Sl.getI (r := S0.toRp) (I0.mono (cA.trans aN) aL) bF (by decide)
   refine And.intro bG ?_
   obtain ⟨aC, bX, aA, rfl, rfl, aI, bJ, aF⟩ := C1 bI
   try dsimp only at aH
   refine Exists.intro _ (And.intro bH ?_)
   obtain ⟨x14, bK, aH⟩ := j0 aH
   obtain ⟨bL, bY, bM, bN⟩ := Sl.getI (r := S0.toRp) (I0.mono (cA.trans aN) aL) bK (by decide)
   refine And.intro bL ?_
   obtain ⟨aD, bZ, aB, rfl, rfl, aJ, bO, aG⟩ := C1 bN
   try dsimp only at aH
   refine Exists.intro _ (And.intro bM ?_)
   refine And.intro (fun aP => ?_) (fun aP => ?_)
   ·replace aH := ifP aH aP
    obtain ⟨q16, bP, aH⟩ := j0 aH
    refine And.intro (J2 bP (by first | rw [F2.length fu9, F2.length (show F2 (A4.R k10) ([[.int .i64 (if aB < aA then aB else aA), .int .i64 (if aB > aA then aB else aA)]] : List (List Value)) [((if aB < aA then aB else aA), (if aB > aA then aB else aA))] from ⟨(Y1 (y7 aG aF) (y7 aG aF)), trivial⟩)] | exact congrArg (· + 1) (F2.length fu9))) ?_
    refine And.intro (fun aQ => ?_) (fun aQ => ?_)
    ·replace aH := ifP aH aQ
     obtain ⟨q18, bQ, aH⟩ := j0 aH
     refine And.intro (J2 bQ (by first | rw [F2.length (F2.append fu9 (show F2 (A4.R k10) ([[.int .i64 (if aB < aA then aB else aA), .int .i64 (if aB > aA then aB else aA)]] : List (List Value)) [((if aB < aA then aB else aA), (if aB > aA then aB else aA))] from ⟨(Y1 (y7 aG aF) (y7 aG aF)), trivial⟩)), F2.length (show F2 (A4.R k10) ([[.int .i64 (if aD < aC then aD else aC), .int .i64 (if aD > aC then aD else aC)]] : List (List Value)) [((if aD < aC then aD else aC), (if aD > aC then aD else aC))] from ⟨(Y1 (y7 aJ aI) (y7 aJ aI)), trivial⟩)] | exact congrArg (· + 1) (F2.length (F2.append fu9 (show F2 (A4.R k10) ([[.int .i64 (if aB < aA then aB else aA), .int .i64 (if aB > aA then aB else aA)]] : List (List Value)) [((if aB < aA then aB else aA), (if aB > aA then aB else aA))] from ⟨(Y1 (y7 aG aF) (y7 aG aF)), trivial⟩))))) ?_
     refine And.intro rfl (And.intro (by repeat first|exact trivial|refine And.intro rfl ?_) (And.intro (by repeat first|exact trivial|refine And.intro rfl ?_) (Exists.intro m11 (And.intro ⟨(IntKind.i64.wrap (u8 + 1)), ((wu9 ++ ([[.int .i64 (if aB < aA then aB else aA), .int .i64 (if aB > aA then aB else aA)]] : List (List Value))) ++ ([[.int .i64 (if aD < aC then aD else aC), .int .i64 (if aD > aC then aD else aC)]] : List (List Value))), ((u9 ++ [((if aB < aA then aB else aA), (if aB > aA then aB else aA))]) ++ [((if aD < aC then aD else aC), (if aD > aC then aD else aC))]), rfl, rfl, aN, (K0 _), (F2.append (F2.append fu9 (show F2 (A4.R k10) ([[.int .i64 (if aB < aA then aB else aA), .int .i64 (if aB > aA then aB else aA)]] : List (List Value)) [((if aB < aA then aB else aA), (if aB > aA then aB else aA))] from ⟨(Y1 (y7 aG aF) (y7 aG aF)), trivial⟩)) (show F2 (A4.R k10) ([[.int .i64 (if aD < aC then aD else aC), .int .i64 (if aD > aC then aD else aC)]] : List (List Value)) [((if aD < aC then aD else aC), (if aD > aC then aD else aC))] from ⟨(Y1 (y7 aJ aI) (y7 aJ aI)), trivial⟩)), aH⟩ (Nat.lt_succ_self _)))))
    ·replace aH := ifN aH aQ
     refine And.intro rfl (And.intro (by repeat first|exact trivial|refine And.intro rfl ?_) (And.intro (by repeat first|exact trivial|refine And.intro rfl ?_) (Exists.intro m11 (And.intro ⟨(IntKind.i64.wrap (u8 + 1)), (wu9 ++ ([[.int .i64 (if aB < aA then aB else aA), .int .i64 (if aB > aA then aB else aA)]] : List (List Value))), (u9 ++ [((if aB < aA then aB else aA), (if aB > aA then aB else aA))]), rfl, rfl, aN, (K0 _), (F2.append fu9 (show F2 (A4.R k10) ([[.int .i64 (if aB < aA then aB else aA), .int .i64 (if aB > aA then aB else aA)]] : List (List Value)) [((if aB < aA then aB else aA), (if aB > aA then aB else aA))] from ⟨(Y1 (y7 aG aF) (y7 aG aF)), trivial⟩)), aH⟩ (Nat.lt_succ_self _)))))
   ·replace aH := ifN aH aP
    refine And.intro (fun aR => ?_) (fun aR => ?_)
    ·replace aH := ifP aH aR
     obtain ⟨q20, bR, aH⟩ := j0 aH
     refine And.intro (J2 bR (by first | rw [F2.length fu9, F2.length (show F2 (A4.R k10) ([[.int .i64 (if aD < aC then aD else aC), .int .i64 (if aD > aC then aD else aC)]] : List (List Value)) [((if aD < aC then aD else aC), (if aD > aC then aD else aC))] from ⟨(Y1 (y7 aJ aI) (y7 aJ aI)), trivial⟩)] | exact congrArg (· + 1) (F2.length fu9))) ?_
     refine And.intro rfl (And.intro (by repeat first|exact trivial|refine And.intro rfl ?_) (And.intro (by repeat first|exact trivial|refine And.intro rfl ?_) (Exists.intro m11 (And.intro ⟨(IntKind.i64.wrap (u8 + 1)), (wu9 ++ ([[.int .i64 (if aD < aC then aD else aC), .int .i64 (if aD > aC then aD else aC)]] : List (List Value))), (u9 ++ [((if aD < aC then aD else aC), (if aD > aC then aD else aC))]), rfl, rfl, aN, (K0 _), (F2.append fu9 (show F2 (A4.R k10) ([[.int .i64 (if aD < aC then aD else aC), .int .i64 (if aD > aC then aD else aC)]] : List (List Value)) [((if aD < aC then aD else aC), (if aD > aC then aD else aC))] from ⟨(Y1 (y7 aJ aI) (y7 aJ aI)), trivial⟩)), aH⟩ (Nat.lt_succ_self _)))))
    ·replace aH := ifN aH aR
     refine And.intro rfl (And.intro (by repeat first|exact trivial|refine And.intro rfl ?_) (And.intro (by repeat first|exact trivial|refine And.intro rfl ?_) (Exists.intro m11 (And.intro ⟨(IntKind.i64.wrap (u8 + 1)), wu9, u9, rfl, rfl, aN, (K0 _), fu9, aH⟩ (Nat.lt_succ_self _)))))
  ·replace aH := ifN aH aO
   have hE := Option.some.inj aH; subst hE
   try dsimp only [T0, U0] at aK
   refine And.intro rfl (And.intro (by repeat first|exact trivial|refine And.intro rfl ?_) (And.intro (by repeat first|exact trivial|refine And.intro rfl ?_) (Exists.intro m5 (And.intro ⟨(IntKind.i64.wrap (u2 + 1)), wu9, u9, rfl, rfl, (cA.trans aN), (K0 _), fu9, aK⟩ (Nat.lt_succ_self _)))))
 ·replace aK := ifN aK bB
  have hE := Option.some.inj aK; subst hE
  try dsimp only [T0, U0] at aS
  intro v25 k26 f27
  obtain ⟨az28, cz28, rfl, rz28, sz28, lz28⟩ := j1.out (r := A4.toRp) f27 fu3
  have hE := Option.some.inj aS; subst hE
  exact ⟨az28, u3.length, cz28, rfl, rz28, (cA.trans sz28)⟩
theorem l09 (h : Hp) (aM : List Value) (p0 : l0) (rp0 : W0.R h aM p0) (r : C4 × Bool) (aA : j8 p0 = some r) :
  Tr Tryz.prog 200 #[.agg aM.toArray] h fun v h' => ∃ (cs0 : List Value), v = .tuple #[.agg cs0.toArray, .bool r.2] ∧ A4.R h' cs0 r.1 ∧ Sub h h' := by
 obtain ⟨aB, aC, aD, aR, aF, aJ, rfl, rfl, aH, aI, aG⟩ := B0 rp0
 obtain ⟨rfl, aS⟩ := Sl.len aG
 unfold j8 at aA
 dsimp only at aA
 refine Q2 (args := [.agg #[.int .i64 aB, .int .i64 aC, .slice aD aJ.length aF]]) (fn := Tryz.f200) rfl ?_
 obtain ⟨x1, aV, aA⟩ := j0 aA
 refine Tr.val (E5 _ [.int .i64 aB, .int .i64 aC, .slice aD aJ.length aF] (aB, aC, aJ) (z0 aH aI aG) _  aV) ?_
 refine And.intro (fun aN => ?_) (fun aN => ?_)
 ·replace aA := ifP aA aN
  have hE := Option.some.inj aA; subst hE
  exact ⟨([.int .i64 0, .int .i64 0]), rfl, (Y1 (by decide) (by decide)), (Sub.refl _)⟩
 ·replace aA := ifN aA aN
  obtain ⟨x3, aW, aA⟩ := j0 aA
  refine Tr.mono (d0c _ [.int .i64 aB, .int .i64 aC, .slice aD aJ.length aF] (aB, aC, aJ) (z0 aH aI aG) _  aW) ?_
  rintro v5 k4 ⟨bC, bD, bE, rfl, aT, aU⟩
  obtain ⟨rfl, bF⟩ := Sl.len aT
  refine And.intro (fun aO => ?_) (fun aO => ?_)
  ·replace aA := ifP aA aO
   have hE := Option.some.inj aA; subst hE
   exact ⟨([.int .i64 0, .int .i64 0]), rfl, (Y1 (by decide) (by decide)), aU⟩
  ·replace aA := ifN aA aO
   obtain ⟨x7, aX, aA⟩ := j0 aA
   obtain ⟨aY, aZ, bA, bB⟩ := Sl.getI (r := A4.toRp) aT aX (by decide)
   refine And.intro aY ?_
   obtain ⟨aP, aQ, rfl, rfl, aK, aL⟩ := p01 bB
   try dsimp only at aA
   refine Exists.intro _ (And.intro bA ?_)
   have hE := Option.some.inj aA; subst hE
   exact ⟨([.int .i64 aP, .int .i64 aQ]), rfl, (Y1 aK aL), aU⟩
theorem p08 (h : Hp) (p0 : Int) (ip0 : D0 p0) (aB : List Value) (p1 : C4) (rp1 : A4.R h aB p1) (r : Int) (aA : H00 p0 p1 = some r) :
  Tr Tryz.prog 221 #[.int .i64 p0, .agg aB.toArray] h fun v h' => v = .int .i64 r ∧ h' = h := by
 obtain ⟨aC, aD, rfl, rfl, aI, aJ⟩ := p01 rp1
 unfold H00 at aA
 dsimp only at aA
 refine Tr.forget (Q2 (args := [.int .i64 p0, .agg #[.int .i64 aC, .int .i64 aD]]) (fn := Tryz.f221) rfl ?_)
 refine And.intro (fun aF => ?_) (fun aF => ?_)
 ·replace aA := ifP aA aF
  refine And.intro (fun aG => ?_) (fun aG => ?_)
  ·replace aA := ifP aA aG
   have hE := Option.some.inj aA; subst hE
   exact And.intro rfl (Sub.refl _)
  ·replace aA := ifN aA aG
   have hE := Option.some.inj aA; subst hE
   exact And.intro rfl (Sub.refl _)
 ·replace aA := ifN aA aF
  refine And.intro (fun aH => ?_) (fun aH => ?_)
  ·replace aA := ifP aA aH
   have hE := Option.some.inj aA; subst hE
   exact And.intro rfl (Sub.refl _)
  ·replace aA := ifN aA aH
   have hE := Option.some.inj aA; subst hE
   exact And.intro rfl (Sub.refl _)
theorem K05 (h : Hp) (bD : List Value) (p0 : l0) (rp0 : W0.R h bD p0) (bE : List Value) (p1 : C4) (rp1 : A4.R h bE p1) (r : l0 × Bool) (aB : C6 p0 p1 = some r) :
  Tr Tryz.prog 201 #[.agg bD.toArray, .agg bE.toArray] h fun v h' => ∃ (cs0 : List Value), v = .tuple #[.agg cs0.toArray, .bool r.2] ∧ W0.R h' cs0 r.1 ∧ Sub h h' := by
 obtain ⟨aG, aH, aI, bY, aJ, aM, rfl, rfl, aK, aN, aF⟩ := B0 rp0
 obtain ⟨rfl, bZ⟩ := Sl.len aF
 obtain ⟨aC, aD, rfl, rfl, aO, aP⟩ := p01 rp1
 unfold C6 at aB
 dsimp only at aB
 refine Q2 (args := [.agg #[.int .i64 aG, .int .i64 aH, .slice aI aM.length aJ], .agg #[.int .i64 aC, .int .i64 aD]]) (fn := Tryz.f201) rfl ?_
 obtain ⟨x1, cG, aB⟩ := j0 aB
 refine Tr.val (E5 _ [.int .i64 aG, .int .i64 aH, .slice aI aM.length aJ] (aG, aH, aM) (z0 aK aN aF) _  cG) ?_
 refine And.intro (fun bF => ?_) (fun bF => ?_)
 ·replace aB := ifP aB bF
  obtain ⟨x3, cH, aB⟩ := j0 aB
  refine Tr.mono (W3 _ [.int .i64 aG, .int .i64 aH, .slice aI aM.length aJ] (aG, aH, aM) (z0 aK aN aF) _  cH) ?_
  rintro v5 k4 ⟨cI, rfl, cJ, cK⟩
  obtain ⟨bG, bH, aV, cA, aW, cL, rfl, rfl, aX, aY, aQ⟩ := B0 cJ
  obtain ⟨rfl, cC⟩ := Sl.len aQ
  try dsimp only at aB
  have hE := Option.some.inj aB; subst hE
  exact ⟨([.int .i64 bG, .int .i64 bH, .slice aV cL.length aW]), rfl, (z0 aX aY aQ), cK⟩
 ·replace aB := ifN aB bF
  obtain ⟨X6, bI, aB⟩ := j0 aB
  refine Exists.intro { vars := [7], boxes := [3], owns := [], fuel := true } (Exists.intro (fun vs os h' => ∃ (u7 : Int) (u8 : Int) (u9 : Int) (au10 : Option Addr) (nu10 cu10 : Nat) (u10 : M0), vs.tail = [.int .i64 u7, .int .i64 u8, .int .i64 u9, .slice au10 nu10 cu10] ∧ os = [] ∧ Sub h h' ∧ D0 u7 ∧ D0 u8 ∧ D0 u9 ∧ I0.R h' [.slice au10 nu10 cu10] u10 ∧ f4 aM aC aD (L1 vs) u7 u8 u9 u10 = some X6) (Exists.intro (fun _ _ => 0) ?_))
  refine And.intro (Exists.intro Q0 ⟨0, aG, (IntKind.i64.wrap (aH - 1)), none, 0, 0, [], rfl, rfl, (Sub.refl _), (by decide), aK, (K0 _), (U0d S0 h), bI⟩) ?_
  rintro v_0 v_1 v_2 v_3 m12 k11 ⟨u7, u8, u9, au10, nu10, cu10, u10, bJ, bK, cD, iu7, iu8, iu9, ru10, aA⟩
  cases bJ
  cases bK
  replace aA : f4 aM aC aD m12 u7 u8 u9 u10 = some X6 := aA
  obtain _ | m12 := m12
  ·cases (show (none : Option _) = some X6 from aA)
  rw [f4.eq_2] at aA
  obtain ⟨rfl, lu10⟩ := Sl.len ru10
  refine And.intro (fun aR => ?_) (fun aR => ?_)
  ·replace aA := ifP aA aR
   obtain ⟨x14, bL, aA⟩ := j0 aA
   obtain ⟨bM, cE, bN, bO⟩ := Sl.getI (r := S0.toRp) (I0.mono cD aF) bL (by decide)
   refine And.intro bM ?_
   obtain ⟨aZ, aL, bA, rfl, rfl, aS, aT, aU⟩ := C1 bO
   try dsimp only at aA
   refine Exists.intro _ (And.intro bN ?_)
   refine Or.inr (Or.inr (Or.inl (And.intro (And.intro (by kernel_rfl) (by kernel_rfl)) ?_)))
   obtain ⟨x15, bP, aA⟩ := j0 aA
   obtain ⟨q16, bQ, aA⟩ := j0 aA
   have bR : D0 x15 := A2 bQ
   refine Or.inl (Exists.intro (.val (.int .i64 x15)) (And.intro ?_ ?_))
   ·intro k17 s18
    exact Tr.val (p08 _ aZ aS [.int .i64 aC, .int .i64 aD] (aC, aD) (Y1 aO aP) _ bP) (And.intro rfl (And.intro rfl rfl))
   obtain ⟨x19, bS, aA⟩ := j0 aA
   obtain ⟨q20, bT, aA⟩ := j0 aA
   have bU : D0 x19 := A2 bT
   refine Or.inl (Exists.intro (.val (.int .i64 x19)) (And.intro ?_ ?_))
   ·intro k21 s22
    exact Tr.val (p08 _ bA aU [.int .i64 aC, .int .i64 aD] (aC, aD) (Y1 aO aP) _ bS) (And.intro rfl (And.intro rfl rfl))
   refine Or.inl (Exists.intro (.agg [.val (.int .i64 x15), .val (.int .i64 aL), .val (.int .i64 x19)]) (And.intro ?_ ?_))
   ·intro k23 s24
    exact And.intro rfl (And.intro rfl rfl)
   refine Or.inr ?_
   refine Or.inr ?_
   refine Exists.intro 1 (And.intro (And.intro rfl rfl) ?_)
   obtain ⟨x25, bV, aA⟩ := j0 aA
   refine Tr.mono (K9 _ au10 u10.length cu10 u10 ru10 [.int .i64 x15, .int .i64 aL, .int .i64 x19] (x15, aL, x19) (V0 bR aT bU) _  bV) ?_
   rintro v27 k26 ⟨bW, cM, bX, rfl, bB, bC⟩
   obtain ⟨rfl, cN⟩ := Sl.len bB
   refine And.intro (And.intro rfl bC) (And.intro (by first | exact trivial | exact rfl) ?_)
   refine And.intro trivial (And.intro (by first | exact trivial | exact rfl) ?_)
   refine And.intro rfl (And.intro (by repeat first|exact trivial|refine And.intro rfl ?_) (And.intro (by repeat first|exact trivial|refine And.intro rfl ?_) (Exists.intro m12 (And.intro ⟨(IntKind.i64.wrap (u7 + 1)), u8, u9, bW, x25.length, bX, x25, rfl, rfl, (cD.trans bC), (K0 _), iu8, iu9, bB, aA⟩ (Nat.lt_succ_self _)))))
  ·replace aA := ifN aA aR
   have hE := Option.some.inj aA; subst hE
   try dsimp only [T0, U0] at aB
   have hE := Option.some.inj aB; subst hE
   exact ⟨([.int .i64 u8, .int .i64 u9, .slice au10 u10.length cu10]), rfl, (z0 iu8 iu9 ru10), cD⟩
theorem g0a (h : Hp) (bE : List Value) (p0 : l0) (rp0 : W0.R h bE p0) (r : l0 × C4 × Bool) (aA : S9 p0 = some r) :
  Tr Tryz.prog 145 #[.agg bE.toArray] h fun v h' => ∃ (cs0 : List Value) (cs1 : List Value), v = .tuple #[.agg cs0.toArray, .agg cs1.toArray, .bool r.2.2] ∧ W0.R h' cs0 r.1 ∧ A4.R h' cs1 r.2.1 ∧ Sub h h' := by
 obtain ⟨aB, aC, aG, bL, aH, aV, rfl, rfl, aM, aN, aI⟩ := B0 rp0
 obtain ⟨rfl, bM⟩ := Sl.len aI
 unfold S9 at aA
 dsimp only at aA
 refine Q2 (args := [.agg #[.int .i64 aB, .int .i64 aC, .slice aG aV.length aH]]) (fn := Tryz.f145) rfl ?_
 obtain ⟨x1, bQ, aA⟩ := j0 aA
 refine Tr.mono (l09 _ [.int .i64 aB, .int .i64 aC, .slice aG aV.length aH] (aB, aC, aV) (z0 aM aN aI) _  bQ) ?_
 rintro v3 k2 ⟨bF, rfl, aS, bN⟩
 obtain ⟨bR, bS⟩ := x1
 dsimp only at aA aS
 obtain ⟨aD, aF, rfl, rfl, aJ, aK⟩ := p01 aS
 try dsimp only at aA
 refine And.intro (fun bG => ?_) (fun bG => ?_)
 ·replace aA := ifP aA bG
  obtain ⟨x5, bT, aA⟩ := j0 aA
  refine Tr.mono (W3 _ [.int .i64 aB, .int .i64 aC, .slice aG aV.length aH] (aB, aC, aV) (z0 aM aN (I0.mono bN aI)) _  bT) ?_
  rintro v7 k6 ⟨bU, rfl, bV, bW⟩
  obtain ⟨bH, bI, aY, bO, aZ, bX, rfl, rfl, bA, bB, aT⟩ := B0 bV
  obtain ⟨rfl, bP⟩ := Sl.len aT
  try dsimp only at aA
  have hE := Option.some.inj aA; subst hE
  exact ⟨([.int .i64 bH, .int .i64 bI, .slice aY bX.length aZ]), ([.int .i64 0, .int .i64 0]), rfl, (z0 bA bB aT), (Y1 (by decide) (by decide)), (bN.trans bW)⟩
 ·replace aA := ifN aA bG
  obtain ⟨x8, bY, aA⟩ := j0 aA
  refine Tr.mono (K05 _ [.int .i64 aB, .int .i64 aC, .slice aG aV.length aH] (aB, aC, aV) (z0 aM aN (I0.mono bN aI)) [.int .i64 aD, .int .i64 aF] (aD, aF) (Y1 aJ aK) _  bY) ?_
  rintro v10 k9 ⟨bJ, rfl, aU, bZ⟩
  obtain ⟨cA, cC⟩ := x8
  dsimp only at aA aU
  obtain ⟨aW, aX, aO, bC, aP, bK, rfl, rfl, aQ, aR, aL⟩ := B0 aU
  obtain ⟨rfl, bD⟩ := Sl.len aL
  try dsimp only at aA
  refine Or.inr (Or.inr (Or.inl (And.intro (And.intro (by kernel_rfl) (by kernel_rfl)) ?_)))
  refine Or.inr ?_
  refine Or.inr ?_
  refine Exists.intro 0 (And.intro (And.intro rfl rfl) ?_)
  refine And.intro trivial (And.intro (by first | exact trivial | exact rfl) ?_)
  refine And.intro trivial (And.intro (by first | exact trivial | exact rfl) ?_)
  have hE := Option.some.inj aA; subst hE
  exact ⟨([.int .i64 aW, .int .i64 aX, .slice aO bK.length aP]), ([.int .i64 aD, .int .i64 aF]), rfl, (z0 aQ aR aL), (Y1 aJ aK), (bN.trans bZ)⟩
theorem S02 (h : Hp) (bK : List Value) (p0 : l0) (rp0 : W0.R h bK p0) (r : l0 × I7) (aI : M6 p0 = some r) :
  Tr Tryz.prog 91 #[.agg bK.toArray] h fun v h' => ∃ (cs0 : List Value) (a1 : Option Addr) (n1 c1 : Nat), v = .tuple #[.agg cs0.toArray, .slice a1 n1 c1] ∧ W0.R h' cs0 r.1 ∧ V0d.R h' [.slice a1 n1 c1] r.2 ∧ Sub h h' := by
 obtain ⟨aW, aX, aS, bU, aT, bL, rfl, rfl, bA, bB, aU⟩ := B0 rp0
 obtain ⟨rfl, bV⟩ := Sl.len aU
 unfold M6 at aI
 dsimp only at aI
 refine Q2 (args := [.agg #[.int .i64 aW, .int .i64 aX, .slice aS bL.length aT]]) (fn := Tryz.f91) rfl ?_
 obtain ⟨x1, cD, aI⟩ := j0 aI
 refine Tr.mono (W3 _ [.int .i64 aW, .int .i64 aX, .slice aS bL.length aT] (aW, aX, bL) (z0 bA bB aU) _  cD) ?_
 rintro v3 k2 ⟨cE, rfl, cG, cH⟩
 obtain ⟨bM, bN, bC, bW, bD, bO, rfl, rfl, bE, bF, aV⟩ := B0 cG
 obtain ⟨rfl, bX⟩ := Sl.len aV
 try dsimp only at aI
 obtain ⟨X4, bP, aI⟩ := j0 aI
 refine Exists.intro { vars := [6], boxes := [2], owns := [0], fuel := true } (Exists.intro (fun vs os h' => ∃ (u5 : Int) (u6 : Int) (u7 : Int) (au8 : Option Addr) (nu8 cu8 : Nat) (u8 : M0) (wu9 : List (List Value)) (u9 : List C4), vs.tail = [.int .i64 u5, .int .i64 u6, .int .i64 u7, .slice au8 nu8 cu8] ∧ os = [wu9] ∧ Sub k2 h' ∧ D0 u5 ∧ D0 u6 ∧ D0 u7 ∧ I0.R h' [.slice au8 nu8 cu8] u8 ∧ F2 (A4.R h') wu9 u9 ∧ I5 (L1 vs) u5 u6 u7 u8 u9 = some X4) (Exists.intro (fun _ _ => 0) ?_))
 refine And.intro (Exists.intro Q0 ⟨0, bM, bN, bC, bO.length, bD, bO, [], ([] : I7), rfl, rfl, (Sub.refl _), (by decide), bE, bF, aV, (show F2 (A4.R k2) ([] : List (List Value)) ([] : I7) from trivial), bP⟩) ?_
 rintro v_0 v_1 v_2 v_3 wu9 m11 k10 ⟨u5, u6, u7, au8, nu8, cu8, u8, zzu9, u9, bQ, bR, bY, iu5, iu6, iu7, ru8, fu9, aC⟩
 cases bQ
 cases bR
 replace aC : I5 m11 u5 u6 u7 u8 u9 = some X4 := aC
 obtain _ | m11 := m11
 ·cases (show (none : Option _) = some X4 from aC)
 rw [I5.eq_2] at aC
 obtain ⟨rfl, lu8⟩ := Sl.len ru8
 refine And.intro (fun aY => ?_) (fun aY => ?_)
 ·replace aC := ifP aC aY
  obtain ⟨x13, bS, aC⟩ := j0 aC
  refine Tr.mono (g0a _ [.int .i64 u6, .int .i64 u7, .slice au8 u8.length cu8] (u6, u7, u8) (z0 iu6 iu7 ru8) _  bS) ?_
  rintro v15 k14 ⟨bI, bJ, rfl, aJ, aK, aH⟩
  obtain ⟨bZ, cA, cC⟩ := x13
  dsimp only at aC aJ aK
  obtain ⟨aP, aQ, aL, bG, aM, aR, rfl, rfl, aN, aO, aD⟩ := B0 aJ
  obtain ⟨rfl, bH⟩ := Sl.len aD
  try dsimp only at aC
  obtain ⟨aA, aB, rfl, rfl, aF, aG⟩ := p01 aK
  try dsimp only at aC
  refine And.intro (fun aZ => ?_) (fun aZ => ?_)
  ·replace aC := ifP aC aZ
   intro v17 k18 f19
   obtain ⟨az20, cz20, rfl, rz20, sz20, lz20⟩ := j1.out (r := A4.toRp) f19 (F2.up (r := A4.toRp) aH fu9)
   have hE := Option.some.inj aC; subst hE
   try dsimp only [Z2, D3] at aI
   have hE := Option.some.inj aI; subst hE
   exact ⟨([.int .i64 u6, .int .i64 u7, .slice au8 u8.length cu8]), az20, u9.length, cz20, rfl, (z0 iu6 iu7 (I0.mono (aH.trans sz20) ru8)), rz20, (((cH.trans bY).trans aH).trans sz20)⟩
  ·replace aC := ifN aC aZ
   obtain ⟨q21, bT, aC⟩ := j0 aC
   refine And.intro (J2 bT (by first | rw [F2.length (F2.up (r := A4.toRp) aH fu9), F2.length (show F2 (A4.R k14) ([[.int .i64 aA, .int .i64 aB]] : List (List Value)) [(aA, aB)] from ⟨(Y1 aF aG), trivial⟩)] | exact congrArg (· + 1) (F2.length (F2.up (r := A4.toRp) aH fu9)))) ?_
   refine And.intro rfl (And.intro (by repeat first|exact trivial|refine And.intro rfl ?_) (And.intro (by repeat first|exact trivial|refine And.intro rfl ?_) (Exists.intro m11 (And.intro ⟨(IntKind.i64.wrap (u5 + 1)), aP, aQ, aL, aR.length, aM, aR, (wu9 ++ ([[.int .i64 aA, .int .i64 aB]] : List (List Value))), (u9 ++ [(aA, aB)]), rfl, rfl, (bY.trans aH), (K0 _), aN, aO, aD, (F2.append (F2.up (r := A4.toRp) aH fu9) (show F2 (A4.R k14) ([[.int .i64 aA, .int .i64 aB]] : List (List Value)) [(aA, aB)] from ⟨(Y1 aF aG), trivial⟩)), aC⟩ (Nat.lt_succ_self _)))))
 ·replace aC := ifN aC aY
  have hE := Option.some.inj aC; subst hE
  try dsimp only [T0, U0] at aI
  intro v22 k23 f24
  obtain ⟨az25, cz25, rfl, rz25, sz25, lz25⟩ := j1.out (r := A4.toRp) f24 fu9
  have hE := Option.some.inj aI; subst hE
  exact ⟨([.int .i64 u6, .int .i64 u7, .slice au8 u8.length cu8]), az25, u9.length, cz25, rfl, (z0 iu6 iu7 (I0.mono sz25 ru8)), rz25, ((cH.trans bY).trans sz25)⟩
theorem m09 (h : Hp) (aQ : List Value) (p0 : l0) (rp0 : W0.R h aQ p0) (r : l0 × Bool) (aA : l8 p0 = some r) :
  Tr Tryz.prog 93 #[.agg aQ.toArray] h fun v h' => ∃ (cs0 : List Value), v = .tuple #[.agg cs0.toArray, .bool r.2] ∧ W0.R h' cs0 r.1 ∧ Sub h h' := by
 obtain ⟨aC, aB, aD, aU, aF, aN, rfl, rfl, aI, aJ, aG⟩ := B0 rp0
 obtain ⟨rfl, aV⟩ := Sl.len aG
 unfold l8 at aA
 dsimp only at aA
 refine Q2 (args := [.agg #[.int .i64 aC, .int .i64 aB, .slice aD aN.length aF]]) (fn := Tryz.f93) rfl ?_
 obtain ⟨x1, aY, aA⟩ := j0 aA
 refine Tr.mono (W3 _ [.int .i64 aC, .int .i64 aB, .slice aD aN.length aF] (aC, aB, aN) (z0 aI aJ aG) _  aY) ?_
 rintro v3 k2 ⟨aZ, rfl, bA, aR⟩
 obtain ⟨aO, aS, aK, aW, aL, bB, rfl, rfl, aM, aP, aH⟩ := B0 bA
 obtain ⟨rfl, aX⟩ := Sl.len aH
 try dsimp only at aA
 obtain ⟨x4, bC, aA⟩ := j0 aA
 refine Tr.val (E5 _ [.int .i64 aC, .int .i64 aB, .slice aD aN.length aF] (aC, aB, aN) (z0 aI aJ (I0.mono aR aG)) _  bC) ?_
 refine And.intro (fun aT => ?_) (fun aT => ?_)
 ·replace aA := ifP aA aT
  have hE := Option.some.inj aA; subst hE
  exact ⟨([.int .i64 aO, .int .i64 aS, .slice aK bB.length aL]), rfl, (z0 aM aP aH), aR⟩
 ·replace aA := ifN aA aT
  have hE := Option.some.inj aA; subst hE
  exact ⟨([.int .i64 aO, .int .i64 (IntKind.i64.wrap (aB + 1)), .slice aK bB.length aL]), rfl, (z0 aM (K0 _) aH), aR⟩
theorem L05 (h : Hp) (aY : List Value) (p0 : l0) (rp0 : W0.R h aY p0) (aZ : List Value) (p1 : C0) (rp1 : S0.R h aZ p1) (r : l0 × Bool) (aA : G8 p0 p1 = some r) :
  Tr Tryz.prog 94 #[.agg aY.toArray, .agg aZ.toArray] h fun v h' => ∃ (cs0 : List Value), v = .tuple #[.agg cs0.toArray, .bool r.2] ∧ W0.R h' cs0 r.1 ∧ Sub h h' := by
 obtain ⟨aF, aG, aB, bB, aC, aM, rfl, rfl, aH, aI, aD⟩ := B0 rp0
 obtain ⟨rfl, bC⟩ := Sl.len aD
 obtain ⟨aJ, aK, aL, rfl, rfl, aN, aO, aP⟩ := C1 rp1
 unfold G8 at aA
 dsimp only at aA
 refine Q2 (args := [.agg #[.int .i64 aF, .int .i64 aG, .slice aB aM.length aC], .agg #[.int .i64 aJ, .int .i64 aK, .int .i64 aL]]) (fn := Tryz.f94) rfl ?_
 obtain ⟨x1, bG, aA⟩ := j0 aA
 refine Tr.mono (W3 _ [.int .i64 aF, .int .i64 aG, .slice aB aM.length aC] (aF, aG, aM) (z0 aH aI aD) _  bG) ?_
 rintro v3 k2 ⟨bH, rfl, bI, aX⟩
 obtain ⟨aT, aU, aV, bD, aW, bJ, rfl, rfl, aQ, aR, aS⟩ := B0 bI
 obtain ⟨rfl, bE⟩ := Sl.len aS
 try dsimp only at aA
 obtain ⟨x4, bK, aA⟩ := j0 aA
 refine Tr.val (E5 _ [.int .i64 aF, .int .i64 aG, .slice aB aM.length aC] (aF, aG, aM) (z0 aH aI (I0.mono aX aD)) _  bK) ?_
 obtain ⟨x5, bL, aA⟩ := j0 aA
 refine Exists.intro (.bool x5) (And.intro (fun q => C06 _ [.int .i64 aF, .int .i64 aG, .slice aB aM.length aC] (aF, aG, aM) (z0 aH aI (I0.mono aX aD)) [.int .i64 aJ, .int .i64 aK, .int .i64 aL] (aJ, aK, aL) (V0 aN aO aP) _  (V1 bL q)) ?_)
 refine And.intro (fun bA => ?_) (fun bA => ?_)
 ·replace aA := ifP aA bA
  have hE := Option.some.inj aA; subst hE
  exact ⟨([.int .i64 aT, .int .i64 aU, .slice aV bJ.length aW]), rfl, (z0 aQ aR aS), aX⟩
 ·replace aA := ifN aA bA
  obtain ⟨x7, bM, aA⟩ := j0 aA
  refine Tr.mono (K9 _ aB aM.length aC aM (I0.mono aX aD) [.int .i64 aJ, .int .i64 aK, .int .i64 aL] (aJ, aK, aL) (V0 aN aO aP) _  bM) ?_
  rintro v9 k8 ⟨bN, bQ, bO, rfl, bF, bP⟩
  obtain ⟨rfl, bR⟩ := Sl.len bF
  refine Or.inr (Or.inr (Or.inl (And.intro (And.intro (by kernel_rfl) (by kernel_rfl)) ?_)))
  refine Or.inr ?_
  refine Exists.intro 0 (And.intro (And.intro rfl rfl) ?_)
  refine And.intro trivial (And.intro (by first | exact trivial | exact rfl) ?_)
  have hE := Option.some.inj aA; subst hE
  exact ⟨([.int .i64 aT, .int .i64 aU, .slice bN x7.length bO]), rfl, (z0 aQ aR bF), (aX.trans bP)⟩
theorem j06 (h : Hp) (aT : List Value) (p0 : l0) (rp0 : W0.R h aT p0) (r : M0) (aO : T6 p0 = some r) :
  Tr Tryz.prog 92 #[.agg aT.toArray] h fun v h' => ∃ (a0 : Option Addr) (n0 c0 : Nat), v = .slice a0 n0 c0 ∧ I0.R h' [.slice a0 n0 c0] r ∧ Sub h h' := by
 obtain ⟨aB, aC, aH, bM, aI, aF, rfl, rfl, aJ, aL, aK⟩ := B0 rp0
 obtain ⟨rfl, bN⟩ := Sl.len aK
 unfold T6 at aO
 dsimp only at aO
 refine Q2 (args := [.agg #[.int .i64 aB, .int .i64 aC, .slice aH aF.length aI]]) (fn := Tryz.f92) rfl ?_
 obtain ⟨X1, aU, aO⟩ := j0 aO
 refine Exists.intro { vars := [4], boxes := [], owns := [0], fuel := true } (Exists.intro (fun vs os h' => ∃ (u2 : Int) (wu3 : List (List Value)) (u3 : List C0), vs.tail = [.int .i64 u2] ∧ os = [wu3] ∧ Sub h h' ∧ D0 u2 ∧ F2 (S0.R h') wu3 u3 ∧ F4 aC aB aF (L1 vs) u2 u3 = some X1) (Exists.intro (fun _ _ => 0) ?_))
 refine And.intro (Exists.intro Q0 ⟨0, [], ([] : M0), rfl, rfl, (Sub.refl _), (by decide), (show F2 (S0.R h) ([] : List (List Value)) ([] : M0) from trivial), aU⟩) ?_
 rintro v_0 wu3 m5 k4 ⟨u2, zzu3, u3, aV, aW, bQ, iu2, fu3, aD⟩
 cases aV
 cases aW
 replace aD : F4 aC aB aF m5 u2 u3 = some X1 := aD
 obtain _ | m5 := m5
 ·cases (show (none : Option _) = some X1 from aD)
 rw [F4.eq_2] at aD
 obtain ⟨x6, bR, aD⟩ := j0 aD
 refine Exists.intro (.bool x6) (And.intro (fun q => T8 _ [.int .i64 aB, .int .i64 aC, .slice aH aF.length aI] (aB, aC, aF) (z0 aJ aL (I0.mono bQ aK)) _  (V1 bR q)) ?_)
 refine And.intro (fun aX => ?_) (fun aX => ?_)
 ·replace aD := ifP aD aX
  obtain ⟨x8, bS, aD⟩ := j0 aD
  refine Tr.mono (e04 _ aB aJ _  bS) ?_
  rintro v10 k9 ⟨bU, bV, bW, rfl, aY, aZ⟩
  obtain ⟨rfl, bX⟩ := Sl.len aY
  obtain ⟨X11, aP, aD⟩ := j0 aD
  refine Exists.intro { vars := [6], boxes := [], owns := [0], fuel := true } (Exists.intro (fun vs os h' => ∃ (u12 : Int) (wu13 : List (List Value)) (u13 : List C0), vs.tail = [.int .i64 u12] ∧ os = [wu13] ∧ Sub k9 h' ∧ D0 u12 ∧ F2 (S0.R h') wu13 u13 ∧ n3 x8 aB aC aF u2 (L1 vs) u12 u13 = some X11) (Exists.intro (fun _ _ => 0) ?_))
  refine And.intro (Exists.intro Q0 ⟨0, wu3, u3, rfl, rfl, (Sub.refl _), (by decide), (F2.up (r := S0.toRp) aZ fu3), aP⟩) ?_
  rintro v_0 wu13 m15 k14 ⟨u12, zzu13, u13, aQ, aR, aG, iu12, fu13, aA⟩
  cases aQ
  cases aR
  replace aA : n3 x8 aB aC aF u2 m15 u12 u13 = some X11 := aA
  obtain _ | m15 := m15
  ·cases (show (none : Option _) = some X11 from aA)
  rw [n3.eq_2] at aA
  refine And.intro (fun aM => ?_) (fun aM => ?_)
  ·replace aA := ifP aA aM
   refine Or.inl (And.intro (And.intro (by kernel_rfl) (by kernel_rfl)) ?_)
   obtain ⟨x17, bA, aA⟩ := j0 aA
   obtain ⟨bB, bO, bC, bD⟩ := Sl.getI (r := Wp.int.toRp) (Z0.mono aG aY) bA (by decide)
   refine And.intro bB ?_
   obtain ⟨rfl, bE⟩ := bD
   refine Exists.intro _ (And.intro bC ?_)
   obtain ⟨x18, bF, aA⟩ := j0 aA
   refine Exists.intro (.int .i64 x18) (And.intro (t01 _ [.int .i64 aB, .int .i64 aC, .slice aH aF.length aI] (aB, aC, aF) (z0 aJ aL (I0.mono ((bQ.trans aZ).trans aG) aK)) u2 iu2 x17 bE _  bF) ?_)
   obtain ⟨q19, bG, aA⟩ := j0 aA
   have bT : D0 x18 := A2 bG
   refine And.intro (fun aN => ?_) (fun aN => ?_)
   ·replace aA := ifP aA aN
    obtain ⟨x21, bH, aA⟩ := j0 aA
    obtain ⟨bI, bP, bJ, bK⟩ := Sl.getI (r := Wp.int.toRp) (Z0.mono aG aY) bH (by decide)
    refine And.intro bI ?_
    obtain ⟨rfl, aS⟩ := bK
    refine Exists.intro _ (And.intro bJ ?_)
    obtain ⟨q22, bL, aA⟩ := j0 aA
    refine And.intro (J2 bL (by first | rw [F2.length fu13, F2.length (show F2 (S0.R k14) ([[.int .i64 u2, .int .i64 x21, .int .i64 (-1)]] : List (List Value)) [(u2, x21, (-1))] from ⟨(V0 iu2 aS (by decide)), trivial⟩)] | exact congrArg (· + 1) (F2.length fu13))) ?_
    refine And.intro rfl (And.intro (by repeat first|exact trivial|refine And.intro rfl ?_) (And.intro (by repeat first|exact trivial|refine And.intro rfl ?_) (Exists.intro m15 (And.intro ⟨(IntKind.i64.wrap (u12 + 1)), (wu13 ++ ([[.int .i64 u2, .int .i64 x21, .int .i64 (-1)]] : List (List Value))), (u13 ++ [(u2, x21, (-1))]), rfl, rfl, aG, (K0 _), (F2.append fu13 (show F2 (S0.R k14) ([[.int .i64 u2, .int .i64 x21, .int .i64 (-1)]] : List (List Value)) [(u2, x21, (-1))] from ⟨(V0 iu2 aS (by decide)), trivial⟩)), aA⟩ (Nat.lt_succ_self _)))))
   ·replace aA := ifN aA aN
    refine And.intro rfl (And.intro (by repeat first|exact trivial|refine And.intro rfl ?_) (And.intro (by repeat first|exact trivial|refine And.intro rfl ?_) (Exists.intro m15 (And.intro ⟨(IntKind.i64.wrap (u12 + 1)), wu13, u13, rfl, rfl, aG, (K0 _), fu13, aA⟩ (Nat.lt_succ_self _)))))
  ·replace aA := ifN aA aM
   have hE := Option.some.inj aA; subst hE
   try dsimp only [T0, U0] at aD
   refine And.intro rfl (And.intro (by repeat first|exact trivial|refine And.intro rfl ?_) (And.intro (by repeat first|exact trivial|refine And.intro rfl ?_) (Exists.intro m5 (And.intro ⟨(IntKind.i64.wrap (u2 + 1)), wu13, u13, rfl, rfl, ((bQ.trans aZ).trans aG), (K0 _), fu13, aD⟩ (Nat.lt_succ_self _)))))
 ·replace aD := ifN aD aX
  have hE := Option.some.inj aD; subst hE
  try dsimp only [T0, U0] at aO
  intro v27 k28 f29
  obtain ⟨az30, cz30, rfl, rz30, sz30, lz30⟩ := j1.out (r := S0.toRp) f29 fu3
  have hE := Option.some.inj aO; subst hE
  exact ⟨az30, u3.length, cz30, rfl, rz30, (bQ.trans sz30)⟩
end Go.Proofs.YtfdlgbfeceodeaaGreat
namespace Go.Proofs.YtfdlgbfeceodeaaGreat
open Go.H
set_option linter.unusedVariables false
set_option linter.unusedSimpArgs false
set_option maxRecDepth 10000
set_option maxHeartbeats 0
theorem f07 (h : Hp) (gA : List Value) (p0 : F0) (rp0 : F1.R h gA p0) (gB : List Value) (p1 : l0) (rp1 : W0.R h gB p1) (r : l0 × Bool × Bool) (aA : I8 p0 p1 = some r) :
  Tr Tryz.prog 28 #[.agg gA.toArray, .agg gB.toArray] h fun v h' => ∃ (cs0 : List Value), v = .tuple #[.agg cs0.toArray, .bool r.2.1, .bool r.2.2] ∧ W0.R h' cs0 r.1 ∧ Sub h h' := by
 obtain ⟨bT, bG, jU, bH, eM, rfl, rfl, cZ, bI⟩ := U1 rp0
 obtain ⟨rfl, jV⟩ := Sl.len bI
 obtain ⟨aH, aD, aK, jW, aL, aR, rfl, rfl, aN, aI, aM⟩ := B0 rp1
 obtain ⟨rfl, jX⟩ := Sl.len aM
 unfold I8 at aA
 dsimp only at aA
 refine Q2 (args := [.agg #[.int .i64 bT, .slice bG eM.length bH], .agg #[.int .i64 aH, .int .i64 aD, .slice aK aR.length aL]]) (fn := Tryz.f28) rfl ?_
 obtain ⟨x1, lK, aA⟩ := j0 aA
 refine Tr.val (g00 _ [.int .i64 bT, .slice bG eM.length bH] (bT, eM) (Z1 cZ bI) _  lK) ?_
 obtain ⟨x2, lL, aA⟩ := j0 aA
 refine Exists.intro (.bool x2) (And.intro (fun q => T8 _ [.int .i64 aH, .int .i64 aD, .slice aK aR.length aL] (aH, aD, aR) (z0 aN aI aM) _  (V1 lL q)) ?_)
 refine And.intro (fun gC => ?_) (fun gC => ?_)
 ·replace aA := ifP aA gC
  obtain ⟨x4, lM, aA⟩ := j0 aA
  refine Tr.mono (W3 _ [.int .i64 aH, .int .i64 aD, .slice aK aR.length aL] (aH, aD, aR) (z0 aN aI aM) _  lM) ?_
  rintro v6 k5 ⟨lN, rfl, lO, lP⟩
  obtain ⟨gD, gE, eN, jY, eO, lQ, rfl, rfl, eP, eQ, dA⟩ := B0 lO
  obtain ⟨rfl, jZ⟩ := Sl.len dA
  try dsimp only at aA
  have hE := Option.some.inj aA; subst hE
  exact ⟨([.int .i64 gD, .int .i64 gE, .slice eN lQ.length eO]), rfl, (z0 eP eQ dA), lP⟩
 ·replace aA := ifN aA gC
  obtain ⟨x7, lR, aA⟩ := j0 aA
  obtain ⟨dC, eR⟩ := x7
  try dsimp only at aA
  refine Tr.val (b07 _ [.int .i64 bT, .slice bG eM.length bH] (bT, eM) (Z1 cZ bI) [.int .i64 aH, .int .i64 aD, .slice aK aR.length aL] (aH, aD, aR) (z0 aN aI aM) _  lR) ?_
  obtain ⟨q8, lT, aA⟩ := j0 aA
  have dB : D0 dC := A2 lT
  obtain ⟨q9, lU, aA⟩ := j0 aA
  have kA : D0 eR := A2 lU
  refine And.intro (fun dD => ?_) (fun dD => ?_)
  ·replace aA := ifP aA dD
   refine Or.inr (Or.inr (Or.inr (Or.inr (Exists.intro 13 (And.intro (And.intro (by kernel_rfl) (by kernel_rfl)) ?_)))))
   obtain ⟨x11, gF, aA⟩ := j0 aA
   obtain ⟨gG, kB, gH, dE⟩ := Sl.getI (r := Z0.toRp) bI gF (by decide)
   obtain ⟨eT, lV, eU, rfl⟩ := Wp.slice_cell dE
   obtain ⟨rfl, lW⟩ := Sl.len dE
   refine Or.inl (Exists.intro (.hel (.slice bG eM.length bH) eR 1 0) (And.intro ?_ ?_))
   ·intro k12 s13
    exact And.intro gG (And.intro rfl (And.intro rfl rfl))
   refine Or.inl (Exists.intro (.val (.slice eT x11.length eU)) (And.intro ?_ ?_))
   ·intro k14 s15
    exact Exists.intro _ (And.intro (j7.up s15 gH) (And.intro rfl (And.intro rfl rfl)))
   obtain ⟨x16, gI, aA⟩ := j0 aA
   obtain ⟨eV, bU⟩ := x16
   try dsimp only at aA
   obtain ⟨aF, aG, aO⟩ := eV
   try dsimp only at aA
   refine Or.inr (Exists.intro (fun v hh => ∃ (aJ : Value), v = .tuple #[aJ, .bool bU] ∧ (fun v hh => ∃ (aB : Option Addr) (aC : Nat), v = .agg #[.int .i64 aF, .int .i64 aG, .slice aB aO.length aC] ∧ D0 aF ∧ D0 aG ∧ I0.R hh [.slice aB aO.length aC] aO ∧ aO.length ≤ 9223372036854775807) aJ hh) (And.intro (fun v h1 h2 sb q => by obtain ⟨aJ, e, aX⟩ := q; exact ⟨aJ, e, (by obtain ⟨aB, aC, e, f0, f1, f2, f3⟩ := aX; exact ⟨aB, aC, e, f0, f1, I0.mono sb f2, f3⟩)⟩) (And.intro ?_ ?_)))
   ·intro k17 s18
    refine Tr.mono (J05 _ [.int .i64 aH, .int .i64 aD, .slice aK aR.length aL] (aH, aD, aR) (z0 aN aI (I0.mono s18 aM)) dC dB eT x11.length eU x11 (Z0.mono s18 dE) dC dB _ gI) ?_
    rintro _ kk ⟨fS, rfl, dF, sb⟩
    obtain ⟨eW, eX, aU, eL, aV, eY, rfl, ey, bN, bO, aW⟩ := B0 dF
    cases ey
    obtain ⟨rfl, bP⟩ := Sl.len aW
    exact And.intro J02 (And.intro sb ⟨(.agg #[.int .i64 aF, .int .i64 aG, .slice aU aO.length aV]), rfl, ⟨aU, aV, rfl, bN, bO, aW, bP⟩⟩)
   refine Or.inr (Exists.intro (fun v hh => ∃ (aJ : Value), v = .tuple #[aJ, .bool bU] ∧ (fun v hh => ∃ (aB : Option Addr) (aC : Nat), v = .agg #[.int .i64 aF, .int .i64 aG, .slice aB aO.length aC] ∧ D0 aF ∧ D0 aG ∧ I0.R hh [.slice aB aO.length aC] aO ∧ aO.length ≤ 9223372036854775807) aJ hh) (And.intro (fun v h1 h2 sb q => by obtain ⟨aJ, e, aX⟩ := q; exact ⟨aJ, e, (by obtain ⟨aB, aC, e, f0, f1, f2, f3⟩ := aX; exact ⟨aB, aC, e, f0, f1, I0.mono sb f2, f3⟩)⟩) (And.intro ?_ ?_)))
   ·intro k19 s20
    rintro _ ⟨_, rfl, ⟨az21p02, cz21p02, rfl, iz21p00, iz21p01, rz21p02, lz21p02⟩⟩
    exact And.intro J02 (And.intro (Sub.refl _) ⟨(.agg #[.int .i64 aF, .int .i64 aG, .slice az21p02 aO.length cz21p02]), rfl, ⟨az21p02, cz21p02, rfl, iz21p00, iz21p01, rz21p02, lz21p02⟩⟩)
   refine Or.inr (Exists.intro (fun v hh => ∃ (aB : Option Addr) (aC : Nat), v = .agg #[.int .i64 aF, .int .i64 aG, .slice aB aO.length aC] ∧ D0 aF ∧ D0 aG ∧ I0.R hh [.slice aB aO.length aC] aO ∧ aO.length ≤ 9223372036854775807) (And.intro (fun v h1 h2 sb q => by obtain ⟨aB, aC, e, f0, f1, f2, f3⟩ := q; exact ⟨aB, aC, e, f0, f1, I0.mono sb f2, f3⟩) (And.intro ?_ ?_)))
   ·intro k22 s23
    rintro _ ⟨_, rfl, ⟨az24p02, cz24p02, rfl, iz24p00, iz24p01, rz24p02, lz24p02⟩⟩
    exact And.intro J02 (And.intro (Sub.refl _) ⟨az24p02, cz24p02, rfl, iz24p00, iz24p01, rz24p02, lz24p02⟩)
   refine Or.inl (Exists.intro (.val (.bool bU)) (And.intro ?_ ?_))
   ·intro k25 s26
    rintro _ ⟨_, rfl, ⟨az27p02, cz27p02, rfl, iz27p00, iz27p01, rz27p02, lz27p02⟩⟩
    exact And.intro rfl (And.intro rfl rfl)
   intro k28 s29
   rintro _ ⟨az302, cz302, rfl, iz300, iz301, rz302, lz302⟩
   rintro _ ⟨_, rfl, ⟨az31p02, cz31p02, rfl, iz31p00, iz31p01, rz31p02, lz31p02⟩⟩
   rintro _ ⟨_, rfl, ⟨az32p02, cz32p02, rfl, iz32p00, iz32p01, rz32p02, lz32p02⟩⟩
   refine And.intro (fun dG => ?_) (fun dG => ?_)
   ·replace aA := ifP aA dG
    obtain ⟨x34, gJ, aA⟩ := j0 aA
    refine Tr.mono (W3 _ [.int .i64 aH, .int .i64 aD, .slice aK aR.length aL] (aH, aD, aR) (z0 aN aI (I0.mono s29 aM)) _  gJ) ?_
    rintro v36 k35 ⟨kC, rfl, gK, gL⟩
    obtain ⟨eZ, fA, dH, gM, dI, kD, rfl, rfl, dJ, dK, bV⟩ := B0 gK
    obtain ⟨rfl, gN⟩ := Sl.len bV
    try dsimp only at aA
    have hE := Option.some.inj aA; subst hE
    exact ⟨([.int .i64 eZ, .int .i64 fA, .slice dH kD.length dI]), rfl, (z0 dJ dK bV), (s29.trans gL)⟩
   ·replace aA := ifN aA dG
    obtain ⟨x37, gO, aA⟩ := j0 aA
    refine Tr.mono (S02 _ [.int .i64 aF, .int .i64 aG, .slice az302 aO.length cz302] (aF, aG, aO) (z0 iz300 iz301 rz302) _  gO) ?_
    rintro v39 k38 ⟨fT, gP, gQ, gR, rfl, bW, bX, gS⟩
    obtain ⟨kE, kF⟩ := x37
    dsimp only at aA bW bX
    obtain ⟨cT, cU, bY, fB, bZ, fU, rfl, rfl, cA, cC, aY⟩ := B0 bW
    obtain ⟨rfl, fC⟩ := Sl.len aY
    try dsimp only at aA
    obtain ⟨rfl, gT⟩ := Sl.len bX
    have hE := Option.some.inj aA; subst hE
    exact ⟨([.int .i64 cT, .int .i64 cU, .slice bY fU.length bZ]), rfl, (z0 cA cC aY), (s29.trans gS)⟩
  ·replace aA := ifN aA dD
   obtain ⟨x40, gU, aA⟩ := j0 aA
   refine Tr.mono (j06 _ [.int .i64 aH, .int .i64 aD, .slice aK aR.length aL] (aH, aD, aR) (z0 aN aI aM) _  gU) ?_
   rintro v42 k41 ⟨bQ, lX, bR, rfl, bS, fD⟩
   obtain ⟨rfl, lY⟩ := Sl.len bS
   refine And.intro (fun dL => ?_) (fun dL => ?_)
   ·replace aA := ifP aA dL
    obtain ⟨x44, gV, aA⟩ := j0 aA
    refine Tr.mono (W3 _ [.int .i64 aH, .int .i64 aD, .slice aK aR.length aL] (aH, aD, aR) (z0 aN aI (I0.mono fD aM)) _  gV) ?_
    rintro v46 k45 ⟨kG, rfl, gW, gX⟩
    obtain ⟨fE, fF, dM, gY, dN, kH, rfl, rfl, dO, dP, cD⟩ := B0 gW
    obtain ⟨rfl, gZ⟩ := Sl.len cD
    try dsimp only at aA
    have hE := Option.some.inj aA; subst hE
    exact ⟨([.int .i64 fE, .int .i64 fF, .slice dM kH.length dN]), rfl, (z0 dO dP cD), (fD.trans gX)⟩
   ·replace aA := ifN aA dL
    obtain ⟨x47, hJ, aA⟩ := j0 aA
    refine Tr.mono (m09 _ [.int .i64 aH, .int .i64 aD, .slice aK aR.length aL] (aH, aD, aR) (z0 aN aI (I0.mono fD aM)) _  hJ) ?_
    rintro v49 k48 ⟨fV, rfl, cE, aT⟩
    obtain ⟨kI, kJ⟩ := x47
    dsimp only at aA cE
    obtain ⟨aP, aQ, aZ, fG, bA, bJ, rfl, rfl, bB, bC, aS⟩ := B0 cE
    obtain ⟨rfl, fH⟩ := Sl.len aS
    try dsimp only at aA
    refine And.intro (fun dQ => ?_) (fun dQ => ?_)
    ·replace aA := ifP aA dQ
     obtain ⟨x51, hU, aA⟩ := j0 aA
     refine Tr.mono (W3 _ [.int .i64 aH, .int .i64 aD, .slice aK aR.length aL] (aH, aD, aR) (z0 aN aI (I0.mono (fD.trans aT) aM)) _  hU) ?_
     rintro v53 k52 ⟨kK, rfl, hY, hZ⟩
     obtain ⟨fI, fJ, dR, iA, dS, kL, rfl, rfl, dT, dU, cG⟩ := B0 hY
     obtain ⟨rfl, iB⟩ := Sl.len cG
     try dsimp only at aA
     have hE := Option.some.inj aA; subst hE
     exact ⟨([.int .i64 fI, .int .i64 fJ, .slice dR kL.length dS]), rfl, (z0 dT dU cG), ((fD.trans aT).trans hZ)⟩
    ·replace aA := ifN aA dQ
     refine Or.inr (Or.inr (Or.inr (Or.inr (Exists.intro 12 (And.intro (And.intro (by kernel_rfl) (by kernel_rfl)) ?_)))))
     obtain ⟨x54, iC, aA⟩ := j0 aA
     obtain ⟨iD, kM, iE, iF⟩ := Sl.getI (r := S0.toRp) (I0.mono aT bS) iC (by decide)
     obtain ⟨bK, kN, kO, rfl, rfl, dV, iG, iH⟩ := C1 iF
     try dsimp only at aA
     refine Or.inl (Exists.intro (.hel (.slice bQ x40.length bR) 0 3 0) (And.intro ?_ ?_))
     ·intro k55 s56
      exact And.intro iD (And.intro rfl (And.intro rfl rfl))
     refine Or.inl (Exists.intro (.val (.int .i64 bK)) (And.intro ?_ ?_))
     ·intro k57 s58
      exact Exists.intro _ (And.intro (j7.up s58 iE) (And.intro rfl (And.intro rfl rfl)))
     obtain ⟨x59, iI, aA⟩ := j0 aA
     obtain ⟨iJ, kP, iK, iL⟩ := Sl.getI (r := S0.toRp) (I0.mono aT bS) iI (by decide)
     obtain ⟨kQ, bL, kR, rfl, rfl, iM, dW, iN⟩ := C1 iL
     try dsimp only at aA
     refine Or.inl (Exists.intro (.hel (.slice bQ x40.length bR) 0 3 0) (And.intro ?_ ?_))
     ·intro k60 s61
      exact And.intro iJ (And.intro rfl (And.intro rfl rfl))
     refine Or.inl (Exists.intro (.val (.int .i64 bL)) (And.intro ?_ ?_))
     ·intro k62 s63
      exact Exists.intro _ (And.intro (j7.up s63 iK) (And.intro rfl (And.intro rfl rfl)))
     refine Or.inl (Exists.intro (.agg [.val (.int .i64 bK), .val (.int .i64 bL), .val (.int .i64 aD)]) (And.intro ?_ ?_))
     ·intro k64 s65
      exact And.intro rfl (And.intro rfl rfl)
     intro k66 s67
     obtain ⟨x68, iO, aA⟩ := j0 aA
     obtain ⟨iP, kS, iQ, iR⟩ := Sl.getI (r := S0.toRp) (I0.mono (aT.trans s67) bS) iO (by decide)
     refine And.intro iP ?_
     obtain ⟨kT, kU, kV, rfl, rfl, iS, iT, iU⟩ := C1 iR
     try dsimp only at aA
     refine Exists.intro _ (And.intro iQ ?_)
     refine And.intro (fun dX => ?_) (fun dX => ?_)
     ·replace aA := ifP aA dX
      refine Or.inr (Or.inr (Or.inl (And.intro (And.intro (by kernel_rfl) (by kernel_rfl)) ?_)))
      obtain ⟨x70, iV, aA⟩ := j0 aA
      obtain ⟨iW, kW, iX, iY⟩ := Sl.getI (r := S0.toRp) (I0.mono (aT.trans s67) bS) iV (by decide)
      obtain ⟨kX, bD, kY, rfl, rfl, iZ, jA, jB⟩ := C1 iY
      try dsimp only at aA
      refine Or.inl (Exists.intro (.hel (.slice bQ x40.length bR) 0 3 0) (And.intro ?_ ?_))
      ·intro k71 s72
       exact And.intro iW (And.intro rfl (And.intro rfl rfl))
      refine Or.inl (Exists.intro (.hel (.slice bQ x40.length bR) 0 3 1) (And.intro ?_ ?_))
      ·intro hh sb
       exact And.intro rfl (And.intro rfl rfl)
      refine Or.inl (Exists.intro (.val (.int .i64 bD)) (And.intro ?_ ?_))
      ·intro k73 s74
       exact Exists.intro _ (And.intro (j7.up s74 iX) (And.intro rfl (And.intro rfl rfl)))
      refine Or.inl (Exists.intro (.val (.int .i64 (IntKind.i64.wrap (0 - bD)))) (And.intro ?_ ?_))
      ·intro k75 s76
       exact And.intro rfl (And.intro rfl rfl)
      obtain ⟨x77, jC, aA⟩ := j0 aA
      obtain ⟨jD, kZ, jE, jF⟩ := Sl.getI (r := S0.toRp) (I0.mono (aT.trans s67) bS) jC (by decide)
      obtain ⟨bM, lA, lB, rfl, rfl, dY, jG, jH⟩ := C1 jF
      try dsimp only at aA
      refine Or.inl (Exists.intro (.hel (.slice bQ x40.length bR) 0 3 0) (And.intro ?_ ?_))
      ·intro k78 s79
       exact And.intro jD (And.intro rfl (And.intro rfl rfl))
      refine Or.inl (Exists.intro (.hel (.slice bQ x40.length bR) 0 3 0) (And.intro ?_ ?_))
      ·intro hh sb
       exact And.intro rfl (And.intro rfl rfl)
      refine Or.inl (Exists.intro (.val (.int .i64 bM)) (And.intro ?_ ?_))
      ·intro k80 s81
       exact Exists.intro _ (And.intro (j7.up s81 jE) (And.intro rfl (And.intro rfl rfl)))
      refine Or.inl (Exists.intro (.agg [.val (.int .i64 aD), .val (.int .i64 (IntKind.i64.wrap (0 - bD))), .val (.int .i64 bM)]) (And.intro ?_ ?_))
      ·intro k82 s83
       exact And.intro rfl (And.intro rfl rfl)
      refine Or.inr ?_
      refine Exists.intro 0 (And.intro (And.intro rfl rfl) ?_)
      refine And.intro trivial (And.intro (by first | exact trivial | exact rfl) ?_)
      obtain ⟨x84, jI, aA⟩ := j0 aA
      refine Tr.mono (L05 _ [.int .i64 aP, .int .i64 aQ, .slice aZ bJ.length bA] (aP, aQ, bJ) (z0 bB bC (I0.mono s67 aS)) [.int .i64 aD, .int .i64 (IntKind.i64.wrap (0 - bD)), .int .i64 bM] (aD, (IntKind.i64.wrap (0 - bD)), bM) (V0 aI (K0 _) dY) _  jI) ?_
      rintro v86 k85 ⟨fW, rfl, cH, dZ⟩
      obtain ⟨lC, lD⟩ := x84
      dsimp only at aA cH
      obtain ⟨cV, cW, cI, fK, cJ, fX, rfl, rfl, cK, cL, bE⟩ := B0 cH
      obtain ⟨rfl, fL⟩ := Sl.len bE
      try dsimp only at aA
      refine And.intro (fun eA => ?_) (fun eA => ?_)
      ·replace aA := ifP aA eA
       obtain ⟨x88, jJ, aA⟩ := j0 aA
       refine Tr.mono (W3 _ [.int .i64 aH, .int .i64 aD, .slice aK aR.length aL] (aH, aD, aR) (z0 aN aI (I0.mono (((fD.trans aT).trans s67).trans dZ) aM)) _  jJ) ?_
       rintro v90 k89 ⟨lE, rfl, jK, jL⟩
       obtain ⟨fM, fN, eB, jM, eC, lF, rfl, rfl, eD, eE, cM⟩ := B0 jK
       obtain ⟨rfl, jN⟩ := Sl.len cM
       try dsimp only at aA
       have hE := Option.some.inj aA; subst hE
       exact ⟨([.int .i64 fM, .int .i64 fN, .slice eB lF.length eC]), rfl, (z0 eD eE cM), ((((fD.trans aT).trans s67).trans dZ).trans jL)⟩
      ·replace aA := ifN aA eA
       have hE := Option.some.inj aA; subst hE
       exact ⟨([.int .i64 cV, .int .i64 cW, .slice cI fX.length cJ]), rfl, (z0 cK cL bE), (((fD.trans aT).trans s67).trans dZ)⟩
     ·replace aA := ifN aA dX
      obtain ⟨x91, jO, aA⟩ := j0 aA
      refine Tr.mono (L05 _ [.int .i64 aP, .int .i64 aQ, .slice aZ bJ.length bA] (aP, aQ, bJ) (z0 bB bC (I0.mono s67 aS)) [.int .i64 bK, .int .i64 bL, .int .i64 aD] (bK, bL, aD) (V0 dV dW aI) _  jO) ?_
      rintro v93 k92 ⟨fY, rfl, cN, eF⟩
      obtain ⟨lG, lH⟩ := x91
      dsimp only at aA cN
      obtain ⟨cX, cY, cO, fO, cP, fZ, rfl, rfl, cQ, cR, bF⟩ := B0 cN
      obtain ⟨rfl, fP⟩ := Sl.len bF
      try dsimp only at aA
      refine And.intro (fun eG => ?_) (fun eG => ?_)
      ·replace aA := ifP aA eG
       obtain ⟨x95, jP, aA⟩ := j0 aA
       refine Tr.mono (W3 _ [.int .i64 aH, .int .i64 aD, .slice aK aR.length aL] (aH, aD, aR) (z0 aN aI (I0.mono (((fD.trans aT).trans s67).trans eF) aM)) _  jP) ?_
       rintro v97 k96 ⟨lI, rfl, jQ, jR⟩
       obtain ⟨fQ, fR, eH, jS, eI, lJ, rfl, rfl, eJ, eK, cS⟩ := B0 jQ
       obtain ⟨rfl, jT⟩ := Sl.len cS
       try dsimp only at aA
       have hE := Option.some.inj aA; subst hE
       exact ⟨([.int .i64 fQ, .int .i64 fR, .slice eH lJ.length eI]), rfl, (z0 eJ eK cS), ((((fD.trans aT).trans s67).trans eF).trans jR)⟩
      ·replace aA := ifN aA eG
       have hE := Option.some.inj aA; subst hE
       exact ⟨([.int .i64 cX, .int .i64 cY, .slice cO fZ.length cP]), rfl, (z0 cQ cR bF), (((fD.trans aT).trans s67).trans eF)⟩
end Go.Proofs.YtfdlgbfeceodeaaGreat
namespace Go.Proofs.YtfdlgbfeceodeaaGreat
open Go.H
set_option linter.unusedVariables false
set_option linter.unusedSimpArgs false
set_option maxRecDepth 10000
theorem n09 (h : Hp) (bT : List Value) (p0 : l0) (rp0 : W0.R h bT p0) (r : l0 × P0) (aH : B9 p0 = some r) :
  Tr Tryz.prog 188 #[.agg bT.toArray] h fun v h' => ∃ (cs0 : List Value) (a1 : Option Addr) (n1 c1 : Nat), v = .tuple #[.agg cs0.toArray, .slice a1 n1 c1] ∧ W0.R h' cs0 r.1 ∧ Z0.R h' [.slice a1 n1 c1] r.2 ∧ Sub h h' := by
 obtain ⟨aB, aC, aI, cN, aJ, aG, rfl, rfl, aL, aM, aK⟩ := B0 rp0
 obtain ⟨rfl, cO⟩ := Sl.len aK
 unfold B9 at aH
 dsimp only at aH
 refine Q2 (args := [.agg #[.int .i64 aB, .int .i64 aC, .slice aI aG.length aJ]]) (fn := Tryz.f188) rfl ?_
 obtain ⟨x1, cU, aH⟩ := j0 aH
 refine Tr.mono (W3 _ [.int .i64 aB, .int .i64 aC, .slice aI aG.length aJ] (aB, aC, aG) (z0 aL aM aK) _  cU) ?_
 rintro v3 k2 ⟨cV, rfl, cW, cZ⟩
 obtain ⟨bU, bV, bD, cP, bE, bW, rfl, rfl, bF, bG, aW⟩ := B0 cW
 obtain ⟨rfl, cQ⟩ := Sl.len aW
 try dsimp only at aH
 obtain ⟨X4, bX, aH⟩ := j0 aH
 refine Exists.intro { vars := [6], boxes := [], owns := [0], fuel := true } (Exists.intro (fun vs os h' => ∃ (u5 : Int) (wu6 : List (List Value)) (u6 : List Int), vs.tail = [.int .i64 u5] ∧ os = [wu6] ∧ Sub k2 h' ∧ D0 u5 ∧ F2 (Wp.int.R h') wu6 u6 ∧ D5 aC aB aG (L1 vs) u5 u6 = some X4) (Exists.intro (fun _ _ => 0) ?_))
 refine And.intro (Exists.intro Q0 ⟨0, [], ([] : P0), rfl, rfl, (Sub.refl _), (by decide), (show F2 (Wp.int.R k2) ([] : List (List Value)) ([] : P0) from trivial), bX⟩) ?_
 rintro v_0 wu6 m8 k7 ⟨u5, zzu6, u6, bY, bZ, bH, iu5, fu6, aA⟩
 cases bY
 cases bZ
 replace aA : D5 aC aB aG m8 u5 u6 = some X4 := aA
 obtain _ | m8 := m8
 ·cases (show (none : Option _) = some X4 from aA)
 rw [D5.eq_2] at aA
 obtain ⟨x9, cX, aA⟩ := j0 aA
 refine Exists.intro (.bool x9) (And.intro (fun q => E5 _ [.int .i64 aB, .int .i64 aC, .slice aI aG.length aJ] (aB, aC, aG) (z0 aL aM (I0.mono (cZ.trans bH) aK)) _  (V1 cX q)) ?_)
 refine And.intro (fun aX => ?_) (fun aX => ?_)
 ·replace aA := ifP aA aX
  obtain ⟨q11, cA, aA⟩ := j0 aA
  refine And.intro (J2 cA (by first | rw [F2.length fu6, F2.length (show F2 (Wp.int.R k7) ([[.int .i64 u5]] : List (List Value)) [u5] from ⟨⟨rfl, iu5⟩, trivial⟩)] | exact congrArg (· + 1) (F2.length fu6))) ?_
  refine And.intro rfl (And.intro (by repeat first|exact trivial|refine And.intro rfl ?_) (And.intro (by repeat first|exact trivial|refine And.intro rfl ?_) (Exists.intro m8 (And.intro ⟨(IntKind.i64.wrap (u5 + 1)), (wu6 ++ ([[.int .i64 u5]] : List (List Value))), (u6 ++ [u5]), rfl, rfl, bH, (K0 _), (F2.append fu6 (show F2 (Wp.int.R k7) ([[.int .i64 u5]] : List (List Value)) [u5] from ⟨⟨rfl, iu5⟩, trivial⟩)), aA⟩ (Nat.lt_succ_self _)))))
 ·replace aA := ifN aA aX
  have hE := Option.some.inj aA; subst hE
  try dsimp only [T0, U0] at aH
  obtain ⟨X16, bI, aH⟩ := j0 aH
  refine Exists.intro { vars := [5, 7], boxes := [2], owns := [], fuel := true, pubs := [5] } (Exists.intro (fun vs os h' => ∃ (au17 : Option Addr) (nu17 cu17 : Nat) (u17 : P0) (u18 : Int) (u19 : Int) (u20 : Int) (au21 : Option Addr) (nu21 cu21 : Nat) (u21 : M0), vs.tail = [.slice au17 nu17 cu17, .int .i64 u18, .int .i64 u19, .int .i64 u20, .slice au21 nu21 cu21] ∧ os = [] ∧ Sub k7 h' ∧ Z0.R h' [.slice au17 nu17 cu17] u17 ∧ D0 u18 ∧ D0 u19 ∧ D0 u20 ∧ I0.R h' [.slice au21 nu21 cu21] u21 ∧ C5 aB aC aG (L1 vs) u17 u18 u19 u20 u21 = some X16) (Exists.intro (fun _ _ => 0) ?_))
  intro v12 k13 f14
  obtain ⟨az15, cz15, rfl, rz15, sz15, lz15⟩ := j1.out (r := Wp.int.toRp) f14 fu6
  refine And.intro (Exists.intro Q0 ⟨az15, u6.length, cz15, u6, 0, bU, bV, bD, bW.length, bE, bW, rfl, rfl, sz15, rz15, (by decide), bF, bG, (I0.mono (bH.trans sz15) aW), bI⟩) ?_
  rintro v_0 v_1 v_2 v_3 v_4 m23 k22 ⟨au17, nu17, cu17, u17, u18, u19, u20, au21, nu21, cu21, u21, bJ, bK, aY, ru17, iu18, iu19, iu20, ru21, aA⟩
  cases bJ
  cases bK
  replace aA : C5 aB aC aG m23 u17 u18 u19 u20 u21 = some X16 := aA
  obtain _ | m23 := m23
  ·cases (show (none : Option _) = some X16 from aA)
  rw [C5.eq_2] at aA
  obtain ⟨rfl, lu17⟩ := Sl.len ru17
  obtain ⟨rfl, lu21⟩ := Sl.len ru21
  obtain ⟨x24, cC, aA⟩ := j0 aA
  refine Exists.intro (.bool x24) (And.intro (fun q => E5 _ [.int .i64 aB, .int .i64 aC, .slice aI aG.length aJ] (aB, aC, aG) (z0 aL aM (I0.mono ((cZ.trans bH).trans aY) aK)) _  (V1 cC q)) ?_)
  refine And.intro (fun aZ => ?_) (fun aZ => ?_)
  ·replace aA := ifP aA aZ
   obtain ⟨x26, cD, aA⟩ := j0 aA
   refine Tr.val (D06 _ [.int .i64 u19, .int .i64 u20, .slice au21 u21.length cu21] (u19, u20, u21) (z0 iu19 iu20 ru21) _  cD) ?_
   obtain ⟨q27, cE, aA⟩ := j0 aA
   have cY : D0 x26 := A2 cE
   refine And.intro (fun bA => ?_) (fun bA => ?_)
   ·replace aA := ifP aA bA
    have hE := Option.some.inj aA; subst hE
    try dsimp only [Z2, D3] at aH
    have hE := Option.some.inj aH; subst hE
    exact ⟨([.int .i64 u19, .int .i64 u20, .slice au21 u21.length cu21]), au17, u17.length, cu17, rfl, (z0 iu19 iu20 ru21), ru17, ((cZ.trans bH).trans aY)⟩
   ·replace aA := ifN aA bA
    obtain ⟨X29, bL, aA⟩ := j0 aA
    refine Exists.intro { vars := [11], boxes := [], owns := [1, 2], fuel := true } (Exists.intro (fun vs os h' => ∃ (u30 : Int) (wu31 : List (List Value)) (u31 : List Int) (wu32 : List (List Value)) (u32 : List Int), vs.tail = [.int .i64 u30] ∧ os = [wu31, wu32] ∧ Sub k22 h' ∧ D0 u30 ∧ F2 (Wp.int.R h') wu31 u31 ∧ F2 (Wp.int.R h') wu32 u32 ∧ U4 u20 x26 u17 (L1 vs) u30 u31 u32 = some X29) (Exists.intro (fun _ _ => 0) ?_))
    refine And.intro (Exists.intro Q0 ⟨0, [], ([] : P0), [], ([] : P0), rfl, rfl, (Sub.refl _), (by decide), (show F2 (Wp.int.R k22) ([] : List (List Value)) ([] : P0) from trivial), (show F2 (Wp.int.R k22) ([] : List (List Value)) ([] : P0) from trivial), bL⟩) ?_
    rintro v_0 wu31 wu32 m34 k33 ⟨u30, zzu31, u31, zzu32, u32, bM, bN, aS, iu30, fu31, fu32, aD⟩
    cases bM
    cases bN
    replace aD : U4 u20 x26 u17 m34 u30 u31 u32 = some X29 := aD
    obtain _ | m34 := m34
    ·cases (show (none : Option _) = some X29 from aD)
    rw [U4.eq_2] at aD
    refine And.intro (fun bB => ?_) (fun bB => ?_)
    ·replace aD := ifP aD bB
     refine And.intro (fun bC => ?_) (fun bC => ?_)
     ·replace aD := ifP aD bC
      obtain ⟨q37, cG, aD⟩ := j0 aD
      refine And.intro (J2 cG (by first | rw [F2.length fu31, F2.length (show F2 (Wp.int.R k33) ([[.int .i64 u30]] : List (List Value)) [u30] from ⟨⟨rfl, iu30⟩, trivial⟩)] | exact congrArg (· + 1) (F2.length fu31))) ?_
      obtain ⟨x38, cH, aD⟩ := j0 aD
      obtain ⟨cI, cR, cJ, cK⟩ := Sl.getI (r := Wp.int.toRp) (Z0.mono aS ru17) cH (by decide)
      refine And.intro cI ?_
      obtain ⟨rfl, bO⟩ := cK
      refine Exists.intro _ (And.intro cJ ?_)
      obtain ⟨q39, cL, aD⟩ := j0 aD
      refine And.intro (J2 cL (by first | rw [F2.length fu32, F2.length (show F2 (Wp.int.R k33) ([[.int .i64 x38]] : List (List Value)) [x38] from ⟨⟨rfl, bO⟩, trivial⟩)] | exact congrArg (· + 1) (F2.length fu32))) ?_
      refine And.intro rfl (And.intro (by repeat first|exact trivial|refine And.intro rfl ?_) (And.intro (by repeat first|exact trivial|refine And.intro rfl ?_) (Exists.intro m34 (And.intro ⟨(IntKind.i64.wrap (u30 + 1)), (wu31 ++ ([[.int .i64 u30]] : List (List Value))), (u31 ++ [u30]), (wu32 ++ ([[.int .i64 x38]] : List (List Value))), (u32 ++ [x38]), rfl, rfl, aS, (K0 _), (F2.append fu31 (show F2 (Wp.int.R k33) ([[.int .i64 u30]] : List (List Value)) [u30] from ⟨⟨rfl, iu30⟩, trivial⟩)), (F2.append fu32 (show F2 (Wp.int.R k33) ([[.int .i64 x38]] : List (List Value)) [x38] from ⟨⟨rfl, bO⟩, trivial⟩)), aD⟩ (Nat.lt_succ_self _)))))
     ·replace aD := ifN aD bC
      refine And.intro rfl (And.intro (by repeat first|exact trivial|refine And.intro rfl ?_) (And.intro (by repeat first|exact trivial|refine And.intro rfl ?_) (Exists.intro m34 (And.intro ⟨(IntKind.i64.wrap (u30 + 1)), wu31, u31, wu32, u32, rfl, rfl, aS, (K0 _), fu31, fu32, aD⟩ (Nat.lt_succ_self _)))))
    ·replace aD := ifN aD bB
     have hE := Option.some.inj aD; subst hE
     try dsimp only [T0, U0] at aA
     refine Or.inl ?_
     intro v40 k41 f42
     obtain ⟨az43, cz43, rfl, rz43, sz43, lz43⟩ := j1.out (r := Wp.int.toRp) f42 fu31
     obtain ⟨x44, cM, aA⟩ := j0 aA
     refine Tr.mono (c02 _ [.int .i64 u19, .int .i64 u20, .slice au21 u21.length cu21] (u19, u20, u21) (z0 iu19 iu20 (I0.mono (aS.trans sz43) ru21)) az43 u31.length cz43 u31 rz43 _  cM) ?_
     rintro v46 k45 ⟨bS, rfl, aN, bP⟩
     obtain ⟨cS, cT⟩ := x44
     dsimp only at aA aN
     obtain ⟨aT, aU, aO, bQ, aP, aV, rfl, rfl, aQ, aR, aF⟩ := B0 aN
     obtain ⟨rfl, bR⟩ := Sl.len aF
     try dsimp only at aA
     intro v47 k48 f49
     obtain ⟨az50, cz50, rfl, rz50, sz50, lz50⟩ := j1.out (r := Wp.int.toRp) f49 (F2.up (r := Wp.int.toRp) (sz43.trans bP) fu32)
     refine And.intro rfl (And.intro (by repeat first|exact trivial|refine And.intro rfl ?_) (And.intro (by repeat first|exact trivial|refine And.intro rfl ?_) (Exists.intro m23 (And.intro ⟨az50, u32.length, cz50, u32, (IntKind.i64.wrap (u18 + 1)), aT, aU, aO, aV.length, aP, aV, rfl, rfl, ((((aY.trans aS).trans sz43).trans bP).trans sz50), rz50, (K0 _), aQ, aR, (I0.mono sz50 aF), aA⟩ (Nat.lt_succ_self _)))))
  ·replace aA := ifN aA aZ
   have hE := Option.some.inj aA; subst hE
   try dsimp only [T0, U0] at aH
   have hE := Option.some.inj aH; subst hE
   exact ⟨([.int .i64 u19, .int .i64 u20, .slice au21 u21.length cu21]), au17, u17.length, cu17, rfl, (z0 iu19 iu20 ru21), ru17, ((cZ.trans bH).trans aY)⟩
theorem o09 (h : Hp) (bM : List Value) (p0 : l0) (rp0 : W0.R h bM p0) (r : l0) (aA : p8 p0 = some r) :
  Tr Tryz.prog 129 #[.agg bM.toArray] h fun v h' => ∃ (cs0 : List Value), v = .agg cs0.toArray ∧ W0.R h' cs0 r ∧ Sub h h' := by
 obtain ⟨aY, aZ, aQ, bS, aR, bN, rfl, rfl, bC, bD, aS⟩ := B0 rp0
 obtain ⟨rfl, bT⟩ := Sl.len aS
 unfold p8 at aA
 dsimp only at aA
 refine Q2 (args := [.agg #[.int .i64 aY, .int .i64 aZ, .slice aQ bN.length aR]]) (fn := Tryz.f129) rfl ?_
 obtain ⟨x1, cG, aA⟩ := j0 aA
 refine Tr.mono (S02 _ [.int .i64 aY, .int .i64 aZ, .slice aQ bN.length aR] (aY, aZ, bN) (z0 bC bD aS) _  cG) ?_
 rintro v3 k2 ⟨bO, bU, bV, bW, rfl, aT, aU, cS⟩
 obtain ⟨cH, cI⟩ := x1
 dsimp only at aA aT aU
 obtain ⟨aD, aF, aI, bI, aJ, bA, rfl, rfl, aK, aL, aB⟩ := B0 aT
 obtain ⟨rfl, bJ⟩ := Sl.len aB
 try dsimp only at aA
 obtain ⟨rfl, bX⟩ := Sl.len aU
 obtain ⟨x4, cJ, aA⟩ := j0 aA
 refine Tr.mono (n09 _ [.int .i64 aD, .int .i64 aF, .slice aI bA.length aJ] (aD, aF, bA) (z0 aK aL aB) _  cJ) ?_
 rintro v6 k5 ⟨bP, bY, bZ, cA, rfl, aV, aW, cK⟩
 obtain ⟨cL, cM⟩ := x4
 dsimp only at aA aV aW
 obtain ⟨aG, aH, aM, bK, aN, bB, rfl, rfl, aO, aP, aC⟩ := B0 aV
 obtain ⟨rfl, bL⟩ := Sl.len aC
 try dsimp only at aA
 obtain ⟨rfl, cC⟩ := Sl.len aW
 obtain ⟨x7, cN, aA⟩ := j0 aA
 refine Tr.mono (A01 _ [.int .i64 aG, .int .i64 aH, .slice aM bB.length aN] (aG, aH, bB) (z0 aO aP aC) _  cN) ?_
 rintro v9 k8 ⟨cO, rfl, cP, cQ⟩
 obtain ⟨bQ, bR, bE, cD, bF, cR, rfl, rfl, bG, bH, aX⟩ := B0 cP
 obtain ⟨rfl, cE⟩ := Sl.len aX
 try dsimp only at aA
 have hE := Option.some.inj aA; subst hE
 exact ⟨([.int .i64 bQ, .int .i64 bR, .slice bE cR.length bF]), rfl, (z0 bG bH aX), ((cS.trans cK).trans cQ)⟩
end Go.Proofs.YtfdlgbfeceodeaaGreat
namespace Go.Proofs.YtfdlgbfeceodeaaGreat
open Go.H
set_option linter.unusedVariables false
set_option linter.unusedSimpArgs false
set_option maxRecDepth 10000
theorem F04 (h : Hp) (cH : List Value) (p0 : F0) (rp0 : F1.R h cH p0) (ap1 : Option Addr) (np1 cp1 : Nat) (p1 : V3) (rp1 : n5.R h [.slice ap1 np1 cp1] p1) (r : l0 × Bool) (aB : O6 p0 p1 = some r) :
  Tr Tryz.prog 65 #[.agg cH.toArray, .slice ap1 np1 cp1] h fun v h' => ∃ (cs0 : List Value), v = .tuple #[.agg cs0.toArray, .bool r.2] ∧ W0.R h' cs0 r.1 ∧ Sub h h' := by
 obtain ⟨aG, aO, cU, aP, aW, rfl, rfl, aQ, aR⟩ := U1 rp0
 obtain ⟨rfl, cV⟩ := Sl.len aR
 obtain ⟨rfl, lp1⟩ := Sl.len rp1
 unfold O6 at aB
 dsimp only at aB
 refine Q2 (args := [.agg #[.int .i64 aG, .slice aO aW.length aP], .slice ap1 p1.length cp1]) (fn := Tryz.f65) rfl ?_
 obtain ⟨x1, dG, aB⟩ := j0 aB
 refine Tr.mono (f0a _ aG aQ ap1 p1.length cp1 p1 rp1 _  dG) ?_
 rintro v3 k2 ⟨cI, rfl, bF, cW⟩
 obtain ⟨dH, dI⟩ := x1
 dsimp only at aB bF
 obtain ⟨aS, aT, aX, bY, aY, bI, rfl, rfl, aZ, bA, aL⟩ := B0 bF
 obtain ⟨rfl, bZ⟩ := Sl.len aL
 try dsimp only at aB
 obtain ⟨x4, dJ, aB⟩ := j0 aB
 refine Exists.intro (.bool x4) (And.intro (fun q => g00 _ [.int .i64 aG, .slice aO aW.length aP] (aG, aW) (Z1 aQ (n5.mono cW aR)) _  (V1 dJ q)) ?_)
 refine And.intro (fun cJ => ?_) (fun cJ => ?_)
 ·replace aB := ifP aB cJ
  have hE := Option.some.inj aB; subst hE
  exact ⟨([.int .i64 0, .int .i64 0, .slice none 0 0]), rfl, (z0 (by decide) (by decide) (U0d S0 k2)), cW⟩
 ·replace aB := ifN aB cJ
  obtain ⟨x6, dK, aB⟩ := j0 aB
  refine Tr.mono (S02 _ [.int .i64 aS, .int .i64 aT, .slice aX bI.length aY] (aS, aT, bI) (z0 aZ bA aL) _  dK) ?_
  rintro v8 k7 ⟨cK, cX, cY, cZ, rfl, bG, bH, cA⟩
  obtain ⟨dL, dM⟩ := x6
  dsimp only at aB bG bH
  obtain ⟨bJ, bK, bB, cC, bC, bL, rfl, rfl, bD, bE, aM⟩ := B0 bG
  obtain ⟨rfl, cD⟩ := Sl.len aM
  try dsimp only at aB
  obtain ⟨rfl, dA⟩ := Sl.len bH
  obtain ⟨X9, cL, aB⟩ := j0 aB
  refine Exists.intro { vars := [10], boxes := [3], owns := [], fuel := true } (Exists.intro (fun vs os h' => ∃ (u10 : Int) (u11 : Int) (u12 : Int) (au13 : Option Addr) (nu13 cu13 : Nat) (u13 : M0), vs.tail = [.int .i64 u10, .int .i64 u11, .int .i64 u12, .slice au13 nu13 cu13] ∧ os = [] ∧ Sub k7 h' ∧ D0 u10 ∧ D0 u11 ∧ D0 u12 ∧ I0.R h' [.slice au13 nu13 cu13] u13 ∧ O2 aG aW (L1 vs) u10 u11 u12 u13 = some X9) (Exists.intro (fun _ _ => 0) ?_))
  refine And.intro (Exists.intro Q0 ⟨0, bJ, bK, bB, bL.length, bC, bL, rfl, rfl, (Sub.refl _), (by decide), bD, bE, aM, cL⟩) ?_
  rintro v_0 v_1 v_2 v_3 m15 k14 ⟨u10, u11, u12, au13, nu13, cu13, u13, cM, cN, cE, iu10, iu11, iu12, ru13, aA⟩
  cases cM
  cases cN
  replace aA : O2 aG aW m15 u10 u11 u12 u13 = some X9 := aA
  obtain _ | m15 := m15
  ·cases (show (none : Option _) = some X9 from aA)
  rw [O2.eq_2] at aA
  obtain ⟨rfl, lu13⟩ := Sl.len ru13
  refine And.intro (fun bM => ?_) (fun bM => ?_)
  ·replace aA := ifP aA bM
   obtain ⟨x17, cO, aA⟩ := j0 aA
   refine Tr.mono (f07 _ [.int .i64 aG, .slice aO aW.length aP] (aG, aW) (Z1 aQ (n5.mono ((cW.trans cA).trans cE) aR)) [.int .i64 u11, .int .i64 u12, .slice au13 u13.length cu13] (u11, u12, u13) (z0 iu11 iu12 ru13) _  cO) ?_
   rintro v19 k18 ⟨cG, rfl, aU, bN⟩
   obtain ⟨dB, dC, dD⟩ := x17
   dsimp only at aA aU
   obtain ⟨aD, aF, aH, bU, aI, aN, rfl, rfl, aJ, aK, aC⟩ := B0 aU
   obtain ⟨rfl, bV⟩ := Sl.len aC
   try dsimp only at aA
   refine And.intro (fun bO => ?_) (fun bO => ?_)
   ·replace aA := ifP aA bO
    have hE := Option.some.inj aA; subst hE
    try dsimp only [Z2, D3] at aB
    have hE := Option.some.inj aB; subst hE
    exact ⟨([.int .i64 0, .int .i64 0, .slice none 0 0]), rfl, (z0 (by decide) (by decide) (U0d S0 k18)), (((cW.trans cA).trans cE).trans bN)⟩
   ·replace aA := ifN aA bO
    refine And.intro (fun bP => ?_) (fun bP => ?_)
    ·replace aA := ifP aA bP
     obtain ⟨x22, cP, aA⟩ := j0 aA
     refine Tr.mono (o09 _ [.int .i64 aD, .int .i64 aF, .slice aH aN.length aI] (aD, aF, aN) (z0 aJ aK aC) _  cP) ?_
     rintro v24 k23 ⟨dE, rfl, cQ, cR⟩
     obtain ⟨bW, bX, bQ, cS, bR, dF, rfl, rfl, bS, bT, aV⟩ := B0 cQ
     obtain ⟨rfl, cT⟩ := Sl.len aV
     try dsimp only at aA
     have hE := Option.some.inj aA; subst hE
     try dsimp only [Z2, D3] at aB
     have hE := Option.some.inj aB; subst hE
     exact ⟨([.int .i64 bW, .int .i64 bX, .slice bQ dF.length bR]), rfl, (z0 bS bT aV), ((((cW.trans cA).trans cE).trans bN).trans cR)⟩
    ·replace aA := ifN aA bP
     refine And.intro rfl (And.intro (by repeat first|exact trivial|refine And.intro rfl ?_) (And.intro (by repeat first|exact trivial|refine And.intro rfl ?_) (Exists.intro m15 (And.intro ⟨(IntKind.i64.wrap (u10 + 1)), aD, aF, aH, aN.length, aI, aN, rfl, rfl, (cE.trans bN), (K0 _), aJ, aK, aC, aA⟩ (Nat.lt_succ_self _)))))
  ·replace aA := ifN aA bM
   have hE := Option.some.inj aA; subst hE
   try dsimp only [T0, U0] at aB
   have hE := Option.some.inj aB; subst hE
   exact ⟨([.int .i64 0, .int .i64 0, .slice none 0 0]), rfl, (z0 (by decide) (by decide) (U0d S0 k14)), ((cW.trans cA).trans cE)⟩
theorem h0a (h : Hp) (aM : List Value) (p0 : l0) (rp0 : W0.R h aM p0) (ap1 : Option Addr) (np1 cp1 : Nat) (p1 : P0) (rp1 : Z0.R h [.slice ap1 np1 cp1] p1) (r : Bool) (aA : S8 p0 p1 = some r) :
  Tr Tryz.prog 125 #[.agg aM.toArray, .slice ap1 np1 cp1] h fun v h' => v = .bool r ∧ h' = h := by
 obtain ⟨aB, aC, aD, aO, aF, aK, rfl, rfl, aH, aI, aG⟩ := B0 rp0
 obtain ⟨rfl, aP⟩ := Sl.len aG
 obtain ⟨rfl, lp1⟩ := Sl.len rp1
 unfold S8 at aA
 dsimp only at aA
 refine Tr.forget (Q2 (args := [.agg #[.int .i64 aB, .int .i64 aC, .slice aD aK.length aF], .slice ap1 p1.length cp1]) (fn := Tryz.f125) rfl ?_)
 refine Or.inr (Or.inr (Or.inr (Or.inl (And.intro (And.intro (by kernel_rfl) (by kernel_rfl)) ?_))))
 obtain ⟨x1, aS, aA⟩ := j0 aA
 refine Or.inr (Exists.intro (fun v hh => ∃ (a : Option Addr) (c : Nat), v = .slice a x1.length c ∧ Z0.R hh [.slice a x1.length c] x1 ∧ x1.length ≤ 9223372036854775807) (And.intro (fun v h1 h2 sb q => by obtain ⟨a, c, e, r, l⟩ := q; exact ⟨a, c, e, Z0.mono sb r, l⟩) (And.intro ?_ ?_)))
 ·intro k2 s3
  refine Tr.mono (I05 _ ap1 p1.length cp1 p1 (Z0.mono s3 rp1) _ aS) ?_
  rintro _ kk ⟨aT, aY, aU, rfl, aQ, sb⟩
  obtain ⟨rfl, aV⟩ := Sl.len aQ
  exact And.intro J02 (And.intro sb ⟨aT, aU, rfl, aQ, aV⟩)
 obtain ⟨x4, aW, aA⟩ := j0 aA
 obtain ⟨aJ, aL⟩ := x4
 try dsimp only at aA
 obtain ⟨q5, aX, aA⟩ := j0 aA
 have aR : D0 aJ := A2 aX
 refine Or.inl (Exists.intro (.val (.tuple #[.int .i64 aJ, .bool aL])) (And.intro ?_ ?_))
 ·intro k6 s7
  rintro _ ⟨az8, cz8, rfl, rz8, lz8⟩
  exact Tr.val (N04 _ [.int .i64 aB, .int .i64 aC, .slice aD aK.length aF] (aB, aC, aK) (z0 aH aI (I0.mono s7 aG)) 0 (by decide) az8 x1.length cz8 x1 rz8 _ aW) (And.intro rfl (And.intro rfl rfl))
 refine Or.inl (Exists.intro (.val (.int .i64 aJ)) (And.intro ?_ ?_))
 ·intro k9 s10
  exact And.intro rfl (And.intro rfl rfl)
 refine Or.inl (Exists.intro (.val (.bool aL)) (And.intro ?_ ?_))
 ·intro k11 s12
  exact And.intro rfl (And.intro rfl rfl)
 intro k13 s14
 rintro _ ⟨az15, cz15, rfl, rz15, lz15⟩
 obtain ⟨x16, aN, aA⟩ := j0 aA
 refine Tr.val (o08 _ [.int .i64 aB, .int .i64 aC, .slice aD aK.length aF] (aB, aC, aK) (z0 aH aI (I0.mono s14 aG)) _  aN) ?_
 have hE := Option.some.inj aA; subst hE
 exact And.intro rfl s14
theorem g07 (h : Hp) (aT : List Value) (p0 : F0) (rp0 : F1.R h aT p0) (ap1 : Option Addr) (np1 cp1 : Nat) (p1 : P0) (rp1 : Z0.R h [.slice ap1 np1 cp1] p1) (r : Bool × Bool) (aA : H9 p0 p1 = some r) :
  Tr Tryz.prog 62 #[.agg aT.toArray, .slice ap1 np1 cp1] h fun v h' => v = .tuple #[.bool r.1, .bool r.2] ∧ h' = h := by
 obtain ⟨aF, aK, aY, aL, aU, rfl, rfl, aM, aN⟩ := U1 rp0
 obtain ⟨rfl, aZ⟩ := Sl.len aN
 obtain ⟨rfl, lp1⟩ := Sl.len rp1
 unfold H9 at aA
 dsimp only at aA
 refine Tr.forget (Q2 (args := [.agg #[.int .i64 aF, .slice aK aU.length aL], .slice ap1 p1.length cp1]) (fn := Tryz.f62) rfl ?_)
 refine Or.inl ?_
 intro v1 k2 f3
 obtain ⟨az4, cz4, rfl, rz4, sz4, lz4⟩ := j1.out (r := Z0.toRp) f3 (show F2 (Z0.R h) ([] : List (List Value)) ([] : V3) from trivial)
 obtain ⟨x5, bA, aA⟩ := j0 aA
 refine Tr.mono (F04 _ [.int .i64 aF, .slice aK aU.length aL] (aF, aU) (Z1 aM (n5.mono sz4 aN)) az4 (([] : V3)).length cz4 ([] : V3) rz4 _  bA) ?_
 rintro v7 k6 ⟨aV, rfl, aO, aQ⟩
 obtain ⟨bB, bC⟩ := x5
 dsimp only at aA aO
 obtain ⟨aC, aD, aG, aR, aH, aP, rfl, rfl, aI, aJ, aB⟩ := B0 aO
 obtain ⟨rfl, aS⟩ := Sl.len aB
 try dsimp only at aA
 obtain ⟨x8, bD, aA⟩ := j0 aA
 refine Exists.intro (.bool x8) (And.intro (fun q => z03 _ aF aM ap1 p1.length cp1 p1 (Z0.mono (sz4.trans aQ) rp1) _  (V1 bD q)) ?_)
 refine And.intro (fun aW => ?_) (fun aW => ?_)
 ·replace aA := ifP aA aW
  have hE := Option.some.inj aA; subst hE
  exact And.intro rfl (sz4.trans aQ)
 ·replace aA := ifN aA aW
  obtain ⟨x10, aX, aA⟩ := j0 aA
  refine Tr.val (h0a _ [.int .i64 aC, .int .i64 aD, .slice aG aP.length aH] (aC, aD, aP) (z0 aI aJ aB) ap1 p1.length cp1 p1 (Z0.mono (sz4.trans aQ) rp1) _  aX) ?_
  have hE := Option.some.inj aA; subst hE
  exact And.intro rfl (sz4.trans aQ)
end Go.Proofs.YtfdlgbfeceodeaaGreat
namespace Go.Proofs.YtfdlgbfeceodeaaGreat
open Go.H
set_option linter.unusedVariables false
set_option linter.unusedSimpArgs false
set_option maxRecDepth 10000
theorem N3 (h : Hp) (aH : List Value) (p0 : l0) (rp0 : W0.R h aH p0) (r : l0) (aB : C2 p0 = some r) :
  Tr Tryz.prog 84 #[.agg aH.toArray] h fun v h' => ∃ (g0 : Nat) (n0 c0 : Nat), v = .agg ([.int .i64 r.1, .int .i64 r.2.1, .slice (some ⟨g0, 0, none⟩) n0 c0] : List Value).toArray ∧ New W0 h h' [.int .i64 r.1, .int .i64 r.2.1, .slice (some ⟨g0, 0, none⟩) n0 c0] r := by
 obtain ⟨aI, aJ, aC, aL, aD, aK, rfl, rfl, aF, aG, aA⟩ := B0 rp0
 obtain ⟨rfl, aM⟩ := Sl.len aA
 unfold C2 at aB
 dsimp only at aB
 refine Q2 (args := [.agg #[.int .i64 aI, .int .i64 aJ, .slice aC aK.length aD]]) (fn := Tryz.f84) rfl ?_
 refine Or.inr (Or.inr (Or.inl (And.intro (And.intro (by kernel_rfl) (by kernel_rfl)) ?_)))
 refine Or.inr ?_
 refine Or.inr ?_
 refine Or.inr ?_
 refine Or.inr ?_
 refine Exists.intro 0 (And.intro (And.intro rfl rfl) ?_)
 refine And.intro trivial (And.intro (by first | exact trivial | exact rfl) ?_)
 obtain ⟨vsy1, ey1, fy1⟩ := Sl.rows (r := S0.toRp) aA
 refine Exists.intro vsy1 (And.intro ey1 ?_)
 obtain ⟨q2, aN, aB⟩ := j0 aB
 refine And.intro (J2 aN (by first | rw [F2.length (show F2 (S0.R h) ([] : List (List Value)) ([] : M0) from trivial), F2.length fy1] | exact congrArg (· + 1) (F2.length (show F2 (S0.R h) ([] : List (List Value)) ([] : M0) from trivial)))) ?_
 refine And.intro trivial (And.intro (by first | exact trivial | exact rfl) ?_)
 refine And.intro trivial (And.intro (by first | exact trivial | exact rfl) ?_)
 refine And.intro trivial (And.intro (by first | exact trivial | exact rfl) ?_)
 intro v3 k4 f5
 obtain ⟨gz6, cz6, rfl, rz6, sz6, lz6⟩ := j1.outS (r := S0.toRp) f5 (F2.append (show F2 (S0.R h) ([] : List (List Value)) ([] : M0) from trivial) fy1)
 have hE := Option.some.inj aB; subst hE
 exact ⟨gz6, ((([] : M0) ++ aK)).length, cz6, rfl, (New.pair (New.int aF) (New.pair (New.int aG) (j1.newPlain (r := S0) f5 (F2.append (show F2 (S0.R h) ([] : List (List Value)) ([] : M0) from trivial) fy1) (k09 _))))⟩
theorem i0a (h : Hp) (aJ : List Value) (p0 : l0) (rp0 : W0.R h aJ p0) (p1 : Int) (ip1 : D0 p1) (r : Int) (aD : N9 p0 p1 = some r) :
  Tr Tryz.prog 194 #[.agg aJ.toArray, .int .i64 p1] h fun v h' => v = .int .i64 r ∧ h' = h := by
 obtain ⟨aK, aL, aG, aS, aH, aI, rfl, rfl, aT, aU, aB⟩ := B0 rp0
 obtain ⟨rfl, aV⟩ := Sl.len aB
 unfold N9 at aD
 dsimp only at aD
 refine Tr.forget (Q2 (args := [.agg #[.int .i64 aK, .int .i64 aL, .slice aG aI.length aH], .int .i64 p1]) (fn := Tryz.f194) rfl ?_)
 obtain ⟨X1, aM, aD⟩ := j0 aD
 refine Exists.intro { vars := [5, 11], boxes := [], owns := [], fuel := true } (Exists.intro (fun vs os h' => ∃ (u2 : Int) (u3 : Int), vs.tail = [.int .i64 u2, .int .i64 u3] ∧ os = [] ∧ Sub h h' ∧ D0 u2 ∧ D0 u3 ∧ N4 aI p1 (L1 vs) u2 u3 = some X1) (Exists.intro (fun _ _ => 0) ?_))
 refine And.intro (Exists.intro Q0 ⟨0, 0, rfl, rfl, (Sub.refl _), (by decide), (by decide), aM⟩) ?_
 rintro v_0 v_1 m5 k4 ⟨u2, u3, aN, aO, aF, iu2, iu3, aA⟩
 cases aN
 cases aO
 replace aA : N4 aI p1 m5 u2 u3 = some X1 := aA
 obtain _ | m5 := m5
 ·cases (show (none : Option _) = some X1 from aA)
 rw [N4.eq_2] at aA
 refine And.intro (fun aP => ?_) (fun aP => ?_)
 ·replace aA := ifP aA aP
  obtain ⟨x7, aZ, aA⟩ := j0 aA
  obtain ⟨bA, bB, bC, bD⟩ := Sl.getI (r := S0.toRp) (I0.mono aF aB) aZ (by decide)
  refine And.intro bA ?_
  obtain ⟨bE, bF, bG, rfl, rfl, aW, aX, aY⟩ := C1 bD
  try dsimp only at aA
  refine Exists.intro _ (And.intro bC ?_)
  refine And.intro (fun aQ => ?_) (fun aQ => ?_)
  ·replace aA := ifP aA aQ
   refine And.intro (fun aR => ?_) (fun aR => ?_)
   ·replace aA := ifP aA aR
    refine And.intro rfl (And.intro (by repeat first|exact trivial|refine And.intro rfl ?_) (And.intro (by repeat first|exact trivial|refine And.intro rfl ?_) (Exists.intro m5 (And.intro ⟨(IntKind.i64.wrap ((IntKind.i64.wrap (u2 + 1)) + 1)), (IntKind.i64.wrap (u3 + 1)), rfl, rfl, aF, (K0 _), (K0 _), aA⟩ (Nat.lt_succ_self _)))))
   ·replace aA := ifN aA aR
    refine And.intro rfl (And.intro (by repeat first|exact trivial|refine And.intro rfl ?_) (And.intro (by repeat first|exact trivial|refine And.intro rfl ?_) (Exists.intro m5 (And.intro ⟨(IntKind.i64.wrap (u2 + 1)), (IntKind.i64.wrap (u3 + 1)), rfl, rfl, aF, (K0 _), (K0 _), aA⟩ (Nat.lt_succ_self _)))))
  ·replace aA := ifN aA aQ
   refine And.intro (fun aC => ?_) (fun aC => ?_)
   ·replace aA := ifP aA aC
    refine And.intro rfl (And.intro (by repeat first|exact trivial|refine And.intro rfl ?_) (And.intro (by repeat first|exact trivial|refine And.intro rfl ?_) (Exists.intro m5 (And.intro ⟨(IntKind.i64.wrap (u2 + 1)), (IntKind.i64.wrap (u3 + 1)), rfl, rfl, aF, (K0 _), (K0 _), aA⟩ (Nat.lt_succ_self _)))))
   ·replace aA := ifN aA aC
    refine And.intro rfl (And.intro (by repeat first|exact trivial|refine And.intro rfl ?_) (And.intro (by repeat first|exact trivial|refine And.intro rfl ?_) (Exists.intro m5 (And.intro ⟨u2, (IntKind.i64.wrap (u3 + 1)), rfl, rfl, aF, iu2, (K0 _), aA⟩ (Nat.lt_succ_self _)))))
 ·replace aA := ifN aA aP
  have hE := Option.some.inj aA; subst hE
  try dsimp only [T0, U0] at aD
  have hE := Option.some.inj aD; subst hE
  exact And.intro rfl aF
theorem k06 (h : Hp) (aL : List Value) (p0 : l0) (rp0 : W0.R h aL p0) (p1 : Int) (ip1 : D0 p1) (r : (List Bool)) (aC : Y7 p0 p1 = some r) :
  Tr Tryz.prog 193 #[.agg aL.toArray, .int .i64 p1] h fun v h' => ∃ (a0 : Option Addr) (n0 c0 : Nat), v = .slice a0 n0 c0 ∧ (Wp.slice Wp.bool).R h' [.slice a0 n0 c0] r ∧ Sub h h' := by
 obtain ⟨aM, aN, aI, bS, aJ, aD, rfl, rfl, bT, bU, aF⟩ := B0 rp0
 obtain ⟨rfl, bV⟩ := Sl.len aF
 unfold Y7 at aC
 dsimp only at aC
 refine Q2 (args := [.agg #[.int .i64 aM, .int .i64 aN, .slice aI aD.length aJ], .int .i64 p1]) (fn := Tryz.f193) rfl ?_
 obtain ⟨q1, cG, aC⟩ := j0 aC
 refine And.intro (A2 cG) ?_
 obtain ⟨x2, cH, aC⟩ := j0 aC
 obtain ⟨cI, cJ, cK, cL⟩ := G6 (F2.rep (p := Wp.bool.R h) (a := [.bool false]) (b := false) rfl (aN.toNat)) cH
 refine And.intro cI ?_
 obtain rfl := cL
 refine Exists.intro _ (And.intro cK ?_)
 obtain ⟨X3, aO, aC⟩ := j0 aC
 refine Exists.intro { vars := [6], boxes := [], owns := [0], fuel := true, kept := [0] } (Exists.intro (fun vs os h' => ∃ (u4 : Bool) (wu5 : List (List Value)) (u5 : List Bool), vs.tail = [.bool u4] ∧ os = [wu5] ∧ Sub h h' ∧ F2 (Wp.bool.R h') wu5 u5 ∧ E4 aD (L1 vs) u4 u5 = some X3) (Exists.intro (fun _ _ => 0) ?_))
 refine And.intro (Exists.intro Q0 ⟨true, ((List.replicate aN.toNat ([.bool false] : List Value)).set p1.toNat [.bool true]), ((List.replicate aN.toNat (false : Bool)).set p1.toNat true), rfl, rfl, (Sub.refl _), (F2.set (p := Wp.bool.R h) (a := [.bool true]) (b := true) rfl p1.toNat (F2.rep (p := Wp.bool.R h) (a := [.bool false]) (b := false) rfl (aN.toNat))), aO⟩) ?_
 rintro v_0 wu5 m7 k6 ⟨u4, zzu5, u5, aP, aQ, cM, fu5, aB⟩
 cases aP
 cases aQ
 replace aB : E4 aD m7 u4 u5 = some X3 := aB
 obtain _ | m7 := m7
 ·cases (show (none : Option _) = some X3 from aB)
 rw [E4.eq_2] at aB
 refine And.intro (fun aR => ?_) (fun aR => ?_)
 ·replace aB := ifP aB aR
  obtain ⟨X9, aS, aB⟩ := j0 aB
  refine Exists.intro { vars := [6, 19], boxes := [], owns := [0], fuel := true, kept := [0] } (Exists.intro (fun vs os h' => ∃ (u10 : Bool) (u11 : Int) (wu12 : List (List Value)) (u12 : List Bool), vs.tail = [.bool u10, .int .i64 u11] ∧ os = [wu12] ∧ Sub k6 h' ∧ D0 u11 ∧ F2 (Wp.bool.R h') wu12 u12 ∧ S3 aD (L1 vs) u10 u11 u12 = some X9) (Exists.intro (fun _ _ => 0) ?_))
  refine And.intro (Exists.intro Q0 ⟨false, 0, wu5, u5, rfl, rfl, (Sub.refl _), (by decide), fu5, aS⟩) ?_
  rintro v_0 v_1 wu12 m14 k13 ⟨u10, u11, zzu12, u12, aT, aU, aK, iu11, fu12, aA⟩
  cases aT
  cases aU
  replace aA : S3 aD m14 u10 u11 u12 = some X9 := aA
  obtain _ | m14 := m14
  ·cases (show (none : Option _) = some X9 from aA)
  rw [S3.eq_2] at aA
  refine And.intro (fun aG => ?_) (fun aG => ?_)
  ·replace aA := ifP aA aG
   obtain ⟨x16, aV, aA⟩ := j0 aA
   obtain ⟨aW, bW, aX, aY⟩ := Sl.getI (r := S0.toRp) (I0.mono (cM.trans aK) aF) aV (by decide)
   refine And.intro aW ?_
   obtain ⟨bX, bY, bZ, rfl, rfl, aZ, bA, bB⟩ := C1 aY
   try dsimp only at aA
   refine Exists.intro _ (And.intro aX ?_)
   refine Or.inl (And.intro (And.intro (by kernel_rfl) (by kernel_rfl)) ?_)
   obtain ⟨x17, bC, aA⟩ := j0 aA
   obtain ⟨bD, cA, bE, bF⟩ := G6 fu12 bC
   refine And.intro bD ?_
   obtain rfl := bF
   refine Exists.intro _ (And.intro bE ?_)
   obtain ⟨x18, bG, aA⟩ := j0 aA
   obtain ⟨bH, cC, bI, bJ⟩ := G6 fu12 bG
   refine And.intro bH ?_
   obtain rfl := bJ
   refine Exists.intro _ (And.intro bI ?_)
   refine And.intro (fun aH => ?_) (fun aH => ?_)
   ·replace aA := ifP aA aH
    obtain ⟨x20, bK, aA⟩ := j0 aA
    obtain ⟨bL, cD, bM, bN⟩ := G6 fu12 bK
    refine And.intro bL ?_
    obtain rfl := bN
    refine Exists.intro _ (And.intro bM ?_)
    obtain ⟨x21, bO, aA⟩ := j0 aA
    obtain ⟨bP, cE, bQ, bR⟩ := G6 (F2.set (p := Wp.bool.R k13) (a := [.bool true]) (b := true) rfl bX.toNat fu12) bO
    refine And.intro bP ?_
    obtain rfl := bR
    refine Exists.intro _ (And.intro bQ ?_)
    refine And.intro rfl (And.intro (by repeat first|exact trivial|refine And.intro rfl ?_) (And.intro (by repeat first|exact trivial|refine And.intro rfl ?_) (Exists.intro m14 (And.intro ⟨true, (IntKind.i64.wrap (u11 + 1)), ((wu12.set bX.toNat [.bool true]).set bZ.toNat [.bool true]), ((u12.set bX.toNat true).set bZ.toNat true), rfl, rfl, aK, (K0 _), (F2.set (p := Wp.bool.R k13) (a := [.bool true]) (b := true) rfl bZ.toNat (F2.set (p := Wp.bool.R k13) (a := [.bool true]) (b := true) rfl bX.toNat fu12)), aA⟩ (Nat.lt_succ_self _)))))
   ·replace aA := ifN aA aH
    refine And.intro rfl (And.intro (by repeat first|exact trivial|refine And.intro rfl ?_) (And.intro (by repeat first|exact trivial|refine And.intro rfl ?_) (Exists.intro m14 (And.intro ⟨u10, (IntKind.i64.wrap (u11 + 1)), wu12, u12, rfl, rfl, aK, (K0 _), fu12, aA⟩ (Nat.lt_succ_self _)))))
  ·replace aA := ifN aA aG
   have hE := Option.some.inj aA; subst hE
   try dsimp only [T0, U0] at aB
   refine And.intro rfl (And.intro (by repeat first|exact trivial|refine And.intro rfl ?_) (And.intro (by repeat first|exact trivial|refine And.intro rfl ?_) (Exists.intro m7 (And.intro ⟨u10, wu12, u12, rfl, rfl, (cM.trans aK), fu12, aB⟩ (Nat.lt_succ_self _)))))
 ·replace aB := ifN aB aR
  have hE := Option.some.inj aB; subst hE
  try dsimp only [T0, U0] at aC
  intro v27 k28 f29
  obtain ⟨az30, cz30, rfl, rz30, sz30, lz30⟩ := j1.out (r := Wp.bool.toRp) f29 fu5
  have hE := Option.some.inj aC; subst hE
  exact ⟨az30, u5.length, cz30, rfl, rz30, (cM.trans sz30)⟩
theorem M05 (h : Hp) (p0 : Int) (ip0 : D0 p0) (r : P0) (aB : B8 p0 = some r) :
  Tr Tryz.prog 156 #[.int .i64 p0] h fun v h' => ∃ (a0 : Option Addr) (n0 c0 : Nat), v = .slice a0 n0 c0 ∧ Z0.R h' [.slice a0 n0 c0] r ∧ Sub h h' := by
 unfold B8 at aB
 refine Q2 (args := [.int .i64 p0]) (fn := Tryz.f156) rfl ?_
 obtain ⟨X1, aC, aB⟩ := j0 aB
 refine Exists.intro { vars := [4], boxes := [], owns := [0], fuel := true } (Exists.intro (fun vs os h' => ∃ (u2 : Int) (wu3 : List (List Value)) (u3 : List Int), vs.tail = [.int .i64 u2] ∧ os = [wu3] ∧ Sub h h' ∧ D0 u2 ∧ F2 (Wp.int.R h') wu3 u3 ∧ A6 p0 (L1 vs) u2 u3 = some X1) (Exists.intro (fun _ _ => 0) ?_))
 refine And.intro (Exists.intro Q0 ⟨1, [], ([] : P0), rfl, rfl, (Sub.refl _), (by decide), (show F2 (Wp.int.R h) ([] : List (List Value)) ([] : P0) from trivial), aC⟩) ?_
 rintro v_0 wu3 m5 k4 ⟨u2, zzu3, u3, aD, aF, aH, iu2, fu3, aA⟩
 cases aD
 cases aF
 replace aA : A6 p0 m5 u2 u3 = some X1 := aA
 obtain _ | m5 := m5
 ·cases (show (none : Option _) = some X1 from aA)
 rw [A6.eq_2] at aA
 refine And.intro (fun aG => ?_) (fun aG => ?_)
 ·replace aA := ifP aA aG
  obtain ⟨q7, aI, aA⟩ := j0 aA
  refine And.intro (J2 aI (by first | rw [F2.length fu3, F2.length (show F2 (Wp.int.R k4) ([[.int .i64 u2], [.int .i64 (IntKind.i64.wrap (0 - u2))]] : List (List Value)) [u2, (IntKind.i64.wrap (0 - u2))] from ⟨⟨rfl, iu2⟩, ⟨⟨rfl, (K0 _)⟩, trivial⟩⟩)] | exact congrArg (· + 2) (F2.length fu3))) ?_
  refine And.intro rfl (And.intro (by repeat first|exact trivial|refine And.intro rfl ?_) (And.intro (by repeat first|exact trivial|refine And.intro rfl ?_) (Exists.intro m5 (And.intro ⟨(IntKind.i64.wrap (u2 + 1)), (wu3 ++ ([[.int .i64 u2], [.int .i64 (IntKind.i64.wrap (0 - u2))]] : List (List Value))), (u3 ++ [u2, (IntKind.i64.wrap (0 - u2))]), rfl, rfl, aH, (K0 _), (F2.append fu3 (show F2 (Wp.int.R k4) ([[.int .i64 u2], [.int .i64 (IntKind.i64.wrap (0 - u2))]] : List (List Value)) [u2, (IntKind.i64.wrap (0 - u2))] from ⟨⟨rfl, iu2⟩, ⟨⟨rfl, (K0 _)⟩, trivial⟩⟩)), aA⟩ (Nat.lt_succ_self _)))))
 ·replace aA := ifN aA aG
  have hE := Option.some.inj aA; subst hE
  try dsimp only [T0, U0] at aB
  intro v8 k9 f10
  obtain ⟨az11, cz11, rfl, rz11, sz11, lz11⟩ := j1.out (r := Wp.int.toRp) f10 fu3
  have hE := Option.some.inj aB; subst hE
  exact ⟨az11, u3.length, cz11, rfl, rz11, (aH.trans sz11)⟩
theorem P01 (h : Hp) (ap0 : Option Addr) (np0 cp0 : Nat) (p0 : M0) (rp0 : I0.R h [.slice ap0 np0 cp0] p0) (r : M0) (aA : c8 p0 = some r) :
  Tr Tryz.prog 154 #[.slice ap0 np0 cp0] h fun v h' => ∃ (a0 : Option Addr) (n0 c0 : Nat), v = .slice a0 n0 c0 ∧ New I0 h h' [.slice a0 n0 c0] r := by
 obtain ⟨rfl, lp0⟩ := Sl.len rp0
 unfold c8 at aA
 refine Q2 (args := [.slice ap0 p0.length cp0]) (fn := Tryz.f154) rfl ?_
 obtain ⟨vsy1, ey1, fy1⟩ := Sl.rows (r := S0.toRp) rp0
 refine Exists.intro vsy1 (And.intro ey1 ?_)
 obtain ⟨q2, aB, aA⟩ := j0 aA
 refine And.intro (J2 aB (by first | rw [F2.length (show F2 (S0.R h) ([] : List (List Value)) ([] : M0) from trivial), F2.length fy1] | exact congrArg (· + 1) (F2.length (show F2 (S0.R h) ([] : List (List Value)) ([] : M0) from trivial)))) ?_
 refine Or.inl ?_
 intro v3 k4 f5
 obtain ⟨q6, aC, aA⟩ := j0 aA
 refine Tr.mono (i0g _ f5 (F2.append (show F2 (S0.R h) ([] : List (List Value)) ([] : M0) from trivial) fy1) (A2 aC)) ?_
 rintro _ kz7 ⟨rfl, vsz7, fz7, qz7⟩
 obtain ⟨az7, cz7, rfl, rz7, sz7, lz7⟩ := j1.out (r := S0.toRp) fz7 qz7
 refine Tr.mono (j0g _ fz7 qz7) ?_
 rintro _ kz8 ⟨vsz8, fz8, qz8⟩
 obtain ⟨az8, cz8, rfl, rz8, sz8, lz8⟩ := j1.out (r := S0.toRp) fz8 qz8
 have hE := Option.some.inj aA; subst hE
 exact ⟨az8, ((y01 eqE (T03 H0 (([] : M0) ++ p0)))).length, cz8, rfl, (j1.newPlain (r := S0) fz8 qz8 (k09 _))⟩
theorem V09 (h : Hp) (aZ : List Value) (p0 : l0) (rp0 : W0.R h aZ p0) (ap1 : Option Addr) (np1 cp1 : Nat) (p1 : P0) (rp1 : Z0.R h [.slice ap1 np1 cp1] p1) (r : l0) (aC : e01 p0 p1 = some r) :
  Tr Tryz.prog 195 #[.agg aZ.toArray, .slice ap1 np1 cp1] h fun v h' => ∃ (cs0 : List Value), v = .agg cs0.toArray ∧ New W0 h h' cs0 r := by
 obtain ⟨aL, bA, aM, cS, aN, aO, rfl, rfl, aP, cT, aH⟩ := B0 rp0
 obtain ⟨rfl, cU⟩ := Sl.len aH
 obtain ⟨rfl, lp1⟩ := Sl.len rp1
 unfold e01 at aC
 dsimp only at aC
 refine Q2 (args := [.agg #[.int .i64 aL, .int .i64 bA, .slice aM aO.length aN], .slice ap1 p1.length cp1]) (fn := Tryz.f195) rfl ?_
 obtain ⟨q1, dF, aC⟩ := j0 aC
 refine And.intro (A2 dF) ?_
 obtain ⟨m2, gm2, aC⟩ := j0 aC
 obtain rfl : (List.replicate bA.toNat ([.int .i64 0] : List Value)).length = m2 := (F2.length (F2.rep (p := Wp.int.R h) (a := [.int .i64 0]) (b := 0) ⟨rfl, (by decide)⟩ (bA.toNat))).trans (Option.some.inj gm2)
 obtain ⟨q3, dP, aC⟩ := j0 aC
 obtain ⟨X4, bB, aC⟩ := j0 aC
 refine Exists.intro { vars := [17], boxes := [], owns := [0], fuel := true, kept := [0] } (Exists.intro (fun vs os h' => ∃ (u5 : Int) (wu6 : List (List Value)) (u6 : List Int), vs.tail = [.int .i64 u5] ∧ os = [wu6] ∧ Sub h h' ∧ D0 u5 ∧ F2 (Wp.int.R h') wu6 u6 ∧ f8 ((List.replicate bA.toNat ([.int .i64 0] : List Value))).length (L1 vs) u5 u6 = some X4) (Exists.intro (fun _ _ => 0) ?_))
 refine And.intro (Exists.intro Q0 ⟨0, (List.replicate bA.toNat ([.int .i64 0] : List Value)), (List.replicate bA.toNat (0 : Int)), rfl, rfl, (Sub.refl _), (by decide), (F2.rep (p := Wp.int.R h) (a := [.int .i64 0]) (b := 0) ⟨rfl, (by decide)⟩ (bA.toNat)), bB⟩) ?_
 rintro v_0 wu6 m8 k7 ⟨u5, zzu6, u6, bC, bD, dG, iu5, fu6, aA⟩
 cases bC
 cases bD
 replace aA : f8 ((List.replicate bA.toNat ([.int .i64 0] : List Value))).length m8 u5 u6 = some X4 := aA
 obtain _ | m8 := m8
 ·cases (show (none : Option _) = some X4 from aA)
 rw [f8.eq_2] at aA
 refine And.intro (fun bE => ?_) (fun bE => ?_)
 ·replace aA := ifP aA bE
  obtain ⟨x10, bF, aA⟩ := j0 aA
  obtain ⟨bG, cV, bH, bI⟩ := G6 fu6 bF
  refine And.intro bG ?_
  obtain ⟨rfl, dH⟩ := bI
  refine Exists.intro _ (And.intro bH ?_)
  refine And.intro rfl (And.intro (by repeat first|exact trivial|refine And.intro rfl ?_) (And.intro (by repeat first|exact trivial|refine And.intro rfl ?_) (Exists.intro m8 (And.intro ⟨(IntKind.i64.wrap (u5 + 1)), (wu6.set u5.toNat [.int .i64 (-1)]), (u6.set u5.toNat (-1)), rfl, rfl, dG, (K0 _), (F2.set (p := Wp.int.R k7) (a := [.int .i64 (-1)]) (b := (-1)) ⟨rfl, (by decide)⟩ u5.toNat fu6), aA⟩ (Nat.lt_succ_self _)))))
 ·replace aA := ifN aA bE
  have hE := Option.some.inj aA; subst hE
  try dsimp only [T0, U0] at aC
  obtain ⟨X11, aQ, aC⟩ := j0 aC
  refine Exists.intro { vars := [26], boxes := [], owns := [0], fuel := true, kept := [0] } (Exists.intro (fun vs os h' => ∃ (u12 : Int) (wu13 : List (List Value)) (u13 : List Int), vs.tail = [.int .i64 u12] ∧ os = [wu13] ∧ Sub k7 h' ∧ D0 u12 ∧ F2 (Wp.int.R h') wu13 u13 ∧ d8 p1 (L1 vs) u12 u13 = some X11) (Exists.intro (fun _ _ => 0) ?_))
  refine And.intro (Exists.intro Q0 ⟨0, wu6, u6, rfl, rfl, (Sub.refl _), (by decide), fu6, aQ⟩) ?_
  rintro v_0 wu13 m15 k14 ⟨u12, zzu13, u13, aR, aS, aG, iu12, fu13, aA⟩
  cases aR
  cases aS
  replace aA : d8 p1 m15 u12 u13 = some X11 := aA
  obtain _ | m15 := m15
  ·cases (show (none : Option _) = some X11 from aA)
  rw [d8.eq_2] at aA
  refine And.intro (fun aI => ?_) (fun aI => ?_)
  ·replace aA := ifP aA aI
   obtain ⟨x17, bJ, aA⟩ := j0 aA
   obtain ⟨bK, cW, bL, bM⟩ := Sl.getI (r := Wp.int.toRp) (Z0.mono (dG.trans aG) rp1) bJ (by decide)
   refine And.intro bK ?_
   obtain ⟨rfl, dI⟩ := bM
   refine Exists.intro _ (And.intro bL ?_)
   obtain ⟨x18, bN, aA⟩ := j0 aA
   obtain ⟨bO, cX, bP, bQ⟩ := G6 fu13 bN
   refine And.intro bO ?_
   obtain ⟨rfl, dJ⟩ := bQ
   refine Exists.intro _ (And.intro bP ?_)
   refine And.intro rfl (And.intro (by repeat first|exact trivial|refine And.intro rfl ?_) (And.intro (by repeat first|exact trivial|refine And.intro rfl ?_) (Exists.intro m15 (And.intro ⟨(IntKind.i64.wrap (u12 + 1)), (wu13.set x17.toNat [.int .i64 u12]), (u13.set x17.toNat u12), rfl, rfl, aG, (K0 _), (F2.set (p := Wp.int.R k14) (a := [.int .i64 u12]) (b := u12) ⟨rfl, iu12⟩ x17.toNat fu13), aA⟩ (Nat.lt_succ_self _)))))
  ·replace aA := ifN aA aI
   have hE := Option.some.inj aA; subst hE
   try dsimp only [T0, U0] at aC
   obtain ⟨X19, aT, aC⟩ := j0 aC
   refine Exists.intro { vars := [44], boxes := [2], owns := [1], fuel := true, nilsB := [(2, 2, 116, 3, 24)] } (Exists.intro (fun vs os h' => ∃ (u20 : Int) (u21 : Int) (u22 : Int) (wu23 : List (List Value)) (u23 : List C0), vs.tail = [.int .i64 u20, .int .i64 u21, .int .i64 u22] ∧ os = [wu23] ∧ Sub k14 h' ∧ D0 u20 ∧ D0 u21 ∧ D0 u22 ∧ F2 (S0.R h') wu23 u23 ∧ B7 aO u13 (L1 vs) u20 u21 u22 u23 = some X19) (Exists.intro (fun _ _ => 0) ?_))
   refine And.intro (Exists.intro Q0 ⟨0, aL, ((p1.length : Nat) : Int), [], ([] : M0), rfl, rfl, (Sub.refl _), (by decide), aP, (z0l lp1), (show F2 (S0.R k14) [] [] from trivial), aT⟩) ?_
   rintro v_0 v_1 v_2 wu23 m25 k24 ⟨u20, u21, u22, zzu23, u23, aU, aV, aD, iu20, iu21, iu22, fu23, aA⟩
   cases aU
   cases aV
   replace aA : B7 aO u13 m25 u20 u21 u22 u23 = some X19 := aA
   obtain _ | m25 := m25
   ·cases (show (none : Option _) = some X19 from aA)
   rw [B7.eq_2] at aA
   refine And.intro (fun aJ => ?_) (fun aJ => ?_)
   ·replace aA := ifP aA aJ
    obtain ⟨x27, bR, aA⟩ := j0 aA
    obtain ⟨bS, cY, bT, bU⟩ := Sl.getI (r := S0.toRp) (I0.mono ((dG.trans aG).trans aD) aH) bR (by decide)
    refine And.intro bS ?_
    obtain ⟨cZ, aB, dA, rfl, rfl, bV, aF, bW⟩ := C1 bU
    try dsimp only at aA
    refine Exists.intro _ (And.intro bT ?_)
    obtain ⟨x28, bX, aA⟩ := j0 aA
    obtain ⟨bY, dB, bZ, cA⟩ := G6 (F2.up (r := Wp.int.toRp) aD fu13) bX
    refine And.intro bY ?_
    obtain ⟨rfl, dK⟩ := cA
    refine Exists.intro _ (And.intro bZ ?_)
    obtain ⟨x29, cC, aA⟩ := j0 aA
    obtain ⟨dC, aW, cD⟩ := S03 (F2.up (r := Wp.int.toRp) aD fu13) cC (X01 k24)
    refine And.intro (fun q => (aW q).1) ?_
    obtain ⟨rfl, dL⟩ := cD
    refine Exists.intro _ (And.intro (fun q => (aW q).2) ?_)
    refine And.intro (fun aK => ?_) (fun aK => ?_)
    ·replace aA := ifP aA aK
     refine Or.inr (Or.inr (Or.inl (And.intro (And.intro (by kernel_rfl) (by kernel_rfl)) ?_)))
     obtain ⟨x31, cE, aA⟩ := j0 aA
     obtain ⟨cG, dD, cH, cI⟩ := G6 (F2.up (r := Wp.int.toRp) aD fu13) cE
     obtain ⟨rfl, aX⟩ := cI
     refine Or.inl ?_
     apply Exists.intro
     refine And.intro ?_ ?_
     ·intro k32 s33
      exact And.intro cG (And.intro rfl (And.intro rfl rfl))
     refine Or.inl (Exists.intro (.val (.int .i64 x31)) (And.intro ?_ ?_))
     ·intro k34 s35
      exact Exists.intro _ (And.intro cH (And.intro rfl (And.intro rfl rfl)))
     obtain ⟨x36, cJ, aA⟩ := j0 aA
     obtain ⟨cK, dE, cL, cM⟩ := G6 (F2.up (r := Wp.int.toRp) aD fu13) cJ
     obtain ⟨rfl, aY⟩ := cM
     refine Or.inl ?_
     apply Exists.intro
     refine And.intro ?_ ?_
     ·intro k37 s38
      exact And.intro cK (And.intro rfl (And.intro rfl rfl))
     refine Or.inl (Exists.intro (.val (.int .i64 x36)) (And.intro ?_ ?_))
     ·intro k39 s40
      exact Exists.intro _ (And.intro cL (And.intro rfl (And.intro rfl rfl)))
     refine Or.inl (Exists.intro (.agg [.val (.int .i64 x31), .val (.int .i64 aB), .val (.int .i64 x36)]) (And.intro ?_ ?_))
     ·intro k41 s42
      exact And.intro rfl (And.intro rfl rfl)
     refine Or.inr ?_
     refine Or.inr ?_
     refine Or.inr ?_
     refine Exists.intro 0 (And.intro (And.intro rfl rfl) ?_)
     refine And.intro trivial (And.intro (by first | exact trivial | exact rfl) ?_)
     obtain ⟨q43, cN, aA⟩ := j0 aA
     refine And.intro (J2 cN (by first | rw [F2.length fu23, F2.length (show F2 (S0.R k24) ([[.int .i64 x31, .int .i64 aB, .int .i64 x36]] : List (List Value)) [(x31, aB, x36)] from ⟨(V0 aX aF aY), trivial⟩)] | exact congrArg (· + 1) (F2.length fu23))) ?_
     refine And.intro trivial (And.intro (by first | exact trivial | exact rfl) ?_)
     refine And.intro trivial (And.intro (by first | exact trivial | exact rfl) ?_)
     refine And.intro rfl (And.intro (by repeat first|exact trivial|refine And.intro rfl ?_) (And.intro (by repeat first|exact trivial|refine And.intro rfl ?_) (Exists.intro m25 (And.intro ⟨(IntKind.i64.wrap (u20 + 1)), u21, u22, (wu23 ++ ([[.int .i64 x31, .int .i64 aB, .int .i64 x36]] : List (List Value))), (u23 ++ [(x31, aB, x36)]), rfl, rfl, aD, (K0 _), iu21, iu22, (F2.append fu23 (show F2 (S0.R k24) ([[.int .i64 x31, .int .i64 aB, .int .i64 x36]] : List (List Value)) [(x31, aB, x36)] from ⟨(V0 aX aF aY), trivial⟩)), aA⟩ (Nat.lt_succ_self _)))))
    ·replace aA := ifN aA aK
     refine And.intro rfl (And.intro (by repeat first|exact trivial|refine And.intro rfl ?_) (And.intro (by repeat first|exact trivial|refine And.intro rfl ?_) (Exists.intro m25 (And.intro ⟨(IntKind.i64.wrap (u20 + 1)), u21, u22, wu23, u23, rfl, rfl, aD, (K0 _), iu21, iu22, fu23, aA⟩ (Nat.lt_succ_self _)))))
   ·replace aA := ifN aA aJ
    have hE := Option.some.inj aA; subst hE
    try dsimp only [T0, U0] at aC
    refine Or.inl ?_
    intro v44 k45 f46
    obtain ⟨az47, cz47, rfl, rz47, sz47, lz47⟩ := j1.out (r := S0.toRp) f46 fu23
    obtain ⟨x48, cO, aC⟩ := j0 aC
    refine Tr.mono (P01 _ az47 u23.length cz47 u23 rz47 _  cO) ?_
    rintro v50 k49 ⟨cP, dM, cQ, rfl, wx48⟩
    have dN : Sub k45 k49 := wx48.sub
    have cR := wx48.r
    obtain ⟨rfl, dO⟩ := Sl.len cR
    have hE := Option.some.inj aC; subst hE
    exact ⟨([.int .i64 u21, .int .i64 u22, .slice cP x48.length cQ]), rfl, (New.pair (New.int iu21) (New.pair (New.int iu22) (New.from wx48 (((dG.trans aG).trans aD).trans sz47))))⟩
end Go.Proofs.YtfdlgbfeceodeaaGreat
namespace Go.Proofs.YtfdlgbfeceodeaaGreat
open Go.H
set_option linter.unusedVariables false
set_option linter.unusedSimpArgs false
set_option maxRecDepth 10000
theorem j0a (h : Hp) (ap0 : Option Addr) (np0 cp0 : Nat) (p0 : P0) (rp0 : Z0.R h [.slice ap0 np0 cp0] p0) (r : P0) (aA : O9 p0 = some r) :
  Tr Tryz.prog 164 #[.slice ap0 np0 cp0] h fun v h' => ∃ (g0 : Nat) (n0 c0 : Nat), v = .slice (some ⟨g0, 0, none⟩) n0 c0 ∧ New Z0 h h' [.slice (some ⟨g0, 0, none⟩) n0 c0] r := by
 obtain ⟨rfl, lp0⟩ := Sl.len rp0
 unfold O9 at aA
 refine Q2 (args := [.slice ap0 p0.length cp0]) (fn := Tryz.f164) rfl ?_
 obtain ⟨vsy1, ey1, fy1⟩ := Sl.rows (r := Wp.int.toRp) rp0
 refine Exists.intro vsy1 (And.intro ey1 ?_)
 obtain ⟨q2, aB, aA⟩ := j0 aA
 refine And.intro (J2 aB (by first | rw [F2.length (show F2 (Wp.int.R h) ([] : List (List Value)) ([] : P0) from trivial), F2.length fy1] | exact congrArg (· + 1) (F2.length (show F2 (Wp.int.R h) ([] : List (List Value)) ([] : P0) from trivial)))) ?_
 intro v3 k4 f5
 obtain ⟨gz6, cz6, rfl, rz6, sz6, lz6⟩ := j1.outS (r := Wp.int.toRp) f5 (F2.append (show F2 (Wp.int.R h) ([] : List (List Value)) ([] : P0) from trivial) fy1)
 have hE := Option.some.inj aA; subst hE
 exact ⟨gz6, ((([] : P0) ++ p0)).length, cz6, rfl, (j1.newPlain (r := Wp.int) f5 (F2.append (show F2 (Wp.int.R h) ([] : List (List Value)) ([] : P0) from trivial) fy1) (M0h _))⟩
theorem q08 (h : Hp) (aZ : List Value) (p0 : l0) (rp0 : W0.R h aZ p0) (p1 : Int) (ip1 : D0 p1) (r : P0 × V3) (aG : m00 p0 p1 = some r) :
  Tr Tryz.prog 212 #[.agg aZ.toArray, .int .i64 p1] h fun v h' => ∃ (a0 : Option Addr) (n0 c0 : Nat) (a1 : Option Addr) (n1 c1 : Nat), v = .tuple #[.slice a0 n0 c0, .slice a1 n1 c1] ∧ Z0.R h' [.slice a0 n0 c0] r.1 ∧ n5.R h' [.slice a1 n1 c1] r.2 ∧ Sub h h' := by
 obtain ⟨aC, aD, aJ, cG, aK, aF, rfl, rfl, aL, aR, aM⟩ := B0 rp0
 obtain ⟨rfl, cH⟩ := Sl.len aM
 unfold m00 at aG
 dsimp only at aG
 refine Q2 (args := [.agg #[.int .i64 aC, .int .i64 aD, .slice aJ aF.length aK], .int .i64 p1]) (fn := Tryz.f212) rfl ?_
 obtain ⟨q1, cO, aG⟩ := j0 aG
 refine And.intro (A2 cO) ?_
 obtain ⟨x2, cP, aG⟩ := j0 aG
 obtain ⟨cQ, cR, cS, cT⟩ := G6 (F2.rep (p := Wp.opt.R h) (a := [.slice none 0 0]) (b := none) (H0l h) (aD.toNat)) cP
 refine And.intro cQ ?_
 obtain ⟨dN, dO, dP, rfl, ox2, qx2⟩ := cT
 obtain ⟨rfl, dQ⟩ := Sl.len qx2
 intro v3 k4 f5
 obtain ⟨gz6, cz6, rfl, rz6, sz6, lz6⟩ := j1.outS (r := Wp.int.toRp) f5 (show F2 (Wp.int.R h) ([] : List (List Value)) ([] : P0) from trivial)
 refine Exists.intro _ (And.intro cS ?_)
 obtain ⟨X7, bA, aG⟩ := j0 aG
 refine Exists.intro { vars := [8], boxes := [], owns := [0, 2], fuel := true, kept := [0] } (Exists.intro (fun vs os h' => ∃ (u8 : Int) (wu9 : List (List Value)) (u9 : List (Option P0)) (wu10 : List (List Value)) (u10 : List Int), vs.tail = [.int .i64 u8] ∧ os = [wu9, wu10] ∧ Sub k4 h' ∧ D0 u8 ∧ F2 (Wp.opt.R h') wu9 u9 ∧ F2 (Wp.int.R h') wu10 u10 ∧ O5 aC aD aF (L1 vs) u8 u9 u10 = some X7) (Exists.intro (fun _ _ => 0) ?_))
 refine And.intro (Exists.intro Q0 ⟨0, ((List.replicate aD.toNat ([.slice none 0 0] : List Value)).set p1.toNat [.slice (some ⟨gz6, 0, none⟩) (([] : P0)).length cz6]), ((List.replicate aD.toNat (none : Option P0)).set p1.toNat (some ([] : P0))), ([[.int .i64 p1]] : List (List Value)), [p1], rfl, rfl, (Sub.refl _), (by decide), (F2.set (p := Wp.opt.R k4) (a := [.slice (some ⟨gz6, 0, none⟩) (([] : P0)).length cz6]) (b := some ([] : P0)) (I0l rz6) p1.toNat (F2.up (r := Wp.opt.toRp) sz6 (F2.rep (p := Wp.opt.R h) (a := [.slice none 0 0]) (b := none) (H0l h) (aD.toNat)))), (show F2 (Wp.int.R k4) ([[.int .i64 p1]] : List (List Value)) [p1] from ⟨⟨rfl, ip1⟩, trivial⟩), bA⟩) ?_
 rintro v_0 wu9 wu10 m12 k11 ⟨u8, zzu9, u9, zzu10, u10, bB, bC, cI, iu8, fu9, fu10, aB⟩
 cases bB
 cases bC
 replace aB : O5 aC aD aF m12 u8 u9 u10 = some X7 := aB
 obtain _ | m12 := m12
 ·cases (show (none : Option _) = some X7 from aB)
 rw [O5.eq_2] at aB
 obtain ⟨m13, gm13, aB⟩ := j0 aB
 obtain rfl : wu10.length = m13 := (F2.length fu10).trans (Option.some.inj gm13)
 obtain ⟨q14, cU, aB⟩ := j0 aB
 refine And.intro (fun aN => ?_) (fun aN => ?_)
 ·replace aB := ifP aB aN
  obtain ⟨x16, bD, aB⟩ := j0 aB
  obtain ⟨bE, cJ, bF, bG⟩ := G6 fu10 bD
  refine And.intro bE ?_
  obtain ⟨rfl, bH⟩ := bG
  refine Exists.intro _ (And.intro bF ?_)
  obtain ⟨x17, bI, aB⟩ := j0 aB
  refine Tr.mono (M05 _ aC aL _  bI) ?_
  rintro v19 k18 ⟨cV, cW, cX, rfl, aS, aH⟩
  obtain ⟨rfl, cY⟩ := Sl.len aS
  obtain ⟨X20, aT, aB⟩ := j0 aB
  refine Exists.intro { vars := [36], boxes := [], owns := [0, 2], fuel := true, kept := [0] } (Exists.intro (fun vs os h' => ∃ (u21 : Int) (wu22 : List (List Value)) (u22 : List (Option P0)) (wu23 : List (List Value)) (u23 : List Int), vs.tail = [.int .i64 u21] ∧ os = [wu22, wu23] ∧ Sub k18 h' ∧ D0 u21 ∧ F2 (Wp.opt.R h') wu22 u22 ∧ F2 (Wp.int.R h') wu23 u23 ∧ H4 x17 aC aD aF x16 (L1 vs) u21 u22 u23 = some X20) (Exists.intro (fun _ _ => 0) ?_))
  refine And.intro (Exists.intro Q0 ⟨0, wu9, u9, wu10, u10, rfl, rfl, (Sub.refl _), (by decide), (F2.up (r := Wp.opt.toRp) aH fu9), (F2.up (r := Wp.int.toRp) aH fu10), aT⟩) ?_
  rintro v_0 wu22 wu23 m25 k24 ⟨u21, zzu22, u22, zzu23, u23, aU, aV, aI, iu21, fu22, fu23, aA⟩
  cases aU
  cases aV
  replace aA : H4 x17 aC aD aF x16 m25 u21 u22 u23 = some X20 := aA
  obtain _ | m25 := m25
  ·cases (show (none : Option _) = some X20 from aA)
  rw [H4.eq_2] at aA
  refine And.intro (fun aO => ?_) (fun aO => ?_)
  ·replace aA := ifP aA aO
   obtain ⟨x27, bJ, aA⟩ := j0 aA
   obtain ⟨bK, cK, bL, bM⟩ := Sl.getI (r := Wp.int.toRp) (Z0.mono aI aS) bJ (by decide)
   refine And.intro bK ?_
   obtain ⟨rfl, aP⟩ := bM
   refine Exists.intro _ (And.intro bL ?_)
   obtain ⟨x28, bN, aA⟩ := j0 aA
   refine Tr.val (u01 _ [.int .i64 aC, .int .i64 aD, .slice aJ aF.length aK] (aC, aD, aF) (z0 aL aR (I0.mono (((sz6.trans cI).trans aH).trans aI) aM)) x16 bH x27 aP _  bN) ?_
   obtain ⟨q29, bO, aA⟩ := j0 aA
   have aW : D0 x28 := A2 bO
   obtain ⟨x30, bP, aA⟩ := j0 aA
   obtain ⟨cL, aX, bQ⟩ := S03 fu22 bP (A0m k24)
   refine And.intro (fun q => (aX q).1) ?_
   obtain ⟨cZ, dA, dB, rfl, ox30, qx30⟩ := bQ
   obtain ⟨rfl, dC⟩ := Sl.len qx30
   refine Exists.intro _ (And.intro (fun q => (aX q).2) ?_)
   refine Exists.intro (x30.isNone) (And.intro (fun _ => by rw [← ox30]; exact z0m _ _ _ rfl _ _ _) ?_)
   refine And.intro (fun aQ => ?_) (fun aQ => ?_)
   ·replace aA := ifP aA aQ
    obtain ⟨x32, bR, aA⟩ := j0 aA
    obtain ⟨bS, cM, bT, bU⟩ := G6 fu22 bR
    refine And.intro bS ?_
    obtain ⟨bV, dD, bW, rfl, ox32, qx32⟩ := bU
    obtain ⟨rfl, dE⟩ := Sl.len qx32
    refine Exists.intro _ (And.intro bT ?_)
    obtain ⟨x33, aY, aA⟩ := j0 aA
    refine Tr.mono (j0a _ bV (x32.getD []).length bW (x32.getD []) qx32 _  aY) ?_
    rintro v35 k34 ⟨aY, dF, dG, rfl, wx33⟩
    have dH : Sub k24 k34 := wx33.sub
    have bX := wx33.r
    obtain ⟨rfl, dI⟩ := Sl.len bX
    obtain ⟨q36, bY, aA⟩ := j0 aA
    obtain ⟨vsz37, rxz37, lnz37, apz37⟩ := New.app wx33 (Sub.refl _)
    refine Exists.intro vsz37 (And.intro rxz37 (And.intro (J2 bY (by first | rw [lnz37, F2.length (show F2 (Wp.int.R k34) ([[.int .i64 x27]] : List (List Value)) [x27] from ⟨⟨rfl, aP⟩, trivial⟩)] | (rw [lnz37]; rfl))) ?_))
    intro vz37 kz37 happz37
    obtain ⟨wz37, gz37, oz37, nz37, cz37, rfl⟩ := apz37 _ _ _ _ _ (F3.ofPlain (M0h _) (show F2 (Wp.int.R k34) ([[.int .i64 x27]] : List (List Value)) [x27] from ⟨⟨rfl, aP⟩, trivial⟩)) w7.ofPlain happz37
    have rz37 := wz37.r
    obtain ⟨ez37, lz37⟩ := Sl.len rz37
    subst ez37
    obtain ⟨x38, bZ, aA⟩ := j0 aA
    obtain ⟨cA, cN, cC, cD⟩ := G6 (F2.up (r := Wp.opt.toRp) wz37.sub fu22) bZ
    refine And.intro cA ?_
    obtain ⟨dJ, dK, dL, rfl, ox38, qx38⟩ := cD
    obtain ⟨rfl, dM⟩ := Sl.len qx38
    refine Exists.intro _ (And.intro cC ?_)
    obtain ⟨q39, cE, aA⟩ := j0 aA
    refine And.intro (J2 cE (by first | rw [F2.length (F2.up (r := Wp.int.toRp) wz37.sub fu23), F2.length (show F2 (Wp.int.R kz37) ([[.int .i64 x28]] : List (List Value)) [x28] from ⟨⟨rfl, aW⟩, trivial⟩)] | exact congrArg (· + 1) (F2.length (F2.up (r := Wp.int.toRp) wz37.sub fu23)))) ?_
    refine And.intro rfl (And.intro (by repeat first|exact trivial|refine And.intro rfl ?_) (And.intro (by repeat first|exact trivial|refine And.intro rfl ?_) (Exists.intro m25 (And.intro ⟨(IntKind.i64.wrap (u21 + 1)), (wu22.set x28.toNat [.slice (some ⟨gz37, oz37, none⟩) (x33 ++ [x27]).length cz37]), (u22.set x28.toNat (some (x33 ++ [x27]))), (wu23 ++ ([[.int .i64 x28]] : List (List Value))), (u23 ++ [x28]), rfl, rfl, (aI.trans wz37.sub), (K0 _), (F2.set (p := Wp.opt.R kz37) (a := [.slice (some ⟨gz37, oz37, none⟩) (x33 ++ [x27]).length cz37]) (b := some (x33 ++ [x27])) (I0l rz37) x28.toNat (F2.up (r := Wp.opt.toRp) wz37.sub fu22)), (F2.append (F2.up (r := Wp.int.toRp) wz37.sub fu23) (show F2 (Wp.int.R kz37) ([[.int .i64 x28]] : List (List Value)) [x28] from ⟨⟨rfl, aW⟩, trivial⟩)), aA⟩ (Nat.lt_succ_self _)))))
   ·replace aA := ifN aA aQ
    refine And.intro rfl (And.intro (by repeat first|exact trivial|refine And.intro rfl ?_) (And.intro (by repeat first|exact trivial|refine And.intro rfl ?_) (Exists.intro m25 (And.intro ⟨(IntKind.i64.wrap (u21 + 1)), wu22, u22, wu23, u23, rfl, rfl, aI, (K0 _), fu22, fu23, aA⟩ (Nat.lt_succ_self _)))))
  ·replace aA := ifN aA aO
   have hE := Option.some.inj aA; subst hE
   try dsimp only [T0, U0] at aB
   refine And.intro rfl (And.intro (by repeat first|exact trivial|refine And.intro rfl ?_) (And.intro (by repeat first|exact trivial|refine And.intro rfl ?_) (Exists.intro m12 (And.intro ⟨(IntKind.i64.wrap (u8 + 1)), wu22, u22, wu23, u23, rfl, rfl, ((cI.trans aH).trans aI), (K0 _), fu22, fu23, aB⟩ (Nat.lt_succ_self _)))))
 ·replace aB := ifN aB aN
  have hE := Option.some.inj aB; subst hE
  try dsimp only [T0, U0] at aG
  intro v45 k46 f47
  obtain ⟨az48, cz48, rfl, rz48, sz48, lz48⟩ := j1.out (r := Wp.int.toRp) f47 fu10
  intro v49 k50 f51
  obtain ⟨az52, cz52, rfl, rz52, sz52, lz52⟩ := j1.out (r := Z0.toRp) f51 (F2.ofOpt (F2.up (r := Wp.opt.toRp) sz48 fu9))
  have hE := Option.some.inj aG; subst hE
  exact ⟨az48, u10.length, cz48, az52, (List.map (fun o : Option P0 => o.getD ([] : P0)) u9).length, cz52, rfl, (Z0.mono sz52 rz48), rz52, (((sz6.trans cI).trans sz48).trans sz52)⟩
theorem P04 (h : Hp) (aO : List Value) (p0 : l0) (rp0 : W0.R h aO p0) (r : P0) (aA : g7 p0 = some r) :
  Tr Tryz.prog 197 #[.agg aO.toArray] h fun v h' => ∃ (a0 : Option Addr) (n0 c0 : Nat), v = .slice a0 n0 c0 ∧ Z0.R h' [.slice a0 n0 c0] r ∧ Sub h h' := by
 obtain ⟨aB, aC, aD, aQ, aF, aL, rfl, rfl, aI, aJ, aG⟩ := B0 rp0
 obtain ⟨rfl, aR⟩ := Sl.len aG
 unfold g7 at aA
 dsimp only at aA
 refine Q2 (args := [.agg #[.int .i64 aB, .int .i64 aC, .slice aD aL.length aF]]) (fn := Tryz.f197) rfl ?_
 obtain ⟨x1, aY, aA⟩ := j0 aA
 refine Tr.val (Y9 _ [.int .i64 aB, .int .i64 aC, .slice aD aL.length aF] (aB, aC, aL) (z0 aI aJ aG) _  aY) ?_
 refine And.intro (fun aP => ?_) (fun aP => ?_)
 ·replace aA := ifP aA aP
  intro v3 k4 f5
  obtain ⟨az6, cz6, rfl, rz6, sz6, lz6⟩ := j1.out (r := Wp.int.toRp) f5 (show F2 (Wp.int.R h) ([] : List (List Value)) ([] : P0) from trivial)
  have hE := Option.some.inj aA; subst hE
  exact ⟨az6, (([] : P0)).length, cz6, rfl, rz6, sz6⟩
 ·replace aA := ifN aA aP
  obtain ⟨x7, aZ, aA⟩ := j0 aA
  refine Tr.mono (q08 _ [.int .i64 aB, .int .i64 aC, .slice aD aL.length aF] (aB, aC, aL) (z0 aI aJ aG) 0 (by decide) _  aZ) ?_
  rintro v9 k8 ⟨aM, aS, aN, aT, aU, aV, rfl, aH, aK, bA⟩
  obtain ⟨bB, bC⟩ := x7
  dsimp only at aA aH aK
  obtain ⟨rfl, aW⟩ := Sl.len aH
  obtain ⟨rfl, aX⟩ := Sl.len aK
  have hE := Option.some.inj aA; subst hE
  exact ⟨aM, bB.length, aN, rfl, aH, bA⟩
theorem Q04 (h : Hp) (aW : List Value) (p0 : l0) (rp0 : W0.R h aW p0) (r : l0) (aA : i7 p0 = some r) :
  Tr Tryz.prog 139 #[.agg aW.toArray] h fun v h' => ∃ (cs0 : List Value), v = .agg cs0.toArray ∧ New W0 h h' cs0 r := by
 obtain ⟨aB, aC, aD, bG, aF, aJ, rfl, rfl, aH, aI, aG⟩ := B0 rp0
 obtain ⟨rfl, bH⟩ := Sl.len aG
 unfold i7 at aA
 dsimp only at aA
 refine Q2 (args := [.agg #[.int .i64 aB, .int .i64 aC, .slice aD aJ.length aF]]) (fn := Tryz.f139) rfl ?_
 obtain ⟨x1, bO, aA⟩ := j0 aA
 refine Tr.val (Y9 _ [.int .i64 aB, .int .i64 aC, .slice aD aJ.length aF] (aB, aC, aJ) (z0 aH aI aG) _  bO) ?_
 refine And.intro (fun aX => ?_) (fun aX => ?_)
 ·replace aA := ifP aA aX
  obtain ⟨x3, bP, aA⟩ := j0 aA
  refine Tr.mono (N3 _ [.int .i64 aB, .int .i64 aC, .slice aD aJ.length aF] (aB, aC, aJ) (z0 aH aI aG) _  bP) ?_
  rintro v5 k4 ⟨aP, bI, aQ, rfl, wx3⟩
  have bU : Sub h k4 := wx3.sub
  have bJ := wx3.r
  obtain ⟨aY, aZ, bQ⟩ := x3
  dsimp only at aA wx3 bJ
  obtain ⟨_, _, _, _, _, _, ecx3, exx3, aR, aS, aT⟩ := B0 bJ
  cases ecx3
  cases exx3
  obtain ⟨rfl, bK⟩ := Sl.len aT
  try dsimp only at aA
  have we6 := New.sndI (New.sndI (wx3))
  have hE := Option.some.inj aA; subst hE
  exact ⟨([.int .i64 aY, .int .i64 aZ, .slice (some ⟨aP, 0, none⟩) bQ.length aQ]), rfl, (New.pair (New.int aR) (New.pair (New.int aS) we6))⟩
 ·replace aA := ifN aA aX
  refine Or.inr (Or.inr (Or.inl (And.intro (And.intro (by kernel_rfl) (by kernel_rfl)) ?_)))
  refine Or.inr ?_
  refine Or.inr ?_
  refine Or.inr ?_
  refine Exists.intro 2 (And.intro (And.intro rfl rfl) ?_)
  obtain ⟨x7, bR, aA⟩ := j0 aA
  refine Tr.mono (P04 _ [.int .i64 aB, .int .i64 aC, .slice aD aJ.length aF] (aB, aC, aJ) (z0 aH aI aG) _  bR) ?_
  rintro v9 k8 ⟨bS, bV, bT, rfl, bL, bA⟩
  obtain ⟨rfl, bW⟩ := Sl.len bL
  refine And.intro (And.intro rfl bA) (And.intro (by first | exact trivial | exact rfl) ?_)
  obtain ⟨x10, bB, aA⟩ := j0 aA
  refine Tr.mono (V09 _ [.int .i64 aB, .int .i64 aC, .slice aD aJ.length aF] (aB, aC, aJ) (z0 aH aI (I0.mono bA aG)) bS x7.length bT x7 bL _  bB) ?_
  rintro v12 k11 ⟨bM, rfl, wx10⟩
  have bC : Sub k8 k11 := wx10.sub
  have bD := wx10.r
  obtain ⟨aU, aV, aK, bE, aL, bN, rfl, rfl, aM, aN, aO⟩ := B0 bD
  obtain ⟨rfl, bF⟩ := Sl.len aO
  try dsimp only at aA
  have we13 := New.sndI (New.sndI (wx10))
  refine And.intro (And.intro rfl bC) (And.intro (by first | exact trivial | exact rfl) ?_)
  refine And.intro trivial (And.intro (by first | exact trivial | exact rfl) ?_)
  have hE := Option.some.inj aA; subst hE
  exact ⟨([.int .i64 aU, .int .i64 aV, .slice aK bN.length aL]), rfl, (New.pair (New.int aM) (New.pair (New.int aN) (New.from we13 bA)))⟩
end Go.Proofs.YtfdlgbfeceodeaaGreat
namespace Go.Proofs.YtfdlgbfeceodeaaGreat
open Go.H
set_option linter.unusedVariables false
set_option linter.unusedSimpArgs false
set_option maxRecDepth 10000
theorem p09 (h : Hp) (cA : List Value) (p0 : l0) (rp0 : W0.R h cA p0) (r : l0 × P0) (aC : z9 p0 = some r) :
  Tr Tryz.prog 137 #[.agg cA.toArray] h fun v h' => ∃ (cs0 : List Value) (a1 : Option Addr) (n1 c1 : Nat), v = .tuple #[.agg cs0.toArray, .slice a1 n1 c1] ∧ New W0 h h' cs0 r.1 ∧ Z0.R h' [.slice a1 n1 c1] r.2 := by
 obtain ⟨aG, aF, aH, cS, aI, bD, rfl, rfl, aL, aM, aJ⟩ := B0 rp0
 obtain ⟨rfl, cT⟩ := Sl.len aJ
 unfold z9 at aC
 dsimp only at aC
 refine Q2 (args := [.agg #[.int .i64 aG, .int .i64 aF, .slice aH bD.length aI]]) (fn := Tryz.f137) rfl ?_
 obtain ⟨x1, cZ, aC⟩ := j0 aC
 refine Tr.mono (N3 _ [.int .i64 aG, .int .i64 aF, .slice aH bD.length aI] (aG, aF, bD) (z0 aL aM aJ) _  cZ) ?_
 rintro v3 k2 ⟨aN, cU, aO, rfl, wx1⟩
 have dA : Sub h k2 := wx1.sub
 have cV := wx1.r
 obtain ⟨bE, bF, cC⟩ := x1
 dsimp only at aC wx1 cV
 obtain ⟨_, _, _, _, _, _, ecx1, exx1, aP, aQ, bG⟩ := B0 cV
 cases ecx1
 cases exx1
 obtain ⟨rfl, cW⟩ := Sl.len bG
 try dsimp only at aC
 have we4 := New.sndI (New.sndI (wx1))
 obtain ⟨x5, dB, aC⟩ := j0 aC
 refine Tr.val (K8 _ [.int .i64 aG, .int .i64 aF, .slice aH bD.length aI] (aG, aF, bD) (z0 aL aM (I0.mono dA aJ)) _  dB) ?_
 refine And.intro (fun cD => ?_) (fun cD => ?_)
 ·replace aC := ifP aC cD
  intro v7 k8 f9
  obtain ⟨az10, cz10, rfl, rz10, sz10, lz10⟩ := j1.out (r := Wp.int.toRp) f9 (show F2 (Wp.int.R k2) ([] : List (List Value)) ([] : P0) from trivial)
  have hE := Option.some.inj aC; subst hE
  exact ⟨([.int .i64 bE, .int .i64 bF, .slice (some ⟨aN, 0, none⟩) cC.length aO]), az10, (([] : P0)).length, cz10, rfl, (New.pair (New.int aP) (New.pair (New.int aQ) (New.mono we4 sz10))), rz10⟩
 ·replace aC := ifN aC cD
  obtain ⟨X11, bH, aC⟩ := j0 aC
  refine Exists.intro { vars := [6], boxes := [], owns := [0], fuel := true } (Exists.intro (fun vs os h' => ∃ (u12 : Int) (wu13 : List (List Value)) (u13 : List Int), vs.tail = [.int .i64 u12] ∧ os = [wu13] ∧ Sub k2 h' ∧ D0 u12 ∧ F2 (Wp.int.R h') wu13 u13 ∧ B5 aF (L1 vs) u12 u13 = some X11) (Exists.intro (fun _ _ => 0) ?_))
  refine And.intro (Exists.intro Q0 ⟨0, [], ([] : P0), rfl, rfl, (Sub.refl _), (by decide), (show F2 (Wp.int.R k2) ([] : List (List Value)) ([] : P0) from trivial), bH⟩) ?_
  rintro v_0 wu13 m15 k14 ⟨u12, zzu13, u13, bI, bJ, aR, iu12, fu13, aA⟩
  cases bI
  cases bJ
  replace aA : B5 aF m15 u12 u13 = some X11 := aA
  obtain _ | m15 := m15
  ·cases (show (none : Option _) = some X11 from aA)
  rw [B5.eq_2] at aA
  refine And.intro (fun aS => ?_) (fun aS => ?_)
  ·replace aA := ifP aA aS
   obtain ⟨q17, cE, aA⟩ := j0 aA
   refine And.intro (J2 cE (by first | rw [F2.length fu13, F2.length (show F2 (Wp.int.R k14) ([[.int .i64 u12]] : List (List Value)) [u12] from ⟨⟨rfl, iu12⟩, trivial⟩)] | exact congrArg (· + 1) (F2.length fu13))) ?_
   refine And.intro rfl (And.intro (by repeat first|exact trivial|refine And.intro rfl ?_) (And.intro (by repeat first|exact trivial|refine And.intro rfl ?_) (Exists.intro m15 (And.intro ⟨(IntKind.i64.wrap (u12 + 1)), (wu13 ++ ([[.int .i64 u12]] : List (List Value))), (u13 ++ [u12]), rfl, rfl, aR, (K0 _), (F2.append fu13 (show F2 (Wp.int.R k14) ([[.int .i64 u12]] : List (List Value)) [u12] from ⟨⟨rfl, iu12⟩, trivial⟩)), aA⟩ (Nat.lt_succ_self _)))))
  ·replace aA := ifN aA aS
   have hE := Option.some.inj aA; subst hE
   try dsimp only [T0, U0] at aC
   obtain ⟨X22, bK, aC⟩ := j0 aC
   refine Exists.intro { vars := [5], boxes := [2], owns := [], fuel := true, pubs := [5] } (Exists.intro (fun vs os h' => ∃ (au23 : Option Addr) (nu23 cu23 : Nat) (u23 : P0) (u24 : Int) (u25 : Int) (au26 : Option Addr) (nu26 cu26 : Nat) (u26 : M0), vs.tail = [.slice au23 nu23 cu23, .int .i64 u24, .int .i64 u25, .slice au26 nu26 cu26] ∧ os = [] ∧ Sub h h' ∧ New Z0 h h' [.slice au23 nu23 cu23] u23 ∧ D0 u24 ∧ D0 u25 ∧ New I0 h h' [.slice au26 nu26 cu26] u26 ∧ p6 (L1 vs) u23 u24 u25 u26 = some X22) (Exists.intro (fun _ _ => 0) ?_))
   intro v18 k19 f20
   obtain ⟨az21, cz21, rfl, rz21, sz21, lz21⟩ := j1.out (r := Wp.int.toRp) f20 fu13
   refine And.intro (Exists.intro Q0 ⟨az21, u13.length, cz21, u13, bE, bF, (some ⟨aN, 0, none⟩), cC.length, aO, cC, rfl, rfl, ((dA.trans aR).trans sz21), (New.from (j1.newPlain (r := Wp.int) f20 fu13 (M0h _)) (dA.trans aR)), aP, aQ, (New.mono we4 (aR.trans sz21)), bK⟩) ?_
   rintro v_0 v_1 v_2 v_3 m28 k27 ⟨au23, nu23, cu23, u23, u24, u25, au26, nu26, cu26, u26, bL, bM, dC, wwu23, iu24, iu25, wwu26, aA⟩
   cases bL
   cases bM
   replace aA : p6 m28 u23 u24 u25 u26 = some X22 := aA
   obtain _ | m28 := m28
   ·cases (show (none : Option _) = some X22 from aA)
   rw [p6.eq_2] at aA
   have ru23 := wwu23.r
   obtain ⟨rfl, lu23⟩ := Sl.len ru23
   have ru26 := wwu26.r
   obtain ⟨rfl, lu26⟩ := Sl.len ru26
   obtain ⟨x29, cG, aA⟩ := j0 aA
   refine Tr.mono (k06 _ [.int .i64 u24, .int .i64 u25, .slice au26 u26.length cu26] (u24, u25, u26) (z0 iu24 iu25 ru26) 0 (by decide) _  cG) ?_
   rintro v31 k30 ⟨dD, dE, dF, rfl, bN, dG⟩
   obtain ⟨rfl, dH⟩ := Sl.len bN
   obtain ⟨X32, bO, aA⟩ := j0 aA
   refine Exists.intro { vars := [8, 9], boxes := [], owns := [], fuel := true } (Exists.intro (fun vs os h' => ∃ (u33 : Int) (u34 : Int), vs.tail = [.int .i64 u33, .int .i64 u34] ∧ os = [] ∧ Sub k30 h' ∧ D0 u33 ∧ D0 u34 ∧ R3 u25 u24 u26 x29 (L1 vs) u33 u34 = some X32) (Exists.intro (fun _ _ => 0) ?_))
   refine And.intro (Exists.intro Q0 ⟨0, 1, rfl, rfl, (Sub.refl _), (by decide), (by decide), bO⟩) ?_
   rintro v_0 v_1 m36 k35 ⟨u33, u34, bP, bQ, aD, iu33, iu34, aB⟩
   cases bP
   cases bQ
   replace aB : R3 u25 u24 u26 x29 m36 u33 u34 = some X32 := aB
   obtain _ | m36 := m36
   ·cases (show (none : Option _) = some X32 from aB)
   rw [R3.eq_2] at aB
   refine And.intro (fun aT => ?_) (fun aT => ?_)
   ·replace aB := ifP aB aT
    obtain ⟨x38, cH, aB⟩ := j0 aB
    refine Tr.val (i0a _ [.int .i64 u24, .int .i64 u25, .slice au26 u26.length cu26] (u24, u25, u26) (z0 iu24 iu25 (I0.mono (dG.trans aD) ru26)) u34 iu34 _  cH) ?_
    obtain ⟨q39, cI, aB⟩ := j0 aB
    have dI : D0 x38 := A2 cI
    obtain ⟨x40, cJ, aB⟩ := j0 aB
    obtain ⟨cX, bR, cK⟩ := Sl.getG (r := Wp.bool.toRp) ((Wp.slice Wp.bool).mono aD bN) cJ (by decide) (Z0l k35)
    refine And.intro (fun q => (bR q).1) ?_
    obtain rfl := cK
    refine Exists.intro _ (And.intro (fun q => (bR q).2) ?_)
    refine And.intro (fun aU => ?_) (fun aU => ?_)
    ·replace aB := ifP aB aU
     refine And.intro rfl (And.intro (by repeat first|exact trivial|refine And.intro rfl ?_) (And.intro (by repeat first|exact trivial|refine And.intro rfl ?_) (Exists.intro m36 (And.intro ⟨u34, (IntKind.i64.wrap (u34 + 1)), rfl, rfl, aD, iu34, (K0 _), aB⟩ (Nat.lt_succ_self _)))))
    ·replace aB := ifN aB aU
     refine And.intro rfl (And.intro (by repeat first|exact trivial|refine And.intro rfl ?_) (And.intro (by repeat first|exact trivial|refine And.intro rfl ?_) (Exists.intro m36 (And.intro ⟨u33, (IntKind.i64.wrap (u34 + 1)), rfl, rfl, aD, iu33, (K0 _), aB⟩ (Nat.lt_succ_self _)))))
   ·replace aB := ifN aB aT
    have hE := Option.some.inj aB; subst hE
    try dsimp only [T0, U0] at aA
    refine And.intro (fun aV => ?_) (fun aV => ?_)
    ·replace aA := ifP aA aV
     have hE := Option.some.inj aA; subst hE
     try dsimp only [Z2, D3] at aC
     have hE := Option.some.inj aC; subst hE
     exact ⟨([.int .i64 u24, .int .i64 u25, .slice au26 u26.length cu26]), au23, u23.length, cu23, rfl, (New.pair (New.int iu24) (New.pair (New.int iu25) (New.mono wwu26 (dG.trans aD)))), (Z0.mono (dG.trans aD) ru23)⟩
    ·replace aA := ifN aA aV
     obtain ⟨X43, bS, aA⟩ := j0 aA
     refine Exists.intro { vars := [11], boxes := [], owns := [1], fuel := true } (Exists.intro (fun vs os h' => ∃ (u44 : Int) (wu45 : List (List Value)) (u45 : List Int), vs.tail = [.int .i64 u44] ∧ os = [wu45] ∧ Sub k35 h' ∧ D0 u44 ∧ F2 (Wp.int.R h') wu45 u45 ∧ T4 u25 u33 (L1 vs) u44 u45 = some X43) (Exists.intro (fun _ _ => 0) ?_))
     refine And.intro (Exists.intro Q0 ⟨0, [], ([] : P0), rfl, rfl, (Sub.refl _), (by decide), (show F2 (Wp.int.R k35) ([] : List (List Value)) ([] : P0) from trivial), bS⟩) ?_
     rintro v_0 wu45 m47 k46 ⟨u44, zzu45, u45, bT, bU, aK, iu44, fu45, aB⟩
     cases bT
     cases bU
     replace aB : T4 u25 u33 m47 u44 u45 = some X43 := aB
     obtain _ | m47 := m47
     ·cases (show (none : Option _) = some X43 from aB)
     rw [T4.eq_2] at aB
     refine And.intro (fun aW => ?_) (fun aW => ?_)
     ·replace aB := ifP aB aW
      refine And.intro (fun aX => ?_) (fun aX => ?_)
      ·replace aB := ifP aB aX
       obtain ⟨q50, cL, aB⟩ := j0 aB
       refine And.intro (J2 cL (by first | rw [F2.length fu45, F2.length (show F2 (Wp.int.R k46) ([[.int .i64 u44]] : List (List Value)) [u44] from ⟨⟨rfl, iu44⟩, trivial⟩)] | exact congrArg (· + 1) (F2.length fu45))) ?_
       refine And.intro rfl (And.intro (by repeat first|exact trivial|refine And.intro rfl ?_) (And.intro (by repeat first|exact trivial|refine And.intro rfl ?_) (Exists.intro m47 (And.intro ⟨(IntKind.i64.wrap (u44 + 1)), (wu45 ++ ([[.int .i64 u44]] : List (List Value))), (u45 ++ [u44]), rfl, rfl, aK, (K0 _), (F2.append fu45 (show F2 (Wp.int.R k46) ([[.int .i64 u44]] : List (List Value)) [u44] from ⟨⟨rfl, iu44⟩, trivial⟩)), aB⟩ (Nat.lt_succ_self _)))))
      ·replace aB := ifN aB aX
       refine And.intro rfl (And.intro (by repeat first|exact trivial|refine And.intro rfl ?_) (And.intro (by repeat first|exact trivial|refine And.intro rfl ?_) (Exists.intro m47 (And.intro ⟨(IntKind.i64.wrap (u44 + 1)), wu45, u45, rfl, rfl, aK, (K0 _), fu45, aB⟩ (Nat.lt_succ_self _)))))
     ·replace aB := ifN aB aW
      have hE := Option.some.inj aB; subst hE
      try dsimp only [T0, U0] at aA
      refine Or.inl ?_
      intro v51 k52 f53
      obtain ⟨az54, cz54, rfl, rz54, sz54, lz54⟩ := j1.out (r := Wp.int.toRp) f53 fu45
      obtain ⟨x55, cM, aA⟩ := j0 aA
      refine Tr.mono (V09 _ [.int .i64 u24, .int .i64 u25, .slice au26 u26.length cu26] (u24, u25, u26) (z0 iu24 iu25 (I0.mono (((dG.trans aD).trans aK).trans sz54) ru26)) az54 u45.length cz54 u45 rz54 _  cM) ?_
      rintro v57 k56 ⟨cY, rfl, wx55⟩
      have cN : Sub k52 k56 := wx55.sub
      have cO := wx55.r
      obtain ⟨bV, bW, aY, cP, aZ, bX, rfl, rfl, bA, bB, bC⟩ := B0 cO
      obtain ⟨rfl, cQ⟩ := Sl.len bC
      try dsimp only at aA
      have we58 := New.sndI (New.sndI (wx55))
      obtain ⟨x61, bY, aA⟩ := j0 aA
      obtain ⟨x62, bZ, aA⟩ := j0 aA
      obtain ⟨q63, cR, aA⟩ := j0 aA
      obtain ⟨qaz64, baz64, eaz64, gz64, oz64, Az64, Cz64, usz64, vsz64, eqz64, qbz64, bbz64, lcz64, mcz64, rxz64, sxz64, luz64, lvz64, apz64⟩ := New.drop wwu23 ((((dG.trans aD).trans aK).trans sz54).trans cN) bY bZ (i0m lu23 bY bZ)
      subst eqz64
      refine Or.inr (Or.inr (Or.inl (And.intro (And.intro (by kernel_rfl) (by kernel_rfl)) ?_)))
      refine Or.inl (Exists.intro (.val (.slice (some ⟨gz64, oz64, none⟩) x61.length cu23)) (And.intro ?_ ?_))
      ·intro hh sb
       obtain ⟨vs, e⟩ := eaz64 hh sb
       exact And.intro baz64 (Exists.intro vs (And.intro e (fun v _ hv => And.intro (congrArg AV.val (qaz64 v hv)) (And.intro rfl rfl))))
      refine Or.inl (Exists.intro (.val (.int .i64 (IntKind.i64.wrap (u33 + 1)))) (And.intro ?_ ?_))
      ·intro k59 s60
       exact And.intro rfl (And.intro rfl rfl)
      refine Or.inl (Exists.intro (.val (.slice Az64 x62.length Cz64)) (And.intro ?_ ?_))
      ·intro hh sb
       obtain ⟨vs, e⟩ := eaz64 hh sb
       exact And.intro bbz64 (Exists.intro vs (And.intro e (fun v _ hv => And.intro (congrArg AV.val (qbz64 v hv)) (And.intro rfl rfl))))
      refine Or.inr ?_
      refine Exists.intro 0 (And.intro (And.intro rfl rfl) ?_)
      refine Exists.intro vsz64 (And.intro sxz64 (Exists.intro usz64 (And.intro rxz64 (And.intro (J2 cR (by rw [luz64, lvz64])) ?_))))
      intro vz64 kz64 happz64
      obtain ⟨wz64, ⟨az64, nz64, cz64, rfl⟩, kpz64⟩ := apz64 _ _ happz64
      have rz64 := wz64.r
      obtain ⟨ez64, lz64⟩ := Sl.len rz64
      subst ez64
      refine And.intro trivial (And.intro (by first | exact trivial | exact rfl) ?_)
      have wy65 := kpz64 S0.slice _ _ _ we58 (((dG.trans aD).trans aK).trans sz54)
      refine And.intro rfl (And.intro (by repeat first|exact trivial|refine And.intro rfl ?_) (And.intro (by repeat first|exact trivial|refine And.intro rfl ?_) (Exists.intro m28 (And.intro ⟨az64, (x61 ++ x62).length, cz64, (x61 ++ x62), bV, bW, aY, bX.length, aZ, bX, rfl, rfl, wz64.sub, wz64, bA, bB, wy65, aA⟩ (Nat.lt_succ_self _)))))
end Go.Proofs.YtfdlgbfeceodeaaGreat
