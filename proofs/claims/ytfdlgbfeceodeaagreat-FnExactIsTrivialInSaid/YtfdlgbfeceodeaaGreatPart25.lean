/- Texts of the claim, joined: The walks of batch 1; The walks of batch 3; The walks of batch 4g; The walks of batch 9; The walks of batch 9f; The walks of batch g1. -/
import Derived.Test.YtfdlgbfeceodeaaGreatPart18
import Derived.Test.YtfdlgbfeceodeaaGreatChecked
import Derived.Test.YtfdlgbfeceodeaaGreatH35
import Derived.Test.YtfdlgbfeceodeaaGreatSI
import Derived.Test.YtfdlgbfeceodeaaGreatPart21
namespace Go.Proofs.YtfdlgbfeceodeaaGreat
open Go.H
set_option linter.unusedVariables false
set_option linter.unusedSimpArgs false
set_option maxRecDepth 10000
theorem W5 (h : Hp) (p0 : Int) (ip0 : D0 p0) (p1 : Int) (ip1 : D0 p1) (p2 : Int) (ip2 : D0 p2) (r : Bool) (aA : D4 p0 p1 p2 = some r) :
  Tr Tryz.prog 105 #[.int .i64 p0, .int .i64 p1, .int .i64 p2] h fun v h' => v = .bool r ∧ h' = h := by
 unfold D4 at aA
 refine Tr.forget (Q2 (args := [.int .i64 p0, .int .i64 p1, .int .i64 p2]) (fn := Tryz.f105) rfl ?_)
 have hE := Option.some.inj aA; subst hE
 exact And.intro rfl (Sub.refl _)
theorem z03 (h : Hp) (p0 : Int) (ip0 : D0 p0) (ap1 : Option Addr) (np1 cp1 : Nat) (p1 : P0) (rp1 : Z0.R h [.slice ap1 np1 cp1] p1) (r : Bool) (aB : i9 p0 p1 = some r) :
  Tr Tryz.prog 124 #[.int .i64 p0, .slice ap1 np1 cp1] h fun v h' => v = .bool r ∧ h' = h := by
 obtain ⟨rfl, lp1⟩ := Sl.len rp1
 unfold i9 at aB
 refine Tr.forget (Q2 (args := [.int .i64 p0, .slice ap1 p1.length cp1]) (fn := Tryz.f124) rfl ?_)
 obtain ⟨X1, aG, aB⟩ := j0 aB
 refine Exists.intro { vars := [5], boxes := [], owns := [], fuel := true } (Exists.intro (fun vs os h' => ∃ (u2 : Int), vs.tail = [.int .i64 u2] ∧ os = [] ∧ Sub h h' ∧ D0 u2 ∧ W6 p1 p0 (L1 vs) u2 = some X1) (Exists.intro (fun _ _ => 0) ?_))
 refine And.intro (Exists.intro Q0 ⟨0, rfl, rfl, (Sub.refl _), (by decide), aG⟩) ?_
 rintro v_0 m4 k3 ⟨u2, aH, aI, aC, iu2, aA⟩
 cases aH
 cases aI
 replace aA : W6 p1 p0 m4 u2 = some X1 := aA
 obtain _ | m4 := m4
 ·cases (show (none : Option _) = some X1 from aA)
 rw [W6.eq_2] at aA
 refine And.intro (fun aJ => ?_) (fun aJ => ?_)
 ·replace aA := ifP aA aJ
  refine Or.inl (And.intro (And.intro (by kernel_rfl) (by kernel_rfl)) ?_)
  obtain ⟨x6, aQ, aA⟩ := j0 aA
  obtain ⟨aR, aS, aT, aU⟩ := Sl.getI (r := Wp.int.toRp) (Z0.mono aC rp1) aQ (by decide)
  refine And.intro aR ?_
  obtain ⟨rfl, bE⟩ := aU
  refine Exists.intro _ (And.intro aT ?_)
  obtain ⟨x7, aV, aA⟩ := j0 aA
  obtain ⟨aW, aN, aX⟩ := Sl.getG (r := Wp.int.toRp) (Z0.mono aC rp1) aV (by decide) (X01 k3)
  refine And.intro (fun q => (aN q).1) ?_
  obtain ⟨rfl, aY⟩ := aX
  refine Exists.intro _ (And.intro (fun q => (aN q).2) ?_)
  obtain ⟨x8, aZ, aA⟩ := j0 aA
  refine Exists.intro (.bool x8) (And.intro (fun q => W5 _ x7 aY (IntKind.i64.wrap (0 - p0)) (K0 _) p0 ip0 _  (V1 aZ q)) ?_)
  obtain ⟨x9, bA, aA⟩ := j0 aA
  obtain ⟨bB, aO, bC⟩ := Sl.getG (r := Wp.int.toRp) (Z0.mono aC rp1) bA (by decide) (X01 k3)
  refine And.intro (fun q => (aO q).1) ?_
  obtain ⟨rfl, bF⟩ := bC
  refine Exists.intro _ (And.intro (fun q => (aO q).2) ?_)
  obtain ⟨x10, aK, aA⟩ := j0 aA
  obtain ⟨aP, aF, aL⟩ := Sl.getG (r := Wp.int.toRp) (Z0.mono aC rp1) aK (by decide) (X01 k3)
  refine And.intro (fun q => (aF q).1) ?_
  obtain ⟨rfl, bD⟩ := aL
  refine Exists.intro _ (And.intro (fun q => (aF q).2) ?_)
  refine And.intro (fun aD => ?_) (fun aD => ?_)
  ·replace aA := ifP aA aD
   have hE := Option.some.inj aA; subst hE
   try dsimp only [Z2, D3] at aB
   have hE := Option.some.inj aB; subst hE
   exact And.intro rfl aC
  ·replace aA := ifN aA aD
   refine And.intro rfl (And.intro (by repeat first|exact trivial|refine And.intro rfl ?_) (And.intro (by repeat first|exact trivial|refine And.intro rfl ?_) (Exists.intro m4 (And.intro ⟨(IntKind.i64.wrap (u2 + 1)), rfl, rfl, aC, (K0 _), aA⟩ (Nat.lt_succ_self _)))))
 ·replace aA := ifN aA aJ
  have hE := Option.some.inj aA; subst hE
  try dsimp only [T0, U0] at aB
  obtain ⟨x12, aM, aB⟩ := j0 aB
  refine Tr.val (W5 _ p0 ip0 1 (by decide) 3 (by decide) _  aM) ?_
  have hE := Option.some.inj aB; subst hE
  exact And.intro rfl aC
theorem Z06 (h : Hp) (ap0 : Option Addr) (np0 cp0 : Nat) (p0 : V3) (rp0 : n5.R h [.slice ap0 np0 cp0] p0) (r : Int) (aB : n7 p0 = some r) :
  Tr Tryz.prog 198 #[.slice ap0 np0 cp0] h fun v h' => v = .int .i64 r ∧ h' = h := by
 obtain ⟨rfl, lp0⟩ := Sl.len rp0
 unfold n7 at aB
 refine Tr.forget (Q2 (args := [.slice ap0 p0.length cp0]) (fn := Tryz.f198) rfl ?_)
 obtain ⟨X1, aC, aB⟩ := j0 aB
 refine Exists.intro { vars := [3, 4], boxes := [], owns := [], fuel := true } (Exists.intro (fun vs os h' => ∃ (u2 : Int) (u3 : Int), vs.tail = [.int .i64 u2, .int .i64 u3] ∧ os = [] ∧ Sub h h' ∧ D0 u2 ∧ D0 u3 ∧ L3 p0 (L1 vs) u2 u3 = some X1) (Exists.intro (fun _ _ => 0) ?_))
 refine And.intro (Exists.intro Q0 ⟨0, 0, rfl, rfl, (Sub.refl _), (by decide), (by decide), aC⟩) ?_
 rintro v_0 v_1 m5 k4 ⟨u2, u3, aD, aF, aG, iu2, iu3, aA⟩
 cases aD
 cases aF
 replace aA : L3 p0 m5 u2 u3 = some X1 := aA
 obtain _ | m5 := m5
 ·cases (show (none : Option _) = some X1 from aA)
 rw [L3.eq_2] at aA
 refine And.intro (fun aH => ?_) (fun aH => ?_)
 ·replace aA := ifP aA aH
  obtain ⟨x7, aJ, aA⟩ := j0 aA
  obtain ⟨aK, aL, aM, aI⟩ := Sl.getI (r := Z0.toRp) (n5.mono aG rp0) aJ (by decide)
  refine And.intro aK ?_
  obtain ⟨aN, aO, aP, rfl⟩ := Wp.slice_cell aI
  obtain ⟨rfl, aQ⟩ := Sl.len aI
  refine Exists.intro _ (And.intro aM ?_)
  refine And.intro rfl (And.intro (by repeat first|exact trivial|refine And.intro rfl ?_) (And.intro (by repeat first|exact trivial|refine And.intro rfl ?_) (Exists.intro m5 (And.intro ⟨(IntKind.i64.wrap (u2 + ((x7.length : Nat) : Int))), (IntKind.i64.wrap (u3 + 1)), rfl, rfl, aG, (K0 _), (K0 _), aA⟩ (Nat.lt_succ_self _)))))
 ·replace aA := ifN aA aH
  have hE := Option.some.inj aA; subst hE
  try dsimp only [T0, U0] at aB
  have hE := Option.some.inj aB; subst hE
  exact And.intro rfl aG
theorem L04 (h : Hp) (p0 : Int) (ip0 : D0 p0) (ap1 : Option Addr) (np1 cp1 : Nat) (p1 : V3) (rp1 : n5.R h [.slice ap1 np1 cp1] p1) (r : Bool) (aB : O8 p0 p1 = some r) :
  Tr Tryz.prog 141 #[.int .i64 p0, .slice ap1 np1 cp1] h fun v h' => v = .bool r ∧ h' = h := by
 obtain ⟨rfl, lp1⟩ := Sl.len rp1
 unfold O8 at aB
 refine Tr.forget (Q2 (args := [.int .i64 p0, .slice ap1 p1.length cp1]) (fn := Tryz.f141) rfl ?_)
 obtain ⟨X1, aD, aB⟩ := j0 aB
 refine Exists.intro { vars := [5], boxes := [], owns := [], fuel := true } (Exists.intro (fun vs os h' => ∃ (u2 : Int), vs.tail = [.int .i64 u2] ∧ os = [] ∧ Sub h h' ∧ D0 u2 ∧ P5 p1 p0 (L1 vs) u2 = some X1) (Exists.intro (fun _ _ => 0) ?_))
 refine And.intro (Exists.intro Q0 ⟨0, rfl, rfl, (Sub.refl _), (by decide), aD⟩) ?_
 rintro v_0 m4 k3 ⟨u2, aF, aG, aC, iu2, aA⟩
 cases aF
 cases aG
 replace aA : P5 p1 p0 m4 u2 = some X1 := aA
 obtain _ | m4 := m4
 ·cases (show (none : Option _) = some X1 from aA)
 rw [P5.eq_2] at aA
 refine And.intro (fun aH => ?_) (fun aH => ?_)
 ·replace aA := ifP aA aH
  obtain ⟨x6, aM, aA⟩ := j0 aA
  obtain ⟨aN, aO, aP, aI⟩ := Sl.getI (r := Z0.toRp) (n5.mono aC rp1) aM (by decide)
  refine And.intro aN ?_
  obtain ⟨aQ, aV, aR, rfl⟩ := Wp.slice_cell aI
  obtain ⟨rfl, aW⟩ := Sl.len aI
  refine Exists.intro _ (And.intro aP ?_)
  obtain ⟨x7, aS, aA⟩ := j0 aA
  refine Tr.val (z03 _ p0 ip0 aQ x6.length aR x6 aI _  aS) ?_
  refine And.intro (fun aJ => ?_) (fun aJ => ?_)
  ·replace aA := ifP aA aJ
   have hE := Option.some.inj aA; subst hE
   try dsimp only [Z2, D3] at aB
   have hE := Option.some.inj aB; subst hE
   exact And.intro rfl aC
  ·replace aA := ifN aA aJ
   refine And.intro rfl (And.intro (by repeat first|exact trivial|refine And.intro rfl ?_) (And.intro (by repeat first|exact trivial|refine And.intro rfl ?_) (Exists.intro m4 (And.intro ⟨(IntKind.i64.wrap (u2 + 1)), rfl, rfl, aC, (K0 _), aA⟩ (Nat.lt_succ_self _)))))
 ·replace aA := ifN aA aH
  have hE := Option.some.inj aA; subst hE
  try dsimp only [T0, U0] at aB
  obtain ⟨x9, aT, aB⟩ := j0 aB
  refine Tr.val (W5 _ p0 ip0 1 (by decide) 3 (by decide) _  aT) ?_
  obtain ⟨x10, aK, aB⟩ := j0 aB
  refine Exists.intro (.int .i64 x10) (And.intro (fun q => Z06 _ ap1 p1.length cp1 p1 (n5.mono aC rp1) _  (V1 aK q)) ?_)
  obtain ⟨q11, aL, aB⟩ := j0 aB
  have aU : D0 x10 := A2 aL
  have hE := Option.some.inj aB; subst hE
  exact And.intro rfl aC
theorem g00 (h : Hp) (aL : List Value) (p0 : F0) (rp0 : F1.R h aL p0) (r : Bool) (aC : c5 p0 = some r) :
  Tr Tryz.prog 87 #[.agg aL.toArray] h fun v h' => v = .bool r ∧ h' = h := by
 obtain ⟨aH, aD, aS, aF, aG, rfl, rfl, aI, aB⟩ := U1 rp0
 obtain ⟨rfl, aT⟩ := Sl.len aB
 unfold c5 at aC
 dsimp only at aC
 refine Tr.forget (Q2 (args := [.agg #[.int .i64 aH, .slice aD aG.length aF]]) (fn := Tryz.f87) rfl ?_)
 obtain ⟨X1, aM, aC⟩ := j0 aC
 refine Exists.intro { vars := [3], boxes := [], owns := [], fuel := true } (Exists.intro (fun vs os h' => ∃ (u2 : Int), vs.tail = [.int .i64 u2] ∧ os = [] ∧ Sub h h' ∧ D0 u2 ∧ T3 aG (L1 vs) u2 = some X1) (Exists.intro (fun _ _ => 0) ?_))
 refine And.intro (Exists.intro Q0 ⟨0, rfl, rfl, (Sub.refl _), (by decide), aM⟩) ?_
 rintro v_0 m4 k3 ⟨u2, aN, aO, aJ, iu2, aA⟩
 cases aN
 cases aO
 replace aA : T3 aG m4 u2 = some X1 := aA
 obtain _ | m4 := m4
 ·cases (show (none : Option _) = some X1 from aA)
 rw [T3.eq_2] at aA
 refine And.intro (fun aP => ?_) (fun aP => ?_)
 ·replace aA := ifP aA aP
  obtain ⟨x6, aW, aA⟩ := j0 aA
  obtain ⟨aX, aY, aZ, aK⟩ := Sl.getI (r := Z0.toRp) (n5.mono aJ aB) aW (by decide)
  refine And.intro aX ?_
  obtain ⟨bG, bH, bI, rfl⟩ := Wp.slice_cell aK
  obtain ⟨rfl, bJ⟩ := Sl.len aK
  refine Exists.intro _ (And.intro aZ ?_)
  refine Or.inl (And.intro (And.intro (by kernel_rfl) (by kernel_rfl)) ?_)
  obtain ⟨x7, bA, aA⟩ := j0 aA
  obtain ⟨bB, aU, bC⟩ := Sl.getG (r := Wp.int.toRp) aK bA (by decide) (X01 k3)
  refine And.intro (fun q => (aU q).1) ?_
  obtain ⟨rfl, bK⟩ := bC
  refine Exists.intro _ (And.intro (fun q => (aU q).2) ?_)
  obtain ⟨x8, bD, aA⟩ := j0 aA
  obtain ⟨bE, aV, bF⟩ := Sl.getG (r := Wp.int.toRp) aK bD (by decide) (X01 k3)
  refine And.intro (fun q => (aV q).1) ?_
  obtain ⟨rfl, bL⟩ := bF
  refine Exists.intro _ (And.intro (fun q => (aV q).2) ?_)
  refine And.intro (fun aQ => ?_) (fun aQ => ?_)
  ·replace aA := ifP aA aQ
   have hE := Option.some.inj aA; subst hE
   try dsimp only [Z2, D3] at aC
   have hE := Option.some.inj aC; subst hE
   exact And.intro rfl aJ
  ·replace aA := ifN aA aQ
   refine And.intro rfl (And.intro (by repeat first|exact trivial|refine And.intro rfl ?_) (And.intro (by repeat first|exact trivial|refine And.intro rfl ?_) (Exists.intro m4 (And.intro ⟨(IntKind.i64.wrap (u2 + 1)), rfl, rfl, aJ, (K0 _), aA⟩ (Nat.lt_succ_self _)))))
 ·replace aA := ifN aA aP
  have hE := Option.some.inj aA; subst hE
  try dsimp only [T0, U0] at aC
  obtain ⟨x10, aR, aC⟩ := j0 aC
  refine Tr.val (L04 _ aH aI aD aG.length aF aG (n5.mono aJ aB) _  aR) ?_
  have hE := Option.some.inj aC; subst hE
  exact And.intro rfl aJ
theorem i8 (h : Hp) (p0 : Int) (ip0 : D0 p0) (p1 : Int) (ip1 : D0 p1) (p2 : Int) (ip2 : D0 p2) (r : Bool) (aA : g6 p0 p1 p2 = some r) :
  Tr Tryz.prog 110 #[.int .i64 p0, .int .i64 p1, .int .i64 p2] h fun v h' => v = .bool r ∧ h' = h := by
 unfold g6 at aA
 refine Tr.forget (Q2 (args := [.int .i64 p0, .int .i64 p1, .int .i64 p2]) (fn := Tryz.f110) rfl ?_)
 have hE := Option.some.inj aA; subst hE
 exact And.intro rfl (Sub.refl _)
theorem b0a (h : Hp) (p0 : Int) (ip0 : D0 p0) (p1 : Int) (ip1 : D0 p1) (r : Bool) (aA : M9 p0 p1 = some r) :
  Tr Tryz.prog 185 #[.int .i64 p0, .int .i64 p1] h fun v h' => v = .bool r ∧ h' = h := by
 unfold M9 at aA
 refine Tr.forget (Q2 (args := [.int .i64 p0, .int .i64 p1]) (fn := Tryz.f185) rfl ?_)
 obtain ⟨x1, aB, aA⟩ := j0 aA
 refine Exists.intro (.bool x1) (And.intro (fun q => i8 _ p1 ip1 (IntKind.i64.wrap (0 - p0)) (K0 _) p0 ip0 _  (V1 aB q)) ?_)
 have hE := Option.some.inj aA; subst hE
 exact And.intro rfl (Sub.refl _)
theorem n03 (h : Hp) (p0 : Int) (ip0 : D0 p0) (p1 : Int) (ip1 : D0 p1) (r : Bool) (aA : P7 p0 p1 = some r) :
  Tr Tryz.prog 150 #[.int .i64 p0, .int .i64 p1] h fun v h' => v = .bool r ∧ h' = h := by
 unfold P7 at aA
 refine Tr.forget (Q2 (args := [.int .i64 p0, .int .i64 p1]) (fn := Tryz.f150) rfl ?_)
 have hE := Option.some.inj aA; subst hE
 exact And.intro rfl (Sub.refl _)
theorem A03 (h : Hp) (p0 : Int) (ip0 : D0 p0) (ap1 : Option Addr) (np1 cp1 : Nat) (p1 : P0) (rp1 : Z0.R h [.slice ap1 np1 cp1] p1) (r : Bool) (aB : j9 p0 p1 = some r) :
  Tr Tryz.prog 126 #[.int .i64 p0, .slice ap1 np1 cp1] h fun v h' => v = .bool r ∧ h' = h := by
 obtain ⟨rfl, lp1⟩ := Sl.len rp1
 unfold j9 at aB
 refine Tr.forget (Q2 (args := [.int .i64 p0, .slice ap1 p1.length cp1]) (fn := Tryz.f126) rfl ?_)
 obtain ⟨x1, aR, aB⟩ := j0 aB
 refine Tr.val (i8 _ p0 ip0 1 (by decide) 3 (by decide) _  aR) ?_
 refine And.intro (fun aG => ?_) (fun aG => ?_)
 ·replace aB := ifP aB aG
  have hE := Option.some.inj aB; subst hE
  exact And.intro rfl (Sub.refl _)
 ·replace aB := ifN aB aG
  obtain ⟨X3, aH, aB⟩ := j0 aB
  refine Exists.intro { vars := [17], boxes := [], owns := [], fuel := true } (Exists.intro (fun vs os h' => ∃ (u4 : Int), vs.tail = [.int .i64 u4] ∧ os = [] ∧ Sub h h' ∧ D0 u4 ∧ Y6 p1 p0 (L1 vs) u4 = some X3) (Exists.intro (fun _ _ => 0) ?_))
  refine And.intro (Exists.intro Q0 ⟨0, rfl, rfl, (Sub.refl _), (by decide), aH⟩) ?_
  rintro v_0 m6 k5 ⟨u4, aI, aJ, aD, iu4, aA⟩
  cases aI
  cases aJ
  replace aA : Y6 p1 p0 m6 u4 = some X3 := aA
  obtain _ | m6 := m6
  ·cases (show (none : Option _) = some X3 from aA)
  rw [Y6.eq_2] at aA
  refine And.intro (fun aK => ?_) (fun aK => ?_)
  ·replace aA := ifP aA aK
   obtain ⟨x8, aS, aA⟩ := j0 aA
   obtain ⟨aT, aU, aV, aW⟩ := Sl.getI (r := Wp.int.toRp) (Z0.mono aD rp1) aS (by decide)
   refine And.intro aT ?_
   obtain ⟨rfl, aP⟩ := aW
   refine Exists.intro _ (And.intro aV ?_)
   obtain ⟨x9, aX, aA⟩ := j0 aA
   refine Tr.val (b0a _ p0 ip0 x8 aP _  aX) ?_
   obtain ⟨x10, aL, aA⟩ := j0 aA
   obtain ⟨aQ, aF, aM⟩ := Sl.getG (r := Wp.int.toRp) (Z0.mono aD rp1) aL (by decide) (X01 k5)
   refine And.intro (fun q => (aF q).1) ?_
   obtain ⟨rfl, aN⟩ := aM
   refine Exists.intro _ (And.intro (fun q => (aF q).2) ?_)
   obtain ⟨x11, aO, aA⟩ := j0 aA
   refine Exists.intro (.bool x11) (And.intro (fun q => n03 _ x10 aN x8 aP _  (V1 aO q)) ?_)
   refine And.intro (fun aC => ?_) (fun aC => ?_)
   ·replace aA := ifP aA aC
    have hE := Option.some.inj aA; subst hE
    try dsimp only [Z2, D3] at aB
    have hE := Option.some.inj aB; subst hE
    exact And.intro rfl aD
   ·replace aA := ifN aA aC
    refine And.intro rfl (And.intro (by repeat first|exact trivial|refine And.intro rfl ?_) (And.intro (by repeat first|exact trivial|refine And.intro rfl ?_) (Exists.intro m6 (And.intro ⟨(IntKind.i64.wrap (u4 + 1)), rfl, rfl, aD, (K0 _), aA⟩ (Nat.lt_succ_self _)))))
  ·replace aA := ifN aA aK
   have hE := Option.some.inj aA; subst hE
   try dsimp only [T0, U0] at aB
   have hE := Option.some.inj aB; subst hE
   exact And.intro rfl aD
theorem a07 (h : Hp) (ap0 : Option Addr) (np0 cp0 : Nat) (p0 : V3) (rp0 : n5.R h [.slice ap0 np0 cp0] p0) (r : Int) (aB : y8 p0 = some r) :
  Tr Tryz.prog 203 #[.slice ap0 np0 cp0] h fun v h' => v = .int .i64 r ∧ h' = h := by
 obtain ⟨rfl, lp0⟩ := Sl.len rp0
 unfold y8 at aB
 refine Tr.forget (Q2 (args := [.slice ap0 p0.length cp0]) (fn := Tryz.f203) rfl ?_)
 obtain ⟨X1, aC, aB⟩ := j0 aB
 refine Exists.intro { vars := [3, 8], boxes := [], owns := [], fuel := true } (Exists.intro (fun vs os h' => ∃ (u2 : Int) (u3 : Int), vs.tail = [.int .i64 u2, .int .i64 u3] ∧ os = [] ∧ Sub h h' ∧ D0 u2 ∧ D0 u3 ∧ p5 p0 (L1 vs) u2 u3 = some X1) (Exists.intro (fun _ _ => 0) ?_))
 refine And.intro (Exists.intro Q0 ⟨0, 0, rfl, rfl, (Sub.refl _), (by decide), (by decide), aC⟩) ?_
 rintro v_0 v_1 m5 k4 ⟨u2, u3, aD, aF, aG, iu2, iu3, aA⟩
 cases aD
 cases aF
 replace aA : p5 p0 m5 u2 u3 = some X1 := aA
 obtain _ | m5 := m5
 ·cases (show (none : Option _) = some X1 from aA)
 rw [p5.eq_2] at aA
 refine And.intro (fun aH => ?_) (fun aH => ?_)
 ·replace aA := ifP aA aH
  obtain ⟨x7, aJ, aA⟩ := j0 aA
  obtain ⟨aK, aL, aM, aI⟩ := Sl.getI (r := Z0.toRp) (n5.mono aG rp0) aJ (by decide)
  refine And.intro aK ?_
  obtain ⟨aN, aO, aP, rfl⟩ := Wp.slice_cell aI
  obtain ⟨rfl, aQ⟩ := Sl.len aI
  refine Exists.intro _ (And.intro aM ?_)
  refine And.intro rfl (And.intro (by repeat first|exact trivial|refine And.intro rfl ?_) (And.intro (by repeat first|exact trivial|refine And.intro rfl ?_) (Exists.intro m5 (And.intro ⟨(IntKind.i64.wrap (u2 + ((x7.length : Nat) : Int))), (IntKind.i64.wrap (u3 + 1)), rfl, rfl, aG, (K0 _), (K0 _), aA⟩ (Nat.lt_succ_self _)))))
 ·replace aA := ifN aA aH
  have hE := Option.some.inj aA; subst hE
  try dsimp only [T0, U0] at aB
  have hE := Option.some.inj aB; subst hE
  exact And.intro rfl aG
theorem M04 (h : Hp) (p0 : Int) (ip0 : D0 p0) (ap1 : Option Addr) (np1 cp1 : Nat) (p1 : V3) (rp1 : n5.R h [.slice ap1 np1 cp1] p1) (r : Bool) (aB : P8 p0 p1 = some r) :
  Tr Tryz.prog 149 #[.int .i64 p0, .slice ap1 np1 cp1] h fun v h' => v = .bool r ∧ h' = h := by
 obtain ⟨rfl, lp1⟩ := Sl.len rp1
 unfold P8 at aB
 refine Tr.forget (Q2 (args := [.int .i64 p0, .slice ap1 p1.length cp1]) (fn := Tryz.f149) rfl ?_)
 obtain ⟨x1, aN, aB⟩ := j0 aB
 refine Tr.val (i8 _ p0 ip0 1 (by decide) 3 (by decide) _  aN) ?_
 refine And.intro (fun aF => ?_) (fun aF => ?_)
 ·replace aB := ifP aB aF
  have hE := Option.some.inj aB; subst hE
  exact And.intro rfl (Sub.refl _)
 ·replace aB := ifN aB aF
  obtain ⟨X3, aG, aB⟩ := j0 aB
  refine Exists.intro { vars := [17], boxes := [], owns := [], fuel := true } (Exists.intro (fun vs os h' => ∃ (u4 : Int), vs.tail = [.int .i64 u4] ∧ os = [] ∧ Sub h h' ∧ D0 u4 ∧ Q5 p1 p0 (L1 vs) u4 = some X3) (Exists.intro (fun _ _ => 0) ?_))
  refine And.intro (Exists.intro Q0 ⟨0, rfl, rfl, (Sub.refl _), (by decide), aG⟩) ?_
  rintro v_0 m6 k5 ⟨u4, aH, aI, aD, iu4, aA⟩
  cases aH
  cases aI
  replace aA : Q5 p1 p0 m6 u4 = some X3 := aA
  obtain _ | m6 := m6
  ·cases (show (none : Option _) = some X3 from aA)
  rw [Q5.eq_2] at aA
  refine And.intro (fun aJ => ?_) (fun aJ => ?_)
  ·replace aA := ifP aA aJ
   obtain ⟨x8, aO, aA⟩ := j0 aA
   obtain ⟨aP, aQ, aR, aK⟩ := Sl.getI (r := Z0.toRp) (n5.mono aD rp1) aO (by decide)
   refine And.intro aP ?_
   obtain ⟨aS, aW, aT, rfl⟩ := Wp.slice_cell aK
   obtain ⟨rfl, aX⟩ := Sl.len aK
   refine Exists.intro _ (And.intro aR ?_)
   obtain ⟨x9, aU, aA⟩ := j0 aA
   refine Tr.val (A03 _ p0 ip0 aS x8.length aT x8 aK _  aU) ?_
   refine And.intro (fun aC => ?_) (fun aC => ?_)
   ·replace aA := ifP aA aC
    have hE := Option.some.inj aA; subst hE
    try dsimp only [Z2, D3] at aB
    have hE := Option.some.inj aB; subst hE
    exact And.intro rfl aD
   ·replace aA := ifN aA aC
    refine And.intro rfl (And.intro (by repeat first|exact trivial|refine And.intro rfl ?_) (And.intro (by repeat first|exact trivial|refine And.intro rfl ?_) (Exists.intro m6 (And.intro ⟨(IntKind.i64.wrap (u4 + 1)), rfl, rfl, aD, (K0 _), aA⟩ (Nat.lt_succ_self _)))))
  ·replace aA := ifN aA aJ
   have hE := Option.some.inj aA; subst hE
   try dsimp only [T0, U0] at aB
   obtain ⟨x11, aL, aB⟩ := j0 aB
   refine Tr.val (a07 _ ap1 p1.length cp1 p1 (n5.mono aD rp1) _  aL) ?_
   obtain ⟨q12, aM, aB⟩ := j0 aB
   have aV : D0 x11 := A2 aM
   have hE := Option.some.inj aB; subst hE
   exact And.intro rfl aD
theorem i00 (h : Hp) (aN : List Value) (p0 : F0) (rp0 : F1.R h aN p0) (r : Bool) (aB : d5 p0 = some r) :
  Tr Tryz.prog 95 #[.agg aN.toArray] h fun v h' => v = .bool r ∧ h' = h := by
 obtain ⟨aI, aD, aX, aF, aG, rfl, rfl, aJ, aC⟩ := U1 rp0
 obtain ⟨rfl, aY⟩ := Sl.len aC
 unfold d5 at aB
 dsimp only at aB
 refine Tr.forget (Q2 (args := [.agg #[.int .i64 aI, .slice aD aG.length aF]]) (fn := Tryz.f95) rfl ?_)
 obtain ⟨x1, bB, aB⟩ := j0 aB
 refine Tr.val (M04 _ aI aJ aD aG.length aF aG aC _  bB) ?_
 refine And.intro (fun aO => ?_) (fun aO => ?_)
 ·replace aB := ifP aB aO
  have hE := Option.some.inj aB; subst hE
  exact And.intro rfl (Sub.refl _)
 ·replace aB := ifN aB aO
  obtain ⟨X3, aP, aB⟩ := j0 aB
  refine Exists.intro { vars := [14], boxes := [], owns := [], fuel := true } (Exists.intro (fun vs os h' => ∃ (u4 : Int), vs.tail = [.int .i64 u4] ∧ os = [] ∧ Sub h h' ∧ D0 u4 ∧ U3 aG (L1 vs) u4 = some X3) (Exists.intro (fun _ _ => 0) ?_))
  refine And.intro (Exists.intro Q0 ⟨0, rfl, rfl, (Sub.refl _), (by decide), aP⟩) ?_
  rintro v_0 m6 k5 ⟨u4, aQ, aR, aL, iu4, aA⟩
  cases aQ
  cases aR
  replace aA : U3 aG m6 u4 = some X3 := aA
  obtain _ | m6 := m6
  ·cases (show (none : Option _) = some X3 from aA)
  rw [U3.eq_2] at aA
  refine And.intro (fun aS => ?_) (fun aS => ?_)
  ·replace aA := ifP aA aS
   obtain ⟨x8, bC, aA⟩ := j0 aA
   obtain ⟨bD, bE, bF, aM⟩ := Sl.getI (r := Z0.toRp) (n5.mono aL aC) bC (by decide)
   refine And.intro bD ?_
   obtain ⟨bK, bL, bM, rfl⟩ := Wp.slice_cell aM
   obtain ⟨rfl, bN⟩ := Sl.len aM
   refine Exists.intro _ (And.intro bF ?_)
   refine Or.inl (And.intro (And.intro (by kernel_rfl) (by kernel_rfl)) ?_)
   obtain ⟨x9, bG, aA⟩ := j0 aA
   obtain ⟨bH, aZ, bI⟩ := Sl.getG (r := Wp.int.toRp) aM bG (by decide) (X01 k5)
   refine And.intro (fun q => (aZ q).1) ?_
   obtain ⟨rfl, bJ⟩ := bI
   refine Exists.intro _ (And.intro (fun q => (aZ q).2) ?_)
   obtain ⟨x10, aT, aA⟩ := j0 aA
   obtain ⟨bA, aK, aU⟩ := Sl.getG (r := Wp.int.toRp) aM aT (by decide) (X01 k5)
   refine And.intro (fun q => (aK q).1) ?_
   obtain ⟨rfl, aV⟩ := aU
   refine Exists.intro _ (And.intro (fun q => (aK q).2) ?_)
   obtain ⟨x11, aW, aA⟩ := j0 aA
   refine Exists.intro (.bool x11) (And.intro (fun q => n03 _ x9 bJ x10 aV _  (V1 aW q)) ?_)
   refine And.intro (fun aH => ?_) (fun aH => ?_)
   ·replace aA := ifP aA aH
    have hE := Option.some.inj aA; subst hE
    try dsimp only [Z2, D3] at aB
    have hE := Option.some.inj aB; subst hE
    exact And.intro rfl aL
   ·replace aA := ifN aA aH
    refine And.intro rfl (And.intro (by repeat first|exact trivial|refine And.intro rfl ?_) (And.intro (by repeat first|exact trivial|refine And.intro rfl ?_) (Exists.intro m6 (And.intro ⟨(IntKind.i64.wrap (u4 + 1)), rfl, rfl, aL, (K0 _), aA⟩ (Nat.lt_succ_self _)))))
  ·replace aA := ifN aA aS
   have hE := Option.some.inj aA; subst hE
   try dsimp only [T0, U0] at aB
   have hE := Option.some.inj aB; subst hE
   exact And.intro rfl aL
theorem c01 (h : Hp) (p0 : Int) (ip0 : D0 p0) (p1 : Int) (ip1 : D0 p1) (r : Int) (aA : o6 p0 p1 = some r) :
  Tr Tryz.prog 223 #[.int .i64 p0, .int .i64 p1] h fun v h' => v = .int .i64 r ∧ h' = h := by
 unfold o6 at aA
 refine Tr.forget (Q2 (args := [.int .i64 p0, .int .i64 p1]) (fn := Tryz.f223) rfl ?_)
 refine And.intro (fun aB => ?_) (fun aB => ?_)
 ·replace aA := ifP aA aB
  have hE := Option.some.inj aA; subst hE
  exact And.intro rfl (Sub.refl _)
 ·replace aA := ifN aA aB
  refine And.intro (fun aC => ?_) (fun aC => ?_)
  ·replace aA := ifP aA aC
   have hE := Option.some.inj aA; subst hE
   exact And.intro rfl (Sub.refl _)
  ·replace aA := ifN aA aC
   have hE := Option.some.inj aA; subst hE
   exact And.intro rfl (Sub.refl _)
end Go.Proofs.YtfdlgbfeceodeaaGreat
namespace Go.Proofs.YtfdlgbfeceodeaaGreat
open Go.H
set_option linter.unusedVariables false
set_option linter.unusedSimpArgs false
set_option maxRecDepth 10000
theorem I05 (h : Hp) (ap0 : Option Addr) (np0 cp0 : Nat) (p0 : P0) (rp0 : Z0.R h [.slice ap0 np0 cp0] p0) (r : P0) (aB : N7 p0 = some r) :
  Tr Tryz.prog 184 #[.slice ap0 np0 cp0] h fun v h' => ∃ (a0 : Option Addr) (n0 c0 : Nat), v = .slice a0 n0 c0 ∧ Z0.R h' [.slice a0 n0 c0] r ∧ Sub h h' := by
 obtain ⟨rfl, lp0⟩ := Sl.len rp0
 unfold N7 at aB
 refine Q2 (args := [.slice ap0 p0.length cp0]) (fn := Tryz.f184) rfl ?_
 obtain ⟨X1, aK, aB⟩ := j0 aB
 refine Exists.intro { vars := [4], boxes := [], owns := [0], fuel := true } (Exists.intro (fun vs os h' => ∃ (u2 : Int) (wu3 : List (List Value)) (u3 : List Int), vs.tail = [.int .i64 u2] ∧ os = [wu3] ∧ Sub h h' ∧ D0 u2 ∧ F2 (Wp.int.R h') wu3 u3 ∧ K3 p0 (L1 vs) u2 u3 = some X1) (Exists.intro (fun _ _ => 0) ?_))
 refine And.intro (Exists.intro Q0 ⟨0, [], ([] : P0), rfl, rfl, (Sub.refl _), (by decide), (show F2 (Wp.int.R h) ([] : List (List Value)) ([] : P0) from trivial), aK⟩) ?_
 rintro v_0 wu3 m5 k4 ⟨u2, zzu3, u3, aL, aM, aD, iu2, fu3, aA⟩
 cases aL
 cases aM
 replace aA : K3 p0 m5 u2 u3 = some X1 := aA
 obtain _ | m5 := m5
 ·cases (show (none : Option _) = some X1 from aA)
 rw [K3.eq_2] at aA
 refine And.intro (fun aN => ?_) (fun aN => ?_)
 ·replace aA := ifP aA aN
  obtain ⟨m7, gm7, aA⟩ := j0 aA
  obtain rfl : wu3.length = m7 := (F2.length fu3).trans (Option.some.inj gm7)
  obtain ⟨q8, bQ, aA⟩ := j0 aA
  refine Or.inl (And.intro (And.intro (by kernel_rfl) (by kernel_rfl)) ?_)
  obtain ⟨x9, bJ, aA⟩ := j0 aA
  obtain ⟨bK, bD, bL⟩ := Sl.getG (r := Wp.int.toRp) (Z0.mono aD rp0) bJ (by decide) (X01 k4)
  refine And.intro (fun q => (bD q).1) ?_
  obtain ⟨rfl, bR⟩ := bL
  refine Exists.intro _ (And.intro (fun q => (bD q).2) ?_)
  obtain ⟨x10, aO, aA⟩ := j0 aA
  obtain ⟨bE, aF, aP⟩ := S03 fu3 aO (X01 k4)
  refine And.intro (fun q => (aF q).1) ?_
  obtain ⟨rfl, bM⟩ := aP
  refine Exists.intro _ (And.intro (fun q => (aF q).2) ?_)
  obtain ⟨x11, aQ, aA⟩ := j0 aA
  obtain ⟨bF, aG, aR⟩ := Sl.getG (r := Wp.int.toRp) (Z0.mono aD rp0) aQ (by decide) (X01 k4)
  refine And.intro (fun q => (aG q).1) ?_
  obtain ⟨rfl, bN⟩ := aR
  refine Exists.intro _ (And.intro (fun q => (aG q).2) ?_)
  obtain ⟨x12, aS, aA⟩ := j0 aA
  obtain ⟨bG, aH, aT⟩ := S03 fu3 aS (X01 k4)
  refine And.intro (fun q => (aH q).1) ?_
  obtain ⟨rfl, bO⟩ := aT
  refine Exists.intro _ (And.intro (fun q => (aH q).2) ?_)
  obtain ⟨x13, aU, aA⟩ := j0 aA
  obtain ⟨bH, aI, aV⟩ := Sl.getG (r := Wp.int.toRp) (Z0.mono aD rp0) aU (by decide) (X01 k4)
  refine And.intro (fun q => (aI q).1) ?_
  obtain ⟨rfl, bP⟩ := aV
  refine Exists.intro _ (And.intro (fun q => (aI q).2) ?_)
  refine And.intro (fun aC => ?_) (fun aC => ?_)
  ·replace aA := ifP aA aC
   obtain ⟨q15, aW, aA⟩ := j0 aA
   refine And.intro (by have := A2 aW; have := F2.length fu3; omega) ?_
   refine And.intro rfl (And.intro (by repeat first|exact trivial|refine And.intro rfl ?_) (And.intro (by repeat first|exact trivial|refine And.intro rfl ?_) (Exists.intro m5 (And.intro ⟨(IntKind.i64.wrap (u2 + 1)), (wu3.take (IntKind.i64.wrap (((wu3.length : Nat) : Int) - 1)).toNat), (u3.take (IntKind.i64.wrap (((wu3.length : Nat) : Int) - 1)).toNat), rfl, rfl, aD, (K0 _), (F2.take (IntKind.i64.wrap (((wu3.length : Nat) : Int) - 1)).toNat fu3), aA⟩ (Nat.lt_succ_self _)))))
  ·replace aA := ifN aA aC
   obtain ⟨x16, aX, aA⟩ := j0 aA
   obtain ⟨aY, bI, aZ, bA⟩ := Sl.getI (r := Wp.int.toRp) (Z0.mono aD rp0) aX (by decide)
   refine And.intro aY ?_
   obtain ⟨rfl, aJ⟩ := bA
   refine Exists.intro _ (And.intro aZ ?_)
   obtain ⟨q17, bB, aA⟩ := j0 aA
   refine And.intro (J2 bB (by first | rw [F2.length fu3, F2.length (show F2 (Wp.int.R k4) ([[.int .i64 x16]] : List (List Value)) [x16] from ⟨⟨rfl, aJ⟩, trivial⟩)] | exact congrArg (· + 1) (F2.length fu3))) ?_
   refine And.intro rfl (And.intro (by repeat first|exact trivial|refine And.intro rfl ?_) (And.intro (by repeat first|exact trivial|refine And.intro rfl ?_) (Exists.intro m5 (And.intro ⟨(IntKind.i64.wrap (u2 + 1)), (wu3 ++ ([[.int .i64 x16]] : List (List Value))), (u3 ++ [x16]), rfl, rfl, aD, (K0 _), (F2.append fu3 (show F2 (Wp.int.R k4) ([[.int .i64 x16]] : List (List Value)) [x16] from ⟨⟨rfl, aJ⟩, trivial⟩)), aA⟩ (Nat.lt_succ_self _)))))
 ·replace aA := ifN aA aN
  have hE := Option.some.inj aA; subst hE
  try dsimp only [T0, U0] at aB
  obtain ⟨q18, bC, aB⟩ := j0 aB
  refine And.intro (J2 bC (by first | rw [F2.length (show F2 (Wp.int.R k4) ([] : List (List Value)) ([] : P0) from trivial), F2.length fu3] | exact congrArg (· + 0) (F2.length (show F2 (Wp.int.R k4) ([] : List (List Value)) ([] : P0) from trivial)))) ?_
  intro v19 k20 f21
  obtain ⟨az22, cz22, rfl, rz22, sz22, lz22⟩ := j1.out (r := Wp.int.toRp) f21 (F2.append (show F2 (Wp.int.R k4) ([] : List (List Value)) ([] : P0) from trivial) fu3)
  have hE := Option.some.inj aB; subst hE
  exact ⟨az22, ((([] : P0) ++ u3)).length, cz22, rfl, rz22, (aD.trans sz22)⟩
end Go.Proofs.YtfdlgbfeceodeaaGreat
namespace Go.Proofs.YtfdlgbfeceodeaaGreat
open Go.H
set_option linter.unusedVariables false
set_option linter.unusedSimpArgs false
set_option maxRecDepth 10000
theorem C06 (h : Hp) (aO : List Value) (p0 : l0) (rp0 : W0.R h aO p0) (aP : List Value) (p1 : C0) (rp1 : S0.R h aP p1) (r : Bool) (aA : a00 p0 p1 = some r) :
  Tr Tryz.prog 148 #[.agg aO.toArray, .agg aP.toArray] h fun v h' => v = .bool r ∧ h' = h := by
 obtain ⟨aC, aB, aD, aQ, aF, aT, rfl, rfl, aG, aR, aH⟩ := B0 rp0
 obtain ⟨rfl, aS⟩ := Sl.len aH
 obtain ⟨aI, aJ, aK, rfl, rfl, aL, aM, aN⟩ := C1 rp1
 unfold a00 at aA
 dsimp only at aA
 refine Tr.forget (Q2 (args := [.agg #[.int .i64 aC, .int .i64 aB, .slice aD aT.length aF], .agg #[.int .i64 aI, .int .i64 aJ, .int .i64 aK]]) (fn := Tryz.f148) rfl ?_)
 obtain ⟨x1, aU, aA⟩ := j0 aA
 refine Tr.val (W5 _ aI aL 0 (by decide) (IntKind.i64.wrap (aB - 1)) (K0 _) _  aU) ?_
 obtain ⟨x2, aV, aA⟩ := j0 aA
 refine Exists.intro (.bool x2) (And.intro (fun q => W5 _ aK aN 0 (by decide) (IntKind.i64.wrap (aB - 1)) (K0 _) _  (V1 aV q)) ?_)
 obtain ⟨x3, aW, aA⟩ := j0 aA
 refine Exists.intro (.bool x3) (And.intro (fun q => W5 _ aJ aM 1 (by decide) aC aG _  (V1 aW q)) ?_)
 have hE := Option.some.inj aA; subst hE
 exact And.intro rfl (Sub.refl _)
theorem i02 (h : Hp) (aR : List Value) (p0 : C0) (rp0 : S0.R h aR p0) (aS : List Value) (p1 : C0) (rp1 : S0.R h aS p1) (r : Int) (aI : S6 p0 p1 = some r) :
  Tr Tryz.prog 199 #[.agg aR.toArray, .agg aS.toArray] h fun v h' => v = .int .i64 r ∧ h' = h := by
 obtain ⟨aB, aC, aD, rfl, rfl, aJ, aK, aL⟩ := C1 rp0
 obtain ⟨aF, aG, aH, rfl, rfl, aM, aN, aO⟩ := C1 rp1
 unfold S6 at aI
 dsimp only at aI
 refine Tr.forget (Q2 (args := [.agg #[.int .i64 aB, .int .i64 aC, .int .i64 aD], .agg #[.int .i64 aF, .int .i64 aG, .int .i64 aH]]) (fn := Tryz.f199) rfl ?_)
 obtain ⟨X1, aT, aI⟩ := j0 aI
 refine Exists.intro { vars := [7], boxes := [], owns := [], fuel := true } (Exists.intro (fun vs os h' => ∃ (u2 : Int), vs.tail = [.int .i64 u2] ∧ os = [] ∧ Sub h h' ∧ D0 u2 ∧ Y5 aB aC aD aF aG aH (L1 vs) u2 = some X1) (Exists.intro (fun _ _ => 0) ?_))
 refine And.intro (Exists.intro Q0 ⟨0, rfl, rfl, (Sub.refl _), (by decide), aT⟩) ?_
 rintro v_0 m4 k3 ⟨u2, aU, aV, aP, iu2, aA⟩
 cases aU
 cases aV
 replace aA : Y5 aB aC aD aF aG aH m4 u2 = some X1 := aA
 obtain _ | m4 := m4
 ·cases (show (none : Option _) = some X1 from aA)
 rw [Y5.eq_2] at aA
 refine And.intro (fun aW => ?_) (fun aW => ?_)
 ·replace aA := ifP aA aW
  refine Or.inl (And.intro (And.intro (by kernel_rfl) (by kernel_rfl)) ?_)
  obtain ⟨x6, bD, aA⟩ := j0 aA
  obtain ⟨bE, bF, bG, bH⟩ := G6 (F2.up (r := Wp.int.toRp) aP (show F2 (Wp.int.R h) ([[.int .i64 aB], [.int .i64 aC], [.int .i64 aD]] : List (List Value)) [aB, aC, aD] from ⟨⟨rfl, aJ⟩, ⟨⟨rfl, aK⟩, ⟨⟨rfl, aL⟩, trivial⟩⟩⟩)) bD
  refine And.intro bE ?_
  obtain ⟨rfl, bT⟩ := bH
  refine Exists.intro _ (And.intro bG ?_)
  obtain ⟨x7, bI, aA⟩ := j0 aA
  obtain ⟨bJ, bK, bL, bM⟩ := G6 (F2.up (r := Wp.int.toRp) aP (show F2 (Wp.int.R h) ([[.int .i64 aF], [.int .i64 aG], [.int .i64 aH]] : List (List Value)) [aF, aG, aH] from ⟨⟨rfl, aM⟩, ⟨⟨rfl, aN⟩, ⟨⟨rfl, aO⟩, trivial⟩⟩⟩)) bI
  refine And.intro bJ ?_
  obtain ⟨rfl, bU⟩ := bM
  refine Exists.intro _ (And.intro bL ?_)
  refine And.intro (fun aX => ?_) (fun aX => ?_)
  ·replace aA := ifP aA aX
   have hE := Option.some.inj aA; subst hE
   try dsimp only [Z2, D3] at aI
   have hE := Option.some.inj aI; subst hE
   exact And.intro rfl aP
  ·replace aA := ifN aA aX
   refine Or.inl (And.intro (And.intro (by kernel_rfl) (by kernel_rfl)) ?_)
   obtain ⟨x9, bN, aA⟩ := j0 aA
   obtain ⟨bO, bP, bQ, bR⟩ := G6 (F2.up (r := Wp.int.toRp) aP (show F2 (Wp.int.R h) ([[.int .i64 aB], [.int .i64 aC], [.int .i64 aD]] : List (List Value)) [aB, aC, aD] from ⟨⟨rfl, aJ⟩, ⟨⟨rfl, aK⟩, ⟨⟨rfl, aL⟩, trivial⟩⟩⟩)) bN
   refine And.intro bO ?_
   obtain ⟨rfl, bV⟩ := bR
   refine Exists.intro _ (And.intro bQ ?_)
   obtain ⟨x10, aY, aA⟩ := j0 aA
   obtain ⟨aZ, bC, bA, bB⟩ := G6 (F2.up (r := Wp.int.toRp) aP (show F2 (Wp.int.R h) ([[.int .i64 aF], [.int .i64 aG], [.int .i64 aH]] : List (List Value)) [aF, aG, aH] from ⟨⟨rfl, aM⟩, ⟨⟨rfl, aN⟩, ⟨⟨rfl, aO⟩, trivial⟩⟩⟩)) aY
   refine And.intro aZ ?_
   obtain ⟨rfl, bS⟩ := bB
   refine Exists.intro _ (And.intro bA ?_)
   refine And.intro (fun aQ => ?_) (fun aQ => ?_)
   ·replace aA := ifP aA aQ
    have hE := Option.some.inj aA; subst hE
    try dsimp only [Z2, D3] at aI
    have hE := Option.some.inj aI; subst hE
    exact And.intro rfl aP
   ·replace aA := ifN aA aQ
    refine And.intro rfl (And.intro (by repeat first|exact trivial|refine And.intro rfl ?_) (And.intro (by repeat first|exact trivial|refine And.intro rfl ?_) (Exists.intro m4 (And.intro ⟨(IntKind.i64.wrap (u2 + 1)), rfl, rfl, aP, (K0 _), aA⟩ (Nat.lt_succ_self _)))))
 ·replace aA := ifN aA aW
  have hE := Option.some.inj aA; subst hE
  try dsimp only [T0, U0] at aI
  have hE := Option.some.inj aI; subst hE
  exact And.intro rfl aP
theorem E5 (h : Hp) (bF : List Value) (p0 : l0) (rp0 : W0.R h bF p0) (r : Bool) (aF : O3 p0 = some r) :
  Tr Tryz.prog 142 #[.agg bF.toArray] h fun v h' => v = .bool r ∧ h' = h := by
 obtain ⟨aC, aD, aG, bO, aH, aK, rfl, rfl, aI, aJ, aB⟩ := B0 rp0
 obtain ⟨rfl, bP⟩ := Sl.len aB
 unfold O3 at aF
 dsimp only at aF
 refine Tr.forget (Q2 (args := [.agg #[.int .i64 aC, .int .i64 aD, .slice aG aK.length aH]]) (fn := Tryz.f142) rfl ?_)
 obtain ⟨X1, bG, aF⟩ := j0 aF
 refine Exists.intro { vars := [3], boxes := [], owns := [], fuel := true } (Exists.intro (fun vs os h' => ∃ (u2 : Int), vs.tail = [.int .i64 u2] ∧ os = [] ∧ Sub h h' ∧ D0 u2 ∧ r6 aK aC aD (L1 vs) u2 = some X1) (Exists.intro (fun _ _ => 0) ?_))
 refine And.intro (Exists.intro Q0 ⟨0, rfl, rfl, (Sub.refl _), (by decide), bG⟩) ?_
 rintro v_0 m4 k3 ⟨u2, bH, bI, aL, iu2, aA⟩
 cases bH
 cases bI
 replace aA : r6 aK aC aD m4 u2 = some X1 := aA
 obtain _ | m4 := m4
 ·cases (show (none : Option _) = some X1 from aA)
 rw [r6.eq_2] at aA
 refine And.intro (fun bJ => ?_) (fun bJ => ?_)
 ·replace aA := ifP aA bJ
  refine Or.inl (And.intro (And.intro (by kernel_rfl) (by kernel_rfl)) ?_)
  obtain ⟨x6, bS, aA⟩ := j0 aA
  obtain ⟨bT, bU, bV, bW⟩ := Sl.getI (r := S0.toRp) (I0.mono aL aB) bS (by decide)
  refine And.intro bT ?_
  obtain ⟨aN, aO, aP, rfl, rfl, aQ, aR, aS⟩ := C1 bW
  try dsimp only at aA
  refine Exists.intro _ (And.intro bV ?_)
  obtain ⟨x7, bX, aA⟩ := j0 aA
  refine Exists.intro (.bool x7) (And.intro (C06 _ [.int .i64 aC, .int .i64 aD, .slice aG aK.length aH] (aC, aD, aK) (z0 aI aJ (I0.mono aL aB)) [.int .i64 aN, .int .i64 aO, .int .i64 aP] (aN, aO, aP) (V0 aQ aR aS) _  bX) ?_)
  obtain ⟨x8, bY, aA⟩ := j0 aA
  obtain ⟨bZ, bQ, cA⟩ := Sl.getG (r := S0.toRp) (I0.mono aL aB) bY (by decide) (L0g k3)
  refine And.intro (fun q => (bQ q).1) ?_
  obtain ⟨aT, aU, aV, rfl, rfl, aW, aX, aY⟩ := C1 cA
  try dsimp only at aA
  refine Exists.intro _ (And.intro (fun q => (bQ q).2) ?_)
  obtain ⟨x9, cC, aA⟩ := j0 aA
  obtain ⟨cD, bR, cE⟩ := Sl.getG (r := S0.toRp) (I0.mono aL aB) cC (by decide) (L0g k3)
  refine And.intro (fun q => (bR q).1) ?_
  obtain ⟨aZ, bA, bB, rfl, rfl, bC, bD, bE⟩ := C1 cE
  try dsimp only at aA
  refine Exists.intro _ (And.intro (fun q => (bR q).2) ?_)
  obtain ⟨x10, bK, aA⟩ := j0 aA
  refine Exists.intro (.int .i64 x10) (And.intro (fun q => i02 _ [.int .i64 aT, .int .i64 aU, .int .i64 aV] (aT, aU, aV) (V0 aW aX aY) [.int .i64 aZ, .int .i64 bA, .int .i64 bB] (aZ, bA, bB) (V0 bC bD bE) _  (V1 bK q)) ?_)
  obtain ⟨q11, bL, aA⟩ := j0 aA
  have cG : D0 x10 := A2 bL
  refine And.intro (fun aM => ?_) (fun aM => ?_)
  ·replace aA := ifP aA aM
   have hE := Option.some.inj aA; subst hE
   try dsimp only [Z2, D3] at aF
   have hE := Option.some.inj aF; subst hE
   exact And.intro rfl aL
  ·replace aA := ifN aA aM
   refine And.intro rfl (And.intro (by repeat first|exact trivial|refine And.intro rfl ?_) (And.intro (by repeat first|exact trivial|refine And.intro rfl ?_) (Exists.intro m4 (And.intro ⟨(IntKind.i64.wrap (u2 + 1)), rfl, rfl, aL, (K0 _), aA⟩ (Nat.lt_succ_self _)))))
 ·replace aA := ifN aA bJ
  have hE := Option.some.inj aA; subst hE
  try dsimp only [T0, U0] at aF
  obtain ⟨x13, bM, aF⟩ := j0 aF
  refine Tr.val (W5 _ aC aI 1 (by decide) 3 (by decide) _  bM) ?_
  obtain ⟨x14, bN, aF⟩ := j0 aF
  refine Exists.intro (.bool x14) (And.intro (fun q => W5 _ aD aJ 1 (by decide) 40 (by decide) _  (V1 bN q)) ?_)
  have hE := Option.some.inj aF; subst hE
  exact And.intro rfl aL
theorem I00 (h : Hp) (aG : List Value) (p0 : l0) (rp0 : W0.R h aG p0) (p1 : Int) (ip1 : D0 p1) (r : Bool) (aA : G5 p0 p1 = some r) :
  Tr Tryz.prog 153 #[.agg aG.toArray, .int .i64 p1] h fun v h' => v = .bool r ∧ h' = h := by
 obtain ⟨aH, aB, aC, aI, aD, aM, rfl, rfl, aJ, aK, aF⟩ := B0 rp0
 obtain ⟨rfl, aL⟩ := Sl.len aF
 unfold G5 at aA
 dsimp only at aA
 refine Tr.forget (Q2 (args := [.agg #[.int .i64 aH, .int .i64 aB, .slice aC aM.length aD], .int .i64 p1]) (fn := Tryz.f153) rfl ?_)
 obtain ⟨x1, aN, aA⟩ := j0 aA
 refine Tr.val (i8 _ p1 ip1 0 (by decide) (IntKind.i64.wrap (aB - 1)) (K0 _) _  aN) ?_
 have hE := Option.some.inj aA; subst hE
 exact And.intro rfl (Sub.refl _)
theorem b02 (h : Hp) (aQ : List Value) (p0 : l0) (rp0 : W0.R h aQ p0) (aR : List Value) (p1 : C0) (rp1 : S0.R h aR p1) (r : Bool) (aH : s6 p0 p1 = some r) :
  Tr Tryz.prog 158 #[.agg aQ.toArray, .agg aR.toArray] h fun v h' => v = .bool r ∧ h' = h := by
 obtain ⟨aA, aB, aC, aS, aD, aJ, rfl, rfl, aF, aI, aG⟩ := B0 rp0
 obtain ⟨rfl, aT⟩ := Sl.len aG
 obtain ⟨aK, aL, aM, rfl, rfl, aN, aO, aP⟩ := C1 rp1
 unfold s6 at aH
 dsimp only at aH
 refine Tr.forget (Q2 (args := [.agg #[.int .i64 aA, .int .i64 aB, .slice aC aJ.length aD], .agg #[.int .i64 aK, .int .i64 aL, .int .i64 aM]]) (fn := Tryz.f158) rfl ?_)
 obtain ⟨x1, aU, aH⟩ := j0 aH
 refine Tr.val (I00 _ [.int .i64 aA, .int .i64 aB, .slice aC aJ.length aD] (aA, aB, aJ) (z0 aF aI aG) aK aN _  aU) ?_
 obtain ⟨x2, aV, aH⟩ := j0 aH
 refine Exists.intro (.bool x2) (And.intro (fun q => I00 _ [.int .i64 aA, .int .i64 aB, .slice aC aJ.length aD] (aA, aB, aJ) (z0 aF aI aG) aM aP _  (V1 aV q)) ?_)
 obtain ⟨x3, aW, aH⟩ := j0 aH
 refine Exists.intro (.bool x3) (And.intro (fun q => i8 _ aL aO 1 (by decide) aA aF _  (V1 aW q)) ?_)
 have hE := Option.some.inj aH; subst hE
 exact And.intro rfl (Sub.refl _)
theorem j02 (h : Hp) (aO : List Value) (p0 : C0) (rp0 : S0.R h aO p0) (aP : List Value) (p1 : C0) (rp1 : S0.R h aP p1) (r : Int) (aA : W7 p0 p1 = some r) :
  Tr Tryz.prog 204 #[.agg aO.toArray, .agg aP.toArray] h fun v h' => v = .int .i64 r ∧ h' = h := by
 obtain ⟨aB, aC, aD, rfl, rfl, aF, aG, aH⟩ := C1 rp0
 obtain ⟨aI, aJ, aK, rfl, rfl, aL, aM, aN⟩ := C1 rp1
 unfold W7 at aA
 dsimp only at aA
 refine Tr.forget (Q2 (args := [.agg #[.int .i64 aB, .int .i64 aC, .int .i64 aD], .agg #[.int .i64 aI, .int .i64 aJ, .int .i64 aK]]) (fn := Tryz.f204) rfl ?_)
 obtain ⟨x1, aS, aA⟩ := j0 aA
 refine Tr.val (c01 _ aB aF aI aL _  aS) ?_
 obtain ⟨q2, aT, aA⟩ := j0 aA
 have aY : D0 x1 := A2 aT
 refine And.intro (fun aQ => ?_) (fun aQ => ?_)
 ·replace aA := ifP aA aQ
  have hE := Option.some.inj aA; subst hE
  exact And.intro rfl (Sub.refl _)
 ·replace aA := ifN aA aQ
  obtain ⟨x4, aU, aA⟩ := j0 aA
  refine Tr.val (c01 _ aC aG aJ aM _  aU) ?_
  obtain ⟨q5, aV, aA⟩ := j0 aA
  have aZ : D0 x4 := A2 aV
  refine And.intro (fun aR => ?_) (fun aR => ?_)
  ·replace aA := ifP aA aR
   have hE := Option.some.inj aA; subst hE
   exact And.intro rfl (Sub.refl _)
  ·replace aA := ifN aA aR
   obtain ⟨x7, aW, aA⟩ := j0 aA
   refine Tr.val (c01 _ aD aH aK aN _  aW) ?_
   obtain ⟨q8, aX, aA⟩ := j0 aA
   have bA : D0 x7 := A2 aX
   have hE := Option.some.inj aA; subst hE
   exact And.intro rfl (Sub.refl _)
theorem K8 (h : Hp) (bA : List Value) (p0 : l0) (rp0 : W0.R h bA p0) (r : Bool) (aB : s5 p0 = some r) :
  Tr Tryz.prog 151 #[.agg bA.toArray] h fun v h' => v = .bool r ∧ h' = h := by
 obtain ⟨aD, aF, aJ, bL, aK, aT, rfl, rfl, aL, aM, aC⟩ := B0 rp0
 obtain ⟨rfl, bM⟩ := Sl.len aC
 unfold s5 at aB
 dsimp only at aB
 refine Tr.forget (Q2 (args := [.agg #[.int .i64 aD, .int .i64 aF, .slice aJ aT.length aK]]) (fn := Tryz.f151) rfl ?_)
 obtain ⟨x1, bO, aB⟩ := j0 aB
 refine Tr.val (i8 _ aD aL 1 (by decide) 3 (by decide) _  bO) ?_
 obtain ⟨x2, bP, aB⟩ := j0 aB
 refine Exists.intro (.bool x2) (And.intro (fun q => i8 _ aF aM 1 (by decide) 40 (by decide) _  (V1 bP q)) ?_)
 refine And.intro (fun bB => ?_) (fun bB => ?_)
 ·replace aB := ifP aB bB
  have hE := Option.some.inj aB; subst hE
  exact And.intro rfl (Sub.refl _)
 ·replace aB := ifN aB bB
  obtain ⟨X4, bC, aB⟩ := j0 aB
  refine Exists.intro { vars := [24], boxes := [], owns := [], fuel := true } (Exists.intro (fun vs os h' => ∃ (u5 : Int), vs.tail = [.int .i64 u5] ∧ os = [] ∧ Sub h h' ∧ D0 u5 ∧ t6 aT aD aF (L1 vs) u5 = some X4) (Exists.intro (fun _ _ => 0) ?_))
  refine And.intro (Exists.intro Q0 ⟨0, rfl, rfl, (Sub.refl _), (by decide), bC⟩) ?_
  rintro v_0 m7 k6 ⟨u5, bD, bE, aY, iu5, aA⟩
  cases bD
  cases bE
  replace aA : t6 aT aD aF m7 u5 = some X4 := aA
  obtain _ | m7 := m7
  ·cases (show (none : Option _) = some X4 from aA)
  rw [t6.eq_2] at aA
  refine And.intro (fun bF => ?_) (fun bF => ?_)
  ·replace aA := ifP aA bF
   obtain ⟨x9, bQ, aA⟩ := j0 aA
   obtain ⟨bR, bS, bT, bU⟩ := Sl.getI (r := S0.toRp) (I0.mono aY aC) bQ (by decide)
   refine And.intro bR ?_
   obtain ⟨aG, aH, aI, rfl, rfl, aN, aO, aP⟩ := C1 bU
   try dsimp only at aA
   refine Exists.intro _ (And.intro bT ?_)
   refine Or.inl (And.intro (And.intro (by kernel_rfl) (by kernel_rfl)) ?_)
   obtain ⟨x10, bG, aA⟩ := j0 aA
   refine Exists.intro (.bool x10) (And.intro (b02 _ [.int .i64 aD, .int .i64 aF, .slice aJ aT.length aK] (aD, aF, aT) (z0 aL aM (I0.mono aY aC)) [.int .i64 aG, .int .i64 aH, .int .i64 aI] (aG, aH, aI) (V0 aN aO aP) _  bG) ?_)
   obtain ⟨x11, bH, aA⟩ := j0 aA
   obtain ⟨bN, aZ, bI⟩ := Sl.getG (r := S0.toRp) (I0.mono aY aC) bH (by decide) (L0g k6)
   refine And.intro (fun q => (aZ q).1) ?_
   obtain ⟨aQ, aR, aS, rfl, rfl, aU, aV, aW⟩ := C1 bI
   try dsimp only at aA
   refine Exists.intro _ (And.intro (fun q => (aZ q).2) ?_)
   obtain ⟨x12, bJ, aA⟩ := j0 aA
   refine Exists.intro (.int .i64 x12) (And.intro (fun q => j02 _ [.int .i64 aQ, .int .i64 aR, .int .i64 aS] (aQ, aR, aS) (V0 aU aV aW) [.int .i64 aG, .int .i64 aH, .int .i64 aI] (aG, aH, aI) (V0 aN aO aP) _  (V1 bJ q)) ?_)
   obtain ⟨q13, bK, aA⟩ := j0 aA
   have bV : D0 x12 := A2 bK
   refine And.intro (fun aX => ?_) (fun aX => ?_)
   ·replace aA := ifP aA aX
    have hE := Option.some.inj aA; subst hE
    try dsimp only [Z2, D3] at aB
    have hE := Option.some.inj aB; subst hE
    exact And.intro rfl aY
   ·replace aA := ifN aA aX
    refine And.intro rfl (And.intro (by repeat first|exact trivial|refine And.intro rfl ?_) (And.intro (by repeat first|exact trivial|refine And.intro rfl ?_) (Exists.intro m7 (And.intro ⟨(IntKind.i64.wrap (u5 + 1)), rfl, rfl, aY, (K0 _), aA⟩ (Nat.lt_succ_self _)))))
  ·replace aA := ifN aA bF
   have hE := Option.some.inj aA; subst hE
   try dsimp only [T0, U0] at aB
   have hE := Option.some.inj aB; subst hE
   exact And.intro rfl aY
end Go.Proofs.YtfdlgbfeceodeaaGreat
namespace Go.Proofs.YtfdlgbfeceodeaaGreat
open Go.H
set_option linter.unusedVariables false
set_option linter.unusedSimpArgs false
set_option maxRecDepth 10000
theorem J00 (h : Hp) (ap0 : Option Addr) (np0 cp0 : Nat) (p0 : P0) (rp0 : Z0.R h [.slice ap0 np0 cp0] p0) (p1 : Int) (ip1 : D0 p1) (r : P0) (aB : A7 p0 p1 = some r) :
  Tr Tryz.prog 222 #[.slice ap0 np0 cp0, .int .i64 p1] h fun v h' => ∃ (a0 : Option Addr) (n0 c0 : Nat), v = .slice a0 n0 c0 ∧ Z0.R h' [.slice a0 n0 c0] r ∧ Sub h h' := by
 obtain ⟨rfl, lp0⟩ := Sl.len rp0
 unfold A7 at aB
 refine Q2 (args := [.slice ap0 p0.length cp0, .int .i64 p1]) (fn := Tryz.f222) rfl ?_
 obtain ⟨X1, aL, aB⟩ := j0 aB
 refine Exists.intro { vars := [6, 7], boxes := [], owns := [0], fuel := true } (Exists.intro (fun vs os h' => ∃ (u2 : Bool) (u3 : Int) (wu4 : List (List Value)) (u4 : List Int), vs.tail = [.bool u2, .int .i64 u3] ∧ os = [wu4] ∧ Sub h h' ∧ D0 u3 ∧ F2 (Wp.int.R h') wu4 u4 ∧ Z3 p0 p1 (L1 vs) u2 u3 u4 = some X1) (Exists.intro (fun _ _ => 0) ?_))
 refine And.intro (Exists.intro Q0 ⟨false, 0, [], ([] : P0), rfl, rfl, (Sub.refl _), (by decide), (show F2 (Wp.int.R h) ([] : List (List Value)) ([] : P0) from trivial), aL⟩) ?_
 rintro v_0 v_1 wu4 m6 k5 ⟨u2, u3, zzu4, u4, aM, aN, aC, iu3, fu4, aA⟩
 cases aM
 cases aN
 replace aA : Z3 p0 p1 m6 u2 u3 u4 = some X1 := aA
 obtain _ | m6 := m6
 ·cases (show (none : Option _) = some X1 from aA)
 rw [Z3.eq_2] at aA
 refine And.intro (fun aO => ?_) (fun aO => ?_)
 ·replace aA := ifP aA aO
  obtain ⟨x8, cC, aA⟩ := j0 aA
  obtain ⟨cD, cE, cG, cH⟩ := Sl.getI (r := Wp.int.toRp) (Z0.mono aC rp0) cC (by decide)
  refine And.intro cD ?_
  obtain ⟨rfl, cK⟩ := cH
  refine Exists.intro _ (And.intro cG ?_)
  refine And.intro (fun aP => ?_) (fun aP => ?_)
  ·replace aA := ifP aA aP
   obtain ⟨x10, aQ, aA⟩ := j0 aA
   obtain ⟨aR, bV, aS, aT⟩ := Sl.getI (r := Wp.int.toRp) (Z0.mono aC rp0) aQ (by decide)
   refine And.intro aR ?_
   obtain ⟨rfl, cI⟩ := aT
   refine Exists.intro _ (And.intro aS ?_)
   refine And.intro (fun aD => ?_) (fun aD => ?_)
   ·replace aA := ifP aA aD
    obtain ⟨q12, aU, aA⟩ := j0 aA
    refine And.intro (J2 aU (by first | rw [F2.length fu4, F2.length (show F2 (Wp.int.R k5) ([[.int .i64 p1]] : List (List Value)) [p1] from ⟨⟨rfl, ip1⟩, trivial⟩)] | exact congrArg (· + 1) (F2.length fu4))) ?_
    obtain ⟨x13, aV, aA⟩ := j0 aA
    obtain ⟨aW, bW, aX, aY⟩ := Sl.getI (r := Wp.int.toRp) (Z0.mono aC rp0) aV (by decide)
    refine And.intro aW ?_
    obtain ⟨rfl, aH⟩ := aY
    refine Exists.intro _ (And.intro aX ?_)
    obtain ⟨q14, aZ, aA⟩ := j0 aA
    refine And.intro (J2 aZ (by first | rw [F2.length (F2.append fu4 (show F2 (Wp.int.R k5) ([[.int .i64 p1]] : List (List Value)) [p1] from ⟨⟨rfl, ip1⟩, trivial⟩)), F2.length (show F2 (Wp.int.R k5) ([[.int .i64 x13]] : List (List Value)) [x13] from ⟨⟨rfl, aH⟩, trivial⟩)] | exact congrArg (· + 1) (F2.length (F2.append fu4 (show F2 (Wp.int.R k5) ([[.int .i64 p1]] : List (List Value)) [p1] from ⟨⟨rfl, ip1⟩, trivial⟩))))) ?_
    refine And.intro rfl (And.intro (by repeat first|exact trivial|refine And.intro rfl ?_) (And.intro (by repeat first|exact trivial|refine And.intro rfl ?_) (Exists.intro m6 (And.intro ⟨true, (IntKind.i64.wrap (u3 + 1)), ((wu4 ++ ([[.int .i64 p1]] : List (List Value))) ++ ([[.int .i64 x13]] : List (List Value))), ((u4 ++ [p1]) ++ [x13]), rfl, rfl, aC, (K0 _), (F2.append (F2.append fu4 (show F2 (Wp.int.R k5) ([[.int .i64 p1]] : List (List Value)) [p1] from ⟨⟨rfl, ip1⟩, trivial⟩)) (show F2 (Wp.int.R k5) ([[.int .i64 x13]] : List (List Value)) [x13] from ⟨⟨rfl, aH⟩, trivial⟩)), aA⟩ (Nat.lt_succ_self _)))))
   ·replace aA := ifN aA aD
    obtain ⟨x15, bA, aA⟩ := j0 aA
    obtain ⟨bB, bX, bC, bD⟩ := Sl.getI (r := Wp.int.toRp) (Z0.mono aC rp0) bA (by decide)
    refine And.intro bB ?_
    obtain ⟨rfl, aI⟩ := bD
    refine Exists.intro _ (And.intro bC ?_)
    obtain ⟨q16, bE, aA⟩ := j0 aA
    refine And.intro (J2 bE (by first | rw [F2.length fu4, F2.length (show F2 (Wp.int.R k5) ([[.int .i64 x15]] : List (List Value)) [x15] from ⟨⟨rfl, aI⟩, trivial⟩)] | exact congrArg (· + 1) (F2.length fu4))) ?_
    refine And.intro rfl (And.intro (by repeat first|exact trivial|refine And.intro rfl ?_) (And.intro (by repeat first|exact trivial|refine And.intro rfl ?_) (Exists.intro m6 (And.intro ⟨true, (IntKind.i64.wrap (u3 + 1)), (wu4 ++ ([[.int .i64 x15]] : List (List Value))), (u4 ++ [x15]), rfl, rfl, aC, (K0 _), (F2.append fu4 (show F2 (Wp.int.R k5) ([[.int .i64 x15]] : List (List Value)) [x15] from ⟨⟨rfl, aI⟩, trivial⟩)), aA⟩ (Nat.lt_succ_self _)))))
  ·replace aA := ifN aA aP
   obtain ⟨x17, bF, aA⟩ := j0 aA
   obtain ⟨bG, bY, bH, bI⟩ := Sl.getI (r := Wp.int.toRp) (Z0.mono aC rp0) bF (by decide)
   refine And.intro bG ?_
   obtain ⟨rfl, cJ⟩ := bI
   refine Exists.intro _ (And.intro bH ?_)
   refine And.intro (fun aF => ?_) (fun aF => ?_)
   ·replace aA := ifP aA aF
    obtain ⟨q19, bJ, aA⟩ := j0 aA
    refine And.intro (J2 bJ (by first | rw [F2.length fu4, F2.length (show F2 (Wp.int.R k5) ([[.int .i64 p1]] : List (List Value)) [p1] from ⟨⟨rfl, ip1⟩, trivial⟩)] | exact congrArg (· + 1) (F2.length fu4))) ?_
    obtain ⟨x20, bK, aA⟩ := j0 aA
    obtain ⟨bL, bZ, bM, bN⟩ := Sl.getI (r := Wp.int.toRp) (Z0.mono aC rp0) bK (by decide)
    refine And.intro bL ?_
    obtain ⟨rfl, aJ⟩ := bN
    refine Exists.intro _ (And.intro bM ?_)
    obtain ⟨q21, bO, aA⟩ := j0 aA
    refine And.intro (J2 bO (by first | rw [F2.length (F2.append fu4 (show F2 (Wp.int.R k5) ([[.int .i64 p1]] : List (List Value)) [p1] from ⟨⟨rfl, ip1⟩, trivial⟩)), F2.length (show F2 (Wp.int.R k5) ([[.int .i64 x20]] : List (List Value)) [x20] from ⟨⟨rfl, aJ⟩, trivial⟩)] | exact congrArg (· + 1) (F2.length (F2.append fu4 (show F2 (Wp.int.R k5) ([[.int .i64 p1]] : List (List Value)) [p1] from ⟨⟨rfl, ip1⟩, trivial⟩))))) ?_
    refine And.intro rfl (And.intro (by repeat first|exact trivial|refine And.intro rfl ?_) (And.intro (by repeat first|exact trivial|refine And.intro rfl ?_) (Exists.intro m6 (And.intro ⟨true, (IntKind.i64.wrap (u3 + 1)), ((wu4 ++ ([[.int .i64 p1]] : List (List Value))) ++ ([[.int .i64 x20]] : List (List Value))), ((u4 ++ [p1]) ++ [x20]), rfl, rfl, aC, (K0 _), (F2.append (F2.append fu4 (show F2 (Wp.int.R k5) ([[.int .i64 p1]] : List (List Value)) [p1] from ⟨⟨rfl, ip1⟩, trivial⟩)) (show F2 (Wp.int.R k5) ([[.int .i64 x20]] : List (List Value)) [x20] from ⟨⟨rfl, aJ⟩, trivial⟩)), aA⟩ (Nat.lt_succ_self _)))))
   ·replace aA := ifN aA aF
    obtain ⟨x22, bP, aA⟩ := j0 aA
    obtain ⟨bQ, cA, bR, bS⟩ := Sl.getI (r := Wp.int.toRp) (Z0.mono aC rp0) bP (by decide)
    refine And.intro bQ ?_
    obtain ⟨rfl, aK⟩ := bS
    refine Exists.intro _ (And.intro bR ?_)
    obtain ⟨q23, bT, aA⟩ := j0 aA
    refine And.intro (J2 bT (by first | rw [F2.length fu4, F2.length (show F2 (Wp.int.R k5) ([[.int .i64 x22]] : List (List Value)) [x22] from ⟨⟨rfl, aK⟩, trivial⟩)] | exact congrArg (· + 1) (F2.length fu4))) ?_
    refine And.intro rfl (And.intro (by repeat first|exact trivial|refine And.intro rfl ?_) (And.intro (by repeat first|exact trivial|refine And.intro rfl ?_) (Exists.intro m6 (And.intro ⟨u2, (IntKind.i64.wrap (u3 + 1)), (wu4 ++ ([[.int .i64 x22]] : List (List Value))), (u4 ++ [x22]), rfl, rfl, aC, (K0 _), (F2.append fu4 (show F2 (Wp.int.R k5) ([[.int .i64 x22]] : List (List Value)) [x22] from ⟨⟨rfl, aK⟩, trivial⟩)), aA⟩ (Nat.lt_succ_self _)))))
 ·replace aA := ifN aA aO
  have hE := Option.some.inj aA; subst hE
  try dsimp only [T0, U0] at aB
  refine And.intro (fun aG => ?_) (fun aG => ?_)
  ·replace aB := ifP aB aG
   obtain ⟨q25, bU, aB⟩ := j0 aB
   refine And.intro (J2 bU (by first | rw [F2.length fu4, F2.length (show F2 (Wp.int.R k5) ([[.int .i64 p1]] : List (List Value)) [p1] from ⟨⟨rfl, ip1⟩, trivial⟩)] | exact congrArg (· + 1) (F2.length fu4))) ?_
   intro v26 k27 f28
   obtain ⟨az29, cz29, rfl, rz29, sz29, lz29⟩ := j1.out (r := Wp.int.toRp) f28 (F2.append fu4 (show F2 (Wp.int.R k5) ([[.int .i64 p1]] : List (List Value)) [p1] from ⟨⟨rfl, ip1⟩, trivial⟩))
   have hE := Option.some.inj aB; subst hE
   exact ⟨az29, ((u4 ++ [p1])).length, cz29, rfl, rz29, (aC.trans sz29)⟩
  ·replace aB := ifN aB aG
   intro v30 k31 f32
   obtain ⟨az33, cz33, rfl, rz33, sz33, lz33⟩ := j1.out (r := Wp.int.toRp) f32 fu4
   have hE := Option.some.inj aB; subst hE
   exact ⟨az33, u4.length, cz33, rfl, rz33, (aC.trans sz33)⟩
theorem r01 (h : Hp) (ap0 : Option Addr) (np0 cp0 : Nat) (p0 : P0) (rp0 : Z0.R h [.slice ap0 np0 cp0] p0) (p1 : Int) (ip1 : D0 p1) (r : Bool) (aB : Z7 p0 p1 = some r) :
  Tr Tryz.prog 160 #[.slice ap0 np0 cp0, .int .i64 p1] h fun v h' => v = .bool r ∧ h' = h := by
 obtain ⟨rfl, lp0⟩ := Sl.len rp0
 unfold Z7 at aB
 refine Tr.forget (Q2 (args := [.slice ap0 p0.length cp0, .int .i64 p1]) (fn := Tryz.f160) rfl ?_)
 obtain ⟨X1, aD, aB⟩ := j0 aB
 refine Exists.intro { vars := [5], boxes := [], owns := [], fuel := true } (Exists.intro (fun vs os h' => ∃ (u2 : Int), vs.tail = [.int .i64 u2] ∧ os = [] ∧ Sub h h' ∧ D0 u2 ∧ J7 p0 p1 (L1 vs) u2 = some X1) (Exists.intro (fun _ _ => 0) ?_))
 refine And.intro (Exists.intro Q0 ⟨0, rfl, rfl, (Sub.refl _), (by decide), aD⟩) ?_
 rintro v_0 m4 k3 ⟨u2, aF, aG, aC, iu2, aA⟩
 cases aF
 cases aG
 replace aA : J7 p0 p1 m4 u2 = some X1 := aA
 obtain _ | m4 := m4
 ·cases (show (none : Option _) = some X1 from aA)
 rw [J7.eq_2] at aA
 refine And.intro (fun aH => ?_) (fun aH => ?_)
 ·replace aA := ifP aA aH
  obtain ⟨x6, aJ, aA⟩ := j0 aA
  obtain ⟨aK, aL, aM, aN⟩ := Sl.getI (r := Wp.int.toRp) (Z0.mono aC rp0) aJ (by decide)
  refine And.intro aK ?_
  obtain ⟨rfl, aO⟩ := aN
  refine Exists.intro _ (And.intro aM ?_)
  refine And.intro (fun aI => ?_) (fun aI => ?_)
  ·replace aA := ifP aA aI
   have hE := Option.some.inj aA; subst hE
   try dsimp only [Z2, D3] at aB
   have hE := Option.some.inj aB; subst hE
   exact And.intro rfl aC
  ·replace aA := ifN aA aI
   refine And.intro rfl (And.intro (by repeat first|exact trivial|refine And.intro rfl ?_) (And.intro (by repeat first|exact trivial|refine And.intro rfl ?_) (Exists.intro m4 (And.intro ⟨(IntKind.i64.wrap (u2 + 1)), rfl, rfl, aC, (K0 _), aA⟩ (Nat.lt_succ_self _)))))
 ·replace aA := ifN aA aH
  have hE := Option.some.inj aA; subst hE
  try dsimp only [T0, U0] at aB
  have hE := Option.some.inj aB; subst hE
  exact And.intro rfl aC
theorem i09 (h : Hp) (aV : List Value) (p0 : l0) (rp0 : W0.R h aV p0) (p1 : Int) (ip1 : D0 p1) (p2 : Int) (ip2 : D0 p2) (r : P0) (aL : t9 p0 p1 p2 = some r) :
  Tr Tryz.prog 202 #[.agg aV.toArray, .int .i64 p1, .int .i64 p2] h fun v h' => ∃ (a0 : Option Addr) (n0 c0 : Nat), v = .slice a0 n0 c0 ∧ Z0.R h' [.slice a0 n0 c0] r ∧ Sub h h' := by
 obtain ⟨aW, aX, aM, bQ, aN, aO, rfl, rfl, bR, bS, aC⟩ := B0 rp0
 obtain ⟨rfl, bT⟩ := Sl.len aC
 unfold t9 at aL
 dsimp only at aL
 refine Q2 (args := [.agg #[.int .i64 aW, .int .i64 aX, .slice aM aO.length aN], .int .i64 p1, .int .i64 p2]) (fn := Tryz.f202) rfl ?_
 obtain ⟨X5, aY, aL⟩ := j0 aL
 refine Exists.intro { vars := [7, 8], boxes := [], owns := [], fuel := true, pubs := [7, 10] } (Exists.intro (fun vs os h' => ∃ (au6 : Option Addr) (nu6 cu6 : Nat) (u6 : P0) (u7 : Int), vs.tail = [.slice au6 nu6 cu6, .int .i64 u7] ∧ os = [] ∧ Sub h h' ∧ Z0.R h' [.slice au6 nu6 cu6] u6 ∧ D0 u7 ∧ P3 aO p2 p1 (L1 vs) u6 u7 = some X5) (Exists.intro (fun _ _ => 0) ?_))
 intro v1 k2 f3
 obtain ⟨az4, cz4, rfl, rz4, sz4, lz4⟩ := j1.out (r := Wp.int.toRp) f3 (show F2 (Wp.int.R h) ([] : List (List Value)) ([] : P0) from trivial)
 refine And.intro (Exists.intro Q0 ⟨az4, (([] : P0)).length, cz4, ([] : P0), 0, rfl, rfl, sz4, rz4, (by decide), aY⟩) ?_
 rintro v_0 v_1 m9 k8 ⟨au6, nu6, cu6, u6, u7, aZ, bA, bB, ru6, iu7, aA⟩
 cases aZ
 cases bA
 replace aA : P3 aO p2 p1 m9 u6 u7 = some X5 := aA
 obtain _ | m9 := m9
 ·cases (show (none : Option _) = some X5 from aA)
 rw [P3.eq_2] at aA
 obtain ⟨rfl, lu6⟩ := Sl.len ru6
 refine And.intro (fun aF => ?_) (fun aF => ?_)
 ·replace aA := ifP aA aF
  obtain ⟨x11, bC, aA⟩ := j0 aA
  obtain ⟨bD, bU, bE, bF⟩ := Sl.getI (r := S0.toRp) (I0.mono bB aC) bC (by decide)
  refine And.intro bD ?_
  obtain ⟨aD, bV, aP, rfl, rfl, aB, bG, aG⟩ := C1 bF
  try dsimp only at aA
  refine Exists.intro _ (And.intro bE ?_)
  refine And.intro (fun aH => ?_) (fun aH => ?_)
  ·replace aA := ifP aA aH
   obtain ⟨x13, bH, aA⟩ := j0 aA
   refine Tr.mono (J00 _ au6 u6.length cu6 u6 ru6 aP aG _  bH) ?_
   rintro v15 k14 ⟨aQ, bW, aR, rfl, aI, aS⟩
   obtain ⟨rfl, bX⟩ := Sl.len aI
   refine And.intro (fun aJ => ?_) (fun aJ => ?_)
   ·replace aA := ifP aA aJ
    obtain ⟨x17, bI, aA⟩ := j0 aA
    refine Tr.mono (J00 _ aQ x13.length aR x13 aI aD aB _  bI) ?_
    rintro v19 k18 ⟨bJ, bY, bK, rfl, aT, bL⟩
    obtain ⟨rfl, bZ⟩ := Sl.len aT
    refine And.intro rfl (And.intro (by repeat first|exact trivial|refine And.intro rfl ?_) (And.intro (by repeat first|exact trivial|refine And.intro rfl ?_) (Exists.intro m9 (And.intro ⟨bJ, x17.length, bK, x17, (IntKind.i64.wrap (u7 + 1)), rfl, rfl, ((bB.trans aS).trans bL), aT, (K0 _), aA⟩ (Nat.lt_succ_self _)))))
   ·replace aA := ifN aA aJ
    refine And.intro rfl (And.intro (by repeat first|exact trivial|refine And.intro rfl ?_) (And.intro (by repeat first|exact trivial|refine And.intro rfl ?_) (Exists.intro m9 (And.intro ⟨aQ, x13.length, aR, x13, (IntKind.i64.wrap (u7 + 1)), rfl, rfl, (bB.trans aS), aI, (K0 _), aA⟩ (Nat.lt_succ_self _)))))
  ·replace aA := ifN aA aH
   refine And.intro (fun aK => ?_) (fun aK => ?_)
   ·replace aA := ifP aA aK
    obtain ⟨x21, bM, aA⟩ := j0 aA
    refine Tr.mono (J00 _ au6 u6.length cu6 u6 ru6 aD aB _  bM) ?_
    rintro v23 k22 ⟨bN, cA, bO, rfl, aU, bP⟩
    obtain ⟨rfl, cC⟩ := Sl.len aU
    refine And.intro rfl (And.intro (by repeat first|exact trivial|refine And.intro rfl ?_) (And.intro (by repeat first|exact trivial|refine And.intro rfl ?_) (Exists.intro m9 (And.intro ⟨bN, x21.length, bO, x21, (IntKind.i64.wrap (u7 + 1)), rfl, rfl, (bB.trans bP), aU, (K0 _), aA⟩ (Nat.lt_succ_self _)))))
   ·replace aA := ifN aA aK
    refine And.intro rfl (And.intro (by repeat first|exact trivial|refine And.intro rfl ?_) (And.intro (by repeat first|exact trivial|refine And.intro rfl ?_) (Exists.intro m9 (And.intro ⟨au6, u6.length, cu6, u6, (IntKind.i64.wrap (u7 + 1)), rfl, rfl, bB, ru6, (K0 _), aA⟩ (Nat.lt_succ_self _)))))
 ·replace aA := ifN aA aF
  have hE := Option.some.inj aA; subst hE
  try dsimp only [T0, U0] at aL
  have hE := Option.some.inj aL; subst hE
  exact ⟨au6, u6.length, cu6, rfl, ru6, bB⟩
theorem t01 (h : Hp) (aJ : List Value) (p0 : l0) (rp0 : W0.R h aJ p0) (p1 : Int) (ip1 : D0 p1) (p2 : Int) (ip2 : D0 p2) (r : Int) (aA : J6 p0 p1 p2 = some r) :
  Tr Tryz.prog 147 #[.agg aJ.toArray, .int .i64 p1, .int .i64 p2] h fun v h' => v = .int .i64 r ∧ h' = h := by
 obtain ⟨aF, aG, aB, aM, aC, aK, rfl, rfl, aH, aI, aD⟩ := B0 rp0
 obtain ⟨rfl, aN⟩ := Sl.len aD
 unfold J6 at aA
 dsimp only at aA
 refine Tr.forget (Q2 (args := [.agg #[.int .i64 aF, .int .i64 aG, .slice aB aK.length aC], .int .i64 p1, .int .i64 p2]) (fn := Tryz.f147) rfl ?_)
 obtain ⟨x1, aQ, aA⟩ := j0 aA
 refine Tr.mono (i09 _ [.int .i64 aF, .int .i64 aG, .slice aB aK.length aC] (aF, aG, aK) (z0 aH aI aD) p1 ip1 p2 ip2 _  aQ) ?_
 rintro v3 k2 ⟨aW, aX, aY, rfl, aO, aP⟩
 obtain ⟨rfl, aZ⟩ := Sl.len aO
 refine And.intro (fun aL => ?_) (fun aL => ?_)
 ·replace aA := ifP aA aL
  have hE := Option.some.inj aA; subst hE
  exact And.intro rfl aP
 ·replace aA := ifN aA aL
  obtain ⟨x5, aR, aA⟩ := j0 aA
  obtain ⟨aS, aT, aU, aV⟩ := Sl.getI (r := Wp.int.toRp) aO aR (by decide)
  refine And.intro aS ?_
  obtain ⟨rfl, bA⟩ := aV
  refine Exists.intro _ (And.intro aU ?_)
  have hE := Option.some.inj aA; subst hE
  exact And.intro rfl aP
theorem T8 (h : Hp) (aP : List Value) (p0 : l0) (rp0 : W0.R h aP p0) (r : Bool) (aJ : F5 p0 = some r) :
  Tr Tryz.prog 88 #[.agg aP.toArray] h fun v h' => v = .bool r ∧ h' = h := by
 obtain ⟨aD, aF, aH, bN, aI, aG, rfl, rfl, aK, aL, aB⟩ := B0 rp0
 obtain ⟨rfl, bO⟩ := Sl.len aB
 unfold F5 at aJ
 dsimp only at aJ
 refine Tr.forget (Q2 (args := [.agg #[.int .i64 aD, .int .i64 aF, .slice aH aG.length aI]]) (fn := Tryz.f88) rfl ?_)
 obtain ⟨X1, aQ, aJ⟩ := j0 aJ
 refine Exists.intro { vars := [3], boxes := [], owns := [], fuel := true } (Exists.intro (fun vs os h' => ∃ (u2 : Int), vs.tail = [.int .i64 u2] ∧ os = [] ∧ Sub h h' ∧ D0 u2 ∧ M4 aG aD aF (L1 vs) u2 = some X1) (Exists.intro (fun _ _ => 0) ?_))
 refine And.intro (Exists.intro Q0 ⟨0, rfl, rfl, (Sub.refl _), (by decide), aQ⟩) ?_
 rintro v_0 m4 k3 ⟨u2, aR, aS, aT, iu2, aC⟩
 cases aR
 cases aS
 replace aC : M4 aG aD aF m4 u2 = some X1 := aC
 obtain _ | m4 := m4
 ·cases (show (none : Option _) = some X1 from aC)
 rw [M4.eq_2] at aC
 obtain ⟨x5, bX, aC⟩ := j0 aC
 refine Exists.intro (.bool x5) (And.intro (fun q => E5 _ [.int .i64 aD, .int .i64 aF, .slice aH aG.length aI] (aD, aF, aG) (z0 aK aL (I0.mono aT aB)) _  (V1 bX q)) ?_)
 refine And.intro (fun aU => ?_) (fun aU => ?_)
 ·replace aC := ifP aC aU
  obtain ⟨X7, aV, aC⟩ := j0 aC
  refine Exists.intro { vars := [4], boxes := [], owns := [], fuel := true } (Exists.intro (fun vs os h' => ∃ (u8 : Int), vs.tail = [.int .i64 u8] ∧ os = [] ∧ Sub k3 h' ∧ D0 u8 ∧ R5 u2 aG (L1 vs) u8 = some X7) (Exists.intro (fun _ _ => 0) ?_))
  refine And.intro (Exists.intro Q0 ⟨0, rfl, rfl, (Sub.refl _), (by decide), aV⟩) ?_
  rintro v_0 m10 k9 ⟨u8, aW, aX, aO, iu8, aA⟩
  cases aW
  cases aX
  replace aA : R5 u2 aG m10 u8 = some X7 := aA
  obtain _ | m10 := m10
  ·cases (show (none : Option _) = some X7 from aA)
  rw [R5.eq_2] at aA
  refine And.intro (fun aM => ?_) (fun aM => ?_)
  ·replace aA := ifP aA aM
   obtain ⟨x12, aY, aA⟩ := j0 aA
   obtain ⟨aZ, bP, bA, bB⟩ := Sl.getI (r := S0.toRp) (I0.mono (aT.trans aO) aB) aY (by decide)
   refine And.intro aZ ?_
   obtain ⟨bQ, bR, bS, rfl, rfl, bC, bD, bE⟩ := C1 bB
   try dsimp only at aA
   refine Exists.intro _ (And.intro bA ?_)
   obtain ⟨x13, bF, aA⟩ := j0 aA
   obtain ⟨bG, bT, bH, bI⟩ := Sl.getI (r := S0.toRp) (I0.mono (aT.trans aO) aB) bF (by decide)
   refine And.intro bG ?_
   obtain ⟨bU, bV, bW, rfl, rfl, bJ, bK, bL⟩ := C1 bI
   try dsimp only at aA
   refine Exists.intro _ (And.intro bH ?_)
   refine And.intro (fun aN => ?_) (fun aN => ?_)
   ·replace aA := ifP aA aN
    have hE := Option.some.inj aA; subst hE
    try dsimp only [Z2, D3] at aC
    have hE := Option.some.inj aC; subst hE
    try dsimp only [Z2, D3] at aJ
    have hE := Option.some.inj aJ; subst hE
    exact And.intro rfl (aT.trans aO)
   ·replace aA := ifN aA aN
    refine And.intro rfl (And.intro (by repeat first|exact trivial|refine And.intro rfl ?_) (And.intro (by repeat first|exact trivial|refine And.intro rfl ?_) (Exists.intro m10 (And.intro ⟨(IntKind.i64.wrap (u8 + 1)), rfl, rfl, aO, (K0 _), aA⟩ (Nat.lt_succ_self _)))))
  ·replace aA := ifN aA aM
   have hE := Option.some.inj aA; subst hE
   try dsimp only [T0, U0] at aC
   refine And.intro rfl (And.intro (by repeat first|exact trivial|refine And.intro rfl ?_) (And.intro (by repeat first|exact trivial|refine And.intro rfl ?_) (Exists.intro m4 (And.intro ⟨(IntKind.i64.wrap (u2 + 1)), rfl, rfl, (aT.trans aO), (K0 _), aC⟩ (Nat.lt_succ_self _)))))
 ·replace aC := ifN aC aU
  have hE := Option.some.inj aC; subst hE
  try dsimp only [T0, U0] at aJ
  obtain ⟨x18, bM, aJ⟩ := j0 aJ
  refine Tr.val (E5 _ [.int .i64 aD, .int .i64 aF, .slice aH aG.length aI] (aD, aF, aG) (z0 aK aL (I0.mono aT aB)) _  bM) ?_
  have hE := Option.some.inj aJ; subst hE
  exact And.intro rfl aT
theorem N04 (h : Hp) (aN : List Value) (p0 : l0) (rp0 : W0.R h aN p0) (p1 : Int) (ip1 : D0 p1) (ap2 : Option Addr) (np2 cp2 : Nat) (p2 : P0) (rp2 : Z0.R h [.slice ap2 np2 cp2] p2) (r : Int × Bool) (aB : Q8 p0 p1 p2 = some r) :
  Tr Tryz.prog 143 #[.agg aN.toArray, .int .i64 p1, .slice ap2 np2 cp2] h fun v h' => v = .tuple #[.int .i64 r.1, .bool r.2] ∧ h' = h := by
 obtain ⟨aD, aC, aF, bB, aG, aI, rfl, rfl, aJ, aK, aH⟩ := B0 rp0
 obtain ⟨rfl, bC⟩ := Sl.len aH
 obtain ⟨rfl, lp2⟩ := Sl.len rp2
 unfold Q8 at aB
 dsimp only at aB
 refine Tr.forget (Q2 (args := [.agg #[.int .i64 aD, .int .i64 aC, .slice aF aI.length aG], .int .i64 p1, .slice ap2 p2.length cp2]) (fn := Tryz.f143) rfl ?_)
 obtain ⟨x1, bE, aB⟩ := j0 aB
 refine Tr.val (T8 _ [.int .i64 aD, .int .i64 aC, .slice aF aI.length aG] (aD, aC, aI) (z0 aJ aK aH) _  bE) ?_
 obtain ⟨x2, bF, aB⟩ := j0 aB
 refine Exists.intro (.bool x2) (And.intro (fun q => W5 _ p1 ip1 0 (by decide) (IntKind.i64.wrap (aC - 1)) (K0 _) _  (V1 bF q)) ?_)
 refine And.intro (fun aO => ?_) (fun aO => ?_)
 ·replace aB := ifP aB aO
  have hE := Option.some.inj aB; subst hE
  exact And.intro rfl (Sub.refl _)
 ·replace aB := ifN aB aO
  obtain ⟨X4, aP, aB⟩ := j0 aB
  refine Exists.intro { vars := [1, 8], boxes := [], owns := [], fuel := true } (Exists.intro (fun vs os h' => ∃ (u5 : Int) (u6 : Int), vs.tail = [.int .i64 u5, .int .i64 u6] ∧ os = [] ∧ Sub h h' ∧ D0 u5 ∧ D0 u6 ∧ S5 p2 aD aC aI (L1 vs) u5 u6 = some X4) (Exists.intro (fun _ _ => 0) ?_))
  refine And.intro (Exists.intro Q0 ⟨p1, 0, rfl, rfl, (Sub.refl _), ip1, (by decide), aP⟩) ?_
  rintro v_0 v_1 m8 k7 ⟨u5, u6, aQ, aR, aM, iu5, iu6, aA⟩
  cases aQ
  cases aR
  replace aA : S5 p2 aD aC aI m8 u5 u6 = some X4 := aA
  obtain _ | m8 := m8
  ·cases (show (none : Option _) = some X4 from aA)
  rw [S5.eq_2] at aA
  refine And.intro (fun aS => ?_) (fun aS => ?_)
  ·replace aA := ifP aA aS
   refine Or.inl (And.intro (And.intro (by kernel_rfl) (by kernel_rfl)) ?_)
   obtain ⟨x10, aT, aA⟩ := j0 aA
   obtain ⟨aU, bD, aV, aW⟩ := Sl.getI (r := Wp.int.toRp) (Z0.mono aM rp2) aT (by decide)
   refine And.intro aU ?_
   obtain ⟨rfl, aX⟩ := aW
   refine Exists.intro _ (And.intro aV ?_)
   obtain ⟨x11, aY, aA⟩ := j0 aA
   refine Exists.intro (.int .i64 x11) (And.intro (t01 _ [.int .i64 aD, .int .i64 aC, .slice aF aI.length aG] (aD, aC, aI) (z0 aJ aK (I0.mono aM aH)) u5 iu5 x10 aX _  aY) ?_)
   obtain ⟨q12, aZ, aA⟩ := j0 aA
   have bA : D0 x11 := A2 aZ
   refine And.intro (fun aL => ?_) (fun aL => ?_)
   ·replace aA := ifP aA aL
    have hE := Option.some.inj aA; subst hE
    try dsimp only [Z2, D3] at aB
    have hE := Option.some.inj aB; subst hE
    exact And.intro rfl aM
   ·replace aA := ifN aA aL
    refine And.intro rfl (And.intro (by repeat first|exact trivial|refine And.intro rfl ?_) (And.intro (by repeat first|exact trivial|refine And.intro rfl ?_) (Exists.intro m8 (And.intro ⟨x11, (IntKind.i64.wrap (u6 + 1)), rfl, rfl, aM, bA, (K0 _), aA⟩ (Nat.lt_succ_self _)))))
  ·replace aA := ifN aA aS
   have hE := Option.some.inj aA; subst hE
   try dsimp only [T0, U0] at aB
   have hE := Option.some.inj aB; subst hE
   exact And.intro rfl aM
theorem j09 (h : Hp) (aN : List Value) (p0 : l0) (rp0 : W0.R h aN p0) (p1 : Int) (ip1 : D0 p1) (p2 : Int) (ip2 : D0 p2) (r : P0) (aD : w9 p0 p1 p2 = some r) :
  Tr Tryz.prog 209 #[.agg aN.toArray, .int .i64 p1, .int .i64 p2] h fun v h' => ∃ (a0 : Option Addr) (n0 c0 : Nat), v = .slice a0 n0 c0 ∧ New Z0 h h' [.slice a0 n0 c0] r := by
 obtain ⟨aO, aP, aJ, aX, aK, aL, rfl, rfl, aY, aZ, aF⟩ := B0 rp0
 obtain ⟨rfl, bA⟩ := Sl.len aF
 unfold w9 at aD
 dsimp only at aD
 refine Q2 (args := [.agg #[.int .i64 aO, .int .i64 aP, .slice aJ aL.length aK], .int .i64 p1, .int .i64 p2]) (fn := Tryz.f209) rfl ?_
 obtain ⟨X1, aQ, aD⟩ := j0 aD
 refine Exists.intro { vars := [14], boxes := [], owns := [0], fuel := true } (Exists.intro (fun vs os h' => ∃ (u2 : Int) (wu3 : List (List Value)) (u3 : List Int), vs.tail = [.int .i64 u2] ∧ os = [wu3] ∧ Sub h h' ∧ D0 u2 ∧ F2 (Wp.int.R h') wu3 u3 ∧ j4 aL p2 p1 (L1 vs) u2 u3 = some X1) (Exists.intro (fun _ _ => 0) ?_))
 refine And.intro (Exists.intro Q0 ⟨0, [], ([] : P0), rfl, rfl, (Sub.refl _), (by decide), (show F2 (Wp.int.R h) ([] : List (List Value)) ([] : P0) from trivial), aQ⟩) ?_
 rintro v_0 wu3 m5 k4 ⟨u2, zzu3, u3, aR, aS, aM, iu2, fu3, aA⟩
 cases aR
 cases aS
 replace aA : j4 aL p2 p1 m5 u2 u3 = some X1 := aA
 obtain _ | m5 := m5
 ·cases (show (none : Option _) = some X1 from aA)
 rw [j4.eq_2] at aA
 refine And.intro (fun aT => ?_) (fun aT => ?_)
 ·replace aA := ifP aA aT
  obtain ⟨x7, bC, aA⟩ := j0 aA
  obtain ⟨bD, bE, bF, bG⟩ := Sl.getI (r := S0.toRp) (I0.mono aM aF) bC (by decide)
  refine And.intro bD ?_
  obtain ⟨aB, bH, aC, rfl, rfl, aG, bB, aH⟩ := C1 bG
  try dsimp only at aA
  refine Exists.intro _ (And.intro bF ?_)
  refine And.intro (fun aU => ?_) (fun aU => ?_)
  ·replace aA := ifP aA aU
   obtain ⟨q9, bI, aA⟩ := j0 aA
   refine And.intro (J2 bI (by first | rw [F2.length fu3, F2.length (show F2 (Wp.int.R k4) ([[.int .i64 aC]] : List (List Value)) [aC] from ⟨⟨rfl, aH⟩, trivial⟩)] | exact congrArg (· + 1) (F2.length fu3))) ?_
   refine And.intro rfl (And.intro (by repeat first|exact trivial|refine And.intro rfl ?_) (And.intro (by repeat first|exact trivial|refine And.intro rfl ?_) (Exists.intro m5 (And.intro ⟨(IntKind.i64.wrap (u2 + 1)), (wu3 ++ ([[.int .i64 aC]] : List (List Value))), (u3 ++ [aC]), rfl, rfl, aM, (K0 _), (F2.append fu3 (show F2 (Wp.int.R k4) ([[.int .i64 aC]] : List (List Value)) [aC] from ⟨⟨rfl, aH⟩, trivial⟩)), aA⟩ (Nat.lt_succ_self _)))))
  ·replace aA := ifN aA aU
   refine And.intro (fun aI => ?_) (fun aI => ?_)
   ·replace aA := ifP aA aI
    obtain ⟨q11, aV, aA⟩ := j0 aA
    refine And.intro (J2 aV (by first | rw [F2.length fu3, F2.length (show F2 (Wp.int.R k4) ([[.int .i64 aB]] : List (List Value)) [aB] from ⟨⟨rfl, aG⟩, trivial⟩)] | exact congrArg (· + 1) (F2.length fu3))) ?_
    refine And.intro rfl (And.intro (by repeat first|exact trivial|refine And.intro rfl ?_) (And.intro (by repeat first|exact trivial|refine And.intro rfl ?_) (Exists.intro m5 (And.intro ⟨(IntKind.i64.wrap (u2 + 1)), (wu3 ++ ([[.int .i64 aB]] : List (List Value))), (u3 ++ [aB]), rfl, rfl, aM, (K0 _), (F2.append fu3 (show F2 (Wp.int.R k4) ([[.int .i64 aB]] : List (List Value)) [aB] from ⟨⟨rfl, aG⟩, trivial⟩)), aA⟩ (Nat.lt_succ_self _)))))
   ·replace aA := ifN aA aI
    refine And.intro rfl (And.intro (by repeat first|exact trivial|refine And.intro rfl ?_) (And.intro (by repeat first|exact trivial|refine And.intro rfl ?_) (Exists.intro m5 (And.intro ⟨(IntKind.i64.wrap (u2 + 1)), wu3, u3, rfl, rfl, aM, (K0 _), fu3, aA⟩ (Nat.lt_succ_self _)))))
 ·replace aA := ifN aA aT
  have hE := Option.some.inj aA; subst hE
  try dsimp only [T0, U0] at aD
  refine Or.inl ?_
  intro v12 k13 f14
  obtain ⟨q15, aW, aD⟩ := j0 aD
  refine Tr.mono (k0h _ f14 fu3 (A2 aW)) ?_
  rintro _ kz16 ⟨rfl, vsz16, fz16, qz16⟩
  obtain ⟨az16, cz16, rfl, rz16, sz16, lz16⟩ := j1.out (r := Wp.int.toRp) fz16 qz16
  refine Tr.mono (l0h _ fz16 qz16) ?_
  rintro _ kz17 ⟨vsz17, fz17, qz17⟩
  obtain ⟨az17, cz17, rfl, rz17, sz17, lz17⟩ := j1.out (r := Wp.int.toRp) fz17 qz17
  have hE := Option.some.inj aD; subst hE
  exact ⟨az17, ((y01 eqI (T03 O7 u3))).length, cz17, rfl, (New.from (j1.newPlain (r := Wp.int) fz17 qz17 (M0h _)) aM)⟩
theorem u01 (h : Hp) (aJ : List Value) (p0 : l0) (rp0 : W0.R h aJ p0) (p1 : Int) (ip1 : D0 p1) (p2 : Int) (ip2 : D0 p2) (r : Int) (aA : K6 p0 p1 p2 = some r) :
  Tr Tryz.prog 157 #[.agg aJ.toArray, .int .i64 p1, .int .i64 p2] h fun v h' => v = .int .i64 r ∧ h' = h := by
 obtain ⟨aF, aG, aB, aM, aC, aK, rfl, rfl, aH, aI, aD⟩ := B0 rp0
 obtain ⟨rfl, aN⟩ := Sl.len aD
 unfold K6 at aA
 dsimp only at aA
 refine Tr.forget (Q2 (args := [.agg #[.int .i64 aF, .int .i64 aG, .slice aB aK.length aC], .int .i64 p1, .int .i64 p2]) (fn := Tryz.f157) rfl ?_)
 obtain ⟨x1, aQ, aA⟩ := j0 aA
 refine Tr.mono (j09 _ [.int .i64 aF, .int .i64 aG, .slice aB aK.length aC] (aF, aG, aK) (z0 aH aI aD) p1 ip1 p2 ip2 _  aQ) ?_
 rintro v3 k2 ⟨aW, aX, aY, rfl, wx1⟩
 have aO : Sub h k2 := wx1.sub
 have aP := wx1.r
 obtain ⟨rfl, aZ⟩ := Sl.len aP
 refine And.intro (fun aL => ?_) (fun aL => ?_)
 ·replace aA := ifP aA aL
  have hE := Option.some.inj aA; subst hE
  exact And.intro rfl aO
 ·replace aA := ifN aA aL
  obtain ⟨x5, aR, aA⟩ := j0 aA
  obtain ⟨aS, aT, aU, aV⟩ := Sl.getI (r := Wp.int.toRp) aP aR (by decide)
  refine And.intro aS ?_
  obtain ⟨rfl, bA⟩ := aV
  refine Exists.intro _ (And.intro aU ?_)
  have hE := Option.some.inj aA; subst hE
  exact And.intro rfl aO
theorem Y9 (h : Hp) (aV : List Value) (p0 : l0) (rp0 : W0.R h aV p0) (r : Bool) (aC : j6 p0 = some r) :
  Tr Tryz.prog 96 #[.agg aV.toArray] h fun v h' => v = .bool r ∧ h' = h := by
 obtain ⟨aI, aJ, aG, bJ, aH, aK, rfl, rfl, aN, aO, aD⟩ := B0 rp0
 obtain ⟨rfl, bK⟩ := Sl.len aD
 unfold j6 at aC
 dsimp only at aC
 refine Tr.forget (Q2 (args := [.agg #[.int .i64 aI, .int .i64 aJ, .slice aG aK.length aH]]) (fn := Tryz.f96) rfl ?_)
 obtain ⟨x1, bT, aC⟩ := j0 aC
 refine Tr.val (K8 _ [.int .i64 aI, .int .i64 aJ, .slice aG aK.length aH] (aI, aJ, aK) (z0 aN aO aD) _  bT) ?_
 refine And.intro (fun aW => ?_) (fun aW => ?_)
 ·replace aC := ifP aC aW
  have hE := Option.some.inj aC; subst hE
  exact And.intro rfl (Sub.refl _)
 ·replace aC := ifN aC aW
  obtain ⟨X3, aX, aC⟩ := j0 aC
  refine Exists.intro { vars := [13], boxes := [], owns := [], fuel := true } (Exists.intro (fun vs os h' => ∃ (u4 : Int), vs.tail = [.int .i64 u4] ∧ os = [] ∧ Sub h h' ∧ D0 u4 ∧ U5 aK (L1 vs) u4 = some X3) (Exists.intro (fun _ _ => 0) ?_))
  refine And.intro (Exists.intro Q0 ⟨0, rfl, rfl, (Sub.refl _), (by decide), aX⟩) ?_
  rintro v_0 m6 k5 ⟨u4, aY, aZ, bA, iu4, aA⟩
  cases aY
  cases aZ
  replace aA : U5 aK m6 u4 = some X3 := aA
  obtain _ | m6 := m6
  ·cases (show (none : Option _) = some X3 from aA)
  rw [U5.eq_2] at aA
  refine And.intro (fun bB => ?_) (fun bB => ?_)
  ·replace aA := ifP aA bB
   obtain ⟨x8, bU, aA⟩ := j0 aA
   obtain ⟨bV, bW, bX, bY⟩ := Sl.getI (r := S0.toRp) (I0.mono bA aD) bU (by decide)
   refine And.intro bV ?_
   obtain ⟨aP, aQ, aR, rfl, rfl, bL, bM, bN⟩ := C1 bY
   try dsimp only at aA
   refine Exists.intro _ (And.intro bX ?_)
   obtain ⟨x9, bZ, aA⟩ := j0 aA
   obtain ⟨qx9, vsx9, cA, fx9⟩ := Sl.cutI (r := S0.toRp) (I0.mono bA aD) bZ
   refine And.intro qx9 (Exists.intro vsx9 (And.intro cA ?_))
   intro vx9 hvx9 _
   obtain ⟨cC, cD, rfl, bO⟩ := fx9 vx9 hvx9
   have cE := (Sl.len bO).2
   obtain ⟨X10, aS, aA⟩ := j0 aA
   refine Exists.intro { vars := [24], boxes := [], owns := [], fuel := true } (Exists.intro (fun vs os h' => ∃ (u11 : Int), vs.tail = [.int .i64 u11] ∧ os = [] ∧ Sub k5 h' ∧ D0 u11 ∧ T5 x9 aQ aP aR (L1 vs) u11 = some X10) (Exists.intro (fun _ _ => 0) ?_))
   refine And.intro (Exists.intro Q0 ⟨0, rfl, rfl, (Sub.refl _), (by decide), aS⟩) ?_
   rintro v_0 m13 k12 ⟨u11, aT, aU, aF, iu11, aB⟩
   cases aT
   cases aU
   replace aB : T5 x9 aQ aP aR m13 u11 = some X10 := aB
   obtain _ | m13 := m13
   ·cases (show (none : Option _) = some X10 from aB)
   rw [T5.eq_2] at aB
   refine And.intro (fun aL => ?_) (fun aL => ?_)
   ·replace aB := ifP aB aL
    obtain ⟨x15, bC, aB⟩ := j0 aB
    obtain ⟨bD, bP, bE, bF⟩ := Sl.getI (r := S0.toRp) (I0.mono aF bO) bC (by decide)
    refine And.intro bD ?_
    obtain ⟨bQ, bR, bS, rfl, rfl, bG, bH, bI⟩ := C1 bF
    try dsimp only at aB
    refine Exists.intro _ (And.intro bE ?_)
    refine And.intro (fun aM => ?_) (fun aM => ?_)
    ·replace aB := ifP aB aM
     have hE := Option.some.inj aB; subst hE
     try dsimp only [Z2, D3] at aA
     have hE := Option.some.inj aA; subst hE
     try dsimp only [Z2, D3] at aC
     have hE := Option.some.inj aC; subst hE
     exact And.intro rfl (bA.trans aF)
    ·replace aB := ifN aB aM
     refine And.intro rfl (And.intro (by repeat first|exact trivial|refine And.intro rfl ?_) (And.intro (by repeat first|exact trivial|refine And.intro rfl ?_) (Exists.intro m13 (And.intro ⟨(IntKind.i64.wrap (u11 + 1)), rfl, rfl, aF, (K0 _), aB⟩ (Nat.lt_succ_self _)))))
   ·replace aB := ifN aB aL
    have hE := Option.some.inj aB; subst hE
    try dsimp only [T0, U0] at aA
    refine And.intro rfl (And.intro (by repeat first|exact trivial|refine And.intro rfl ?_) (And.intro (by repeat first|exact trivial|refine And.intro rfl ?_) (Exists.intro m6 (And.intro ⟨(IntKind.i64.wrap (u4 + 1)), rfl, rfl, (bA.trans aF), (K0 _), aA⟩ (Nat.lt_succ_self _)))))
  ·replace aA := ifN aA bB
   have hE := Option.some.inj aA; subst hE
   try dsimp only [T0, U0] at aC
   have hE := Option.some.inj aC; subst hE
   exact And.intro rfl bA
theorem o03 (h : Hp) (aN : List Value) (p0 : l0) (rp0 : W0.R h aN p0) (p1 : Int) (ip1 : D0 p1) (ap2 : Option Addr) (np2 cp2 : Nat) (p2 : P0) (rp2 : Z0.R h [.slice ap2 np2 cp2] p2) (r : Int × Int) (aD : Q7 p0 p1 p2 = some r) :
  Tr Tryz.prog 152 #[.agg aN.toArray, .int .i64 p1, .slice ap2 np2 cp2] h fun v h' => v = .tuple #[.int .i64 r.1, .int .i64 r.2] ∧ h' = h := by
 obtain ⟨aB, aC, aF, aS, aG, aI, rfl, rfl, aK, aL, aH⟩ := B0 rp0
 obtain ⟨rfl, aT⟩ := Sl.len aH
 obtain ⟨rfl, lp2⟩ := Sl.len rp2
 unfold Q7 at aD
 dsimp only at aD
 refine Tr.forget (Q2 (args := [.agg #[.int .i64 aB, .int .i64 aC, .slice aF aI.length aG], .int .i64 p1, .slice ap2 p2.length cp2]) (fn := Tryz.f152) rfl ?_)
 obtain ⟨X1, aO, aD⟩ := j0 aD
 refine Exists.intro { vars := [1, 13], boxes := [], owns := [], fuel := true } (Exists.intro (fun vs os h' => ∃ (u2 : Int) (u3 : Int), vs.tail = [.int .i64 u2, .int .i64 u3] ∧ os = [] ∧ Sub h h' ∧ D0 u2 ∧ D0 u3 ∧ Z4 p2 aB aC aI (L1 vs) u2 u3 = some X1) (Exists.intro (fun _ _ => 0) ?_))
 refine And.intro (Exists.intro Q0 ⟨p1, 0, rfl, rfl, (Sub.refl _), ip1, (by decide), aO⟩) ?_
 rintro v_0 v_1 m5 k4 ⟨u2, u3, aP, aQ, aM, iu2, iu3, aA⟩
 cases aP
 cases aQ
 replace aA : Z4 p2 aB aC aI m5 u2 u3 = some X1 := aA
 obtain _ | m5 := m5
 ·cases (show (none : Option _) = some X1 from aA)
 rw [Z4.eq_2] at aA
 refine And.intro (fun aR => ?_) (fun aR => ?_)
 ·replace aA := ifP aA aR
  obtain ⟨x7, aU, aA⟩ := j0 aA
  obtain ⟨aV, aW, aX, aY⟩ := Sl.getI (r := Wp.int.toRp) (Z0.mono aM rp2) aU (by decide)
  refine And.intro aV ?_
  obtain ⟨rfl, aZ⟩ := aY
  refine Exists.intro _ (And.intro aX ?_)
  obtain ⟨x8, bA, aA⟩ := j0 aA
  refine Tr.val (u01 _ [.int .i64 aB, .int .i64 aC, .slice aF aI.length aG] (aB, aC, aI) (z0 aK aL (I0.mono aM aH)) u2 iu2 x7 aZ _  bA) ?_
  obtain ⟨q9, bB, aA⟩ := j0 aA
  have bC : D0 x8 := A2 bB
  refine And.intro (fun aJ => ?_) (fun aJ => ?_)
  ·replace aA := ifP aA aJ
   have hE := Option.some.inj aA; subst hE
   try dsimp only [Z2, D3] at aD
   have hE := Option.some.inj aD; subst hE
   exact And.intro rfl aM
  ·replace aA := ifN aA aJ
   refine And.intro rfl (And.intro (by repeat first|exact trivial|refine And.intro rfl ?_) (And.intro (by repeat first|exact trivial|refine And.intro rfl ?_) (Exists.intro m5 (And.intro ⟨x8, (IntKind.i64.wrap (u3 + 1)), rfl, rfl, aM, bC, (K0 _), aA⟩ (Nat.lt_succ_self _)))))
 ·replace aA := ifN aA aR
  have hE := Option.some.inj aA; subst hE
  try dsimp only [T0, U0] at aD
  have hE := Option.some.inj aD; subst hE
  exact And.intro rfl aM
end Go.Proofs.YtfdlgbfeceodeaaGreat
namespace Go.Proofs.YtfdlgbfeceodeaaGreat
open Go.H
set_option linter.unusedVariables false
set_option linter.unusedSimpArgs false
set_option maxRecDepth 10000
theorem b07 (h : Hp) (bA : List Value) (p0 : F0) (rp0 : F1.R h bA p0) (bB : List Value) (p1 : l0) (rp1 : W0.R h bB p1) (r : Int × Int) (aP : p7 p0 p1 = some r) :
  Tr Tryz.prog 89 #[.agg bA.toArray, .agg bB.toArray] h fun v h' => v = .tuple #[.int .i64 r.1, .int .i64 r.2] ∧ h' = h := by
 obtain ⟨aG, aH, bQ, aI, aJ, rfl, rfl, aW, aK⟩ := U1 rp0
 obtain ⟨rfl, bR⟩ := Sl.len aK
 obtain ⟨aB, aC, aL, bS, aM, aF, rfl, rfl, aQ, aR, aN⟩ := B0 rp1
 obtain ⟨rfl, bT⟩ := Sl.len aN
 unfold p7 at aP
 dsimp only at aP
 refine Tr.forget (Q2 (args := [.agg #[.int .i64 aG, .slice aH aJ.length aI], .agg #[.int .i64 aB, .int .i64 aC, .slice aL aF.length aM]]) (fn := Tryz.f89) rfl ?_)
 obtain ⟨X1, bC, aP⟩ := j0 aP
 refine Exists.intro { vars := [6], boxes := [], owns := [], fuel := true } (Exists.intro (fun vs os h' => ∃ (u2 : Int), vs.tail = [.int .i64 u2] ∧ os = [] ∧ Sub h h' ∧ D0 u2 ∧ M3 aC aG aJ aB aF (L1 vs) u2 = some X1) (Exists.intro (fun _ _ => 0) ?_))
 refine And.intro (Exists.intro Q0 ⟨0, rfl, rfl, (Sub.refl _), (by decide), bC⟩) ?_
 rintro v_0 m4 k3 ⟨u2, bD, bE, bF, iu2, aD⟩
 cases bD
 cases bE
 replace aD : M3 aC aG aJ aB aF m4 u2 = some X1 := aD
 obtain _ | m4 := m4
 ·cases (show (none : Option _) = some X1 from aD)
 rw [M3.eq_2] at aD
 obtain ⟨x5, bV, aD⟩ := j0 aD
 refine Exists.intro (.bool x5) (And.intro (fun q => g00 _ [.int .i64 aG, .slice aH aJ.length aI] (aG, aJ) (Z1 aW (n5.mono bF aK)) _  (V1 bV q)) ?_)
 obtain ⟨x6, bW, aD⟩ := j0 aD
 refine Exists.intro (.bool x6) (And.intro (fun q => T8 _ [.int .i64 aB, .int .i64 aC, .slice aL aF.length aM] (aB, aC, aF) (z0 aQ aR (I0.mono bF aN)) _  (V1 bW q)) ?_)
 refine And.intro (fun bG => ?_) (fun bG => ?_)
 ·replace aD := ifP aD bG
  obtain ⟨X8, bH, aD⟩ := j0 aD
  refine Exists.intro { vars := [7], boxes := [], owns := [], fuel := true } (Exists.intro (fun vs os h' => ∃ (u9 : Int), vs.tail = [.int .i64 u9] ∧ os = [] ∧ Sub k3 h' ∧ D0 u9 ∧ Q4 aJ aB aC aF u2 (L1 vs) u9 = some X8) (Exists.intro (fun _ _ => 0) ?_))
  refine And.intro (Exists.intro Q0 ⟨0, rfl, rfl, (Sub.refl _), (by decide), bH⟩) ?_
  rintro v_0 m11 k10 ⟨u9, bI, bJ, aZ, iu9, aA⟩
  cases bI
  cases bJ
  replace aA : Q4 aJ aB aC aF u2 m11 u9 = some X8 := aA
  obtain _ | m11 := m11
  ·cases (show (none : Option _) = some X8 from aA)
  rw [Q4.eq_2] at aA
  refine And.intro (fun aT => ?_) (fun aT => ?_)
  ·replace aA := ifP aA aT
   refine Or.inr (Or.inr (Or.inr (Or.inl (And.intro (And.intro (by kernel_rfl) (by kernel_rfl)) ?_))))
   obtain ⟨x13, bK, aA⟩ := j0 aA
   obtain ⟨bL, bU, bM, aU⟩ := Sl.getI (r := Z0.toRp) (n5.mono (bF.trans aZ) aK) bK (by decide)
   obtain ⟨aX, bX, aY, rfl⟩ := Wp.slice_cell aU
   obtain ⟨rfl, bY⟩ := Sl.len aU
   refine Or.inl (Exists.intro (.hel (.slice aH aJ.length aI) u9 1 0) (And.intro ?_ ?_))
   ·intro k14 s15
    exact And.intro bL (And.intro rfl (And.intro rfl rfl))
   refine Or.inl (Exists.intro (.val (.slice aX x13.length aY)) (And.intro ?_ ?_))
   ·intro k16 s17
    exact Exists.intro _ (And.intro (j7.up s17 bM) (And.intro rfl (And.intro rfl rfl)))
   obtain ⟨x18, bN, aA⟩ := j0 aA
   obtain ⟨aO, aS⟩ := x18
   try dsimp only at aA
   obtain ⟨q19, bO, aA⟩ := j0 aA
   have bP : D0 aO := A2 bO
   refine Or.inl (Exists.intro (.val (.tuple #[.int .i64 aO, .bool aS])) (And.intro ?_ ?_))
   ·intro k20 s21
    exact Tr.val (N04 _ [.int .i64 aB, .int .i64 aC, .slice aL aF.length aM] (aB, aC, aF) (z0 aQ aR (I0.mono ((bF.trans aZ).trans s21) aN)) u2 iu2 aX x13.length aY x13 (Z0.mono s21 aU) _ bN) (And.intro rfl (And.intro rfl rfl))
   refine Or.inl (Exists.intro (.val (.int .i64 aO)) (And.intro ?_ ?_))
   ·intro k22 s23
    exact And.intro rfl (And.intro rfl rfl)
   refine Or.inl (Exists.intro (.val (.bool aS)) (And.intro ?_ ?_))
   ·intro k24 s25
    exact And.intro rfl (And.intro rfl rfl)
   intro k26 s27
   refine And.intro (fun aV => ?_) (fun aV => ?_)
   ·replace aA := ifP aA aV
    have hE := Option.some.inj aA; subst hE
    try dsimp only [Z2, D3] at aD
    have hE := Option.some.inj aD; subst hE
    try dsimp only [Z2, D3] at aP
    have hE := Option.some.inj aP; subst hE
    exact And.intro rfl ((bF.trans aZ).trans s27)
   ·replace aA := ifN aA aV
    refine And.intro rfl (And.intro (by repeat first|exact trivial|refine And.intro rfl ?_) (And.intro (by repeat first|exact trivial|refine And.intro rfl ?_) (Exists.intro m11 (And.intro ⟨(IntKind.i64.wrap (u9 + 1)), rfl, rfl, (aZ.trans s27), (K0 _), aA⟩ (Nat.lt_succ_self _)))))
  ·replace aA := ifN aA aT
   have hE := Option.some.inj aA; subst hE
   try dsimp only [T0, U0] at aD
   refine And.intro rfl (And.intro (by repeat first|exact trivial|refine And.intro rfl ?_) (And.intro (by repeat first|exact trivial|refine And.intro rfl ?_) (Exists.intro m4 (And.intro ⟨(IntKind.i64.wrap (u2 + 1)), rfl, rfl, (bF.trans aZ), (K0 _), aD⟩ (Nat.lt_succ_self _)))))
 ·replace aD := ifN aD bG
  have hE := Option.some.inj aD; subst hE
  try dsimp only [T0, U0] at aP
  have hE := Option.some.inj aP; subst hE
  exact And.intro rfl bF
theorem c07 (h : Hp) (aY : List Value) (p0 : F0) (rp0 : F1.R h aY p0) (aZ : List Value) (p1 : l0) (rp1 : W0.R h aZ p1) (r : Int × Int) (aD : r7 p0 p1 = some r) :
  Tr Tryz.prog 97 #[.agg aY.toArray, .agg aZ.toArray] h fun v h' => v = .tuple #[.int .i64 r.1, .int .i64 r.2] ∧ h' = h := by
 obtain ⟨aQ, aM, bS, aN, aH, rfl, rfl, aU, aI⟩ := U1 rp0
 obtain ⟨rfl, bT⟩ := Sl.len aI
 obtain ⟨aB, aC, aJ, bU, aK, aG, rfl, rfl, aO, aP, aL⟩ := B0 rp1
 obtain ⟨rfl, bV⟩ := Sl.len aL
 unfold r7 at aD
 dsimp only at aD
 refine Tr.forget (Q2 (args := [.agg #[.int .i64 aQ, .slice aM aH.length aN], .agg #[.int .i64 aB, .int .i64 aC, .slice aJ aG.length aK]]) (fn := Tryz.f97) rfl ?_)
 obtain ⟨x1, bX, aD⟩ := j0 aD
 refine Tr.val (i00 _ [.int .i64 aQ, .slice aM aH.length aN] (aQ, aH) (Z1 aU aI) _  bX) ?_
 obtain ⟨x2, bY, aD⟩ := j0 aD
 refine Exists.intro (.bool x2) (And.intro (fun q => Y9 _ [.int .i64 aB, .int .i64 aC, .slice aJ aG.length aK] (aB, aC, aG) (z0 aO aP aL) _  (V1 bY q)) ?_)
 refine And.intro (fun bA => ?_) (fun bA => ?_)
 ·replace aD := ifP aD bA
  have hE := Option.some.inj aD; subst hE
  exact And.intro rfl (Sub.refl _)
 ·replace aD := ifN aD bA
  obtain ⟨X4, bB, aD⟩ := j0 aD
  refine Exists.intro { vars := [6], boxes := [], owns := [], fuel := true } (Exists.intro (fun vs os h' => ∃ (u5 : Int), vs.tail = [.int .i64 u5] ∧ os = [] ∧ Sub h h' ∧ D0 u5 ∧ S4 aC aH aB aG (L1 vs) u5 = some X4) (Exists.intro (fun _ _ => 0) ?_))
  refine And.intro (Exists.intro Q0 ⟨0, rfl, rfl, (Sub.refl _), (by decide), bB⟩) ?_
  rintro v_0 m7 k6 ⟨u5, bC, bD, bZ, iu5, aF⟩
  cases bC
  cases bD
  replace aF : S4 aC aH aB aG m7 u5 = some X4 := aF
  obtain _ | m7 := m7
  ·cases (show (none : Option _) = some X4 from aF)
  rw [S4.eq_2] at aF
  refine And.intro (fun bE => ?_) (fun bE => ?_)
  ·replace aF := ifP aF bE
   obtain ⟨X9, bF, aF⟩ := j0 aF
   refine Exists.intro { vars := [35], boxes := [], owns := [], fuel := true } (Exists.intro (fun vs os h' => ∃ (u10 : Int), vs.tail = [.int .i64 u10] ∧ os = [] ∧ Sub k6 h' ∧ D0 u10 ∧ R4 aH aB aC aG u5 (L1 vs) u10 = some X9) (Exists.intro (fun _ _ => 0) ?_))
   refine And.intro (Exists.intro Q0 ⟨0, rfl, rfl, (Sub.refl _), (by decide), bF⟩) ?_
   rintro v_0 m12 k11 ⟨u10, bG, bH, aV, iu10, aA⟩
   cases bG
   cases bH
   replace aA : R4 aH aB aC aG u5 m12 u10 = some X9 := aA
   obtain _ | m12 := m12
   ·cases (show (none : Option _) = some X9 from aA)
   rw [R4.eq_2] at aA
   refine And.intro (fun aR => ?_) (fun aR => ?_)
   ·replace aA := ifP aA aR
    obtain ⟨x14, bI, aA⟩ := j0 aA
    obtain ⟨bJ, bW, bK, aS⟩ := Sl.getI (r := Z0.toRp) (n5.mono (bZ.trans aV) aI) bI (by decide)
    refine And.intro bJ ?_
    obtain ⟨bL, cA, bM, rfl⟩ := Wp.slice_cell aS
    obtain ⟨rfl, cC⟩ := Sl.len aS
    refine Exists.intro _ (And.intro bK ?_)
    obtain ⟨x15, bN, aA⟩ := j0 aA
    obtain ⟨aW, aX⟩ := x15
    try dsimp only at aA
    refine Tr.val (o03 _ [.int .i64 aB, .int .i64 aC, .slice aJ aG.length aK] (aB, aC, aG) (z0 aO aP (I0.mono (bZ.trans aV) aL)) u5 iu5 bL x14.length bM x14 aS _  bN) ?_
    obtain ⟨q16, bO, aA⟩ := j0 aA
    have bP : D0 aW := A2 bO
    obtain ⟨q17, bQ, aA⟩ := j0 aA
    have bR : D0 aX := A2 bQ
    refine And.intro (fun aT => ?_) (fun aT => ?_)
    ·replace aA := ifP aA aT
     have hE := Option.some.inj aA; subst hE
     try dsimp only [Z2, D3] at aF
     have hE := Option.some.inj aF; subst hE
     try dsimp only [Z2, D3] at aD
     have hE := Option.some.inj aD; subst hE
     exact And.intro rfl (bZ.trans aV)
    ·replace aA := ifN aA aT
     refine And.intro rfl (And.intro (by repeat first|exact trivial|refine And.intro rfl ?_) (And.intro (by repeat first|exact trivial|refine And.intro rfl ?_) (Exists.intro m12 (And.intro ⟨(IntKind.i64.wrap (u10 + 1)), rfl, rfl, aV, (K0 _), aA⟩ (Nat.lt_succ_self _)))))
   ·replace aA := ifN aA aR
    have hE := Option.some.inj aA; subst hE
    try dsimp only [T0, U0] at aF
    refine And.intro rfl (And.intro (by repeat first|exact trivial|refine And.intro rfl ?_) (And.intro (by repeat first|exact trivial|refine And.intro rfl ?_) (Exists.intro m7 (And.intro ⟨(IntKind.i64.wrap (u5 + 1)), rfl, rfl, (bZ.trans aV), (K0 _), aF⟩ (Nat.lt_succ_self _)))))
  ·replace aF := ifN aF bE
   have hE := Option.some.inj aF; subst hE
   try dsimp only [T0, U0] at aD
   have hE := Option.some.inj aD; subst hE
   exact And.intro rfl bZ
end Go.Proofs.YtfdlgbfeceodeaaGreat
namespace Go.Proofs.YtfdlgbfeceodeaaGreat
open Go.H
set_option linter.unusedVariables false
set_option linter.unusedSimpArgs false
set_option maxRecDepth 10000
theorem W3 (h : Hp) (aJ : List Value) (p0 : l0) (rp0 : W0.R h aJ p0) (r : l0) (aB : M2 p0 = some r) :
  Tr Tryz.prog 68 #[.agg aJ.toArray] h fun v h' => ∃ (cs0 : List Value), v = .agg cs0.toArray ∧ W0.R h' cs0 r ∧ Sub h h' := by
 obtain ⟨aC, aD, aF, aL, aG, aK, rfl, rfl, aH, aI, aA⟩ := B0 rp0
 obtain ⟨rfl, aM⟩ := Sl.len aA
 unfold M2 at aB
 dsimp only at aB
 refine Q2 (args := [.agg #[.int .i64 aC, .int .i64 aD, .slice aF aK.length aG]]) (fn := Tryz.f68) rfl ?_
 refine Or.inr (Or.inr (Or.inl (And.intro (And.intro (by kernel_rfl) (by kernel_rfl)) ?_)))
 refine Or.inr ?_
 refine Or.inr ?_
 refine Or.inr ?_
 refine Or.inr ?_
 refine Exists.intro 0 (And.intro (And.intro rfl rfl) ?_)
 refine And.intro trivial (And.intro (by first | exact trivial | exact rfl) ?_)
 obtain ⟨vsy1, ey1, fy1⟩ := Sl.rows (r := S0.toRp) aA
 refine Exists.intro vsy1 (And.intro ey1 ?_)
 obtain ⟨q2, aN, aB⟩ := j0 aB
 refine And.intro (J2 aN (by first | rw [F2.length (show F2 (S0.R h) ([] : List (List Value)) ([] : M0) from trivial), F2.length fy1] | exact congrArg (· + 1) (F2.length (show F2 (S0.R h) ([] : List (List Value)) ([] : M0) from trivial)))) ?_
 refine And.intro trivial (And.intro (by first | exact trivial | exact rfl) ?_)
 refine And.intro trivial (And.intro (by first | exact trivial | exact rfl) ?_)
 refine And.intro trivial (And.intro (by first | exact trivial | exact rfl) ?_)
 intro v3 k4 f5
 obtain ⟨az6, cz6, rfl, rz6, sz6, lz6⟩ := j1.out (r := S0.toRp) f5 (F2.append (show F2 (S0.R h) ([] : List (List Value)) ([] : M0) from trivial) fy1)
 have hE := Option.some.inj aB; subst hE
 exact ⟨([.int .i64 aC, .int .i64 aD, .slice az6 ((([] : M0) ++ aK)).length cz6]), rfl, (z0 aH aI rz6), sz6⟩
theorem K9 (h : Hp) (ap0 : Option Addr) (np0 cp0 : Nat) (p0 : M0) (rp0 : I0.R h [.slice ap0 np0 cp0] p0) (bS : List Value) (p1 : C0) (rp1 : S0.R h bS p1) (r : M0) (aU : L6 p0 p1 = some r) :
  Tr Tryz.prog 144 #[.slice ap0 np0 cp0, .agg bS.toArray] h fun v h' => ∃ (a0 : Option Addr) (n0 c0 : Nat), v = .slice a0 n0 c0 ∧ I0.R h' [.slice a0 n0 c0] r ∧ Sub h h' := by
 obtain ⟨rfl, lp0⟩ := Sl.len rp0
 obtain ⟨aA, aB, aC, rfl, rfl, aF, aG, aH⟩ := C1 rp1
 unfold L6 at aU
 dsimp only at aU
 refine Q2 (args := [.slice ap0 p0.length cp0, .agg #[.int .i64 aA, .int .i64 aB, .int .i64 aC]]) (fn := Tryz.f144) rfl ?_
 obtain ⟨X1, bT, aU⟩ := j0 aU
 refine Exists.intro { vars := [6, 7], boxes := [], owns := [0], fuel := true } (Exists.intro (fun vs os h' => ∃ (u2 : Bool) (u3 : Int) (wu4 : List (List Value)) (u4 : List C0), vs.tail = [.bool u2, .int .i64 u3] ∧ os = [wu4] ∧ Sub h h' ∧ D0 u3 ∧ F2 (S0.R h') wu4 u4 ∧ c4 p0 aA aB aC (L1 vs) u2 u3 u4 = some X1) (Exists.intro (fun _ _ => 0) ?_))
 refine And.intro (Exists.intro Q0 ⟨false, 0, [], ([] : M0), rfl, rfl, (Sub.refl _), (by decide), (show F2 (S0.R h) ([] : List (List Value)) ([] : M0) from trivial), bT⟩) ?_
 rintro v_0 v_1 wu4 m6 k5 ⟨u2, u3, zzu4, u4, bU, bV, bH, iu3, fu4, aD⟩
 cases bU
 cases bV
 replace aD : c4 p0 aA aB aC m6 u2 u3 u4 = some X1 := aD
 obtain _ | m6 := m6
 ·cases (show (none : Option _) = some X1 from aD)
 rw [c4.eq_2] at aD
 refine And.intro (fun bW => ?_) (fun bW => ?_)
 ·replace aD := ifP aD bW
  refine Or.inl (And.intro (And.intro (by kernel_rfl) (by kernel_rfl)) ?_)
  obtain ⟨x8, dB, aD⟩ := j0 aD
  obtain ⟨dC, dD, dE, dF⟩ := Sl.getI (r := S0.toRp) (I0.mono bH rp0) dB (by decide)
  refine And.intro dC ?_
  obtain ⟨bM, bN, bO, rfl, rfl, bP, bQ, bR⟩ := C1 dF
  try dsimp only at aD
  refine Exists.intro _ (And.intro dE ?_)
  obtain ⟨x9, dG, aD⟩ := j0 aD
  refine Exists.intro (.int .i64 x9) (And.intro (i02 _ [.int .i64 aA, .int .i64 aB, .int .i64 aC] (aA, aB, aC) (V0 aF aG aH) [.int .i64 bM, .int .i64 bN, .int .i64 bO] (bM, bN, bO) (V0 bP bQ bR) _  dG) ?_)
  obtain ⟨q10, bX, aD⟩ := j0 aD
  have dH : D0 x9 := A2 bX
  refine And.intro (fun bI => ?_) (fun bI => ?_)
  ·replace aD := ifP aD bI
   refine And.intro (fun bJ => ?_) (fun bJ => ?_)
   ·replace aD := ifP aD bJ
    obtain ⟨q13, bY, aD⟩ := j0 aD
    refine And.intro (J2 bY (by first | rw [F2.length fu4, F2.length (show F2 (S0.R k5) ([[.int .i64 aA, .int .i64 aB, .int .i64 aC]] : List (List Value)) [(aA, aB, aC)] from ⟨(V0 aF aG aH), trivial⟩)] | exact congrArg (· + 1) (F2.length fu4))) ?_
    obtain ⟨x14, bZ, aD⟩ := j0 aD
    obtain ⟨cA, cX, cC, cD⟩ := Sl.getI (r := S0.toRp) (I0.mono bH rp0) bZ (by decide)
    refine And.intro cA ?_
    obtain ⟨aI, aJ, aK, rfl, rfl, aV, aW, aX⟩ := C1 cD
    try dsimp only at aD
    refine Exists.intro _ (And.intro cC ?_)
    obtain ⟨q15, cE, aD⟩ := j0 aD
    refine And.intro (J2 cE (by first | rw [F2.length (F2.append fu4 (show F2 (S0.R k5) ([[.int .i64 aA, .int .i64 aB, .int .i64 aC]] : List (List Value)) [(aA, aB, aC)] from ⟨(V0 aF aG aH), trivial⟩)), F2.length (show F2 (S0.R k5) ([[.int .i64 aI, .int .i64 aJ, .int .i64 aK]] : List (List Value)) [(aI, aJ, aK)] from ⟨(V0 aV aW aX), trivial⟩)] | exact congrArg (· + 1) (F2.length (F2.append fu4 (show F2 (S0.R k5) ([[.int .i64 aA, .int .i64 aB, .int .i64 aC]] : List (List Value)) [(aA, aB, aC)] from ⟨(V0 aF aG aH), trivial⟩))))) ?_
    refine And.intro rfl (And.intro (by repeat first|exact trivial|refine And.intro rfl ?_) (And.intro (by repeat first|exact trivial|refine And.intro rfl ?_) (Exists.intro m6 (And.intro ⟨true, (IntKind.i64.wrap (u3 + 1)), ((wu4 ++ ([[.int .i64 aA, .int .i64 aB, .int .i64 aC]] : List (List Value))) ++ ([[.int .i64 aI, .int .i64 aJ, .int .i64 aK]] : List (List Value))), ((u4 ++ [(aA, aB, aC)]) ++ [(aI, aJ, aK)]), rfl, rfl, bH, (K0 _), (F2.append (F2.append fu4 (show F2 (S0.R k5) ([[.int .i64 aA, .int .i64 aB, .int .i64 aC]] : List (List Value)) [(aA, aB, aC)] from ⟨(V0 aF aG aH), trivial⟩)) (show F2 (S0.R k5) ([[.int .i64 aI, .int .i64 aJ, .int .i64 aK]] : List (List Value)) [(aI, aJ, aK)] from ⟨(V0 aV aW aX), trivial⟩)), aD⟩ (Nat.lt_succ_self _)))))
   ·replace aD := ifN aD bJ
    obtain ⟨x16, cG, aD⟩ := j0 aD
    obtain ⟨cH, cY, cI, cJ⟩ := Sl.getI (r := S0.toRp) (I0.mono bH rp0) cG (by decide)
    refine And.intro cH ?_
    obtain ⟨aL, aM, aN, rfl, rfl, aY, aZ, bA⟩ := C1 cJ
    try dsimp only at aD
    refine Exists.intro _ (And.intro cI ?_)
    obtain ⟨q17, cK, aD⟩ := j0 aD
    refine And.intro (J2 cK (by first | rw [F2.length fu4, F2.length (show F2 (S0.R k5) ([[.int .i64 aL, .int .i64 aM, .int .i64 aN]] : List (List Value)) [(aL, aM, aN)] from ⟨(V0 aY aZ bA), trivial⟩)] | exact congrArg (· + 1) (F2.length fu4))) ?_
    refine And.intro rfl (And.intro (by repeat first|exact trivial|refine And.intro rfl ?_) (And.intro (by repeat first|exact trivial|refine And.intro rfl ?_) (Exists.intro m6 (And.intro ⟨true, (IntKind.i64.wrap (u3 + 1)), (wu4 ++ ([[.int .i64 aL, .int .i64 aM, .int .i64 aN]] : List (List Value))), (u4 ++ [(aL, aM, aN)]), rfl, rfl, bH, (K0 _), (F2.append fu4 (show F2 (S0.R k5) ([[.int .i64 aL, .int .i64 aM, .int .i64 aN]] : List (List Value)) [(aL, aM, aN)] from ⟨(V0 aY aZ bA), trivial⟩)), aD⟩ (Nat.lt_succ_self _)))))
  ·replace aD := ifN aD bI
   refine And.intro (fun bK => ?_) (fun bK => ?_)
   ·replace aD := ifP aD bK
    obtain ⟨q19, cL, aD⟩ := j0 aD
    refine And.intro (J2 cL (by first | rw [F2.length fu4, F2.length (show F2 (S0.R k5) ([[.int .i64 aA, .int .i64 aB, .int .i64 aC]] : List (List Value)) [(aA, aB, aC)] from ⟨(V0 aF aG aH), trivial⟩)] | exact congrArg (· + 1) (F2.length fu4))) ?_
    obtain ⟨x20, cM, aD⟩ := j0 aD
    obtain ⟨cN, cZ, cO, cP⟩ := Sl.getI (r := S0.toRp) (I0.mono bH rp0) cM (by decide)
    refine And.intro cN ?_
    obtain ⟨aO, aP, aQ, rfl, rfl, bB, bC, bD⟩ := C1 cP
    try dsimp only at aD
    refine Exists.intro _ (And.intro cO ?_)
    obtain ⟨q21, cQ, aD⟩ := j0 aD
    refine And.intro (J2 cQ (by first | rw [F2.length (F2.append fu4 (show F2 (S0.R k5) ([[.int .i64 aA, .int .i64 aB, .int .i64 aC]] : List (List Value)) [(aA, aB, aC)] from ⟨(V0 aF aG aH), trivial⟩)), F2.length (show F2 (S0.R k5) ([[.int .i64 aO, .int .i64 aP, .int .i64 aQ]] : List (List Value)) [(aO, aP, aQ)] from ⟨(V0 bB bC bD), trivial⟩)] | exact congrArg (· + 1) (F2.length (F2.append fu4 (show F2 (S0.R k5) ([[.int .i64 aA, .int .i64 aB, .int .i64 aC]] : List (List Value)) [(aA, aB, aC)] from ⟨(V0 aF aG aH), trivial⟩))))) ?_
    refine And.intro rfl (And.intro (by repeat first|exact trivial|refine And.intro rfl ?_) (And.intro (by repeat first|exact trivial|refine And.intro rfl ?_) (Exists.intro m6 (And.intro ⟨true, (IntKind.i64.wrap (u3 + 1)), ((wu4 ++ ([[.int .i64 aA, .int .i64 aB, .int .i64 aC]] : List (List Value))) ++ ([[.int .i64 aO, .int .i64 aP, .int .i64 aQ]] : List (List Value))), ((u4 ++ [(aA, aB, aC)]) ++ [(aO, aP, aQ)]), rfl, rfl, bH, (K0 _), (F2.append (F2.append fu4 (show F2 (S0.R k5) ([[.int .i64 aA, .int .i64 aB, .int .i64 aC]] : List (List Value)) [(aA, aB, aC)] from ⟨(V0 aF aG aH), trivial⟩)) (show F2 (S0.R k5) ([[.int .i64 aO, .int .i64 aP, .int .i64 aQ]] : List (List Value)) [(aO, aP, aQ)] from ⟨(V0 bB bC bD), trivial⟩)), aD⟩ (Nat.lt_succ_self _)))))
   ·replace aD := ifN aD bK
    obtain ⟨x22, cR, aD⟩ := j0 aD
    obtain ⟨cS, dA, cT, cU⟩ := Sl.getI (r := S0.toRp) (I0.mono bH rp0) cR (by decide)
    refine And.intro cS ?_
    obtain ⟨aR, aS, aT, rfl, rfl, bE, bF, bG⟩ := C1 cU
    try dsimp only at aD
    refine Exists.intro _ (And.intro cT ?_)
    obtain ⟨q23, cV, aD⟩ := j0 aD
    refine And.intro (J2 cV (by first | rw [F2.length fu4, F2.length (show F2 (S0.R k5) ([[.int .i64 aR, .int .i64 aS, .int .i64 aT]] : List (List Value)) [(aR, aS, aT)] from ⟨(V0 bE bF bG), trivial⟩)] | exact congrArg (· + 1) (F2.length fu4))) ?_
    refine And.intro rfl (And.intro (by repeat first|exact trivial|refine And.intro rfl ?_) (And.intro (by repeat first|exact trivial|refine And.intro rfl ?_) (Exists.intro m6 (And.intro ⟨u2, (IntKind.i64.wrap (u3 + 1)), (wu4 ++ ([[.int .i64 aR, .int .i64 aS, .int .i64 aT]] : List (List Value))), (u4 ++ [(aR, aS, aT)]), rfl, rfl, bH, (K0 _), (F2.append fu4 (show F2 (S0.R k5) ([[.int .i64 aR, .int .i64 aS, .int .i64 aT]] : List (List Value)) [(aR, aS, aT)] from ⟨(V0 bE bF bG), trivial⟩)), aD⟩ (Nat.lt_succ_self _)))))
 ·replace aD := ifN aD bW
  have hE := Option.some.inj aD; subst hE
  try dsimp only [T0, U0] at aU
  refine And.intro (fun bL => ?_) (fun bL => ?_)
  ·replace aU := ifP aU bL
   obtain ⟨q25, cW, aU⟩ := j0 aU
   refine And.intro (J2 cW (by first | rw [F2.length fu4, F2.length (show F2 (S0.R k5) ([[.int .i64 aA, .int .i64 aB, .int .i64 aC]] : List (List Value)) [(aA, aB, aC)] from ⟨(V0 aF aG aH), trivial⟩)] | exact congrArg (· + 1) (F2.length fu4))) ?_
   intro v26 k27 f28
   obtain ⟨az29, cz29, rfl, rz29, sz29, lz29⟩ := j1.out (r := S0.toRp) f28 (F2.append fu4 (show F2 (S0.R k5) ([[.int .i64 aA, .int .i64 aB, .int .i64 aC]] : List (List Value)) [(aA, aB, aC)] from ⟨(V0 aF aG aH), trivial⟩))
   have hE := Option.some.inj aU; subst hE
   exact ⟨az29, ((u4 ++ [(aA, aB, aC)])).length, cz29, rfl, rz29, (bH.trans sz29)⟩
  ·replace aU := ifN aU bL
   intro v30 k31 f32
   obtain ⟨az33, cz33, rfl, rz33, sz33, lz33⟩ := j1.out (r := S0.toRp) f32 fu4
   have hE := Option.some.inj aU; subst hE
   exact ⟨az33, u4.length, cz33, rfl, rz33, (bH.trans sz33)⟩
theorem c0a (h : Hp) (aK : List Value) (p0 : l0) (rp0 : W0.R h aK p0) (p1 : Int) (ip1 : D0 p1) (r : Int) (aG : R8 p0 p1 = some r) :
  Tr Tryz.prog 214 #[.agg aK.toArray, .int .i64 p1] h fun v h' => v = .int .i64 r ∧ h' = h := by
 obtain ⟨aL, aM, aH, aZ, aI, aJ, rfl, rfl, bA, bB, aB⟩ := B0 rp0
 obtain ⟨rfl, bC⟩ := Sl.len aB
 unfold R8 at aG
 dsimp only at aG
 refine Tr.forget (Q2 (args := [.agg #[.int .i64 aL, .int .i64 aM, .slice aH aJ.length aI], .int .i64 p1]) (fn := Tryz.f214) rfl ?_)
 obtain ⟨X1, aN, aG⟩ := j0 aG
 refine Exists.intro { vars := [5, 6], boxes := [], owns := [], fuel := true } (Exists.intro (fun vs os h' => ∃ (u2 : Int) (u3 : Int), vs.tail = [.int .i64 u2, .int .i64 u3] ∧ os = [] ∧ Sub h h' ∧ D0 u2 ∧ D0 u3 ∧ j3 aJ p1 (L1 vs) u2 u3 = some X1) (Exists.intro (fun _ _ => 0) ?_))
 refine And.intro (Exists.intro Q0 ⟨0, 0, rfl, rfl, (Sub.refl _), (by decide), (by decide), aN⟩) ?_
 rintro v_0 v_1 m5 k4 ⟨u2, u3, aO, aP, aC, iu2, iu3, aA⟩
 cases aO
 cases aP
 replace aA : j3 aJ p1 m5 u2 u3 = some X1 := aA
 obtain _ | m5 := m5
 ·cases (show (none : Option _) = some X1 from aA)
 rw [j3.eq_2] at aA
 refine And.intro (fun aQ => ?_) (fun aQ => ?_)
 ·replace aA := ifP aA aQ
  obtain ⟨x7, bN, aA⟩ := j0 aA
  obtain ⟨bO, bP, bQ, bR⟩ := Sl.getI (r := S0.toRp) (I0.mono aC aB) bN (by decide)
  refine And.intro bO ?_
  obtain ⟨bS, bT, bU, rfl, rfl, bD, bE, bF⟩ := C1 bR
  try dsimp only at aA
  refine Exists.intro _ (And.intro bQ ?_)
  refine And.intro (fun aR => ?_) (fun aR => ?_)
  ·replace aA := ifP aA aR
   obtain ⟨x9, bV, aA⟩ := j0 aA
   obtain ⟨bW, bX, bY, bZ⟩ := Sl.getI (r := S0.toRp) (I0.mono aC aB) bV (by decide)
   refine And.intro bW ?_
   obtain ⟨cA, cC, cD, rfl, rfl, bG, bH, bI⟩ := C1 bZ
   try dsimp only at aA
   refine Exists.intro _ (And.intro bY ?_)
   refine And.intro (fun aD => ?_) (fun aD => ?_)
   ·replace aA := ifP aA aD
    refine And.intro rfl (And.intro (by repeat first|exact trivial|refine And.intro rfl ?_) (And.intro (by repeat first|exact trivial|refine And.intro rfl ?_) (Exists.intro m5 (And.intro ⟨(IntKind.i64.wrap ((IntKind.i64.wrap (u2 + 1)) + 1)), (IntKind.i64.wrap (u3 + 1)), rfl, rfl, aC, (K0 _), (K0 _), aA⟩ (Nat.lt_succ_self _)))))
   ·replace aA := ifN aA aD
    refine And.intro rfl (And.intro (by repeat first|exact trivial|refine And.intro rfl ?_) (And.intro (by repeat first|exact trivial|refine And.intro rfl ?_) (Exists.intro m5 (And.intro ⟨(IntKind.i64.wrap (u2 + 1)), (IntKind.i64.wrap (u3 + 1)), rfl, rfl, aC, (K0 _), (K0 _), aA⟩ (Nat.lt_succ_self _)))))
  ·replace aA := ifN aA aR
   obtain ⟨x11, aS, aA⟩ := j0 aA
   obtain ⟨aT, bJ, aU, aV⟩ := Sl.getI (r := S0.toRp) (I0.mono aC aB) aS (by decide)
   refine And.intro aT ?_
   obtain ⟨bK, bL, bM, rfl, rfl, aW, aX, aY⟩ := C1 aV
   try dsimp only at aA
   refine Exists.intro _ (And.intro aU ?_)
   refine And.intro (fun aF => ?_) (fun aF => ?_)
   ·replace aA := ifP aA aF
    refine And.intro rfl (And.intro (by repeat first|exact trivial|refine And.intro rfl ?_) (And.intro (by repeat first|exact trivial|refine And.intro rfl ?_) (Exists.intro m5 (And.intro ⟨(IntKind.i64.wrap (u2 + 1)), (IntKind.i64.wrap (u3 + 1)), rfl, rfl, aC, (K0 _), (K0 _), aA⟩ (Nat.lt_succ_self _)))))
   ·replace aA := ifN aA aF
    refine And.intro rfl (And.intro (by repeat first|exact trivial|refine And.intro rfl ?_) (And.intro (by repeat first|exact trivial|refine And.intro rfl ?_) (Exists.intro m5 (And.intro ⟨u2, (IntKind.i64.wrap (u3 + 1)), rfl, rfl, aC, iu2, (K0 _), aA⟩ (Nat.lt_succ_self _)))))
 ·replace aA := ifN aA aQ
  have hE := Option.some.inj aA; subst hE
  try dsimp only [T0, U0] at aG
  have hE := Option.some.inj aG; subst hE
  exact And.intro rfl aC
theorem d07 (h : Hp) (aM : List Value) (p0 : l0) (rp0 : W0.R h aM p0) (aN : List Value) (p1 : l0) (rp1 : W0.R h aN p1) (r : Bool) (aB : z8 p0 p1 = some r) :
  Tr Tryz.prog 162 #[.agg aM.toArray, .agg aN.toArray] h fun v h' => v = .bool r ∧ h' = h := by
 obtain ⟨aO, aP, aF, bE, aG, aH, rfl, rfl, bF, bG, aC⟩ := B0 rp0
 obtain ⟨rfl, bH⟩ := Sl.len aC
 obtain ⟨aQ, aR, aI, bI, aJ, aK, rfl, rfl, bJ, bK, aD⟩ := B0 rp1
 obtain ⟨rfl, bL⟩ := Sl.len aD
 unfold z8 at aB
 dsimp only at aB
 refine Tr.forget (Q2 (args := [.agg #[.int .i64 aO, .int .i64 aP, .slice aF aH.length aG], .agg #[.int .i64 aQ, .int .i64 aR, .slice aI aK.length aJ]]) (fn := Tryz.f162) rfl ?_)
 refine And.intro (fun aS => ?_) (fun aS => ?_)
 ·replace aB := ifP aB aS
  have hE := Option.some.inj aB; subst hE
  exact And.intro rfl (Sub.refl _)
 ·replace aB := ifN aB aS
  obtain ⟨X2, aT, aB⟩ := j0 aB
  refine Exists.intro { vars := [5], boxes := [], owns := [], fuel := true } (Exists.intro (fun vs os h' => ∃ (u3 : Int), vs.tail = [.int .i64 u3] ∧ os = [] ∧ Sub h h' ∧ D0 u3 ∧ w5 aH aK (L1 vs) u3 = some X2) (Exists.intro (fun _ _ => 0) ?_))
  refine And.intro (Exists.intro Q0 ⟨0, rfl, rfl, (Sub.refl _), (by decide), aT⟩) ?_
  rintro v_0 m5 k4 ⟨u3, aU, aV, aL, iu3, aA⟩
  cases aU
  cases aV
  replace aA : w5 aH aK m5 u3 = some X2 := aA
  obtain _ | m5 := m5
  ·cases (show (none : Option _) = some X2 from aA)
  rw [w5.eq_2] at aA
  refine And.intro (fun aW => ?_) (fun aW => ?_)
  ·replace aA := ifP aA aW
   refine Or.inl (And.intro (And.intro (by kernel_rfl) (by kernel_rfl)) ?_)
   obtain ⟨x7, bS, aA⟩ := j0 aA
   obtain ⟨bT, bU, bV, bW⟩ := Sl.getI (r := S0.toRp) (I0.mono aL aC) bS (by decide)
   refine And.intro bT ?_
   obtain ⟨aX, aY, aZ, rfl, rfl, bM, bN, bO⟩ := C1 bW
   try dsimp only at aA
   refine Exists.intro _ (And.intro bV ?_)
   obtain ⟨x8, bX, aA⟩ := j0 aA
   obtain ⟨bY, bZ, cA, cC⟩ := Sl.getI (r := S0.toRp) (I0.mono aL aD) bX (by decide)
   refine And.intro bY ?_
   obtain ⟨bA, bB, bC, rfl, rfl, bP, bQ, bR⟩ := C1 cC
   try dsimp only at aA
   refine Exists.intro _ (And.intro cA ?_)
   refine Exists.intro (!eqE (aX, aY, aZ) (bA, bB, bC)) (And.intro (m0i _ _ _ rfl _ _ _ _ _ _) ?_)
   refine And.intro (fun bD => ?_) (fun bD => ?_)
   ·replace aA := ifP aA bD
    have hE := Option.some.inj aA; subst hE
    try dsimp only [Z2, D3] at aB
    have hE := Option.some.inj aB; subst hE
    exact And.intro rfl aL
   ·replace aA := ifN aA bD
    refine And.intro rfl (And.intro (by repeat first|exact trivial|refine And.intro rfl ?_) (And.intro (by repeat first|exact trivial|refine And.intro rfl ?_) (Exists.intro m5 (And.intro ⟨(IntKind.i64.wrap (u3 + 1)), rfl, rfl, aL, (K0 _), aA⟩ (Nat.lt_succ_self _)))))
  ·replace aA := ifN aA aW
   have hE := Option.some.inj aA; subst hE
   try dsimp only [T0, U0] at aB
   have hE := Option.some.inj aB; subst hE
   exact And.intro rfl aL
theorem e07 (h : Hp) (bI : List Value) (p0 : l0) (rp0 : W0.R h bI p0) (p1 : Int) (ip1 : D0 p1) (r : P0) (aB : A8 p0 p1 = some r) :
  Tr Tryz.prog 219 #[.agg bI.toArray, .int .i64 p1] h fun v h' => ∃ (a0 : Option Addr) (n0 c0 : Nat), v = .slice a0 n0 c0 ∧ Z0.R h' [.slice a0 n0 c0] r ∧ Sub h h' := by
 obtain ⟨aO, aK, aM, cD, aN, aG, rfl, rfl, aX, aY, aH⟩ := B0 rp0
 obtain ⟨rfl, cE⟩ := Sl.len aH
 unfold A8 at aB
 dsimp only at aB
 refine Q2 (args := [.agg #[.int .i64 aO, .int .i64 aK, .slice aM aG.length aN], .int .i64 p1]) (fn := Tryz.f219) rfl ?_
 obtain ⟨x1, cI, aB⟩ := j0 aB
 refine Tr.val (E5 _ [.int .i64 aO, .int .i64 aK, .slice aM aG.length aN] (aO, aK, aG) (z0 aX aY aH) _  cI) ?_
 obtain ⟨x2, cJ, aB⟩ := j0 aB
 refine Exists.intro (.bool x2) (And.intro (fun q => W5 _ p1 ip1 0 (by decide) (IntKind.i64.wrap (aK - 1)) (K0 _) _  (V1 cJ q)) ?_)
 refine And.intro (fun bJ => ?_) (fun bJ => ?_)
 ·replace aB := ifP aB bJ
  intro v4 k5 f6
  obtain ⟨az7, cz7, rfl, rz7, sz7, lz7⟩ := j1.out (r := Wp.int.toRp) f6 (show F2 (Wp.int.R h) ([] : List (List Value)) ([] : P0) from trivial)
  have hE := Option.some.inj aB; subst hE
  exact ⟨az7, (([] : P0)).length, cz7, rfl, rz7, sz7⟩
 ·replace aB := ifN aB bJ
  obtain ⟨X12, aZ, aB⟩ := j0 aB
  refine Exists.intro { vars := [5, 6], boxes := [], owns := [], fuel := true, pubs := [5, 22] } (Exists.intro (fun vs os h' => ∃ (au13 : Option Addr) (nu13 cu13 : Nat) (u13 : P0) (u14 : Int), vs.tail = [.slice au13 nu13 cu13, .int .i64 u14] ∧ os = [] ∧ Sub h h' ∧ Z0.R h' [.slice au13 nu13 cu13] u13 ∧ D0 u14 ∧ P4 aG (L1 vs) u13 u14 = some X12) (Exists.intro (fun _ _ => 0) ?_))
  intro v8 k9 f10
  obtain ⟨az11, cz11, rfl, rz11, sz11, lz11⟩ := j1.out (r := Wp.int.toRp) f10 (show F2 (Wp.int.R h) ([[.int .i64 p1]] : List (List Value)) [p1] from ⟨⟨rfl, ip1⟩, trivial⟩)
  refine And.intro (Exists.intro Q0 ⟨az11, ([p1]).length, cz11, [p1], 0, rfl, rfl, sz11, rz11, (by decide), aZ⟩) ?_
  rintro v_0 v_1 m16 k15 ⟨au13, nu13, cu13, u13, u14, bA, bB, bK, ru13, iu14, aF⟩
  cases bA
  cases bB
  replace aF : P4 aG m16 u13 u14 = some X12 := aF
  obtain _ | m16 := m16
  ·cases (show (none : Option _) = some X12 from aF)
  rw [P4.eq_2] at aF
  obtain ⟨rfl, lu13⟩ := Sl.len ru13
  refine And.intro (fun aP => ?_) (fun aP => ?_)
  ·replace aF := ifP aF aP
   obtain ⟨X18, bC, aF⟩ := j0 aF
   refine Exists.intro { vars := [5, 7], boxes := [], owns := [], fuel := true } (Exists.intro (fun vs os h' => ∃ (au19 : Option Addr) (nu19 cu19 : Nat) (u19 : P0) (u20 : Int), vs.tail = [.slice au19 nu19 cu19, .int .i64 u20] ∧ os = [] ∧ Sub k15 h' ∧ Z0.R h' [.slice au19 nu19 cu19] u19 ∧ D0 u20 ∧ V2 aG (L1 vs) u19 u20 = some X18) (Exists.intro (fun _ _ => 0) ?_))
   refine And.intro (Exists.intro Q0 ⟨au13, u13.length, cu13, u13, 0, rfl, rfl, (Sub.refl _), ru13, (by decide), bC⟩) ?_
   rintro v_0 v_1 m22 k21 ⟨au19, nu19, cu19, u19, u20, bD, bE, aQ, ru19, iu20, aA⟩
   cases bD
   cases bE
   replace aA : V2 aG m22 u19 u20 = some X18 := aA
   obtain _ | m22 := m22
   ·cases (show (none : Option _) = some X18 from aA)
   rw [V2.eq_2] at aA
   obtain ⟨rfl, lu19⟩ := Sl.len ru19
   refine And.intro (fun aR => ?_) (fun aR => ?_)
   ·replace aA := ifP aA aR
    obtain ⟨x24, bL, aA⟩ := j0 aA
    obtain ⟨bM, cG, bN, bO⟩ := Sl.getI (r := S0.toRp) (I0.mono (bK.trans aQ) aH) bL (by decide)
    refine And.intro bM ?_
    obtain ⟨aI, cH, aJ, rfl, rfl, aC, bP, aD⟩ := C1 bO
    try dsimp only at aA
    refine Exists.intro _ (And.intro bN ?_)
    obtain ⟨x25, bQ, aA⟩ := j0 aA
    refine Tr.val (r01 _ au19 u19.length cu19 u19 ru19 aI aC _  bQ) ?_
    refine And.intro (fun aS => ?_) (fun aS => ?_)
    ·replace aA := ifP aA aS
     obtain ⟨x27, bR, aA⟩ := j0 aA
     refine Tr.mono (J00 _ au19 u19.length cu19 u19 ru19 aJ aD _  bR) ?_
     rintro v29 k28 ⟨aT, cK, aU, rfl, aL, bF⟩
     obtain ⟨rfl, cL⟩ := Sl.len aL
     obtain ⟨x30, bS, aA⟩ := j0 aA
     refine Tr.val (r01 _ aT x27.length aU x27 aL aJ aD _  bS) ?_
     refine And.intro (fun aV => ?_) (fun aV => ?_)
     ·replace aA := ifP aA aV
      obtain ⟨x32, bT, aA⟩ := j0 aA
      refine Tr.mono (J00 _ aT x27.length aU x27 aL aI aC _  bT) ?_
      rintro v34 k33 ⟨bU, cM, bV, rfl, bG, bW⟩
      obtain ⟨rfl, cN⟩ := Sl.len bG
      refine And.intro rfl (And.intro (by repeat first|exact trivial|refine And.intro rfl ?_) (And.intro (by repeat first|exact trivial|refine And.intro rfl ?_) (Exists.intro m22 (And.intro ⟨bU, x32.length, bV, x32, (IntKind.i64.wrap (u20 + 1)), rfl, rfl, ((aQ.trans bF).trans bW), bG, (K0 _), aA⟩ (Nat.lt_succ_self _)))))
     ·replace aA := ifN aA aV
      refine And.intro rfl (And.intro (by repeat first|exact trivial|refine And.intro rfl ?_) (And.intro (by repeat first|exact trivial|refine And.intro rfl ?_) (Exists.intro m22 (And.intro ⟨aT, x27.length, aU, x27, (IntKind.i64.wrap (u20 + 1)), rfl, rfl, (aQ.trans bF), aL, (K0 _), aA⟩ (Nat.lt_succ_self _)))))
    ·replace aA := ifN aA aS
     obtain ⟨x35, bX, aA⟩ := j0 aA
     refine Tr.val (r01 _ au19 u19.length cu19 u19 ru19 aJ aD _  bX) ?_
     refine And.intro (fun aW => ?_) (fun aW => ?_)
     ·replace aA := ifP aA aW
      obtain ⟨x37, bY, aA⟩ := j0 aA
      refine Tr.mono (J00 _ au19 u19.length cu19 u19 ru19 aI aC _  bY) ?_
      rintro v39 k38 ⟨bZ, cO, cA, rfl, bH, cC⟩
      obtain ⟨rfl, cP⟩ := Sl.len bH
      refine And.intro rfl (And.intro (by repeat first|exact trivial|refine And.intro rfl ?_) (And.intro (by repeat first|exact trivial|refine And.intro rfl ?_) (Exists.intro m22 (And.intro ⟨bZ, x37.length, cA, x37, (IntKind.i64.wrap (u20 + 1)), rfl, rfl, (aQ.trans cC), bH, (K0 _), aA⟩ (Nat.lt_succ_self _)))))
     ·replace aA := ifN aA aW
      refine And.intro rfl (And.intro (by repeat first|exact trivial|refine And.intro rfl ?_) (And.intro (by repeat first|exact trivial|refine And.intro rfl ?_) (Exists.intro m22 (And.intro ⟨au19, u19.length, cu19, u19, (IntKind.i64.wrap (u20 + 1)), rfl, rfl, aQ, ru19, (K0 _), aA⟩ (Nat.lt_succ_self _)))))
   ·replace aA := ifN aA aR
    have hE := Option.some.inj aA; subst hE
    try dsimp only [T0, U0] at aF
    refine And.intro rfl (And.intro (by repeat first|exact trivial|refine And.intro rfl ?_) (And.intro (by repeat first|exact trivial|refine And.intro rfl ?_) (Exists.intro m16 (And.intro ⟨au19, u19.length, cu19, u19, (IntKind.i64.wrap (u14 + 1)), rfl, rfl, (bK.trans aQ), ru19, (K0 _), aF⟩ (Nat.lt_succ_self _)))))
  ·replace aF := ifN aF aP
   have hE := Option.some.inj aF; subst hE
   try dsimp only [T0, U0] at aB
   have hE := Option.some.inj aB; subst hE
   exact ⟨au13, u13.length, cu13, rfl, ru13, bK⟩
theorem D06 (h : Hp) (aN : List Value) (p0 : l0) (rp0 : W0.R h aN p0) (r : Int) (aH : b00 p0 = some r) :
  Tr Tryz.prog 192 #[.agg aN.toArray] h fun v h' => v = .int .i64 r ∧ h' = h := by
 obtain ⟨aB, aC, aD, aU, aF, aI, rfl, rfl, aJ, aK, aG⟩ := B0 rp0
 obtain ⟨rfl, aV⟩ := Sl.len aG
 unfold b00 at aH
 dsimp only at aH
 refine Tr.forget (Q2 (args := [.agg #[.int .i64 aB, .int .i64 aC, .slice aD aI.length aF]]) (fn := Tryz.f192) rfl ?_)
 obtain ⟨x1, aX, aH⟩ := j0 aH
 refine Tr.mono (e07 _ [.int .i64 aB, .int .i64 aC, .slice aD aI.length aF] (aB, aC, aI) (z0 aJ aK aG) 0 (by decide) _  aX) ?_
 rintro v3 k2 ⟨aY, bB, aZ, rfl, aW, bC⟩
 obtain ⟨rfl, bD⟩ := Sl.len aW
 obtain ⟨X4, aO, aH⟩ := j0 aH
 refine Exists.intro { vars := [4], boxes := [], owns := [], fuel := true } (Exists.intro (fun vs os h' => ∃ (u5 : Int), vs.tail = [.int .i64 u5] ∧ os = [] ∧ Sub k2 h' ∧ D0 u5 ∧ Z6 aC aB aI x1 (L1 vs) u5 = some X4) (Exists.intro (fun _ _ => 0) ?_))
 refine And.intro (Exists.intro Q0 ⟨1, rfl, rfl, (Sub.refl _), (by decide), aO⟩) ?_
 rintro v_0 m7 k6 ⟨u5, aP, aQ, aM, iu5, aA⟩
 cases aP
 cases aQ
 replace aA : Z6 aC aB aI x1 m7 u5 = some X4 := aA
 obtain _ | m7 := m7
 ·cases (show (none : Option _) = some X4 from aA)
 rw [Z6.eq_2] at aA
 refine And.intro (fun aR => ?_) (fun aR => ?_)
 ·replace aA := ifP aA aR
  obtain ⟨x9, bA, aA⟩ := j0 aA
  refine Tr.val (c0a _ [.int .i64 aB, .int .i64 aC, .slice aD aI.length aF] (aB, aC, aI) (z0 aJ aK (I0.mono (bC.trans aM) aG)) u5 iu5 _  bA) ?_
  obtain ⟨q10, aS, aA⟩ := j0 aA
  have bE : D0 x9 := A2 aS
  obtain ⟨x11, aT, aA⟩ := j0 aA
  refine Exists.intro (.bool x11) (And.intro (fun q => r01 _ aY x1.length aZ x1 (Z0.mono aM aW) u5 iu5 _  (V1 aT q)) ?_)
  refine And.intro (fun aL => ?_) (fun aL => ?_)
  ·replace aA := ifP aA aL
   have hE := Option.some.inj aA; subst hE
   try dsimp only [Z2, D3] at aH
   have hE := Option.some.inj aH; subst hE
   exact And.intro rfl (bC.trans aM)
  ·replace aA := ifN aA aL
   refine And.intro rfl (And.intro (by repeat first|exact trivial|refine And.intro rfl ?_) (And.intro (by repeat first|exact trivial|refine And.intro rfl ?_) (Exists.intro m7 (And.intro ⟨(IntKind.i64.wrap (u5 + 1)), rfl, rfl, aM, (K0 _), aA⟩ (Nat.lt_succ_self _)))))
 ·replace aA := ifN aA aR
  have hE := Option.some.inj aA; subst hE
  try dsimp only [T0, U0] at aH
  have hE := Option.some.inj aH; subst hE
  exact And.intro rfl (bC.trans aM)
theorem c02 (h : Hp) (bN : List Value) (p0 : l0) (rp0 : W0.R h bN p0) (ap1 : Option Addr) (np1 cp1 : Nat) (p1 : P0) (rp1 : Z0.R h [.slice ap1 np1 cp1] p1) (r : l0 × Bool) (aB : w6 p0 p1 = some r) :
  Tr Tryz.prog 215 #[.agg bN.toArray, .slice ap1 np1 cp1] h fun v h' => ∃ (cs0 : List Value), v = .tuple #[.agg cs0.toArray, .bool r.2] ∧ W0.R h' cs0 r.1 ∧ Sub h h' := by
 obtain ⟨aC, aD, aI, dQ, aJ, aG, rfl, rfl, aK, aL, aF⟩ := B0 rp0
 obtain ⟨rfl, dR⟩ := Sl.len aF
 obtain ⟨rfl, lp1⟩ := Sl.len rp1
 unfold w6 at aB
 dsimp only at aB
 refine Q2 (args := [.agg #[.int .i64 aC, .int .i64 aD, .slice aI aG.length aJ], .slice ap1 p1.length cp1]) (fn := Tryz.f215) rfl ?_
 obtain ⟨x1, eI, aB⟩ := j0 aB
 refine Tr.val (E5 _ [.int .i64 aC, .int .i64 aD, .slice aI aG.length aJ] (aC, aD, aG) (z0 aK aL aF) _  eI) ?_
 refine And.intro (fun bO => ?_) (fun bO => ?_)
 ·replace aB := ifP aB bO
  obtain ⟨x3, eJ, aB⟩ := j0 aB
  refine Tr.mono (W3 _ [.int .i64 aC, .int .i64 aD, .slice aI aG.length aJ] (aC, aD, aG) (z0 aK aL aF) _  eJ) ?_
  rintro v5 k4 ⟨eK, rfl, eL, eM⟩
  obtain ⟨bP, bQ, aY, dS, aZ, eN, rfl, rfl, bA, bB, aO⟩ := B0 eL
  obtain ⟨rfl, dT⟩ := Sl.len aO
  try dsimp only at aB
  have hE := Option.some.inj aB; subst hE
  exact ⟨([.int .i64 bP, .int .i64 bQ, .slice aY eN.length aZ]), rfl, (z0 bA bB aO), eM⟩
 ·replace aB := ifN aB bO
  obtain ⟨q6, eO, aB⟩ := j0 aB
  refine And.intro (A2 eO) ?_
  obtain ⟨X7, bR, aB⟩ := j0 aB
  refine Exists.intro { vars := [8], boxes := [], owns := [0], fuel := true, kept := [0] } (Exists.intro (fun vs os h' => ∃ (u8 : Int) (wu9 : List (List Value)) (u9 : List Int), vs.tail = [.int .i64 u8] ∧ os = [wu9] ∧ Sub h h' ∧ D0 u8 ∧ F2 (Wp.int.R h') wu9 u9 ∧ d4 p1 aD aC aG (L1 vs) u8 u9 = some X7) (Exists.intro (fun _ _ => 0) ?_))
  refine And.intro (Exists.intro Q0 ⟨0, (List.replicate aD.toNat ([.int .i64 0] : List Value)), (List.replicate aD.toNat (0 : Int)), rfl, rfl, (Sub.refl _), (by decide), (F2.rep (p := Wp.int.R h) (a := [.int .i64 0]) (b := 0) ⟨rfl, (by decide)⟩ (aD.toNat)), bR⟩) ?_
  rintro v_0 wu9 m11 k10 ⟨u8, zzu9, u9, bS, bT, bC, iu8, fu9, aA⟩
  cases bS
  cases bT
  replace aA : d4 p1 aD aC aG m11 u8 u9 = some X7 := aA
  obtain _ | m11 := m11
  ·cases (show (none : Option _) = some X7 from aA)
  rw [d4.eq_2] at aA
  refine And.intro (fun aP => ?_) (fun aP => ?_)
  ·replace aA := ifP aA aP
   refine Or.inl (And.intro (And.intro (by kernel_rfl) (by kernel_rfl)) ?_)
   obtain ⟨x13, bU, aA⟩ := j0 aA
   obtain ⟨bV, dU, bW, bX⟩ := Sl.getI (r := Wp.int.toRp) (Z0.mono bC rp1) bU (by decide)
   refine And.intro bV ?_
   obtain ⟨rfl, bY⟩ := bX
   refine Exists.intro _ (And.intro bW ?_)
   obtain ⟨x14, bZ, aA⟩ := j0 aA
   refine Exists.intro (.bool x14) (And.intro (W5 _ x13 bY 0 (by decide) (IntKind.i64.wrap (aD - 1)) (K0 _) _  bZ) ?_)
   obtain ⟨x15, cA, aA⟩ := j0 aA
   obtain ⟨dV, bD, cC⟩ := Sl.getG (r := Wp.int.toRp) (Z0.mono bC rp1) cA (by decide) (X01 k10)
   refine And.intro (fun q => (bD q).1) ?_
   obtain ⟨rfl, eP⟩ := cC
   refine Exists.intro _ (And.intro (fun q => (bD q).2) ?_)
   obtain ⟨x16, cD, aA⟩ := j0 aA
   obtain ⟨dW, bE, cE⟩ := S03 fu9 cD (X01 k10)
   refine And.intro (fun q => (bE q).1) ?_
   obtain ⟨rfl, eQ⟩ := cE
   refine Exists.intro _ (And.intro (fun q => (bE q).2) ?_)
   refine And.intro (fun aQ => ?_) (fun aQ => ?_)
   ·replace aA := ifP aA aQ
    obtain ⟨x18, cG, aA⟩ := j0 aA
    refine Tr.mono (W3 _ [.int .i64 aC, .int .i64 aD, .slice aI aG.length aJ] (aC, aD, aG) (z0 aK aL (I0.mono bC aF)) _  cG) ?_
    rintro v20 k19 ⟨dX, rfl, cH, cI⟩
    obtain ⟨bF, bG, aR, cJ, aS, dY, rfl, rfl, aT, aU, aM⟩ := B0 cH
    obtain ⟨rfl, cK⟩ := Sl.len aM
    try dsimp only at aA
    have hE := Option.some.inj aA; subst hE
    try dsimp only [Z2, D3] at aB
    have hE := Option.some.inj aB; subst hE
    exact ⟨([.int .i64 bF, .int .i64 bG, .slice aR dY.length aS]), rfl, (z0 aT aU aM), (bC.trans cI)⟩
   ·replace aA := ifN aA aQ
    obtain ⟨x21, cL, aA⟩ := j0 aA
    obtain ⟨cM, dZ, cN, cO⟩ := Sl.getI (r := Wp.int.toRp) (Z0.mono bC rp1) cL (by decide)
    refine And.intro cM ?_
    obtain ⟨rfl, eR⟩ := cO
    refine Exists.intro _ (And.intro cN ?_)
    obtain ⟨x22, cP, aA⟩ := j0 aA
    obtain ⟨cQ, eA, cR, cS⟩ := G6 fu9 cP
    refine And.intro cQ ?_
    obtain ⟨rfl, eT⟩ := cS
    refine Exists.intro _ (And.intro cR ?_)
    refine And.intro rfl (And.intro (by repeat first|exact trivial|refine And.intro rfl ?_) (And.intro (by repeat first|exact trivial|refine And.intro rfl ?_) (Exists.intro m11 (And.intro ⟨(IntKind.i64.wrap (u8 + 1)), (wu9.set x21.toNat [.int .i64 (IntKind.i64.wrap (u8 + 1))]), (u9.set x21.toNat (IntKind.i64.wrap (u8 + 1))), rfl, rfl, bC, (K0 _), (F2.set (p := Wp.int.R k10) (a := [.int .i64 (IntKind.i64.wrap (u8 + 1))]) (b := (IntKind.i64.wrap (u8 + 1))) ⟨rfl, (K0 _)⟩ x21.toNat fu9), aA⟩ (Nat.lt_succ_self _)))))
  ·replace aA := ifN aA aP
   have hE := Option.some.inj aA; subst hE
   try dsimp only [T0, U0] at aB
   obtain ⟨X23, bH, aB⟩ := j0 aB
   refine Exists.intro { vars := [9], boxes := [2], owns := [], fuel := true } (Exists.intro (fun vs os h' => ∃ (u24 : Int) (u25 : Int) (u26 : Int) (au27 : Option Addr) (nu27 cu27 : Nat) (u27 : M0), vs.tail = [.int .i64 u24, .int .i64 u25, .int .i64 u26, .slice au27 nu27 cu27] ∧ os = [] ∧ Sub k10 h' ∧ D0 u24 ∧ D0 u25 ∧ D0 u26 ∧ I0.R h' [.slice au27 nu27 cu27] u27 ∧ I3 aG u9 (L1 vs) u24 u25 u26 u27 = some X23) (Exists.intro (fun _ _ => 0) ?_))
   refine And.intro (Exists.intro Q0 ⟨0, aC, ((p1.length : Nat) : Int), none, 0, 0, [], rfl, rfl, (Sub.refl _), (by decide), aK, (z0l lp1), (U0d S0 k10), bH⟩) ?_
   rintro v_0 v_1 v_2 v_3 m29 k28 ⟨u24, u25, u26, au27, nu27, cu27, u27, bI, bJ, aH, iu24, iu25, iu26, ru27, aA⟩
   cases bI
   cases bJ
   replace aA : I3 aG u9 m29 u24 u25 u26 u27 = some X23 := aA
   obtain _ | m29 := m29
   ·cases (show (none : Option _) = some X23 from aA)
   rw [I3.eq_2] at aA
   obtain ⟨rfl, lu27⟩ := Sl.len ru27
   refine And.intro (fun aV => ?_) (fun aV => ?_)
   ·replace aA := ifP aA aV
    obtain ⟨x31, cT, aA⟩ := j0 aA
    obtain ⟨cU, eB, cV, cW⟩ := Sl.getI (r := S0.toRp) (I0.mono (bC.trans aH) aF) cT (by decide)
    refine And.intro cU ?_
    obtain ⟨eC, aN, eD, rfl, rfl, cX, aW, cY⟩ := C1 cW
    try dsimp only at aA
    refine Exists.intro _ (And.intro cV ?_)
    obtain ⟨x32, cZ, aA⟩ := j0 aA
    obtain ⟨dA, eE, dB, dC⟩ := G6 (F2.up (r := Wp.int.toRp) aH fu9) cZ
    refine And.intro dA ?_
    obtain ⟨rfl, eU⟩ := dC
    refine Exists.intro _ (And.intro dB ?_)
    obtain ⟨x33, dD, aA⟩ := j0 aA
    obtain ⟨eF, bK, dE⟩ := S03 (F2.up (r := Wp.int.toRp) aH fu9) dD (X01 k28)
    refine And.intro (fun q => (bK q).1) ?_
    obtain ⟨rfl, eV⟩ := dE
    refine Exists.intro _ (And.intro (fun q => (bK q).2) ?_)
    refine And.intro (fun aX => ?_) (fun aX => ?_)
    ·replace aA := ifP aA aX
     refine Or.inr (Or.inr (Or.inl (And.intro (And.intro (by kernel_rfl) (by kernel_rfl)) ?_)))
     obtain ⟨x35, dF, aA⟩ := j0 aA
     obtain ⟨dG, eG, dH, dI⟩ := G6 (F2.up (r := Wp.int.toRp) aH fu9) dF
     obtain ⟨rfl, eW⟩ := dI
     refine Or.inl ?_
     apply Exists.intro
     refine And.intro ?_ ?_
     ·intro k36 s37
      exact And.intro dG (And.intro rfl (And.intro rfl rfl))
     refine Or.inl (Exists.intro (.val (.int .i64 x35)) (And.intro ?_ ?_))
     ·intro k38 s39
      exact Exists.intro _ (And.intro dH (And.intro rfl (And.intro rfl rfl)))
     refine Or.inl (Exists.intro (.val (.int .i64 (IntKind.i64.wrap (x35 - 1)))) (And.intro ?_ ?_))
     ·intro k40 s41
      exact And.intro rfl (And.intro rfl rfl)
     obtain ⟨x42, dJ, aA⟩ := j0 aA
     obtain ⟨dK, eH, dL, dM⟩ := G6 (F2.up (r := Wp.int.toRp) aH fu9) dJ
     obtain ⟨rfl, eX⟩ := dM
     refine Or.inl ?_
     apply Exists.intro
     refine And.intro ?_ ?_
     ·intro k43 s44
      exact And.intro dK (And.intro rfl (And.intro rfl rfl))
     refine Or.inl (Exists.intro (.val (.int .i64 x42)) (And.intro ?_ ?_))
     ·intro k45 s46
      exact Exists.intro _ (And.intro dL (And.intro rfl (And.intro rfl rfl)))
     refine Or.inl (Exists.intro (.val (.int .i64 (IntKind.i64.wrap (x42 - 1)))) (And.intro ?_ ?_))
     ·intro k47 s48
      exact And.intro rfl (And.intro rfl rfl)
     refine Or.inl (Exists.intro (.agg [.val (.int .i64 (IntKind.i64.wrap (x35 - 1))), .val (.int .i64 aN), .val (.int .i64 (IntKind.i64.wrap (x42 - 1)))]) (And.intro ?_ ?_))
     ·intro k49 s50
      exact And.intro rfl (And.intro rfl rfl)
     refine Or.inr ?_
     refine Or.inr ?_
     refine Exists.intro 1 (And.intro (And.intro rfl rfl) ?_)
     obtain ⟨x51, dN, aA⟩ := j0 aA
     refine Tr.mono (K9 _ au27 u27.length cu27 u27 ru27 [.int .i64 (IntKind.i64.wrap (x35 - 1)), .int .i64 aN, .int .i64 (IntKind.i64.wrap (x42 - 1))] ((IntKind.i64.wrap (x35 - 1)), aN, (IntKind.i64.wrap (x42 - 1))) (V0 (K0 _) aW (K0 _)) _  dN) ?_
     rintro v53 k52 ⟨dO, eY, dP, rfl, bL, bM⟩
     obtain ⟨rfl, eZ⟩ := Sl.len bL
     refine And.intro (And.intro rfl bM) (And.intro (by first | exact trivial | exact rfl) ?_)
     refine And.intro trivial (And.intro (by first | exact trivial | exact rfl) ?_)
     refine And.intro rfl (And.intro (by repeat first|exact trivial|refine And.intro rfl ?_) (And.intro (by repeat first|exact trivial|refine And.intro rfl ?_) (Exists.intro m29 (And.intro ⟨(IntKind.i64.wrap (u24 + 1)), u25, u26, dO, x51.length, dP, x51, rfl, rfl, (aH.trans bM), (K0 _), iu25, iu26, bL, aA⟩ (Nat.lt_succ_self _)))))
    ·replace aA := ifN aA aX
     refine And.intro rfl (And.intro (by repeat first|exact trivial|refine And.intro rfl ?_) (And.intro (by repeat first|exact trivial|refine And.intro rfl ?_) (Exists.intro m29 (And.intro ⟨(IntKind.i64.wrap (u24 + 1)), u25, u26, au27, u27.length, cu27, u27, rfl, rfl, aH, (K0 _), iu25, iu26, ru27, aA⟩ (Nat.lt_succ_self _)))))
   ·replace aA := ifN aA aV
    have hE := Option.some.inj aA; subst hE
    try dsimp only [T0, U0] at aB
    have hE := Option.some.inj aB; subst hE
    exact ⟨([.int .i64 u25, .int .i64 u26, .slice au27 u27.length cu27]), rfl, (z0 iu25 iu26 ru27), (bC.trans aH)⟩
theorem e04 (h : Hp) (p0 : Int) (ip0 : D0 p0) (r : P0) (aB : o7 p0 = some r) :
  Tr Tryz.prog 146 #[.int .i64 p0] h fun v h' => ∃ (a0 : Option Addr) (n0 c0 : Nat), v = .slice a0 n0 c0 ∧ Z0.R h' [.slice a0 n0 c0] r ∧ Sub h h' := by
 unfold o7 at aB
 refine Q2 (args := [.int .i64 p0]) (fn := Tryz.f146) rfl ?_
 obtain ⟨X1, aC, aB⟩ := j0 aB
 refine Exists.intro { vars := [4], boxes := [], owns := [0], fuel := true } (Exists.intro (fun vs os h' => ∃ (u2 : Int) (wu3 : List (List Value)) (u3 : List Int), vs.tail = [.int .i64 u2] ∧ os = [wu3] ∧ Sub h h' ∧ D0 u2 ∧ F2 (Wp.int.R h') wu3 u3 ∧ A5 p0 (L1 vs) u2 u3 = some X1) (Exists.intro (fun _ _ => 0) ?_))
 refine And.intro (Exists.intro Q0 ⟨1, [], ([] : P0), rfl, rfl, (Sub.refl _), (by decide), (show F2 (Wp.int.R h) ([] : List (List Value)) ([] : P0) from trivial), aC⟩) ?_
 rintro v_0 wu3 m5 k4 ⟨u2, zzu3, u3, aD, aF, aH, iu2, fu3, aA⟩
 cases aD
 cases aF
 replace aA : A5 p0 m5 u2 u3 = some X1 := aA
 obtain _ | m5 := m5
 ·cases (show (none : Option _) = some X1 from aA)
 rw [A5.eq_2] at aA
 refine And.intro (fun aG => ?_) (fun aG => ?_)
 ·replace aA := ifP aA aG
  obtain ⟨q7, aI, aA⟩ := j0 aA
  refine And.intro (J2 aI (by first | rw [F2.length fu3, F2.length (show F2 (Wp.int.R k4) ([[.int .i64 u2]] : List (List Value)) [u2] from ⟨⟨rfl, iu2⟩, trivial⟩)] | exact congrArg (· + 1) (F2.length fu3))) ?_
  obtain ⟨q8, aJ, aA⟩ := j0 aA
  refine And.intro (J2 aJ (by first | rw [F2.length (F2.append fu3 (show F2 (Wp.int.R k4) ([[.int .i64 u2]] : List (List Value)) [u2] from ⟨⟨rfl, iu2⟩, trivial⟩)), F2.length (show F2 (Wp.int.R k4) ([[.int .i64 (IntKind.i64.wrap (0 - u2))]] : List (List Value)) [(IntKind.i64.wrap (0 - u2))] from ⟨⟨rfl, (K0 _)⟩, trivial⟩)] | exact congrArg (· + 1) (F2.length (F2.append fu3 (show F2 (Wp.int.R k4) ([[.int .i64 u2]] : List (List Value)) [u2] from ⟨⟨rfl, iu2⟩, trivial⟩))))) ?_
  refine And.intro rfl (And.intro (by repeat first|exact trivial|refine And.intro rfl ?_) (And.intro (by repeat first|exact trivial|refine And.intro rfl ?_) (Exists.intro m5 (And.intro ⟨(IntKind.i64.wrap (u2 + 1)), ((wu3 ++ ([[.int .i64 u2]] : List (List Value))) ++ ([[.int .i64 (IntKind.i64.wrap (0 - u2))]] : List (List Value))), ((u3 ++ [u2]) ++ [(IntKind.i64.wrap (0 - u2))]), rfl, rfl, aH, (K0 _), (F2.append (F2.append fu3 (show F2 (Wp.int.R k4) ([[.int .i64 u2]] : List (List Value)) [u2] from ⟨⟨rfl, iu2⟩, trivial⟩)) (show F2 (Wp.int.R k4) ([[.int .i64 (IntKind.i64.wrap (0 - u2))]] : List (List Value)) [(IntKind.i64.wrap (0 - u2))] from ⟨⟨rfl, (K0 _)⟩, trivial⟩)), aA⟩ (Nat.lt_succ_self _)))))
 ·replace aA := ifN aA aG
  have hE := Option.some.inj aA; subst hE
  try dsimp only [T0, U0] at aB
  intro v9 k10 f11
  obtain ⟨az12, cz12, rfl, rz12, sz12, lz12⟩ := j1.out (r := Wp.int.toRp) f11 fu3
  have hE := Option.some.inj aB; subst hE
  exact ⟨az12, u3.length, cz12, rfl, rz12, (aH.trans sz12)⟩
theorem O04 (h : Hp) (aY : List Value) (p0 : l0) (rp0 : W0.R h aY p0) (r : P0) (aF : d7 p0 = some r) :
  Tr Tryz.prog 218 #[.agg aY.toArray] h fun v h' => ∃ (a0 : Option Addr) (n0 c0 : Nat), v = .slice a0 n0 c0 ∧ Z0.R h' [.slice a0 n0 c0] r ∧ Sub h h' := by
 obtain ⟨aB, aC, aH, bO, aI, aG, rfl, rfl, aJ, aM, aK⟩ := B0 rp0
 obtain ⟨rfl, bP⟩ := Sl.len aK
 unfold d7 at aF
 dsimp only at aF
 refine Q2 (args := [.agg #[.int .i64 aB, .int .i64 aC, .slice aH aG.length aI]]) (fn := Tryz.f218) rfl ?_
 obtain ⟨x1, bT, aF⟩ := j0 aF
 refine Tr.val (T8 _ [.int .i64 aB, .int .i64 aC, .slice aH aG.length aI] (aB, aC, aG) (z0 aJ aM aK) _  bT) ?_
 refine And.intro (fun aZ => ?_) (fun aZ => ?_)
 ·replace aF := ifP aF aZ
  intro v3 k4 f5
  obtain ⟨az6, cz6, rfl, rz6, sz6, lz6⟩ := j1.out (r := Wp.int.toRp) f5 (show F2 (Wp.int.R h) ([] : List (List Value)) ([] : P0) from trivial)
  have hE := Option.some.inj aF; subst hE
  exact ⟨az6, (([] : P0)).length, cz6, rfl, rz6, sz6⟩
 ·replace aF := ifN aF aZ
  obtain ⟨x7, bU, aF⟩ := j0 aF
  refine Tr.mono (e04 _ aB aJ _  bU) ?_
  rintro v9 k8 ⟨bX, bY, bZ, rfl, bQ, bV⟩
  obtain ⟨rfl, cA⟩ := Sl.len bQ
  obtain ⟨X10, aR, aF⟩ := j0 aF
  refine Exists.intro { vars := [5], boxes := [], owns := [0], fuel := true } (Exists.intro (fun vs os h' => ∃ (u11 : Int) (wu12 : List (List Value)) (u12 : List Int), vs.tail = [.int .i64 u11] ∧ os = [wu12] ∧ Sub k8 h' ∧ D0 u11 ∧ F2 (Wp.int.R h') wu12 u12 ∧ I4 x7 aB aC aG (L1 vs) u11 u12 = some X10) (Exists.intro (fun _ _ => 0) ?_))
  refine And.intro (Exists.intro Q0 ⟨0, ([[.int .i64 0]] : List (List Value)), [0], rfl, rfl, (Sub.refl _), (by decide), (F2.up (r := Wp.int.toRp) bV (show F2 (Wp.int.R h) ([[.int .i64 0]] : List (List Value)) [0] from ⟨⟨rfl, (by decide)⟩, trivial⟩)), aR⟩) ?_
  rintro v_0 wu12 m14 k13 ⟨u11, zzu12, u12, aS, aT, aU, iu11, fu12, aD⟩
  cases aS
  cases aT
  replace aD : I4 x7 aB aC aG m14 u11 u12 = some X10 := aD
  obtain _ | m14 := m14
  ·cases (show (none : Option _) = some X10 from aD)
  rw [I4.eq_2] at aD
  obtain ⟨m15, gm15, aD⟩ := j0 aD
  obtain rfl : wu12.length = m15 := (F2.length fu12).trans (Option.some.inj gm15)
  obtain ⟨q16, bW, aD⟩ := j0 aD
  refine And.intro (fun aN => ?_) (fun aN => ?_)
  ·replace aD := ifP aD aN
   obtain ⟨X18, aV, aD⟩ := j0 aD
   refine Exists.intro { vars := [6], boxes := [], owns := [0], fuel := true } (Exists.intro (fun vs os h' => ∃ (u19 : Int) (wu20 : List (List Value)) (u20 : List Int), vs.tail = [.int .i64 u19] ∧ os = [wu20] ∧ Sub k13 h' ∧ D0 u19 ∧ F2 (Wp.int.R h') wu20 u20 ∧ l3 x7 u11 aB aC aG (L1 vs) u19 u20 = some X18) (Exists.intro (fun _ _ => 0) ?_))
   refine And.intro (Exists.intro Q0 ⟨0, wu12, u12, rfl, rfl, (Sub.refl _), (by decide), fu12, aV⟩) ?_
   rintro v_0 wu20 m22 k21 ⟨u19, zzu20, u20, aW, aX, aL, iu19, fu20, aA⟩
   cases aW
   cases aX
   replace aA : l3 x7 u11 aB aC aG m22 u19 u20 = some X18 := aA
   obtain _ | m22 := m22
   ·cases (show (none : Option _) = some X18 from aA)
   rw [l3.eq_2] at aA
   refine And.intro (fun aO => ?_) (fun aO => ?_)
   ·replace aA := ifP aA aO
    refine Or.inl (And.intro (And.intro (by kernel_rfl) (by kernel_rfl)) ?_)
    obtain ⟨x24, bA, aA⟩ := j0 aA
    obtain ⟨bB, bR, bC, bD⟩ := G6 fu20 bA
    refine And.intro bB ?_
    obtain ⟨rfl, bE⟩ := bD
    refine Exists.intro _ (And.intro bC ?_)
    obtain ⟨x25, bF, aA⟩ := j0 aA
    obtain ⟨bG, bS, bH, bI⟩ := Sl.getI (r := Wp.int.toRp) (Z0.mono (aU.trans aL) bQ) bF (by decide)
    refine And.intro bG ?_
    obtain ⟨rfl, bJ⟩ := bI
    refine Exists.intro _ (And.intro bH ?_)
    obtain ⟨x26, bK, aA⟩ := j0 aA
    refine Exists.intro (.int .i64 x26) (And.intro (t01 _ [.int .i64 aB, .int .i64 aC, .slice aH aG.length aI] (aB, aC, aG) (z0 aJ aM (I0.mono ((bV.trans aU).trans aL) aK)) x24 bE x25 bJ _  bK) ?_)
    obtain ⟨q27, bL, aA⟩ := j0 aA
    have aP : D0 x26 := A2 bL
    obtain ⟨x28, bM, aA⟩ := j0 aA
    refine Exists.intro (.bool x28) (And.intro ?_ ?_)
    ·intro hq
     intro v29 k30 f31
     obtain ⟨az32, cz32, rfl, rz32, sz32, lz32⟩ := j1.out (r := Wp.int.toRp) f31 fu20
     exact r01 _ az32 u20.length cz32 u20 rz32 x26 aP _ (V1 bM hq)
    refine And.intro (fun aQ => ?_) (fun aQ => ?_)
    ·replace aA := ifP aA aQ
     obtain ⟨q34, bN, aA⟩ := j0 aA
     refine And.intro (J2 bN (by first | rw [F2.length fu20, F2.length (show F2 (Wp.int.R k21) ([[.int .i64 x26]] : List (List Value)) [x26] from ⟨⟨rfl, aP⟩, trivial⟩)] | exact congrArg (· + 1) (F2.length fu20))) ?_
     refine And.intro rfl (And.intro (by repeat first|exact trivial|refine And.intro rfl ?_) (And.intro (by repeat first|exact trivial|refine And.intro rfl ?_) (Exists.intro m22 (And.intro ⟨(IntKind.i64.wrap (u19 + 1)), (wu20 ++ ([[.int .i64 x26]] : List (List Value))), (u20 ++ [x26]), rfl, rfl, aL, (K0 _), (F2.append fu20 (show F2 (Wp.int.R k21) ([[.int .i64 x26]] : List (List Value)) [x26] from ⟨⟨rfl, aP⟩, trivial⟩)), aA⟩ (Nat.lt_succ_self _)))))
    ·replace aA := ifN aA aQ
     refine And.intro rfl (And.intro (by repeat first|exact trivial|refine And.intro rfl ?_) (And.intro (by repeat first|exact trivial|refine And.intro rfl ?_) (Exists.intro m22 (And.intro ⟨(IntKind.i64.wrap (u19 + 1)), wu20, u20, rfl, rfl, aL, (K0 _), fu20, aA⟩ (Nat.lt_succ_self _)))))
   ·replace aA := ifN aA aO
    have hE := Option.some.inj aA; subst hE
    try dsimp only [T0, U0] at aD
    refine And.intro rfl (And.intro (by repeat first|exact trivial|refine And.intro rfl ?_) (And.intro (by repeat first|exact trivial|refine And.intro rfl ?_) (Exists.intro m14 (And.intro ⟨(IntKind.i64.wrap (u11 + 1)), wu20, u20, rfl, rfl, (aU.trans aL), (K0 _), fu20, aD⟩ (Nat.lt_succ_self _)))))
  ·replace aD := ifN aD aN
   have hE := Option.some.inj aD; subst hE
   try dsimp only [T0, U0] at aF
   intro v39 k40 f41
   obtain ⟨az42, cz42, rfl, rz42, sz42, lz42⟩ := j1.out (r := Wp.int.toRp) f41 fu12
   have hE := Option.some.inj aF; subst hE
   exact ⟨az42, u12.length, cz42, rfl, rz42, ((bV.trans aU).trans sz42)⟩
theorem A01 (h : Hp) (aZ : List Value) (p0 : l0) (rp0 : W0.R h aZ p0) (r : l0) (aA : Z5 p0 = some r) :
  Tr Tryz.prog 189 #[.agg aZ.toArray] h fun v h' => ∃ (cs0 : List Value), v = .agg cs0.toArray ∧ W0.R h' cs0 r ∧ Sub h h' := by
 obtain ⟨aB, aC, aD, bF, aF, aQ, rfl, rfl, aI, aJ, aG⟩ := B0 rp0
 obtain ⟨rfl, bG⟩ := Sl.len aG
 unfold Z5 at aA
 dsimp only at aA
 refine Q2 (args := [.agg #[.int .i64 aB, .int .i64 aC, .slice aD aQ.length aF]]) (fn := Tryz.f189) rfl ?_
 obtain ⟨x1, bL, aA⟩ := j0 aA
 refine Tr.mono (O04 _ [.int .i64 aB, .int .i64 aC, .slice aD aQ.length aF] (aB, aC, aQ) (z0 aI aJ aG) _  bL) ?_
 rintro v3 k2 ⟨bM, bX, bN, rfl, bH, bI⟩
 obtain ⟨rfl, bY⟩ := Sl.len bH
 refine And.intro (fun bA => ?_) (fun bA => ?_)
 ·replace aA := ifP aA bA
  obtain ⟨x5, bO, aA⟩ := j0 aA
  refine Tr.mono (W3 _ [.int .i64 aB, .int .i64 aC, .slice aD aQ.length aF] (aB, aC, aQ) (z0 aI aJ (I0.mono bI aG)) _  bO) ?_
  rintro v7 k6 ⟨bP, rfl, bQ, bR⟩
  obtain ⟨bB, bC, aT, bJ, aU, bS, rfl, rfl, aV, aW, aO⟩ := B0 bQ
  obtain ⟨rfl, bK⟩ := Sl.len aO
  try dsimp only at aA
  have hE := Option.some.inj aA; subst hE
  exact ⟨([.int .i64 bB, .int .i64 bC, .slice aT bS.length aU]), rfl, (z0 aV aW aO), (bI.trans bR)⟩
 ·replace aA := ifN aA bA
  obtain ⟨x8, bT, aA⟩ := j0 aA
  refine Tr.mono (c02 _ [.int .i64 aB, .int .i64 aC, .slice aD aQ.length aF] (aB, aC, aQ) (z0 aI aJ (I0.mono bI aG)) bM x1.length bN x1 bH _  bT) ?_
  rintro v10 k9 ⟨bD, rfl, aP, bU⟩
  obtain ⟨bV, bW⟩ := x8
  dsimp only at aA aP
  obtain ⟨aR, aS, aK, aX, aL, bE, rfl, rfl, aM, aN, aH⟩ := B0 aP
  obtain ⟨rfl, aY⟩ := Sl.len aH
  try dsimp only at aA
  have hE := Option.some.inj aA; subst hE
  exact ⟨([.int .i64 aR, .int .i64 aS, .slice aK bE.length aL]), rfl, (z0 aM aN aH), (bI.trans bU)⟩
theorem r0c (h : Hp) (aW : List Value) (p0 : l0) (rp0 : W0.R h aW p0) (r : Bool) (aI : c00 p0 = some r) :
  Tr Tryz.prog 135 #[.agg aW.toArray] h fun v h' => v = .bool r ∧ h' = h := by
 obtain ⟨aA, aB, aF, bD, aG, aO, rfl, rfl, aJ, aK, aH⟩ := B0 rp0
 obtain ⟨rfl, bE⟩ := Sl.len aH
 unfold c00 at aI
 dsimp only at aI
 refine Tr.forget (Q2 (args := [.agg #[.int .i64 aA, .int .i64 aB, .slice aF aO.length aG]]) (fn := Tryz.f135) rfl ?_)
 refine Or.inr (Or.inr (Or.inr (Or.inl (And.intro (And.intro (by kernel_rfl) (by kernel_rfl)) ?_))))
 obtain ⟨x1, bG, aI⟩ := j0 aI
 refine Or.inl (Exists.intro (.val (.bool x1)) (And.intro ?_ ?_))
 ·intro k2 s3
  exact Tr.val (T8 _ [.int .i64 aA, .int .i64 aB, .slice aF aO.length aG] (aA, aB, aO) (z0 aJ aK (I0.mono s3 aH)) _ bG) (And.intro rfl (And.intro rfl rfl))
 obtain ⟨x4, bH, aI⟩ := j0 aI
 obtain ⟨q5, bI, aI⟩ := j0 aI
 have bJ : D0 x4 := A2 bI
 refine Or.inl (Exists.intro (.val (.int .i64 x4)) (And.intro ?_ ?_))
 ·intro k6 s7 hq
  exact Tr.val (D06 _ [.int .i64 aA, .int .i64 aB, .slice aF aO.length aG] (aA, aB, aO) (z0 aJ aK (I0.mono s7 aH)) _ (V1 bH hq)) (And.intro rfl (And.intro rfl rfl))
 refine Or.inl (Exists.intro (.val (.bool (decide (x4 < 0)))) (And.intro ?_ ?_))
 ·intro k8 s9 hq
  exact And.intro rfl (And.intro rfl rfl)
 obtain ⟨x10, aX, aI⟩ := j0 aI
 obtain ⟨aL, aM, aU⟩ := x10
 try dsimp only at aI
 refine Or.inr (Exists.intro (fun v hh => ∃ (aC : Option Addr) (aD : Nat), v = .agg #[.int .i64 aL, .int .i64 aM, .slice aC aU.length aD] ∧ D0 aL ∧ D0 aM ∧ I0.R hh [.slice aC aU.length aD] aU ∧ aU.length ≤ 9223372036854775807) (And.intro (fun v h1 h2 sb q => by obtain ⟨aC, aD, e, f0, f1, f2, f3⟩ := q; exact ⟨aC, aD, e, f0, f1, I0.mono sb f2, f3⟩) (And.intro ?_ ?_)))
 ·intro k11 s12 hq
  refine Tr.mono (A01 _ [.int .i64 aA, .int .i64 aB, .slice aF aO.length aG] (aA, aB, aO) (z0 aJ aK (I0.mono s12 aH)) _ (V1 aX hq)) ?_
  rintro _ kk ⟨bF, rfl, aY, sb⟩
  obtain ⟨aZ, bA, aP, aV, aQ, bB, rfl, ey, aR, aS, aN⟩ := B0 aY
  cases ey
  obtain ⟨rfl, aT⟩ := Sl.len aN
  exact And.intro J02 (And.intro sb ⟨aP, aQ, rfl, aR, aS, aN, aT⟩)
 obtain ⟨x13, bC, aI⟩ := j0 aI
 refine Or.inl (Exists.intro (.val (.bool x13)) (And.intro ?_ ?_))
 ·intro k14 s15 hq
  rintro _ ⟨az162, cz162, rfl, iz160, iz161, rz162, lz162⟩
  exact Tr.val (d07 _ [.int .i64 aL, .int .i64 aM, .slice az162 aU.length cz162] (aL, aM, aU) (z0 iz160 iz161 rz162) [.int .i64 aA, .int .i64 aB, .slice aF aO.length aG] (aA, aB, aO) (z0 aJ aK (I0.mono s15 aH)) _ (V1 bC hq)) (And.intro rfl (And.intro rfl rfl))
 intro k17 s18
 have hE := Option.some.inj aI; subst hE
 exact And.intro rfl s18
theorem o08 (h : Hp) (aJ : List Value) (p0 : l0) (rp0 : W0.R h aJ p0) (r : Bool) (aG : W8 p0 = some r) :
  Tr Tryz.prog 80 #[.agg aJ.toArray] h fun v h' => v = .bool r ∧ h' = h := by
 obtain ⟨aD, aF, aA, aL, aB, aK, rfl, rfl, aH, aI, aC⟩ := B0 rp0
 obtain ⟨rfl, aM⟩ := Sl.len aC
 unfold W8 at aG
 dsimp only at aG
 refine Tr.forget (Q2 (args := [.agg #[.int .i64 aD, .int .i64 aF, .slice aA aK.length aB]]) (fn := Tryz.f80) rfl ?_)
 obtain ⟨x1, aN, aG⟩ := j0 aG
 refine Tr.val (r0c _ [.int .i64 aD, .int .i64 aF, .slice aA aK.length aB] (aD, aF, aK) (z0 aH aI aC) _  aN) ?_
 have hE := Option.some.inj aG; subst hE
 exact And.intro rfl (Sub.refl _)
end Go.Proofs.YtfdlgbfeceodeaaGreat
