/- Texts of the claim, joined: The walks of batch h3; The walks of batch h4; The walks of batch i2; The walks of batch i4. -/
import Derived.Test.YtfdlgbfeceodeaaGreatPart18
import Derived.Test.YtfdlgbfeceodeaaGreatChecked
import Derived.Test.YtfdlgbfeceodeaaGreatH35
import Derived.Test.YtfdlgbfeceodeaaGreatPart25
import Derived.Test.YtfdlgbfeceodeaaGreatPart27
import Derived.Test.YtfdlgbfeceodeaaGreatSE
import Derived.Test.YtfdlgbfeceodeaaGreatPart21
import Derived.Test.YtfdlgbfeceodeaaGreatH41
namespace Go.Proofs.YtfdlgbfeceodeaaGreat
open Go.H
set_option linter.unusedVariables false
set_option linter.unusedSimpArgs false
set_option maxRecDepth 10000
theorem N05 (h : Hp) (p0 : Int) (ip0 : D0 p0) (p1 : Int) (ip1 : D0 p1) (p2 : Int) (ip2 : D0 p2) (r : C0) (aA : z00 p0 p1 p2 = some r) :
  Tr Tryz.prog 103 #[.int .i64 p0, .int .i64 p1, .int .i64 p2] h fun v h' => ∃ (cs0 : List Value), v = .agg cs0.toArray ∧ S0.R h' cs0 r ∧ Sub h h' := by
 unfold z00 at aA
 refine Q2 (args := [.int .i64 p0, .int .i64 p1, .int .i64 p2]) (fn := Tryz.f103) rfl ?_
 refine And.intro (fun aB => ?_) (fun aB => ?_)
 ·replace aA := ifP aA aB
  have hE := Option.some.inj aA; subst hE
  exact ⟨([.int .i64 p2, .int .i64 (IntKind.i64.wrap (0 - p1)), .int .i64 p0]), rfl, (V0 ip2 (K0 _) ip0), (Sub.refl _)⟩
 ·replace aA := ifN aA aB
  have hE := Option.some.inj aA; subst hE
  exact ⟨([.int .i64 p0, .int .i64 p1, .int .i64 p2]), rfl, (V0 ip0 ip1 ip2), (Sub.refl _)⟩
theorem K00 (h : Hp) (ap0 : Option Addr) (np0 cp0 : Nat) (p0 : M0) (rp0 : I0.R h [.slice ap0 np0 cp0] p0) (aH : List Value) (p1 : C0) (rp1 : S0.R h aH p1) (r : Int) (aF : w4 p0 p1 = some r) :
  Tr Tryz.prog 210 #[.slice ap0 np0 cp0, .agg aH.toArray] h fun v h' => v = .int .i64 r ∧ h' = h := by
 obtain ⟨rfl, lp0⟩ := Sl.len rp0
 obtain ⟨aB, aC, aD, rfl, rfl, aQ, aR, aS⟩ := C1 rp1
 unfold w4 at aF
 dsimp only at aF
 refine Tr.forget (Q2 (args := [.slice ap0 p0.length cp0, .agg #[.int .i64 aB, .int .i64 aC, .int .i64 aD]]) (fn := Tryz.f210) rfl ?_)
 obtain ⟨X1, aI, aF⟩ := j0 aF
 refine Exists.intro { vars := [8], boxes := [], owns := [], fuel := true } (Exists.intro (fun vs os h' => ∃ (u2 : Int), vs.tail = [.int .i64 u2] ∧ os = [] ∧ Sub h h' ∧ D0 u2 ∧ E1 p0 aB aC aD (L1 vs) u2 = some X1) (Exists.intro (fun _ _ => 0) ?_))
 refine And.intro (Exists.intro Q0 ⟨0, rfl, rfl, (Sub.refl _), (by decide), aI⟩) ?_
 rintro v_0 m4 k3 ⟨u2, aJ, aK, aG, iu2, aA⟩
 cases aJ
 cases aK
 replace aA : E1 p0 aB aC aD m4 u2 = some X1 := aA
 obtain _ | m4 := m4
 ·cases (show (none : Option _) = some X1 from aA)
 rw [E1.eq_2] at aA
 refine And.intro (fun aL => ?_) (fun aL => ?_)
 ·replace aA := ifP aA aL
  refine Or.inl (And.intro (And.intro (by kernel_rfl) (by kernel_rfl)) ?_)
  obtain ⟨x6, aW, aA⟩ := j0 aA
  obtain ⟨aX, aY, aZ, bA⟩ := Sl.getI (r := S0.toRp) (I0.mono aG rp0) aW (by decide)
  refine And.intro aX ?_
  obtain ⟨aM, aN, aO, rfl, rfl, aT, aU, aV⟩ := C1 bA
  try dsimp only at aA
  refine Exists.intro _ (And.intro aZ ?_)
  refine Exists.intro (eqE (aB, aC, aD) (aM, aN, aO)) (And.intro (n0i _ _ _ rfl _ _ _ _ _ _) ?_)
  refine And.intro (fun aP => ?_) (fun aP => ?_)
  ·replace aA := ifP aA aP
   have hE := Option.some.inj aA; subst hE
   try dsimp only [Z2, D3] at aF
   have hE := Option.some.inj aF; subst hE
   exact And.intro rfl aG
  ·replace aA := ifN aA aP
   refine And.intro rfl (And.intro (by repeat first|exact trivial|refine And.intro rfl ?_) (And.intro (by repeat first|exact trivial|refine And.intro rfl ?_) (Exists.intro m4 (And.intro ⟨(IntKind.i64.wrap (u2 + 1)), rfl, rfl, aG, (K0 _), aA⟩ (Nat.lt_succ_self _)))))
 ·replace aA := ifN aA aL
  have hE := Option.some.inj aA; subst hE
  try dsimp only [T0, U0] at aF
  have hE := Option.some.inj aF; subst hE
  exact And.intro rfl aG
theorem j00 (h : Hp) (ap0 : Option Addr) (np0 cp0 : Nat) (p0 : M0) (rp0 : I0.R h [.slice ap0 np0 cp0] p0) (aI : List Value) (p1 : C0) (rp1 : S0.R h aI p1) (r : Bool) (aA : N2 p0 p1 = some r) :
  Tr Tryz.prog 159 #[.slice ap0 np0 cp0, .agg aI.toArray] h fun v h' => v = .bool r ∧ h' = h := by
 obtain ⟨rfl, lp0⟩ := Sl.len rp0
 obtain ⟨aB, aC, aD, rfl, rfl, aF, aG, aH⟩ := C1 rp1
 unfold N2 at aA
 dsimp only at aA
 refine Tr.forget (Q2 (args := [.slice ap0 p0.length cp0, .agg #[.int .i64 aB, .int .i64 aC, .int .i64 aD]]) (fn := Tryz.f159) rfl ?_)
 obtain ⟨x1, aJ, aA⟩ := j0 aA
 refine Tr.val (K00 _ ap0 p0.length cp0 p0 rp0 [.int .i64 aB, .int .i64 aC, .int .i64 aD] (aB, aC, aD) (V0 aF aG aH) _  aJ) ?_
 obtain ⟨q2, aK, aA⟩ := j0 aA
 have aL : D0 x1 := A2 aK
 have hE := Option.some.inj aA; subst hE
 exact And.intro rfl (Sub.refl _)
theorem v01 (h : Hp) (p0 : Int) (ip0 : D0 p0) (bp1 : Nat) (typ1 : TypeId) (aC : Int) (aG : D0 aC) (aB : Int) (aH : D0 aB) (hbp1 : h bp1 = some (.cells #[.int .i64 aC, .int .i64 aB] typ1 (0, 0))) (r : Int) (aA : J5 p0 (aC, aB) = some r) :
  Tr Tryz.prog 227 #[.int .i64 p0, ptr bp1 0] h fun v h' => v = .int .i64 r ∧ h' = h := by
 unfold J5 at aA
 dsimp only at aA
 refine Tr.forget (Q2 (args := [.int .i64 p0, ptr bp1 0]) (fn := Tryz.f227) rfl ?_)
 refine Exists.intro (.int .i64 aB) (And.intro ⟨rfl, by simp [Hp.cell, (hbp1)]⟩ ?_)
 refine And.intro (fun aD => ?_) (fun aD => ?_)
 ·replace aA := ifP aA aD
  refine Exists.intro (.int .i64 aC) (And.intro ⟨rfl, by simp [Hp.cell, (hbp1)]⟩ ?_)
  have hE := Option.some.inj aA; subst hE
  exact And.intro rfl (Sub.refl _)
 ·replace aA := ifN aA aD
  refine Exists.intro (.int .i64 aB) (And.intro ⟨rfl, by simp [Hp.cell, (hbp1)]⟩ ?_)
  refine And.intro (fun aF => ?_) (fun aF => ?_)
  ·replace aA := ifP aA aF
   have hE := Option.some.inj aA; subst hE
   exact And.intro rfl (Sub.refl _)
  ·replace aA := ifN aA aF
   have hE := Option.some.inj aA; subst hE
   exact And.intro rfl (Sub.refl _)
theorem O05 (h : Hp) (bO : List Value) (p0 : l0) (rp0 : W0.R h bO p0) (p1 : Int) (ip1 : D0 p1) (ap2 : Option Addr) (np2 cp2 : Nat) (p2 : P0) (rp2 : Z0.R h [.slice ap2 np2 cp2] p2) (p3 : Int) (ip3 : D0 p3) (r : l0 × Bool) (aB : H8 p0 p1 p2 p3 = some r) :
  Tr Tryz.prog 98 #[.agg bO.toArray, .int .i64 p1, .slice ap2 np2 cp2, .int .i64 p3] h fun v h' => ∃ (cs0 : List Value), v = .tuple #[.agg cs0.toArray, .bool r.2] ∧ New W0 h h' cs0 r.1 := by
 obtain ⟨aC, aK, aL, cH, aM, aW, rfl, rfl, aN, aP, aO⟩ := B0 rp0
 obtain ⟨rfl, cI⟩ := Sl.len aO
 obtain ⟨rfl, lp2⟩ := Sl.len rp2
 unfold H8 at aB
 dsimp only at aB
 refine Q2 (args := [.agg #[.int .i64 aC, .int .i64 aK, .slice aL aW.length aM], .int .i64 p1, .slice ap2 p2.length cp2, .int .i64 p3]) (fn := Tryz.f98) rfl ?_
 obtain ⟨x1, cP, aB⟩ := j0 aB
 refine Tr.mono (N3 _ [.int .i64 aC, .int .i64 aK, .slice aL aW.length aM] (aC, aK, aW) (z0 aN aP aO) _  cP) ?_
 rintro v3 k2 ⟨aX, cJ, aY, rfl, wx1⟩
 have bD : Sub h k2 := wx1.sub
 have cK := wx1.r
 obtain ⟨bE, bF, bP⟩ := x1
 dsimp only at aB wx1 cK
 obtain ⟨_, _, _, _, _, _, ecx1, exx1, aZ, bA, bG⟩ := B0 cK
 cases ecx1
 cases exx1
 obtain ⟨rfl, cL⟩ := Sl.len bG
 try dsimp only at aB
 have we4 := New.sndI (New.sndI (wx1))
 obtain ⟨x5, cQ, aB⟩ := j0 aB
 refine Tr.val (K8 _ [.int .i64 aC, .int .i64 aK, .slice aL aW.length aM] (aC, aK, aW) (z0 aN aP (I0.mono bD aO)) _  cQ) ?_
 obtain ⟨x6, cR, aB⟩ := j0 aB
 refine Exists.intro (.bool x6) (And.intro (fun q => I00 _ [.int .i64 aC, .int .i64 aK, .slice aL aW.length aM] (aC, aK, aW) (z0 aN aP (I0.mono bD aO)) p1 ip1 _  (V1 cR q)) ?_)
 obtain ⟨x7, cS, aB⟩ := j0 aB
 refine Exists.intro (.bool x7) (And.intro (fun q => I00 _ [.int .i64 aC, .int .i64 aK, .slice aL aW.length aM] (aC, aK, aW) (z0 aN aP (I0.mono bD aO)) p3 ip3 _  (V1 cS q)) ?_)
 obtain ⟨x8, cT, aB⟩ := j0 aB
 refine Exists.intro (.bool x8) (And.intro (fun q => A03 _ aC aN ap2 p2.length cp2 p2 (Z0.mono bD rp2) _  (V1 cT q)) ?_)
 refine And.intro (fun bQ => ?_) (fun bQ => ?_)
 ·replace aB := ifP aB bQ
  have hE := Option.some.inj aB; subst hE
  exact ⟨([.int .i64 bE, .int .i64 bF, .slice (some ⟨aX, 0, none⟩) bP.length aY]), rfl, (New.pair (New.int aZ) (New.pair (New.int bA) we4))⟩
 ·replace aB := ifN aB bQ
  obtain ⟨X10, bH, aB⟩ := j0 aB
  refine Exists.intro { vars := [11, 66], boxes := [2], owns := [], fuel := true } (Exists.intro (fun vs os h' => ∃ (u11 : Int) (u12 : Int) (u13 : Int) (u14 : Int) (gau15 oau15 nu15 cu15 : Nat) (u15 : M0), vs.tail = [.int .i64 u11, .int .i64 u12, .int .i64 u13, .int .i64 u14, .slice (some ⟨gau15, oau15, none⟩) nu15 cu15] ∧ os = [] ∧ Sub h h' ∧ D0 u11 ∧ D0 u12 ∧ D0 u13 ∧ D0 u14 ∧ New I0 h h' [.slice (some ⟨gau15, oau15, none⟩) nu15 cu15] u15 ∧ K5 p2 p3 (L1 vs) u11 u12 u13 u14 u15 = some X10) (Exists.intro (fun _ _ => 0) ?_))
  refine And.intro (Exists.intro Q0 ⟨p1, 0, bE, bF, aX, 0, bP.length, aY, bP, rfl, rfl, bD, ip1, (by decide), aZ, bA, we4, bH⟩) ?_
  rintro v_0 v_1 v_2 v_3 v_4 m17 k16 ⟨u11, u12, u13, u14, gau15, oau15, nu15, cu15, u15, bI, bJ, bK, iu11, iu12, iu13, iu14, wwu15, aA⟩
  cases bI
  cases bJ
  replace aA : K5 p2 p3 m17 u11 u12 u13 u14 u15 = some X10 := aA
  obtain _ | m17 := m17
  ·cases (show (none : Option _) = some X10 from aA)
  rw [K5.eq_2] at aA
  have ru15 := wwu15.r
  obtain ⟨rfl, lu15⟩ := Sl.len ru15
  refine And.intro (fun bB => ?_) (fun bB => ?_)
  ·replace aA := ifP aA bB
   obtain ⟨x19, bR, aA⟩ := j0 aA
   obtain ⟨bS, cM, bT, bU⟩ := Sl.getI (r := Wp.int.toRp) (Z0.mono bK rp2) bR (by decide)
   refine And.intro bS ?_
   obtain ⟨rfl, bL⟩ := bU
   refine Exists.intro _ (And.intro bT ?_)
   refine And.intro (fun bC => ?_) (fun bC => ?_)
   ·replace aA := ifP aA bC
    refine Or.inr (Or.inr (Or.inl (And.intro (And.intro (by kernel_rfl) (by kernel_rfl)) ?_)))
    refine Or.inr ?_
    refine Or.inr ?_
    refine Or.inr ?_
    refine Or.inr ?_
    refine Exists.intro 1 (And.intro (And.intro rfl rfl) ?_)
    obtain ⟨x21, bV, aA⟩ := j0 aA
    refine Tr.mono (N05 _ u11 iu11 x19 bL u14 iu14 _  bV) ?_
    rintro v23 k22 ⟨cN, rfl, bW, bM⟩
    obtain ⟨aD, aF, aG, rfl, rfl, aQ, aR, aS⟩ := C1 bW
    try dsimp only at aA
    refine And.intro (And.intro rfl bM) (And.intro (by first | exact trivial | exact rfl) ?_)
    refine And.intro trivial (And.intro (by first | exact trivial | exact rfl) ?_)
    obtain ⟨q24, bX, aA⟩ := j0 aA
    obtain ⟨vsz25, rxz25, lnz25, apz25⟩ := New.app wwu15 bM
    refine Exists.intro vsz25 (And.intro rxz25 (And.intro (J2 bX (by first | rw [lnz25, F2.length (show F2 (S0.R k22) ([[.int .i64 aD, .int .i64 aF, .int .i64 aG]] : List (List Value)) [(aD, aF, aG)] from ⟨(V0 aQ aR aS), trivial⟩)] | (rw [lnz25]; rfl))) ?_))
    intro vz25 kz25 happz25
    obtain ⟨wz25, gz25, oz25, nz25, cz25, rfl⟩ := apz25 _ _ _ _ _ (F3.ofPlain (k09 _) (show F2 (S0.R k22) ([[.int .i64 aD, .int .i64 aF, .int .i64 aG]] : List (List Value)) [(aD, aF, aG)] from ⟨(V0 aQ aR aS), trivial⟩)) w7.ofPlain happz25
    have rz25 := wz25.r
    obtain ⟨ez25, lz25⟩ := Sl.len rz25
    subst ez25
    refine And.intro trivial (And.intro (by first | exact trivial | exact rfl) ?_)
    refine And.intro trivial (And.intro (by first | exact trivial | exact rfl) ?_)
    refine And.intro rfl (And.intro (by repeat first|exact trivial|refine And.intro rfl ?_) (And.intro (by repeat first|exact trivial|refine And.intro rfl ?_) (Exists.intro m17 (And.intro ⟨u14, (IntKind.i64.wrap (u12 + 1)), u13, (IntKind.i64.wrap (u14 + 1)), gz25, oz25, (u15 ++ [(aD, aF, aG)]).length, cz25, (u15 ++ [(aD, aF, aG)]), rfl, rfl, wz25.sub, iu14, (K0 _), iu13, (K0 _), wz25, aA⟩ (Nat.lt_succ_self _)))))
   ·replace aA := ifN aA bC
    refine Or.inr (Or.inr (Or.inl (And.intro (And.intro (by kernel_rfl) (by kernel_rfl)) ?_)))
    refine Or.inr ?_
    refine Or.inr ?_
    refine Or.inr ?_
    refine Or.inr ?_
    refine Exists.intro 1 (And.intro (And.intro rfl rfl) ?_)
    obtain ⟨x26, bY, aA⟩ := j0 aA
    refine Tr.mono (N05 _ u11 iu11 x19 bL p3 ip3 _  bY) ?_
    rintro v28 k27 ⟨cO, rfl, bZ, bN⟩
    obtain ⟨aH, aI, aJ, rfl, rfl, aT, aU, aV⟩ := C1 bZ
    try dsimp only at aA
    refine And.intro (And.intro rfl bN) (And.intro (by first | exact trivial | exact rfl) ?_)
    refine And.intro trivial (And.intro (by first | exact trivial | exact rfl) ?_)
    obtain ⟨q29, cA, aA⟩ := j0 aA
    obtain ⟨vsz30, rxz30, lnz30, apz30⟩ := New.app wwu15 bN
    refine Exists.intro vsz30 (And.intro rxz30 (And.intro (J2 cA (by first | rw [lnz30, F2.length (show F2 (S0.R k27) ([[.int .i64 aH, .int .i64 aI, .int .i64 aJ]] : List (List Value)) [(aH, aI, aJ)] from ⟨(V0 aT aU aV), trivial⟩)] | (rw [lnz30]; rfl))) ?_))
    intro vz30 kz30 happz30
    obtain ⟨wz30, gz30, oz30, nz30, cz30, rfl⟩ := apz30 _ _ _ _ _ (F3.ofPlain (k09 _) (show F2 (S0.R k27) ([[.int .i64 aH, .int .i64 aI, .int .i64 aJ]] : List (List Value)) [(aH, aI, aJ)] from ⟨(V0 aT aU aV), trivial⟩)) w7.ofPlain happz30
    have rz30 := wz30.r
    obtain ⟨ez30, lz30⟩ := Sl.len rz30
    subst ez30
    refine And.intro trivial (And.intro (by first | exact trivial | exact rfl) ?_)
    refine And.intro trivial (And.intro (by first | exact trivial | exact rfl) ?_)
    refine And.intro rfl (And.intro (by repeat first|exact trivial|refine And.intro rfl ?_) (And.intro (by repeat first|exact trivial|refine And.intro rfl ?_) (Exists.intro m17 (And.intro ⟨p3, (IntKind.i64.wrap (u12 + 1)), u13, u14, gz30, oz30, (u15 ++ [(aH, aI, aJ)]).length, cz30, (u15 ++ [(aH, aI, aJ)]), rfl, rfl, wz30.sub, ip3, (K0 _), iu13, iu14, wz30, aA⟩ (Nat.lt_succ_self _)))))
  ·replace aA := ifN aA bB
   have hE := Option.some.inj aA; subst hE
   try dsimp only [T0, U0] at aB
   obtain ⟨x31, cC, aB⟩ := j0 aB
   refine Tr.mono (P01 _ (some ⟨gau15, oau15, none⟩) u15.length cu15 u15 ru15 _  cC) ?_
   rintro v33 k32 ⟨cD, cU, cE, rfl, wx31⟩
   have cV : Sub k16 k32 := wx31.sub
   have cG := wx31.r
   obtain ⟨rfl, cW⟩ := Sl.len cG
   have hE := Option.some.inj aB; subst hE
   exact ⟨([.int .i64 u13, .int .i64 u14, .slice cD x31.length cE]), rfl, (New.pair (New.int iu13) (New.pair (New.int iu14) (New.from wx31 bK)))⟩
theorem k0a (h : Hp) (p0 : Int) (ip0 : D0 p0) (r : l0 × Bool) (aA : T9 p0 = some r) :
  Tr Tryz.prog 190 #[.int .i64 p0] h fun v h' => ∃ (cs0 : List Value), v = .tuple #[.agg cs0.toArray, .bool r.2] ∧ New W0 h h' cs0 r.1 := by
 unfold T9 at aA
 refine Q2 (args := [.int .i64 p0]) (fn := Tryz.f190) rfl ?_
 obtain ⟨x1, aC, aA⟩ := j0 aA
 refine Tr.val (i8 _ p0 ip0 1 (by decide) 3 (by decide) _  aC) ?_
 refine And.intro (fun aB => ?_) (fun aB => ?_)
 ·replace aA := ifP aA aB
  have hE := Option.some.inj aA; subst hE
  exact ⟨([.int .i64 0, .int .i64 0, .slice none 0 0]), rfl, (New.pair (New.int (by decide)) (New.pair (New.int (by decide)) ((New.nilSlice (r := S0)).mono (Sub.refl _))))⟩
 ·replace aA := ifN aA aB
  have hE := Option.some.inj aA; subst hE
  exact ⟨([.int .i64 p0, .int .i64 1, .slice none 0 0]), rfl, (New.pair (New.int ip0) (New.pair (New.int (by decide)) ((New.nilSlice (r := S0)).mono (Sub.refl _))))⟩
theorem l0a (h : Hp) (aU : List Value) (p0 : l0) (rp0 : W0.R h aU p0) (ap1 : Option Addr) (np1 cp1 : Nat) (p1 : P0) (rp1 : Z0.R h [.slice ap1 np1 cp1] p1) (r : l0 × Bool) (aK : U9 p0 p1 = some r) :
  Tr Tryz.prog 191 #[.agg aU.toArray, .slice ap1 np1 cp1] h fun v h' => ∃ (cs0 : List Value), v = .tuple #[.agg cs0.toArray, .bool r.2] ∧ New W0 h h' cs0 r.1 := by
 obtain ⟨aL, aM, aG, aY, aH, aV, rfl, rfl, aP, aQ, aI⟩ := B0 rp0
 obtain ⟨rfl, aZ⟩ := Sl.len aI
 obtain ⟨rfl, lp1⟩ := Sl.len rp1
 unfold U9 at aK
 dsimp only at aK
 refine Q2 (args := [.agg #[.int .i64 aL, .int .i64 aM, .slice aG aV.length aH], .slice ap1 p1.length cp1]) (fn := Tryz.f191) rfl ?_
 obtain ⟨x1, bA, aK⟩ := j0 aK
 refine Tr.mono (O05 _ [.int .i64 aL, .int .i64 aM, .slice aG aV.length aH] (aL, aM, aV) (z0 aP aQ aI) 0 (by decide) ap1 p1.length cp1 p1 rp1 0 (by decide) _  bA) ?_
 rintro v3 k2 ⟨aW, rfl, aJ⟩
 obtain ⟨bB, bC⟩ := x1
 dsimp only at aK aJ
 have bD : Sub h k2 := aJ.sub
 have aR := aJ.r
 obtain ⟨aN, aO, aA, aS, aB, aX, rfl, rfl, aC, aD, aF⟩ := B0 aR
 obtain ⟨rfl, aT⟩ := Sl.len aF
 try dsimp only at aK
 have we4 := New.sndI (New.sndI (aJ))
 have hE := Option.some.inj aK; subst hE
 exact ⟨([.int .i64 aN, .int .i64 aO, .slice aA aX.length aB]), rfl, (New.pair (New.int aC) (New.pair (New.int aD) we4))⟩
theorem m0a (h : Hp) (p0 : Int) (ip0 : D0 p0) (ap1 : Option Addr) (np1 cp1 : Nat) (p1 : V3) (rp1 : n5.R h [.slice ap1 np1 cp1] p1) (r : l0 × Bool) (aB : V9 p0 p1 = some r) :
  Tr Tryz.prog 130 #[.int .i64 p0, .slice ap1 np1 cp1] h fun v h' => ∃ (cs0 : List Value), v = .tuple #[.agg cs0.toArray, .bool r.2] ∧ New W0 h h' cs0 r.1 := by
 obtain ⟨rfl, lp1⟩ := Sl.len rp1
 unfold V9 at aB
 refine Q2 (args := [.int .i64 p0, .slice ap1 p1.length cp1]) (fn := Tryz.f130) rfl ?_
 obtain ⟨x1, bV, aB⟩ := j0 aB
 refine Tr.val (M04 _ p0 ip0 ap1 p1.length cp1 p1 rp1 _  bV) ?_
 refine And.intro (fun bF => ?_) (fun bF => ?_)
 ·replace aB := ifP aB bF
  have hE := Option.some.inj aB; subst hE
  exact ⟨([.int .i64 0, .int .i64 0, .slice none 0 0]), rfl, (New.pair (New.int (by decide)) (New.pair (New.int (by decide)) ((New.nilSlice (r := S0)).mono (Sub.refl _))))⟩
 ·replace aB := ifN aB bF
  obtain ⟨x3, bW, aB⟩ := j0 aB
  refine Tr.mono (k0a _ p0 ip0 _  bW) ?_
  rintro v5 k4 ⟨bG, rfl, aR⟩
  obtain ⟨bX, bY⟩ := x3
  dsimp only at aB aR
  have cC : Sub h k4 := aR.sub
  have aZ := aR.r
  obtain ⟨aS, aT, aJ, bC, aK, aU, rfl, rfl, aL, aM, aN⟩ := B0 aZ
  obtain ⟨rfl, bD⟩ := Sl.len aN
  try dsimp only at aB
  have we6 := New.sndI (New.sndI (aR))
  obtain ⟨X7, bH, aB⟩ := j0 aB
  refine Exists.intro { vars := [22], boxes := [1], owns := [], fuel := true } (Exists.intro (fun vs os h' => ∃ (u8 : Int) (u9 : Int) (u10 : Int) (au11 : Option Addr) (nu11 cu11 : Nat) (u11 : M0), vs.tail = [.int .i64 u8, .int .i64 u9, .int .i64 u10, .slice au11 nu11 cu11] ∧ os = [] ∧ Sub k4 h' ∧ D0 u8 ∧ D0 u9 ∧ D0 u10 ∧ New I0 h h' [.slice au11 nu11 cu11] u11 ∧ l5 p1 (L1 vs) u8 u9 u10 u11 = some X7) (Exists.intro (fun _ _ => 0) ?_))
  refine And.intro (Exists.intro Q0 ⟨0, aS, aT, aJ, aU.length, aK, aU, rfl, rfl, (Sub.refl _), (by decide), aL, aM, we6, bH⟩) ?_
  rintro v_0 v_1 v_2 v_3 m13 k12 ⟨u8, u9, u10, au11, nu11, cu11, u11, bI, bJ, bK, iu8, iu9, iu10, wwu11, aA⟩
  cases bI
  cases bJ
  replace aA : l5 p1 m13 u8 u9 u10 u11 = some X7 := aA
  obtain _ | m13 := m13
  ·cases (show (none : Option _) = some X7 from aA)
  rw [l5.eq_2] at aA
  have ru11 := wwu11.r
  obtain ⟨rfl, lu11⟩ := Sl.len ru11
  refine And.intro (fun aV => ?_) (fun aV => ?_)
  ·replace aA := ifP aA aV
   obtain ⟨x15, bL, aA⟩ := j0 aA
   obtain ⟨bM, bS, bN, aW⟩ := Sl.getI (r := Z0.toRp) (n5.mono (cC.trans bK) rp1) bL (by decide)
   refine And.intro bM ?_
   obtain ⟨bO, bZ, bP, rfl⟩ := Wp.slice_cell aW
   obtain ⟨rfl, cA⟩ := Sl.len aW
   refine Exists.intro _ (And.intro bN ?_)
   refine And.intro (fun aX => ?_) (fun aX => ?_)
   ·replace aA := ifP aA aX
    obtain ⟨x17, bQ, aA⟩ := j0 aA
    refine Tr.mono (l0a _ [.int .i64 u9, .int .i64 u10, .slice au11 u11.length cu11] (u9, u10, u11) (z0 iu9 iu10 ru11) bO x15.length bP x15 aW _  bQ) ?_
    rintro v19 k18 ⟨bE, rfl, aC⟩
    obtain ⟨bT, bU⟩ := x17
    dsimp only at aA aC
    have bR : Sub k12 k18 := aC.sub
    have aY := aC.r
    obtain ⟨aO, aP, aD, bA, aF, aQ, rfl, rfl, aG, aH, aI⟩ := B0 aY
    obtain ⟨rfl, bB⟩ := Sl.len aI
    try dsimp only at aA
    have we20 := New.sndI (New.sndI (aC))
    refine And.intro rfl (And.intro (by repeat first|exact trivial|refine And.intro rfl ?_) (And.intro (by repeat first|exact trivial|refine And.intro rfl ?_) (Exists.intro m13 (And.intro ⟨(IntKind.i64.wrap (u8 + 1)), aO, aP, aD, aQ.length, aF, aQ, rfl, rfl, (bK.trans bR), (K0 _), aG, aH, (New.from we20 (cC.trans bK)), aA⟩ (Nat.lt_succ_self _)))))
   ·replace aA := ifN aA aX
    refine And.intro rfl (And.intro (by repeat first|exact trivial|refine And.intro rfl ?_) (And.intro (by repeat first|exact trivial|refine And.intro rfl ?_) (Exists.intro m13 (And.intro ⟨(IntKind.i64.wrap (u8 + 1)), u9, u10, au11, u11.length, cu11, u11, rfl, rfl, bK, (K0 _), iu9, iu10, wwu11, aA⟩ (Nat.lt_succ_self _)))))
  ·replace aA := ifN aA aV
   have hE := Option.some.inj aA; subst hE
   try dsimp only [T0, U0] at aB
   have hE := Option.some.inj aB; subst hE
   exact ⟨([.int .i64 u9, .int .i64 u10, .slice au11 u11.length cu11]), rfl, (New.pair (New.int iu9) (New.pair (New.int iu10) wwu11))⟩
theorem n0e (h : Hp) (aX : List Value) (p0 : l0) (rp0 : W0.R h aX p0) (r : I7) (aS : q01 p0 = some r) :
  Tr Tryz.prog 226 #[.agg aX.toArray] h fun v h' => ∃ (a0 : Option Addr) (n0 c0 : Nat), v = .slice a0 n0 c0 ∧ V0d.R h' [.slice a0 n0 c0] r ∧ Sub h h' := by
 obtain ⟨aY, aZ, aT, bP, aU, aV, rfl, rfl, bQ, bR, aL⟩ := B0 rp0
 obtain ⟨rfl, bS⟩ := Sl.len aL
 unfold q01 at aS
 dsimp only at aS
 refine Q2 (args := [.agg #[.int .i64 aY, .int .i64 aZ, .slice aT aV.length aU]]) (fn := Tryz.f226) rfl ?_
 obtain ⟨X1, bA, aS⟩ := j0 aS
 refine Exists.intro { vars := [12], boxes := [], owns := [0], fuel := true } (Exists.intro (fun vs os h' => ∃ (u2 : Int) (wu3 : List (List Value)) (u3 : List C4), vs.tail = [.int .i64 u2] ∧ os = [wu3] ∧ Sub h h' ∧ D0 u2 ∧ F2 (A4.R h') wu3 u3 ∧ M7 aV (L1 vs) u2 u3 = some X1) (Exists.intro (fun _ _ => 0) ?_))
 refine And.intro (Exists.intro Q0 ⟨0, [], ([] : I7), rfl, rfl, (Sub.refl _), (by decide), (show F2 (A4.R h) ([] : List (List Value)) ([] : I7) from trivial), bA⟩) ?_
 rintro v_0 wu3 m5 k4 ⟨u2, zzu3, u3, bB, bC, bT, iu2, fu3, aK⟩
 cases bB
 cases bC
 replace aK : M7 aV m5 u2 u3 = some X1 := aK
 obtain _ | m5 := m5
 ·cases (show (none : Option _) = some X1 from aK)
 rw [M7.eq_2] at aK
 refine And.intro (fun bD => ?_) (fun bD => ?_)
 ·replace aK := ifP aK bD
  obtain ⟨x7, bY, aK⟩ := j0 aK
  obtain ⟨bZ, cA, cC, cD⟩ := Sl.getI (r := S0.toRp) (I0.mono bT aL) bY (by decide)
  refine And.intro bZ ?_
  obtain ⟨aD, aW, aC, rfl, rfl, aJ, bU, aI⟩ := C1 cD
  try dsimp only at aK
  refine Exists.intro _ (And.intro cC ?_)
  obtain ⟨x8, cE, aK⟩ := j0 aK
  obtain ⟨qx8, vsx8, cG, fx8⟩ := Sl.cutI (r := S0.toRp) (I0.mono bT aL) cE
  refine And.intro qx8 (Exists.intro vsx8 (And.intro cG ?_))
  intro vx8 hvx8 _
  obtain ⟨cH, cI, rfl, bV⟩ := fx8 vx8 hvx8
  have cJ := (Sl.len bV).2
  obtain ⟨X9, bE, aK⟩ := j0 aK
  refine Exists.intro { vars := [23], boxes := [], owns := [0], fuel := true } (Exists.intro (fun vs os h' => ∃ (u10 : Int) (wu11 : List (List Value)) (u11 : List C4), vs.tail = [.int .i64 u10] ∧ os = [wu11] ∧ Sub k4 h' ∧ D0 u10 ∧ F2 (A4.R h') wu11 u11 ∧ L4 x8 aW aD aC (L1 vs) u10 u11 = some X9) (Exists.intro (fun _ _ => 0) ?_))
  refine And.intro (Exists.intro Q0 ⟨0, wu3, u3, rfl, rfl, (Sub.refl _), (by decide), fu3, bE⟩) ?_
  rintro v_0 wu11 m13 k12 ⟨u10, zzu11, u11, bF, bG, aM, iu10, fu11, aG⟩
  cases bF
  cases bG
  replace aG : L4 x8 aW aD aC m13 u10 u11 = some X9 := aG
  obtain _ | m13 := m13
  ·cases (show (none : Option _) = some X9 from aG)
  rw [L4.eq_2] at aG
  refine And.intro (fun aN => ?_) (fun aN => ?_)
  ·replace aG := ifP aG aN
   obtain ⟨x15, bH, aG⟩ := j0 aG
   obtain ⟨bI, bW, bJ, bK⟩ := Sl.getI (r := S0.toRp) (I0.mono aM bV) bH (by decide)
   refine And.intro bI ?_
   obtain ⟨aB, bX, aA, rfl, rfl, aH, bL, aF⟩ := C1 bK
   try dsimp only at aG
   refine Exists.intro _ (And.intro bJ ?_)
   refine And.intro (fun aO => ?_) (fun aO => ?_)
   ·replace aG := ifP aG aO
    refine And.intro rfl (And.intro (by repeat first|exact trivial|refine And.intro rfl ?_) (And.intro (by repeat first|exact trivial|refine And.intro rfl ?_) (Exists.intro m13 (And.intro ⟨(IntKind.i64.wrap (u10 + 1)), wu11, u11, rfl, rfl, aM, (K0 _), fu11, aG⟩ (Nat.lt_succ_self _)))))
   ·replace aG := ifN aG aO
    refine And.intro (fun aP => ?_) (fun aP => ?_)
    ·replace aG := ifP aG aP
     obtain ⟨q18, bM, aG⟩ := j0 aG
     refine And.intro (J2 bM (by first | rw [F2.length fu11, F2.length (show F2 (A4.R k12) ([[.int .i64 (if aA < aC then aA else aC), .int .i64 (if aA > aC then aA else aC)]] : List (List Value)) [((if aA < aC then aA else aC), (if aA > aC then aA else aC))] from ⟨(Y1 (y7 aF aI) (y7 aF aI)), trivial⟩)] | exact congrArg (· + 1) (F2.length fu11))) ?_
     refine And.intro (fun aQ => ?_) (fun aQ => ?_)
     ·replace aG := ifP aG aQ
      obtain ⟨q20, bN, aG⟩ := j0 aG
      refine And.intro (J2 bN (by first | rw [F2.length (F2.append fu11 (show F2 (A4.R k12) ([[.int .i64 (if aA < aC then aA else aC), .int .i64 (if aA > aC then aA else aC)]] : List (List Value)) [((if aA < aC then aA else aC), (if aA > aC then aA else aC))] from ⟨(Y1 (y7 aF aI) (y7 aF aI)), trivial⟩)), F2.length (show F2 (A4.R k12) ([[.int .i64 (if aB < aD then aB else aD), .int .i64 (if aB > aD then aB else aD)]] : List (List Value)) [((if aB < aD then aB else aD), (if aB > aD then aB else aD))] from ⟨(Y1 (y7 aH aJ) (y7 aH aJ)), trivial⟩)] | exact congrArg (· + 1) (F2.length (F2.append fu11 (show F2 (A4.R k12) ([[.int .i64 (if aA < aC then aA else aC), .int .i64 (if aA > aC then aA else aC)]] : List (List Value)) [((if aA < aC then aA else aC), (if aA > aC then aA else aC))] from ⟨(Y1 (y7 aF aI) (y7 aF aI)), trivial⟩))))) ?_
      refine And.intro rfl (And.intro (by repeat first|exact trivial|refine And.intro rfl ?_) (And.intro (by repeat first|exact trivial|refine And.intro rfl ?_) (Exists.intro m13 (And.intro ⟨(IntKind.i64.wrap (u10 + 1)), ((wu11 ++ ([[.int .i64 (if aA < aC then aA else aC), .int .i64 (if aA > aC then aA else aC)]] : List (List Value))) ++ ([[.int .i64 (if aB < aD then aB else aD), .int .i64 (if aB > aD then aB else aD)]] : List (List Value))), ((u11 ++ [((if aA < aC then aA else aC), (if aA > aC then aA else aC))]) ++ [((if aB < aD then aB else aD), (if aB > aD then aB else aD))]), rfl, rfl, aM, (K0 _), (F2.append (F2.append fu11 (show F2 (A4.R k12) ([[.int .i64 (if aA < aC then aA else aC), .int .i64 (if aA > aC then aA else aC)]] : List (List Value)) [((if aA < aC then aA else aC), (if aA > aC then aA else aC))] from ⟨(Y1 (y7 aF aI) (y7 aF aI)), trivial⟩)) (show F2 (A4.R k12) ([[.int .i64 (if aB < aD then aB else aD), .int .i64 (if aB > aD then aB else aD)]] : List (List Value)) [((if aB < aD then aB else aD), (if aB > aD then aB else aD))] from ⟨(Y1 (y7 aH aJ) (y7 aH aJ)), trivial⟩)), aG⟩ (Nat.lt_succ_self _)))))
     ·replace aG := ifN aG aQ
      refine And.intro rfl (And.intro (by repeat first|exact trivial|refine And.intro rfl ?_) (And.intro (by repeat first|exact trivial|refine And.intro rfl ?_) (Exists.intro m13 (And.intro ⟨(IntKind.i64.wrap (u10 + 1)), (wu11 ++ ([[.int .i64 (if aA < aC then aA else aC), .int .i64 (if aA > aC then aA else aC)]] : List (List Value))), (u11 ++ [((if aA < aC then aA else aC), (if aA > aC then aA else aC))]), rfl, rfl, aM, (K0 _), (F2.append fu11 (show F2 (A4.R k12) ([[.int .i64 (if aA < aC then aA else aC), .int .i64 (if aA > aC then aA else aC)]] : List (List Value)) [((if aA < aC then aA else aC), (if aA > aC then aA else aC))] from ⟨(Y1 (y7 aF aI) (y7 aF aI)), trivial⟩)), aG⟩ (Nat.lt_succ_self _)))))
    ·replace aG := ifN aG aP
     refine And.intro (fun aR => ?_) (fun aR => ?_)
     ·replace aG := ifP aG aR
      obtain ⟨q22, bO, aG⟩ := j0 aG
      refine And.intro (J2 bO (by first | rw [F2.length fu11, F2.length (show F2 (A4.R k12) ([[.int .i64 (if aB < aD then aB else aD), .int .i64 (if aB > aD then aB else aD)]] : List (List Value)) [((if aB < aD then aB else aD), (if aB > aD then aB else aD))] from ⟨(Y1 (y7 aH aJ) (y7 aH aJ)), trivial⟩)] | exact congrArg (· + 1) (F2.length fu11))) ?_
      refine And.intro rfl (And.intro (by repeat first|exact trivial|refine And.intro rfl ?_) (And.intro (by repeat first|exact trivial|refine And.intro rfl ?_) (Exists.intro m13 (And.intro ⟨(IntKind.i64.wrap (u10 + 1)), (wu11 ++ ([[.int .i64 (if aB < aD then aB else aD), .int .i64 (if aB > aD then aB else aD)]] : List (List Value))), (u11 ++ [((if aB < aD then aB else aD), (if aB > aD then aB else aD))]), rfl, rfl, aM, (K0 _), (F2.append fu11 (show F2 (A4.R k12) ([[.int .i64 (if aB < aD then aB else aD), .int .i64 (if aB > aD then aB else aD)]] : List (List Value)) [((if aB < aD then aB else aD), (if aB > aD then aB else aD))] from ⟨(Y1 (y7 aH aJ) (y7 aH aJ)), trivial⟩)), aG⟩ (Nat.lt_succ_self _)))))
     ·replace aG := ifN aG aR
      refine And.intro rfl (And.intro (by repeat first|exact trivial|refine And.intro rfl ?_) (And.intro (by repeat first|exact trivial|refine And.intro rfl ?_) (Exists.intro m13 (And.intro ⟨(IntKind.i64.wrap (u10 + 1)), wu11, u11, rfl, rfl, aM, (K0 _), fu11, aG⟩ (Nat.lt_succ_self _)))))
  ·replace aG := ifN aG aN
   have hE := Option.some.inj aG; subst hE
   try dsimp only [T0, U0] at aK
   refine And.intro rfl (And.intro (by repeat first|exact trivial|refine And.intro rfl ?_) (And.intro (by repeat first|exact trivial|refine And.intro rfl ?_) (Exists.intro m5 (And.intro ⟨(IntKind.i64.wrap (u2 + 1)), wu11, u11, rfl, rfl, (bT.trans aM), (K0 _), fu11, aK⟩ (Nat.lt_succ_self _)))))
 ·replace aK := ifN aK bD
  have hE := Option.some.inj aK; subst hE
  try dsimp only [T0, U0] at aS
  intro v27 k28 f29
  obtain ⟨az30, cz30, rfl, rz30, sz30, lz30⟩ := j1.out (r := A4.toRp) f29 fu3
  have hE := Option.some.inj aS; subst hE
  exact ⟨az30, u3.length, cz30, rfl, rz30, (bT.trans sz30)⟩
theorem q09 (h : Hp) (aM : List Value) (p0 : l0) (rp0 : W0.R h aM p0) (r : C4 × Bool) (aA : n8 p0 = some r) :
  Tr Tryz.prog 207 #[.agg aM.toArray] h fun v h' => ∃ (cs0 : List Value), v = .tuple #[.agg cs0.toArray, .bool r.2] ∧ A4.R h' cs0 r.1 ∧ Sub h h' := by
 obtain ⟨aB, aC, aD, aR, aF, aJ, rfl, rfl, aH, aI, aG⟩ := B0 rp0
 obtain ⟨rfl, aS⟩ := Sl.len aG
 unfold n8 at aA
 dsimp only at aA
 refine Q2 (args := [.agg #[.int .i64 aB, .int .i64 aC, .slice aD aJ.length aF]]) (fn := Tryz.f207) rfl ?_
 obtain ⟨x1, aV, aA⟩ := j0 aA
 refine Tr.val (K8 _ [.int .i64 aB, .int .i64 aC, .slice aD aJ.length aF] (aB, aC, aJ) (z0 aH aI aG) _  aV) ?_
 refine And.intro (fun aN => ?_) (fun aN => ?_)
 ·replace aA := ifP aA aN
  have hE := Option.some.inj aA; subst hE
  exact ⟨([.int .i64 0, .int .i64 0]), rfl, (Y1 (by decide) (by decide)), (Sub.refl _)⟩
 ·replace aA := ifN aA aN
  obtain ⟨x3, aW, aA⟩ := j0 aA
  refine Tr.mono (n0e _ [.int .i64 aB, .int .i64 aC, .slice aD aJ.length aF] (aB, aC, aJ) (z0 aH aI aG) _  aW) ?_
  rintro v5 k4 ⟨bC, bD, bE, rfl, aT, aU⟩
  obtain ⟨rfl, bF⟩ := Sl.len aT
  refine And.intro (fun aO => ?_) (fun aO => ?_)
  ·replace aA := ifP aA aO
   have hE := Option.some.inj aA; subst hE
   exact ⟨([.int .i64 0, .int .i64 0]), rfl, (Y1 (by decide) (by decide)), aU⟩
  ·replace aA := ifN aA aO
   obtain ⟨x7, aX, aA⟩ := j0 aA
   obtain ⟨aY, aZ, bA, bB⟩ := Sl.getI (r := A4.toRp) aT aX (by decide)
   refine And.intro aY ?_
   obtain ⟨aP, aQ, rfl, rfl, aK, aL⟩ := p01 bB
   try dsimp only at aA
   refine Exists.intro _ (And.intro bA ?_)
   have hE := Option.some.inj aA; subst hE
   exact ⟨([.int .i64 aP, .int .i64 aQ]), rfl, (Y1 aK aL), aU⟩
theorem P05 (h : Hp) (bF : List Value) (p0 : l0) (rp0 : W0.R h bF p0) (bG : List Value) (p1 : C4) (rp1 : A4.R h bG p1) (r : l0 × Bool) (aB : D6 p0 p1 = some r) :
  Tr Tryz.prog 208 #[.agg bF.toArray, .agg bG.toArray] h fun v h' => ∃ (cs0 : List Value), v = .tuple #[.agg cs0.toArray, .bool r.2] ∧ New W0 h h' cs0 r.1 := by
 obtain ⟨aG, aH, aI, cG, aJ, aY, rfl, rfl, aN, aO, aK⟩ := B0 rp0
 obtain ⟨rfl, cH⟩ := Sl.len aK
 obtain ⟨aC, aD, rfl, rfl, aP, aQ⟩ := p01 rp1
 unfold D6 at aB
 dsimp only at aB
 refine Q2 (args := [.agg #[.int .i64 aG, .int .i64 aH, .slice aI aY.length aJ], .agg #[.int .i64 aC, .int .i64 aD]]) (fn := Tryz.f208) rfl ?_
 obtain ⟨x1, cQ, aB⟩ := j0 aB
 refine Tr.mono (N3 _ [.int .i64 aG, .int .i64 aH, .slice aI aY.length aJ] (aG, aH, aY) (z0 aN aO aK) _  cQ) ?_
 rintro v3 k2 ⟨aF, cI, aL, rfl, wx1⟩
 have cR : Sub h k2 := wx1.sub
 have cJ := wx1.r
 obtain ⟨aZ, bA, aS⟩ := x1
 dsimp only at aB wx1 cJ
 obtain ⟨_, _, _, _, _, _, ecx1, exx1, aR, bB, bC⟩ := B0 cJ
 cases ecx1
 cases exx1
 obtain ⟨rfl, cK⟩ := Sl.len bC
 try dsimp only at aB
 have we4 := New.sndI (New.sndI (wx1))
 obtain ⟨x5, cS, aB⟩ := j0 aB
 refine Tr.val (K8 _ [.int .i64 aG, .int .i64 aH, .slice aI aY.length aJ] (aG, aH, aY) (z0 aN aO (I0.mono cR aK)) _  cS) ?_
 refine And.intro (fun bH => ?_) (fun bH => ?_)
 ·replace aB := ifP aB bH
  have hE := Option.some.inj aB; subst hE
  exact ⟨([.int .i64 aZ, .int .i64 bA, .slice (some ⟨aF, 0, none⟩) aS.length aL]), rfl, (New.pair (New.int aR) (New.pair (New.int bB) we4))⟩
 ·replace aB := ifN aB bH
  intro b7 hb7
  have gb7 : (Hp.set k2 b7 (.cells #[.int .i64 aC, .int .i64 aD] 146 (0, 0))) b7 = some (.cells #[.int .i64 aC, .int .i64 aD] 146 (0, 0)) := Hp.set_same _ _ _
  have neb7gx1_2 : b7 ≠ aF := fun e => New.blk we4 (Sub.refl _) (e ▸ hb7)
  obtain ⟨X8, bI, aB⟩ := j0 aB
  refine Exists.intro { vars := [39], boxes := [], owns := [], fuel := true } (Exists.intro (fun vs os h' => ∃ (u9 : Int) (u10 : M0), vs.tail = [.int .i64 u9] ∧ os = [] ∧ Sub h h' ∧ D0 u9 ∧ New I0 h h' [.slice (some ⟨aF, 0, none⟩) aS.length aL] u10 ∧ h' b7 = some (.cells #[.int .i64 aC, .int .i64 aD] 146 (0, 0)) ∧ i4 aS aC aD (L1 vs) u9 u10 = some X8) (Exists.intro (fun _ _ => 0) ?_))
  refine And.intro (Exists.intro Q0 ⟨0, aS, rfl, rfl, (cR.trans (Sub.set hb7)), (by decide), (New.mono we4 (Sub.set hb7)), gb7, bI⟩) ?_
  rintro v_0 m13 k12 ⟨u9, u10, bJ, bK, cT, iu9, wwu10, hq11, aA⟩
  cases bJ
  cases bK
  replace aA : i4 aS aC aD m13 u9 u10 = some X8 := aA
  obtain _ | m13 := m13
  ·cases (show (none : Option _) = some X8 from aA)
  rw [i4.eq_2] at aA
  have ru10 := wwu10.r
  refine And.intro (fun aT => ?_) (fun aT => ?_)
  ·replace aA := ifP aA aT
   obtain ⟨x15, bL, aA⟩ := j0 aA
   obtain ⟨bM, cL, bN, bO⟩ := Sl.getI (r := S0.toRp) ru10 bL (by decide)
   refine And.intro bM ?_
   obtain ⟨bD, aM, bE, rfl, rfl, aU, aV, aW⟩ := C1 bO
   try dsimp only at aA
   refine Exists.intro _ (And.intro bN ?_)
   refine Or.inr (Or.inr (Or.inl (And.intro (And.intro (by kernel_rfl) (by kernel_rfl)) ?_)))
   obtain ⟨x16, bP, aA⟩ := j0 aA
   obtain ⟨q17, bQ, aA⟩ := j0 aA
   have bR : D0 x16 := A2 bQ
   refine Or.inl (Exists.intro (.val (.int .i64 x16)) (And.intro ?_ ?_))
   ·intro k18 s19
    exact Tr.val (v01 _ bD aU b7 146 aC aP aD aQ (s19 _ _ hq11) _ bP) (And.intro rfl (And.intro rfl rfl))
   obtain ⟨x20, bS, aA⟩ := j0 aA
   obtain ⟨q21, bT, aA⟩ := j0 aA
   have bU : D0 x20 := A2 bT
   refine Or.inl (Exists.intro (.val (.int .i64 x20)) (And.intro ?_ ?_))
   ·intro k22 s23
    exact Tr.val (v01 _ bE aW b7 146 aC aP aD aQ (s23 _ _ hq11) _ bS) (And.intro rfl (And.intro rfl rfl))
   refine Or.inl (Exists.intro (.agg [.val (.int .i64 x16), .val (.int .i64 aM), .val (.int .i64 x20)]) (And.intro ?_ ?_))
   ·intro k24 s25
    exact And.intro rfl (And.intro rfl rfl)
   refine Or.inr ?_
   refine Or.inr ?_
   refine Exists.intro 0 (And.intro (And.intro rfl rfl) ?_)
   obtain ⟨x26, aX, aA⟩ := j0 aA
   obtain ⟨bV, cM, cU, bW⟩ := Sl.getI (r := S0.toRp) ru10 aX (by decide)
   refine And.intro bV ?_
   obtain ⟨cN, cO, cP, rfl, rfl, bX, bY, bZ⟩ := C1 bW
   try dsimp only at aA
   refine And.intro trivial (And.intro (by first | exact trivial | exact rfl) ?_)
   refine New.put (r := S0) wwu10 (Sub.refl _) (A0l aX).1 (new := [.int .i64 x16, .int .i64 aM, .int .i64 x20]) (By := []) (k09 _ _ _ (V0 bR aV bU)) (w7.nil _) rfl (A0l aX).2 ?_
   intro k27 w28 kpw28 _
   have rw28 := w28.r
   have hpw28b7 : k27 b7 = some (.cells #[.int .i64 aC, .int .i64 aD] 146 (0, 0)) := (kpw28 b7 neb7gx1_2).trans hq11
   refine And.intro trivial (And.intro (by first | exact trivial | exact rfl) ?_)
   refine And.intro rfl (And.intro (by repeat first|exact trivial|refine And.intro rfl ?_) (And.intro (by repeat first|exact trivial|refine And.intro rfl ?_) (Exists.intro m13 (And.intro ⟨(IntKind.i64.wrap (u9 + 1)), (u10.set u9.toNat (x16, aM, x20)), rfl, rfl, w28.sub, (K0 _), w28, (hpw28b7), aA⟩ (Nat.lt_succ_self _)))))
  ·replace aA := ifN aA aT
   have hE := Option.some.inj aA; subst hE
   try dsimp only [T0, U0] at aB
   obtain ⟨x29, cA, aB⟩ := j0 aB
   refine Tr.mono (P01 _ (some ⟨aF, 0, none⟩) aS.length aL u10 ru10 _  cA) ?_
   rintro v31 k30 ⟨cC, cV, cD, rfl, wx29⟩
   have cW : Sub k12 k30 := wx29.sub
   have cE := wx29.r
   obtain ⟨rfl, cX⟩ := Sl.len cE
   have hE := Option.some.inj aB; subst hE
   exact ⟨([.int .i64 aZ, .int .i64 (IntKind.i64.wrap (bA - 1)), .slice cC x29.length cD]), rfl, (New.pair (New.int aR) (New.pair (New.int (K0 _)) (New.from wx29 cT)))⟩
theorem n0a (h : Hp) (bG : List Value) (p0 : l0) (rp0 : W0.R h bG p0) (r : l0 × C4 × Bool) (aA : W9 p0 = some r) :
  Tr Tryz.prog 155 #[.agg bG.toArray] h fun v h' => ∃ (cs0 : List Value) (cs1 : List Value), v = .tuple #[.agg cs0.toArray, .agg cs1.toArray, .bool r.2.2] ∧ New W0 h h' cs0 r.1 ∧ A4.R h' cs1 r.2.1 := by
 obtain ⟨aB, aC, aG, bN, aH, aU, rfl, rfl, aL, aM, aI⟩ := B0 rp0
 obtain ⟨rfl, bO⟩ := Sl.len aI
 unfold W9 at aA
 dsimp only at aA
 refine Q2 (args := [.agg #[.int .i64 aB, .int .i64 aC, .slice aG aU.length aH]]) (fn := Tryz.f155) rfl ?_
 obtain ⟨x1, bS, aA⟩ := j0 aA
 refine Tr.mono (q09 _ [.int .i64 aB, .int .i64 aC, .slice aG aU.length aH] (aB, aC, aU) (z0 aL aM aI) _  bS) ?_
 rintro v3 k2 ⟨bH, rfl, aS, bD⟩
 obtain ⟨bT, bU⟩ := x1
 dsimp only at aA aS
 obtain ⟨aD, aF, rfl, rfl, aJ, aK⟩ := p01 aS
 try dsimp only at aA
 refine And.intro (fun bI => ?_) (fun bI => ?_)
 ·replace aA := ifP aA bI
  obtain ⟨x5, bV, aA⟩ := j0 aA
  refine Tr.mono (N3 _ [.int .i64 aB, .int .i64 aC, .slice aG aU.length aH] (aB, aC, aU) (z0 aL aM (I0.mono bD aI)) _  bV) ?_
  rintro v7 k6 ⟨aX, bP, aY, rfl, wx5⟩
  have cA : Sub k2 k6 := wx5.sub
  have bQ := wx5.r
  obtain ⟨bJ, bK, bW⟩ := x5
  dsimp only at aA wx5 bQ
  obtain ⟨_, _, _, _, _, _, ecx5, exx5, aZ, bA, bB⟩ := B0 bQ
  cases ecx5
  cases exx5
  obtain ⟨rfl, bR⟩ := Sl.len bB
  try dsimp only at aA
  have we8 := New.sndI (New.sndI (wx5))
  have hE := Option.some.inj aA; subst hE
  exact ⟨([.int .i64 bJ, .int .i64 bK, .slice (some ⟨aX, 0, none⟩) bW.length aY]), ([.int .i64 0, .int .i64 0]), rfl, (New.pair (New.int aZ) (New.pair (New.int bA) (New.from we8 bD))), (Y1 (by decide) (by decide))⟩
 ·replace aA := ifN aA bI
  obtain ⟨x9, bX, aA⟩ := j0 aA
  refine Tr.mono (P05 _ [.int .i64 aB, .int .i64 aC, .slice aG aU.length aH] (aB, aC, aU) (z0 aL aM (I0.mono bD aI)) [.int .i64 aD, .int .i64 aF] (aD, aF) (Y1 aJ aK) _  bX) ?_
  rintro v11 k10 ⟨bL, rfl, aT⟩
  obtain ⟨bY, bZ⟩ := x9
  dsimp only at aA aT
  have cC : Sub k2 k10 := aT.sub
  have bC := aT.r
  obtain ⟨aV, aW, aN, bE, aO, bM, rfl, rfl, aP, aQ, aR⟩ := B0 bC
  obtain ⟨rfl, bF⟩ := Sl.len aR
  try dsimp only at aA
  have we12 := New.sndI (New.sndI (aT))
  refine Or.inr (Or.inr (Or.inl (And.intro (And.intro (by kernel_rfl) (by kernel_rfl)) ?_)))
  refine Or.inr ?_
  refine Or.inr ?_
  refine Exists.intro 0 (And.intro (And.intro rfl rfl) ?_)
  refine And.intro trivial (And.intro (by first | exact trivial | exact rfl) ?_)
  refine And.intro trivial (And.intro (by first | exact trivial | exact rfl) ?_)
  have hE := Option.some.inj aA; subst hE
  exact ⟨([.int .i64 aV, .int .i64 aW, .slice aN bM.length aO]), ([.int .i64 aD, .int .i64 aF]), rfl, (New.pair (New.int aP) (New.pair (New.int aQ) (New.from we12 bD))), (Y1 aJ aK)⟩
theorem T02 (h : Hp) (bK : List Value) (p0 : l0) (rp0 : W0.R h bK p0) (r : l0 × I7) (aO : N6 p0 = some r) :
  Tr Tryz.prog 99 #[.agg bK.toArray] h fun v h' => ∃ (cs0 : List Value) (a1 : Option Addr) (n1 c1 : Nat), v = .tuple #[.agg cs0.toArray, .slice a1 n1 c1] ∧ New W0 h h' cs0 r.1 ∧ V0d.R h' [.slice a1 n1 c1] r.2 := by
 obtain ⟨aV, aW, aS, bU, aT, bL, rfl, rfl, aZ, bA, aU⟩ := B0 rp0
 obtain ⟨rfl, bV⟩ := Sl.len aU
 unfold N6 at aO
 dsimp only at aO
 refine Q2 (args := [.agg #[.int .i64 aV, .int .i64 aW, .slice aS bL.length aT]]) (fn := Tryz.f99) rfl ?_
 obtain ⟨x1, cD, aO⟩ := j0 aO
 refine Tr.mono (N3 _ [.int .i64 aV, .int .i64 aW, .slice aS bL.length aT] (aV, aW, bL) (z0 aZ bA aU) _  cD) ?_
 rintro v3 k2 ⟨bB, bW, bC, rfl, wx1⟩
 have cG : Sub h k2 := wx1.sub
 have bX := wx1.r
 obtain ⟨bM, bN, bO⟩ := x1
 dsimp only at aO wx1 bX
 obtain ⟨_, _, _, _, _, _, ecx1, exx1, bD, bE, bF⟩ := B0 bX
 cases ecx1
 cases exx1
 obtain ⟨rfl, bY⟩ := Sl.len bF
 try dsimp only at aO
 have we4 := New.sndI (New.sndI (wx1))
 obtain ⟨X5, bP, aO⟩ := j0 aO
 refine Exists.intro { vars := [], boxes := [2], owns := [0], fuel := true } (Exists.intro (fun vs os h' => ∃ (u6 : Int) (u7 : Int) (au8 : Option Addr) (nu8 cu8 : Nat) (u8 : M0) (wu9 : List (List Value)) (u9 : List C4), vs.tail = [.int .i64 u6, .int .i64 u7, .slice au8 nu8 cu8] ∧ os = [wu9] ∧ Sub k2 h' ∧ D0 u6 ∧ D0 u7 ∧ New I0 h h' [.slice au8 nu8 cu8] u8 ∧ F2 (A4.R h') wu9 u9 ∧ E6 (L1 vs) u6 u7 u8 u9 = some X5) (Exists.intro (fun _ _ => 0) ?_))
 refine And.intro (Exists.intro Q0 ⟨bM, bN, (some ⟨bB, 0, none⟩), bO.length, bC, bO, [], ([] : I7), rfl, rfl, (Sub.refl _), bD, bE, we4, (show F2 (A4.R k2) ([] : List (List Value)) ([] : I7) from trivial), bP⟩) ?_
 rintro v_0 v_1 v_2 wu9 m11 k10 ⟨u6, u7, au8, nu8, cu8, u8, zzu9, u9, bQ, bR, cE, iu6, iu7, wwu8, fu9, aC⟩
 cases bQ
 cases bR
 replace aC : E6 m11 u6 u7 u8 u9 = some X5 := aC
 obtain _ | m11 := m11
 ·cases (show (none : Option _) = some X5 from aC)
 rw [E6.eq_2] at aC
 have ru8 := wwu8.r
 obtain ⟨rfl, lu8⟩ := Sl.len ru8
 obtain ⟨x12, bS, aC⟩ := j0 aC
 refine Tr.mono (n0a _ [.int .i64 u6, .int .i64 u7, .slice au8 u8.length cu8] (u6, u7, u8) (z0 iu6 iu7 ru8) _  bS) ?_
 rintro v14 k13 ⟨bI, bJ, rfl, aG, aH⟩
 obtain ⟨bZ, cA, cC⟩ := x12
 dsimp only at aC aG aH
 have aI : Sub k10 k13 := aG.sub
 have aX := aG.r
 obtain ⟨aP, aQ, aJ, bG, aK, aR, rfl, rfl, aL, aM, aN⟩ := B0 aX
 obtain ⟨rfl, bH⟩ := Sl.len aN
 try dsimp only at aC
 have we15 := New.sndI (New.sndI (aG))
 obtain ⟨aA, aB, rfl, rfl, aD, aF⟩ := p01 aH
 try dsimp only at aC
 refine And.intro (fun aY => ?_) (fun aY => ?_)
 ·replace aC := ifP aC aY
  intro v17 k18 f19
  obtain ⟨az20, cz20, rfl, rz20, sz20, lz20⟩ := j1.out (r := A4.toRp) f19 (F2.up (r := A4.toRp) aI fu9)
  have hE := Option.some.inj aC; subst hE
  try dsimp only [Z2, D3] at aO
  have hE := Option.some.inj aO; subst hE
  exact ⟨([.int .i64 u6, .int .i64 u7, .slice au8 u8.length cu8]), az20, u9.length, cz20, rfl, (New.pair (New.int iu6) (New.pair (New.int iu7) (New.mono wwu8 (aI.trans sz20)))), rz20⟩
 ·replace aC := ifN aC aY
  obtain ⟨q21, bT, aC⟩ := j0 aC
  refine And.intro (J2 bT (by first | rw [F2.length (F2.up (r := A4.toRp) aI fu9), F2.length (show F2 (A4.R k13) ([[.int .i64 aA, .int .i64 aB]] : List (List Value)) [(aA, aB)] from ⟨(Y1 aD aF), trivial⟩)] | exact congrArg (· + 1) (F2.length (F2.up (r := A4.toRp) aI fu9)))) ?_
  refine And.intro rfl (And.intro (by repeat first|exact trivial|refine And.intro rfl ?_) (And.intro (by repeat first|exact trivial|refine And.intro rfl ?_) (Exists.intro m11 (And.intro ⟨aP, aQ, aJ, aR.length, aK, aR, (wu9 ++ ([[.int .i64 aA, .int .i64 aB]] : List (List Value))), (u9 ++ [(aA, aB)]), rfl, rfl, (cE.trans aI), aL, aM, (New.from we15 (cG.trans cE)), (F2.append (F2.up (r := A4.toRp) aI fu9) (show F2 (A4.R k13) ([[.int .i64 aA, .int .i64 aB]] : List (List Value)) [(aA, aB)] from ⟨(Y1 aD aF), trivial⟩)), aC⟩ (Nat.lt_succ_self _)))))
theorem r09 (h : Hp) (aR : List Value) (p0 : l0) (rp0 : W0.R h aR p0) (r : l0 × Bool) (aA : o8 p0 = some r) :
  Tr Tryz.prog 101 #[.agg aR.toArray] h fun v h' => ∃ (cs0 : List Value), v = .tuple #[.agg cs0.toArray, .bool r.2] ∧ New W0 h h' cs0 r.1 := by
 obtain ⟨aB, aC, aD, aT, aF, aM, rfl, rfl, aH, aI, aG⟩ := B0 rp0
 obtain ⟨rfl, aU⟩ := Sl.len aG
 unfold o8 at aA
 dsimp only at aA
 refine Q2 (args := [.agg #[.int .i64 aB, .int .i64 aC, .slice aD aM.length aF]]) (fn := Tryz.f101) rfl ?_
 obtain ⟨x1, aY, aA⟩ := j0 aA
 refine Tr.mono (N3 _ [.int .i64 aB, .int .i64 aC, .slice aD aM.length aF] (aB, aC, aM) (z0 aH aI aG) _  aY) ?_
 rintro v3 k2 ⟨aJ, aV, aK, rfl, wx1⟩
 have aZ : Sub h k2 := wx1.sub
 have aW := wx1.r
 obtain ⟨aN, aO, bA⟩ := x1
 dsimp only at aA wx1 aW
 obtain ⟨_, _, _, _, _, _, ecx1, exx1, aL, aP, aQ⟩ := B0 aW
 cases ecx1
 cases exx1
 obtain ⟨rfl, aX⟩ := Sl.len aQ
 try dsimp only at aA
 have we4 := New.sndI (New.sndI (wx1))
 obtain ⟨x5, bB, aA⟩ := j0 aA
 refine Tr.val (K8 _ [.int .i64 aB, .int .i64 aC, .slice aD aM.length aF] (aB, aC, aM) (z0 aH aI (I0.mono aZ aG)) _  bB) ?_
 refine And.intro (fun aS => ?_) (fun aS => ?_)
 ·replace aA := ifP aA aS
  have hE := Option.some.inj aA; subst hE
  exact ⟨([.int .i64 aN, .int .i64 aO, .slice (some ⟨aJ, 0, none⟩) bA.length aK]), rfl, (New.pair (New.int aL) (New.pair (New.int aP) we4))⟩
 ·replace aA := ifN aA aS
  have hE := Option.some.inj aA; subst hE
  exact ⟨([.int .i64 aN, .int .i64 (IntKind.i64.wrap (aO + 1)), .slice (some ⟨aJ, 0, none⟩) bA.length aK]), rfl, (New.pair (New.int aL) (New.pair (New.int (K0 _)) we4))⟩
theorem e0c (h : Hp) (aY : List Value) (p0 : l0) (rp0 : W0.R h aY p0) (aZ : List Value) (p1 : C0) (rp1 : S0.R h aZ p1) (r : l0 × Bool) (aD : A9 p0 p1 = some r) :
  Tr Tryz.prog 102 #[.agg aY.toArray, .agg aZ.toArray] h fun v h' => ∃ (cs0 : List Value), v = .tuple #[.agg cs0.toArray, .bool r.2] ∧ New W0 h h' cs0 r.1 := by
 obtain ⟨aI, aJ, aF, bG, aG, aP, rfl, rfl, aN, aO, aH⟩ := B0 rp0
 obtain ⟨rfl, bH⟩ := Sl.len aH
 obtain ⟨aA, aB, aC, rfl, rfl, aK, aL, aM⟩ := C1 rp1
 unfold A9 at aD
 dsimp only at aD
 refine Q2 (args := [.agg #[.int .i64 aI, .int .i64 aJ, .slice aF aP.length aG], .agg #[.int .i64 aA, .int .i64 aB, .int .i64 aC]]) (fn := Tryz.f102) rfl ?_
 obtain ⟨x1, bL, aD⟩ := j0 aD
 refine Tr.mono (N3 _ [.int .i64 aI, .int .i64 aJ, .slice aF aP.length aG] (aI, aJ, aP) (z0 aN aO aH) _  bL) ?_
 rintro v3 k2 ⟨aS, bI, aT, rfl, wx1⟩
 have bA : Sub h k2 := wx1.sub
 have bJ := wx1.r
 obtain ⟨aU, aV, aW⟩ := x1
 dsimp only at aD wx1 bJ
 obtain ⟨_, _, _, _, _, _, ecx1, exx1, aQ, aR, aX⟩ := B0 bJ
 cases ecx1
 cases exx1
 obtain ⟨rfl, bK⟩ := Sl.len aX
 try dsimp only at aD
 have we4 := New.sndI (New.sndI (wx1))
 obtain ⟨x5, bM, aD⟩ := j0 aD
 refine Tr.val (K8 _ [.int .i64 aI, .int .i64 aJ, .slice aF aP.length aG] (aI, aJ, aP) (z0 aN aO (I0.mono bA aH)) _  bM) ?_
 obtain ⟨x6, bN, aD⟩ := j0 aD
 refine Exists.intro (.bool x6) (And.intro (fun q => b02 _ [.int .i64 aI, .int .i64 aJ, .slice aF aP.length aG] (aI, aJ, aP) (z0 aN aO (I0.mono bA aH)) [.int .i64 aA, .int .i64 aB, .int .i64 aC] (aA, aB, aC) (V0 aK aL aM) _  (V1 bN q)) ?_)
 obtain ⟨x7, bO, aD⟩ := j0 aD
 refine Exists.intro (.bool x7) (And.intro (fun q => j00 _ aF aP.length aG aP (I0.mono bA aH) [.int .i64 aA, .int .i64 aB, .int .i64 aC] (aA, aB, aC) (V0 aK aL aM) _  (V1 bO q)) ?_)
 refine And.intro (fun bB => ?_) (fun bB => ?_)
 ·replace aD := ifP aD bB
  have hE := Option.some.inj aD; subst hE
  exact ⟨([.int .i64 aU, .int .i64 aV, .slice (some ⟨aS, 0, none⟩) aW.length aT]), rfl, (New.pair (New.int aQ) (New.pair (New.int aR) we4))⟩
 ·replace aD := ifN aD bB
  obtain ⟨q9, bP, aD⟩ := j0 aD
  obtain ⟨vsz10, rxz10, lnz10, apz10⟩ := New.app we4 (Sub.refl _)
  refine Exists.intro vsz10 (And.intro rxz10 (And.intro (J2 bP (by first | rw [lnz10, F2.length (show F2 (S0.R k2) ([[.int .i64 aA, .int .i64 aB, .int .i64 aC]] : List (List Value)) [(aA, aB, aC)] from ⟨(V0 aK aL aM), trivial⟩)] | (rw [lnz10]; rfl))) ?_))
  intro vz10 kz10 happz10
  obtain ⟨wz10, gz10, oz10, nz10, cz10, rfl⟩ := apz10 _ _ _ _ _ (F3.ofPlain (k09 _) (show F2 (S0.R k2) ([[.int .i64 aA, .int .i64 aB, .int .i64 aC]] : List (List Value)) [(aA, aB, aC)] from ⟨(V0 aK aL aM), trivial⟩)) w7.ofPlain happz10
  have rz10 := wz10.r
  obtain ⟨ez10, lz10⟩ := Sl.len rz10
  subst ez10
  obtain ⟨x11, bC, aD⟩ := j0 aD
  refine Tr.mono (P01 _ (some ⟨gz10, oz10, none⟩) (aW ++ [(aA, aB, aC)]).length cz10 (aW ++ [(aA, aB, aC)]) rz10 _  bC) ?_
  rintro v13 k12 ⟨bD, bQ, bE, rfl, wx11⟩
  have bR : Sub kz10 k12 := wx11.sub
  have bF := wx11.r
  obtain ⟨rfl, bS⟩ := Sl.len bF
  have hE := Option.some.inj aD; subst hE
  exact ⟨([.int .i64 aU, .int .i64 aV, .slice bD x11.length bE]), rfl, (New.pair (New.int aQ) (New.pair (New.int aR) (New.from wx11 wz10.sub)))⟩
theorem l06 (h : Hp) (aW : List Value) (p0 : l0) (rp0 : W0.R h aW p0) (r : M0) (aF : U6 p0 = some r) :
  Tr Tryz.prog 100 #[.agg aW.toArray] h fun v h' => ∃ (a0 : Option Addr) (n0 c0 : Nat), v = .slice a0 n0 c0 ∧ I0.R h' [.slice a0 n0 c0] r ∧ Sub h h' := by
 obtain ⟨aB, aC, aH, bJ, aI, aG, rfl, rfl, aJ, aM, aK⟩ := B0 rp0
 obtain ⟨rfl, bK⟩ := Sl.len aK
 unfold U6 at aF
 dsimp only at aF
 refine Q2 (args := [.agg #[.int .i64 aB, .int .i64 aC, .slice aH aG.length aI]]) (fn := Tryz.f100) rfl ?_
 obtain ⟨x1, bM, aF⟩ := j0 aF
 refine Tr.val (Y9 _ [.int .i64 aB, .int .i64 aC, .slice aH aG.length aI] (aB, aC, aG) (z0 aJ aM aK) _  bM) ?_
 refine And.intro (fun aX => ?_) (fun aX => ?_)
 ·replace aF := ifP aF aX
  intro v3 k4 f5
  obtain ⟨az6, cz6, rfl, rz6, sz6, lz6⟩ := j1.out (r := S0.toRp) f5 (show F2 (S0.R h) ([] : List (List Value)) ([] : M0) from trivial)
  have hE := Option.some.inj aF; subst hE
  exact ⟨az6, (([] : M0)).length, cz6, rfl, rz6, sz6⟩
 ·replace aF := ifN aF aX
  obtain ⟨X7, aY, aF⟩ := j0 aF
  refine Exists.intro { vars := [4], boxes := [], owns := [0], fuel := true } (Exists.intro (fun vs os h' => ∃ (u8 : Int) (wu9 : List (List Value)) (u9 : List C0), vs.tail = [.int .i64 u8] ∧ os = [wu9] ∧ Sub h h' ∧ D0 u8 ∧ F2 (S0.R h') wu9 u9 ∧ G4 aC aB aG (L1 vs) u8 u9 = some X7) (Exists.intro (fun _ _ => 0) ?_))
  refine And.intro (Exists.intro Q0 ⟨0, [], ([] : M0), rfl, rfl, (Sub.refl _), (by decide), (show F2 (S0.R h) ([] : List (List Value)) ([] : M0) from trivial), aY⟩) ?_
  rintro v_0 wu9 m11 k10 ⟨u8, zzu9, u9, aZ, bA, bS, iu8, fu9, aD⟩
  cases aZ
  cases bA
  replace aD : G4 aC aB aG m11 u8 u9 = some X7 := aD
  obtain _ | m11 := m11
  ·cases (show (none : Option _) = some X7 from aD)
  rw [G4.eq_2] at aD
  refine And.intro (fun aN => ?_) (fun aN => ?_)
  ·replace aD := ifP aD aN
   obtain ⟨x13, bB, aD⟩ := j0 aD
   refine Tr.mono (M05 _ aB aJ _  bB) ?_
   rintro v15 k14 ⟨bN, bO, bP, rfl, aS, aO⟩
   obtain ⟨rfl, bQ⟩ := Sl.len aS
   obtain ⟨X16, aT, aD⟩ := j0 aD
   refine Exists.intro { vars := [22], boxes := [], owns := [0], fuel := true } (Exists.intro (fun vs os h' => ∃ (u17 : Int) (wu18 : List (List Value)) (u18 : List C0), vs.tail = [.int .i64 u17] ∧ os = [wu18] ∧ Sub k14 h' ∧ D0 u17 ∧ F2 (S0.R h') wu18 u18 ∧ A3 x13 aB aC aG u8 (L1 vs) u17 u18 = some X16) (Exists.intro (fun _ _ => 0) ?_))
   refine And.intro (Exists.intro Q0 ⟨0, wu9, u9, rfl, rfl, (Sub.refl _), (by decide), (F2.up (r := S0.toRp) aO fu9), aT⟩) ?_
   rintro v_0 wu18 m20 k19 ⟨u17, zzu18, u18, aU, aV, aL, iu17, fu18, aA⟩
   cases aU
   cases aV
   replace aA : A3 x13 aB aC aG u8 m20 u17 u18 = some X16 := aA
   obtain _ | m20 := m20
   ·cases (show (none : Option _) = some X16 from aA)
   rw [A3.eq_2] at aA
   refine And.intro (fun aP => ?_) (fun aP => ?_)
   ·replace aA := ifP aA aP
    obtain ⟨x22, bC, aA⟩ := j0 aA
    obtain ⟨bD, bL, bE, bF⟩ := Sl.getI (r := Wp.int.toRp) (Z0.mono aL aS) bC (by decide)
    refine And.intro bD ?_
    obtain ⟨rfl, aQ⟩ := bF
    refine Exists.intro _ (And.intro bE ?_)
    obtain ⟨x23, bG, aA⟩ := j0 aA
    refine Tr.val (u01 _ [.int .i64 aB, .int .i64 aC, .slice aH aG.length aI] (aB, aC, aG) (z0 aJ aM (I0.mono ((bS.trans aO).trans aL) aK)) u8 iu8 x22 aQ _  bG) ?_
    obtain ⟨q24, bH, aA⟩ := j0 aA
    have bR : D0 x23 := A2 bH
    refine And.intro (fun aR => ?_) (fun aR => ?_)
    ·replace aA := ifP aA aR
     obtain ⟨q26, bI, aA⟩ := j0 aA
     refine And.intro (J2 bI (by first | rw [F2.length fu18, F2.length (show F2 (S0.R k19) ([[.int .i64 u8, .int .i64 x22, .int .i64 (-1)]] : List (List Value)) [(u8, x22, (-1))] from ⟨(V0 iu8 aQ (by decide)), trivial⟩)] | exact congrArg (· + 1) (F2.length fu18))) ?_
     refine And.intro rfl (And.intro (by repeat first|exact trivial|refine And.intro rfl ?_) (And.intro (by repeat first|exact trivial|refine And.intro rfl ?_) (Exists.intro m20 (And.intro ⟨(IntKind.i64.wrap (u17 + 1)), (wu18 ++ ([[.int .i64 u8, .int .i64 x22, .int .i64 (-1)]] : List (List Value))), (u18 ++ [(u8, x22, (-1))]), rfl, rfl, aL, (K0 _), (F2.append fu18 (show F2 (S0.R k19) ([[.int .i64 u8, .int .i64 x22, .int .i64 (-1)]] : List (List Value)) [(u8, x22, (-1))] from ⟨(V0 iu8 aQ (by decide)), trivial⟩)), aA⟩ (Nat.lt_succ_self _)))))
    ·replace aA := ifN aA aR
     refine And.intro rfl (And.intro (by repeat first|exact trivial|refine And.intro rfl ?_) (And.intro (by repeat first|exact trivial|refine And.intro rfl ?_) (Exists.intro m20 (And.intro ⟨(IntKind.i64.wrap (u17 + 1)), wu18, u18, rfl, rfl, aL, (K0 _), fu18, aA⟩ (Nat.lt_succ_self _)))))
   ·replace aA := ifN aA aP
    have hE := Option.some.inj aA; subst hE
    try dsimp only [T0, U0] at aD
    refine And.intro rfl (And.intro (by repeat first|exact trivial|refine And.intro rfl ?_) (And.intro (by repeat first|exact trivial|refine And.intro rfl ?_) (Exists.intro m11 (And.intro ⟨(IntKind.i64.wrap (u8 + 1)), wu18, u18, rfl, rfl, ((bS.trans aO).trans aL), (K0 _), fu18, aD⟩ (Nat.lt_succ_self _)))))
  ·replace aD := ifN aD aN
   have hE := Option.some.inj aD; subst hE
   try dsimp only [T0, U0] at aF
   intro v31 k32 f33
   obtain ⟨az34, cz34, rfl, rz34, sz34, lz34⟩ := j1.out (r := S0.toRp) f33 fu9
   have hE := Option.some.inj aF; subst hE
   exact ⟨az34, u9.length, cz34, rfl, rz34, (bS.trans sz34)⟩
end Go.Proofs.YtfdlgbfeceodeaaGreat
namespace Go.Proofs.YtfdlgbfeceodeaaGreat
open Go.H
set_option linter.unusedVariables false
set_option linter.unusedSimpArgs false
set_option maxRecDepth 10000
set_option maxHeartbeats 0
theorem h07 (h : Hp) (fY : List Value) (p0 : F0) (rp0 : F1.R h fY p0) (fZ : List Value) (p1 : l0) (rp1 : W0.R h fZ p1) (r : l0 × Bool × Bool) (aA : J8 p0 p1 = some r) :
  Tr Tryz.prog 30 #[.agg fY.toArray, .agg fZ.toArray] h fun v h' => ∃ (cs0 : List Value), v = .tuple #[.agg cs0.toArray, .bool r.2.1, .bool r.2.2] ∧ New W0 h h' cs0 r.1 := by
 obtain ⟨bY, bK, iP, bL, eJ, rfl, rfl, cS, bM⟩ := U1 rp0
 obtain ⟨rfl, iQ⟩ := Sl.len bM
 obtain ⟨aL, aK, aO, iR, aP, aU, rfl, rfl, aS, aQ, aR⟩ := B0 rp1
 obtain ⟨rfl, iS⟩ := Sl.len aR
 unfold J8 at aA
 dsimp only at aA
 refine Q2 (args := [.agg #[.int .i64 bY, .slice bK eJ.length bL], .agg #[.int .i64 aL, .int .i64 aK, .slice aO aU.length aP]]) (fn := Tryz.f30) rfl ?_
 obtain ⟨x1, jN, aA⟩ := j0 aA
 refine Tr.val (i00 _ [.int .i64 bY, .slice bK eJ.length bL] (bY, eJ) (Z1 cS bM) _  jN) ?_
 obtain ⟨x2, jO, aA⟩ := j0 aA
 refine Exists.intro (.bool x2) (And.intro (fun q => Y9 _ [.int .i64 aL, .int .i64 aK, .slice aO aU.length aP] (aL, aK, aU) (z0 aS aQ aR) _  (V1 jO q)) ?_)
 refine And.intro (fun gA => ?_) (fun gA => ?_)
 ·replace aA := ifP aA gA
  obtain ⟨x4, jP, aA⟩ := j0 aA
  refine Tr.mono (N3 _ [.int .i64 aL, .int .i64 aK, .slice aO aU.length aP] (aL, aK, aU) (z0 aS aQ aR) _  jP) ?_
  rintro v6 k5 ⟨eK, iT, eL, rfl, wx4⟩
  have kC : Sub h k5 := wx4.sub
  have iU := wx4.r
  obtain ⟨gB, gC, jQ⟩ := x4
  dsimp only at aA wx4 iU
  obtain ⟨_, _, _, _, _, _, ecx4, exx4, eM, eN, eO⟩ := B0 iU
  cases ecx4
  cases exx4
  obtain ⟨rfl, iV⟩ := Sl.len eO
  try dsimp only at aA
  have we7 := New.sndI (New.sndI (wx4))
  have hE := Option.some.inj aA; subst hE
  exact ⟨([.int .i64 gB, .int .i64 gC, .slice (some ⟨eK, 0, none⟩) jQ.length eL]), rfl, (New.pair (New.int eM) (New.pair (New.int eN) we7))⟩
 ·replace aA := ifN aA gA
  obtain ⟨x8, jR, aA⟩ := j0 aA
  obtain ⟨cW, eP⟩ := x8
  try dsimp only at aA
  refine Tr.val (c07 _ [.int .i64 bY, .slice bK eJ.length bL] (bY, eJ) (Z1 cS bM) [.int .i64 aL, .int .i64 aK, .slice aO aU.length aP] (aL, aK, aU) (z0 aS aQ aR) _  jR) ?_
  obtain ⟨q9, jS, aA⟩ := j0 aA
  have cT : D0 cW := A2 jS
  obtain ⟨q10, gD, aA⟩ := j0 aA
  have iW : D0 eP := A2 gD
  refine And.intro (fun cX => ?_) (fun cX => ?_)
  ·replace aA := ifP aA cX
   refine Or.inr (Or.inr (Or.inr (Or.inr (Exists.intro 13 (And.intro (And.intro (by kernel_rfl) (by kernel_rfl)) ?_)))))
   obtain ⟨x12, gE, aA⟩ := j0 aA
   obtain ⟨gF, iX, gG, cY⟩ := Sl.getI (r := Z0.toRp) bM gE (by decide)
   obtain ⟨eQ, jT, eR, rfl⟩ := Wp.slice_cell cY
   obtain ⟨rfl, jU⟩ := Sl.len cY
   refine Or.inl (Exists.intro (.hel (.slice bK eJ.length bL) eP 1 0) (And.intro ?_ ?_))
   ·intro k13 s14
    exact And.intro gF (And.intro rfl (And.intro rfl rfl))
   refine Or.inl (Exists.intro (.val (.slice eQ x12.length eR)) (And.intro ?_ ?_))
   ·intro k15 s16
    exact Exists.intro _ (And.intro (j7.up s16 gG) (And.intro rfl (And.intro rfl rfl)))
   obtain ⟨x17, gH, aA⟩ := j0 aA
   obtain ⟨eT, bZ⟩ := x17
   try dsimp only at aA
   obtain ⟨aG, aH, aT⟩ := eT
   try dsimp only at aA
   refine Or.inr (Exists.intro (fun v hh => ∃ (aM : Value), v = .tuple #[aM, .bool bZ] ∧ (fun v hh => ∃ (aB : Option Addr) (aC : Nat), v = .agg #[.int .i64 aG, .int .i64 aH, .slice aB aT.length aC] ∧ D0 aG ∧ D0 aH ∧ New I0 h hh [.slice aB aT.length aC] aT ∧ aT.length ≤ 9223372036854775807) aM hh) (And.intro (fun v h1 h2 sb q => by obtain ⟨aM, e, aZ⟩ := q; exact ⟨aM, e, (by obtain ⟨aB, aC, e, f0, f1, f2, f3⟩ := aZ; exact ⟨aB, aC, e, f0, f1, New.mono f2 sb, f3⟩)⟩) (And.intro ?_ ?_)))
   ·intro k18 s19
    refine Tr.mono (O05 _ [.int .i64 aL, .int .i64 aK, .slice aO aU.length aP] (aL, aK, aU) (z0 aS aQ (I0.mono s19 aR)) cW cT eQ x12.length eR x12 (Z0.mono s19 cY) cW cT _ gH) ?_
    rintro _ kk ⟨fT, rfl, cZ⟩
    have sb := cZ.sub
    have dA := cZ.r
    obtain ⟨eU, eV, aV, eH, aW, eW, rfl, ey, bQ, bR, bS⟩ := B0 dA
    cases ey
    obtain ⟨rfl, bT⟩ := Sl.len bS
    exact And.intro J02 (And.intro sb ⟨(.agg #[.int .i64 aG, .int .i64 aH, .slice aV aT.length aW]), rfl, ⟨aV, aW, rfl, bQ, bR, (New.from (New.sndI (New.sndI (cZ))) s19), bT⟩⟩)
   refine Or.inr (Exists.intro (fun v hh => ∃ (aM : Value), v = .tuple #[aM, .bool bZ] ∧ (fun v hh => ∃ (aB : Option Addr) (aC : Nat), v = .agg #[.int .i64 aG, .int .i64 aH, .slice aB aT.length aC] ∧ D0 aG ∧ D0 aH ∧ New I0 h hh [.slice aB aT.length aC] aT ∧ aT.length ≤ 9223372036854775807) aM hh) (And.intro (fun v h1 h2 sb q => by obtain ⟨aM, e, aZ⟩ := q; exact ⟨aM, e, (by obtain ⟨aB, aC, e, f0, f1, f2, f3⟩ := aZ; exact ⟨aB, aC, e, f0, f1, New.mono f2 sb, f3⟩)⟩) (And.intro ?_ ?_)))
   ·intro k20 s21
    rintro _ ⟨_, rfl, ⟨az22p02, cz22p02, rfl, iz22p00, iz22p01, rz22p02, lz22p02⟩⟩
    exact And.intro J02 (And.intro (Sub.refl _) ⟨(.agg #[.int .i64 aG, .int .i64 aH, .slice az22p02 aT.length cz22p02]), rfl, ⟨az22p02, cz22p02, rfl, iz22p00, iz22p01, rz22p02, lz22p02⟩⟩)
   refine Or.inr (Exists.intro (fun v hh => ∃ (aB : Option Addr) (aC : Nat), v = .agg #[.int .i64 aG, .int .i64 aH, .slice aB aT.length aC] ∧ D0 aG ∧ D0 aH ∧ New I0 h hh [.slice aB aT.length aC] aT ∧ aT.length ≤ 9223372036854775807) (And.intro (fun v h1 h2 sb q => by obtain ⟨aB, aC, e, f0, f1, f2, f3⟩ := q; exact ⟨aB, aC, e, f0, f1, New.mono f2 sb, f3⟩) (And.intro ?_ ?_)))
   ·intro k23 s24
    rintro _ ⟨_, rfl, ⟨az25p02, cz25p02, rfl, iz25p00, iz25p01, rz25p02, lz25p02⟩⟩
    exact And.intro J02 (And.intro (Sub.refl _) ⟨az25p02, cz25p02, rfl, iz25p00, iz25p01, rz25p02, lz25p02⟩)
   refine Or.inl (Exists.intro (.val (.bool bZ)) (And.intro ?_ ?_))
   ·intro k26 s27
    rintro _ ⟨_, rfl, ⟨az28p02, cz28p02, rfl, iz28p00, iz28p01, rz28p02, lz28p02⟩⟩
    exact And.intro rfl (And.intro rfl rfl)
   intro k29 s30
   rintro _ ⟨az312, cz312, rfl, iz310, iz311, rz312, lz312⟩
   rintro _ ⟨_, rfl, ⟨az32p02, cz32p02, rfl, iz32p00, iz32p01, rz32p02, lz32p02⟩⟩
   rintro _ ⟨_, rfl, ⟨az33p02, cz33p02, rfl, iz33p00, iz33p01, rz33p02, lz33p02⟩⟩
   refine And.intro (fun dB => ?_) (fun dB => ?_)
   ·replace aA := ifP aA dB
    obtain ⟨x35, gI, aA⟩ := j0 aA
    refine Tr.mono (N3 _ [.int .i64 aL, .int .i64 aK, .slice aO aU.length aP] (aL, aK, aU) (z0 aS aQ (I0.mono s30 aR)) _  gI) ?_
    rintro v37 k36 ⟨dC, gJ, dD, rfl, wx35⟩
    have jV : Sub k29 k36 := wx35.sub
    have eX := wx35.r
    obtain ⟨eY, eZ, iY⟩ := x35
    dsimp only at aA wx35 eX
    obtain ⟨_, _, _, _, _, _, ecx35, exx35, dE, dF, dG⟩ := B0 eX
    cases ecx35
    cases exx35
    obtain ⟨rfl, gK⟩ := Sl.len dG
    try dsimp only at aA
    have we38 := New.sndI (New.sndI (wx35))
    have hE := Option.some.inj aA; subst hE
    exact ⟨([.int .i64 eY, .int .i64 eZ, .slice (some ⟨dC, 0, none⟩) iY.length dD]), rfl, (New.pair (New.int dE) (New.pair (New.int dF) (New.from we38 s30)))⟩
   ·replace aA := ifN aA dB
    obtain ⟨x39, gL, aA⟩ := j0 aA
    refine Tr.mono (T02 _ [.int .i64 aG, .int .i64 aH, .slice az312 aT.length cz312] (aG, aH, aT) (z0 iz310 iz311 rz312.r) _  gL) ?_
    rintro v41 k40 ⟨fU, gM, gN, gO, rfl, cA, cC⟩
    obtain ⟨iZ, jA⟩ := x39
    dsimp only at aA cA cC
    have jW : Sub k29 k40 := cA.sub
    have dH := cA.r
    obtain ⟨cL, cM, cD, fA, cE, fV, rfl, rfl, cG, cH, cI⟩ := B0 dH
    obtain ⟨rfl, fB⟩ := Sl.len cI
    try dsimp only at aA
    have we42 := New.sndI (New.sndI (cA))
    obtain ⟨rfl, gP⟩ := Sl.len cC
    have hE := Option.some.inj aA; subst hE
    exact ⟨([.int .i64 cL, .int .i64 cM, .slice cD fV.length cE]), rfl, (New.pair (New.int cG) (New.pair (New.int cH) (New.from we42 s30)))⟩
  ·replace aA := ifN aA cX
   obtain ⟨x43, gQ, aA⟩ := j0 aA
   refine Tr.mono (l06 _ [.int .i64 aL, .int .i64 aK, .slice aO aU.length aP] (aL, aK, aU) (z0 aS aQ aR) _  gQ) ?_
   rintro v45 k44 ⟨fC, jX, fD, rfl, dI, cN⟩
   obtain ⟨rfl, jY⟩ := Sl.len dI
   refine And.intro (fun dJ => ?_) (fun dJ => ?_)
   ·replace aA := ifP aA dJ
    obtain ⟨x47, gR, aA⟩ := j0 aA
    refine Tr.mono (N3 _ [.int .i64 aL, .int .i64 aK, .slice aO aU.length aP] (aL, aK, aU) (z0 aS aQ (I0.mono cN aR)) _  gR) ?_
    rintro v49 k48 ⟨dK, gS, dL, rfl, wx47⟩
    have jZ : Sub k44 k48 := wx47.sub
    have fE := wx47.r
    obtain ⟨fF, fG, jB⟩ := x47
    dsimp only at aA wx47 fE
    obtain ⟨_, _, _, _, _, _, ecx47, exx47, dM, dN, dO⟩ := B0 fE
    cases ecx47
    cases exx47
    obtain ⟨rfl, gT⟩ := Sl.len dO
    try dsimp only at aA
    have we50 := New.sndI (New.sndI (wx47))
    have hE := Option.some.inj aA; subst hE
    exact ⟨([.int .i64 fF, .int .i64 fG, .slice (some ⟨dK, 0, none⟩) jB.length dL]), rfl, (New.pair (New.int dM) (New.pair (New.int dN) (New.from we50 cN)))⟩
   ·replace aA := ifN aA dJ
    obtain ⟨x51, gU, aA⟩ := j0 aA
    refine Tr.mono (r09 _ [.int .i64 aL, .int .i64 aK, .slice aO aU.length aP] (aL, aK, aU) (z0 aS aQ (I0.mono cN aR)) _  gU) ?_
    rintro v53 k52 ⟨fW, rfl, cJ⟩
    obtain ⟨jC, jD⟩ := x51
    dsimp only at aA cJ
    have bJ : Sub k44 k52 := cJ.sub
    have dP := cJ.r
    obtain ⟨bA, bB, bE, fH, bF, cO, rfl, rfl, bG, bH, bI⟩ := B0 dP
    obtain ⟨rfl, fI⟩ := Sl.len bI
    try dsimp only at aA
    have we54 := New.sndI (New.sndI (cJ))
    refine And.intro (fun dQ => ?_) (fun dQ => ?_)
    ·replace aA := ifP aA dQ
     refine Or.inr (Or.inr (Or.inr (Or.inr (Exists.intro 16 (And.intro (And.intro (by kernel_rfl) (by kernel_rfl)) ?_)))))
     obtain ⟨x56, gV, aA⟩ := j0 aA
     obtain ⟨gW, jE, gX, gY⟩ := Sl.getI (r := S0.toRp) (I0.mono bJ dI) gV (by decide)
     obtain ⟨cU, jF, jG, rfl, rfl, dR, gZ, hJ⟩ := C1 gY
     try dsimp only at aA
     refine Or.inl (Exists.intro (.hel (.slice fC x43.length fD) 0 3 0) (And.intro ?_ ?_))
     ·intro k57 s58
      exact And.intro gW (And.intro rfl (And.intro rfl rfl))
     refine Or.inl (Exists.intro (.val (.int .i64 cU)) (And.intro ?_ ?_))
     ·intro k59 s60
      exact Exists.intro _ (And.intro (j7.up s60 gX) (And.intro rfl (And.intro rfl rfl)))
     obtain ⟨x61, hU, aA⟩ := j0 aA
     obtain ⟨hY, jH, hZ, iA⟩ := Sl.getI (r := S0.toRp) (I0.mono bJ dI) hU (by decide)
     obtain ⟨jI, cV, jJ, rfl, rfl, iB, dS, iC⟩ := C1 iA
     try dsimp only at aA
     refine Or.inl (Exists.intro (.hel (.slice fC x43.length fD) 0 3 0) (And.intro ?_ ?_))
     ·intro k62 s63
      exact And.intro hY (And.intro rfl (And.intro rfl rfl))
     refine Or.inl (Exists.intro (.val (.int .i64 cV)) (And.intro ?_ ?_))
     ·intro k64 s65
      exact Exists.intro _ (And.intro (j7.up s65 hZ) (And.intro rfl (And.intro rfl rfl)))
     obtain ⟨x66, iD, aA⟩ := j0 aA
     obtain ⟨bN, bO, bP⟩ := x66
     try dsimp only at aA
     refine Or.inr (Exists.intro (fun v hh => ∃ (_ : Unit), v = .agg #[.int .i64 bN, .int .i64 bO, .int .i64 bP] ∧ D0 bN ∧ D0 bO ∧ D0 bP) (And.intro (fun v h1 h2 sb q => by obtain ⟨u, e, f0, f1, f2⟩ := q; exact ⟨u, e, f0, f1, f2⟩) (And.intro ?_ ?_)))
     ·intro k67 s68
      refine Tr.mono (N05 _ cU dR cV dS aK aQ _ iD) ?_
      rintro _ kk ⟨jK, rfl, iE, sb⟩
      obtain ⟨iF, iG, iH, rfl, ey, cP, cQ, cR⟩ := C1 iE
      cases ey
      exact And.intro J02 (And.intro sb ⟨(), rfl, cP, cQ, cR⟩)
     obtain ⟨x69, iI, aA⟩ := j0 aA
     obtain ⟨fJ, cK⟩ := x69
     try dsimp only at aA
     obtain ⟨aI, aJ, bC⟩ := fJ
     try dsimp only at aA
     refine Or.inr (Exists.intro (fun v hh => ∃ (aN : Value), v = .tuple #[aN, .bool cK] ∧ (fun v hh => ∃ (aD : Option Addr) (aF : Nat), v = .agg #[.int .i64 aI, .int .i64 aJ, .slice aD bC.length aF] ∧ D0 aI ∧ D0 aJ ∧ New I0 k52 hh [.slice aD bC.length aF] bC ∧ bC.length ≤ 9223372036854775807) aN hh) (And.intro (fun v h1 h2 sb q => by obtain ⟨aN, e, bD⟩ := q; exact ⟨aN, e, (by obtain ⟨aD, aF, e, f0, f1, f2, f3⟩ := bD; exact ⟨aD, aF, e, f0, f1, New.mono f2 sb, f3⟩)⟩) (And.intro ?_ ?_)))
     ·intro k70 s71
      rintro _ ⟨_, rfl, iz720, iz721, iz722⟩
      refine Tr.mono (e0c _ [.int .i64 bA, .int .i64 bB, .slice bE cO.length bF] (bA, bB, cO) (z0 bG bH (I0.mono s71 bI)) [.int .i64 bN, .int .i64 bO, .int .i64 bP] (bN, bO, bP) (V0 iz720 iz721 iz722) _ iI) ?_
      rintro _ kk ⟨fX, rfl, dT⟩
      have sb := dT.sub
      have dU := dT.r
      obtain ⟨fK, fL, aX, eI, aY, fM, rfl, ey, bU, bV, bW⟩ := B0 dU
      cases ey
      obtain ⟨rfl, bX⟩ := Sl.len bW
      exact And.intro J02 (And.intro sb ⟨(.agg #[.int .i64 aI, .int .i64 aJ, .slice aX bC.length aY]), rfl, ⟨aX, aY, rfl, bU, bV, (New.from (New.sndI (New.sndI (dT))) s71), bX⟩⟩)
     refine Or.inr (Exists.intro (fun v hh => ∃ (aN : Value), v = .tuple #[aN, .bool cK] ∧ (fun v hh => ∃ (aD : Option Addr) (aF : Nat), v = .agg #[.int .i64 aI, .int .i64 aJ, .slice aD bC.length aF] ∧ D0 aI ∧ D0 aJ ∧ New I0 k52 hh [.slice aD bC.length aF] bC ∧ bC.length ≤ 9223372036854775807) aN hh) (And.intro (fun v h1 h2 sb q => by obtain ⟨aN, e, bD⟩ := q; exact ⟨aN, e, (by obtain ⟨aD, aF, e, f0, f1, f2, f3⟩ := bD; exact ⟨aD, aF, e, f0, f1, New.mono f2 sb, f3⟩)⟩) (And.intro ?_ ?_)))
     ·intro k73 s74
      rintro _ ⟨_, rfl, ⟨az75p02, cz75p02, rfl, iz75p00, iz75p01, rz75p02, lz75p02⟩⟩
      exact And.intro J02 (And.intro (Sub.refl _) ⟨(.agg #[.int .i64 aI, .int .i64 aJ, .slice az75p02 bC.length cz75p02]), rfl, ⟨az75p02, cz75p02, rfl, iz75p00, iz75p01, rz75p02, lz75p02⟩⟩)
     refine Or.inr (Exists.intro (fun v hh => ∃ (aD : Option Addr) (aF : Nat), v = .agg #[.int .i64 aI, .int .i64 aJ, .slice aD bC.length aF] ∧ D0 aI ∧ D0 aJ ∧ New I0 k52 hh [.slice aD bC.length aF] bC ∧ bC.length ≤ 9223372036854775807) (And.intro (fun v h1 h2 sb q => by obtain ⟨aD, aF, e, f0, f1, f2, f3⟩ := q; exact ⟨aD, aF, e, f0, f1, New.mono f2 sb, f3⟩) (And.intro ?_ ?_)))
     ·intro k76 s77
      rintro _ ⟨_, rfl, ⟨az78p02, cz78p02, rfl, iz78p00, iz78p01, rz78p02, lz78p02⟩⟩
      exact And.intro J02 (And.intro (Sub.refl _) ⟨az78p02, cz78p02, rfl, iz78p00, iz78p01, rz78p02, lz78p02⟩)
     refine Or.inl (Exists.intro (.val (.bool cK)) (And.intro ?_ ?_))
     ·intro k79 s80
      rintro _ ⟨_, rfl, ⟨az81p02, cz81p02, rfl, iz81p00, iz81p01, rz81p02, lz81p02⟩⟩
      exact And.intro rfl (And.intro rfl rfl)
     intro k82 s83
     rintro _ ⟨az842, cz842, rfl, iz840, iz841, rz842, lz842⟩
     rintro _ ⟨_, rfl, ⟨az85p02, cz85p02, rfl, iz85p00, iz85p01, rz85p02, lz85p02⟩⟩
     rintro _ ⟨_, rfl, ⟨az86p02, cz86p02, rfl, iz86p00, iz86p01, rz86p02, lz86p02⟩⟩
     rintro _ ⟨_, rfl, iz870, iz871, iz872⟩
     refine And.intro (fun dV => ?_) (fun dV => ?_)
     ·replace aA := ifP aA dV
      obtain ⟨x89, iJ, aA⟩ := j0 aA
      refine Tr.mono (N3 _ [.int .i64 aL, .int .i64 aK, .slice aO aU.length aP] (aL, aK, aU) (z0 aS aQ (I0.mono ((cN.trans bJ).trans s83) aR)) _  iJ) ?_
      rintro v91 k90 ⟨dW, iK, dX, rfl, wx89⟩
      have kA : Sub k82 k90 := wx89.sub
      have fN := wx89.r
      obtain ⟨fO, fP, jL⟩ := x89
      dsimp only at aA wx89 fN
      obtain ⟨_, _, _, _, _, _, ecx89, exx89, dY, dZ, eA⟩ := B0 fN
      cases ecx89
      cases exx89
      obtain ⟨rfl, iL⟩ := Sl.len eA
      try dsimp only at aA
      have we92 := New.sndI (New.sndI (wx89))
      have hE := Option.some.inj aA; subst hE
      exact ⟨([.int .i64 fO, .int .i64 fP, .slice (some ⟨dW, 0, none⟩) jL.length dX]), rfl, (New.pair (New.int dY) (New.pair (New.int dZ) (New.from we92 ((cN.trans bJ).trans s83))))⟩
     ·replace aA := ifN aA dV
      have hE := Option.some.inj aA; subst hE
      exact ⟨([.int .i64 aI, .int .i64 aJ, .slice az842 bC.length cz842]), rfl, (New.pair (New.int iz840) (New.pair (New.int iz841) (New.from rz842 (cN.trans bJ))))⟩
    ·replace aA := ifN aA dQ
     refine And.intro (fun eB => ?_) (fun eB => ?_)
     ·replace aA := ifP aA eB
      obtain ⟨x94, iM, aA⟩ := j0 aA
      refine Tr.mono (N3 _ [.int .i64 aL, .int .i64 aK, .slice aO aU.length aP] (aL, aK, aU) (z0 aS aQ (I0.mono (cN.trans bJ) aR)) _  iM) ?_
      rintro v96 k95 ⟨eC, iN, eD, rfl, wx94⟩
      have kB : Sub k52 k95 := wx94.sub
      have fQ := wx94.r
      obtain ⟨fR, fS, jM⟩ := x94
      dsimp only at aA wx94 fQ
      obtain ⟨_, _, _, _, _, _, ecx94, exx94, eE, eF, eG⟩ := B0 fQ
      cases ecx94
      cases exx94
      obtain ⟨rfl, iO⟩ := Sl.len eG
      try dsimp only at aA
      have we97 := New.sndI (New.sndI (wx94))
      have hE := Option.some.inj aA; subst hE
      exact ⟨([.int .i64 fR, .int .i64 fS, .slice (some ⟨eC, 0, none⟩) jM.length eD]), rfl, (New.pair (New.int eE) (New.pair (New.int eF) (New.from we97 (cN.trans bJ))))⟩
     ·replace aA := ifN aA eB
      have hE := Option.some.inj aA; subst hE
      exact ⟨([.int .i64 bA, .int .i64 bB, .slice bE cO.length bF]), rfl, (New.pair (New.int bG) (New.pair (New.int bH) (New.from we54 cN)))⟩
end Go.Proofs.YtfdlgbfeceodeaaGreat
namespace Go.Proofs.YtfdlgbfeceodeaaGreat
open Go.H
set_option linter.unusedVariables false
set_option linter.unusedSimpArgs false
set_option maxRecDepth 10000
theorem s09 (h : Hp) (bO : List Value) (p0 : l0) (rp0 : W0.R h bO p0) (r : l0) (aA : r8 p0 = some r) :
  Tr Tryz.prog 131 #[.agg bO.toArray] h fun v h' => ∃ (cs0 : List Value), v = .agg cs0.toArray ∧ New W0 h h' cs0 r := by
 obtain ⟨aX, aY, aQ, bU, aR, bP, rfl, rfl, bB, bC, aS⟩ := B0 rp0
 obtain ⟨rfl, bV⟩ := Sl.len aS
 unfold r8 at aA
 dsimp only at aA
 refine Q2 (args := [.agg #[.int .i64 aX, .int .i64 aY, .slice aQ bP.length aR]]) (fn := Tryz.f131) rfl ?_
 obtain ⟨x1, cI, aA⟩ := j0 aA
 refine Tr.mono (T02 _ [.int .i64 aX, .int .i64 aY, .slice aQ bP.length aR] (aX, aY, bP) (z0 bB bC aS) _  cI) ?_
 rintro v3 k2 ⟨bQ, bW, bX, bY, rfl, aT, aU⟩
 obtain ⟨cJ, cK⟩ := x1
 dsimp only at aA aT aU
 have cT : Sub h k2 := aT.sub
 have bD := aT.r
 obtain ⟨aD, aF, aI, bK, aJ, aZ, rfl, rfl, aK, aL, aB⟩ := B0 bD
 obtain ⟨rfl, bL⟩ := Sl.len aB
 try dsimp only at aA
 have we4 := New.sndI (New.sndI (aT))
 obtain ⟨rfl, bZ⟩ := Sl.len aU
 obtain ⟨x5, cL, aA⟩ := j0 aA
 refine Tr.mono (p09 _ [.int .i64 aD, .int .i64 aF, .slice aI aZ.length aJ] (aD, aF, aZ) (z0 aK aL aB) _  cL) ?_
 rintro v7 k6 ⟨bR, cA, cC, cD, rfl, aV, aW⟩
 obtain ⟨cM, cN⟩ := x5
 dsimp only at aA aV aW
 have cO : Sub k2 k6 := aV.sub
 have bE := aV.r
 obtain ⟨aG, aH, aM, bM, aN, bA, rfl, rfl, aO, aP, aC⟩ := B0 bE
 obtain ⟨rfl, bN⟩ := Sl.len aC
 try dsimp only at aA
 have we8 := New.sndI (New.sndI (aV))
 obtain ⟨rfl, cE⟩ := Sl.len aW
 obtain ⟨x9, cP, aA⟩ := j0 aA
 refine Tr.mono (Q04 _ [.int .i64 aG, .int .i64 aH, .slice aM bA.length aN] (aG, aH, bA) (z0 aO aP aC) _  cP) ?_
 rintro v11 k10 ⟨cQ, rfl, wx9⟩
 have cU : Sub k6 k10 := wx9.sub
 have cR := wx9.r
 obtain ⟨bS, bT, bF, cG, bG, cS, rfl, rfl, bH, bI, bJ⟩ := B0 cR
 obtain ⟨rfl, cH⟩ := Sl.len bJ
 try dsimp only at aA
 have we12 := New.sndI (New.sndI (wx9))
 have hE := Option.some.inj aA; subst hE
 exact ⟨([.int .i64 bS, .int .i64 bT, .slice bF cS.length bG]), rfl, (New.pair (New.int bH) (New.pair (New.int bI) (New.from we12 (cT.trans cO))))⟩
end Go.Proofs.YtfdlgbfeceodeaaGreat
namespace Go.Proofs.YtfdlgbfeceodeaaGreat
open Go.H
set_option linter.unusedVariables false
set_option linter.unusedSimpArgs false
set_option maxRecDepth 10000
theorem G04 (h : Hp) (cN : List Value) (p0 : F0) (rp0 : F1.R h cN p0) (ap1 : Option Addr) (np1 cp1 : Nat) (p1 : V3) (rp1 : n5.R h [.slice ap1 np1 cp1] p1) (r : l0 × Bool) (aA : P6 p0 p1 = some r) :
  Tr Tryz.prog 66 #[.agg cN.toArray, .slice ap1 np1 cp1] h fun v h' => ∃ (cs0 : List Value), v = .tuple #[.agg cs0.toArray, .bool r.2] ∧ New W0 h h' cs0 r.1 := by
 obtain ⟨aC, aF, cX, aG, aS, rfl, rfl, aH, aI⟩ := U1 rp0
 obtain ⟨rfl, cY⟩ := Sl.len aI
 obtain ⟨rfl, lp1⟩ := Sl.len rp1
 unfold P6 at aA
 dsimp only at aA
 refine Q2 (args := [.agg #[.int .i64 aC, .slice aF aS.length aG], .slice ap1 p1.length cp1]) (fn := Tryz.f66) rfl ?_
 obtain ⟨x1, dJ, aA⟩ := j0 aA
 refine Tr.val (i00 _ [.int .i64 aC, .slice aF aS.length aG] (aC, aS) (Z1 aH aI) _  dJ) ?_
 refine And.intro (fun cO => ?_) (fun cO => ?_)
 ·replace aA := ifP aA cO
  have hE := Option.some.inj aA; subst hE
  exact ⟨([.int .i64 0, .int .i64 0, .slice none 0 0]), rfl, (New.pair (New.int (by decide)) (New.pair (New.int (by decide)) ((New.nilSlice (r := S0)).mono (Sub.refl _))))⟩
 ·replace aA := ifN aA cO
  obtain ⟨x3, dK, aA⟩ := j0 aA
  refine Tr.mono (m0a _ aC aH ap1 p1.length cp1 p1 rp1 _  dK) ?_
  rintro v5 k4 ⟨cP, rfl, bG⟩
  obtain ⟨dL, dM⟩ := x3
  dsimp only at aA bG
  have cZ : Sub h k4 := bG.sub
  have bW := bG.r
  obtain ⟨aJ, aK, aT, cI, aU, bJ, rfl, rfl, aV, aW, aD⟩ := B0 bW
  obtain ⟨rfl, cJ⟩ := Sl.len aD
  try dsimp only at aA
  have we6 := New.sndI (New.sndI (bG))
  refine And.intro (fun cQ => ?_) (fun cQ => ?_)
  ·replace aA := ifP aA cQ
   have hE := Option.some.inj aA; subst hE
   exact ⟨([.int .i64 0, .int .i64 0, .slice none 0 0]), rfl, (New.pair (New.int (by decide)) (New.pair (New.int (by decide)) ((New.nilSlice (r := S0)).mono cZ)))⟩
  ·replace aA := ifN aA cQ
   obtain ⟨x8, dN, aA⟩ := j0 aA
   refine Tr.mono (T02 _ [.int .i64 aJ, .int .i64 aK, .slice aT bJ.length aU] (aJ, aK, bJ) (z0 aV aW aD) _  dN) ?_
   rintro v10 k9 ⟨cR, dA, dB, dC, rfl, bH, bI⟩
   obtain ⟨dO, dP⟩ := x8
   dsimp only at aA bH bI
   have bX : Sub k4 k9 := bH.sub
   have bY := bH.r
   obtain ⟨bK, bL, aX, cK, aY, bM, rfl, rfl, aZ, bA, bB⟩ := B0 bY
   obtain ⟨rfl, cL⟩ := Sl.len bB
   try dsimp only at aA
   have we11 := New.sndI (New.sndI (bH))
   obtain ⟨rfl, dD⟩ := Sl.len bI
   obtain ⟨X12, bZ, aA⟩ := j0 aA
   refine Exists.intro { vars := [8], boxes := [2], owns := [], fuel := true } (Exists.intro (fun vs os h' => ∃ (u13 : Int) (u14 : Int) (u15 : Int) (au16 : Option Addr) (nu16 cu16 : Nat) (u16 : M0), vs.tail = [.int .i64 u13, .int .i64 u14, .int .i64 u15, .slice au16 nu16 cu16] ∧ os = [] ∧ Sub k9 h' ∧ D0 u13 ∧ D0 u14 ∧ D0 u15 ∧ New I0 h h' [.slice au16 nu16 cu16] u16 ∧ P2 aC aS (L1 vs) u13 u14 u15 u16 = some X12) (Exists.intro (fun _ _ => 0) ?_))
   refine And.intro (Exists.intro Q0 ⟨0, bK, bL, aX, bM.length, aY, bM, rfl, rfl, (Sub.refl _), (by decide), aZ, bA, (New.from we11 cZ), bZ⟩) ?_
   rintro v_0 v_1 v_2 v_3 m18 k17 ⟨u13, u14, u15, au16, nu16, cu16, u16, cA, cC, aL, iu13, iu14, iu15, wwu16, aB⟩
   cases cA
   cases cC
   replace aB : P2 aC aS m18 u13 u14 u15 u16 = some X12 := aB
   obtain _ | m18 := m18
   ·cases (show (none : Option _) = some X12 from aB)
   rw [P2.eq_2] at aB
   have ru16 := wwu16.r
   obtain ⟨rfl, lu16⟩ := Sl.len ru16
   refine And.intro (fun bN => ?_) (fun bN => ?_)
   ·replace aB := ifP aB bN
    obtain ⟨x20, cS, aB⟩ := j0 aB
    refine Tr.mono (h07 _ [.int .i64 aC, .slice aF aS.length aG] (aC, aS) (Z1 aH (n5.mono ((cZ.trans bX).trans aL) aI)) [.int .i64 u14, .int .i64 u15, .slice au16 u16.length cu16] (u14, u15, u16) (z0 iu14 iu15 ru16) _  cS) ?_
    rintro v22 k21 ⟨cM, rfl, aM⟩
    obtain ⟨dE, dF, dG⟩ := x20
    dsimp only at aB aM
    have bC : Sub k17 k21 := aM.sub
    have bO := aM.r
    obtain ⟨bD, bE, aN, cD, aO, bF, rfl, rfl, aP, aQ, aR⟩ := B0 bO
    obtain ⟨rfl, cE⟩ := Sl.len aR
    try dsimp only at aB
    have we23 := New.sndI (New.sndI (aM))
    refine And.intro (fun bP => ?_) (fun bP => ?_)
    ·replace aB := ifP aB bP
     have hE := Option.some.inj aB; subst hE
     try dsimp only [Z2, D3] at aA
     have hE := Option.some.inj aA; subst hE
     exact ⟨([.int .i64 0, .int .i64 0, .slice none 0 0]), rfl, (New.pair (New.int (by decide)) (New.pair (New.int (by decide)) ((New.nilSlice (r := S0)).mono (((cZ.trans bX).trans aL).trans bC))))⟩
    ·replace aB := ifN aB bP
     refine And.intro (fun bQ => ?_) (fun bQ => ?_)
     ·replace aB := ifP aB bQ
      obtain ⟨x26, cT, aB⟩ := j0 aB
      refine Tr.mono (s09 _ [.int .i64 u14, .int .i64 u15, .slice au16 u16.length cu16] (u14, u15, u16) (z0 iu14 iu15 (I0.mono bC ru16)) _  cT) ?_
      rintro v28 k27 ⟨dH, rfl, wx26⟩
      have dQ : Sub k21 k27 := wx26.sub
      have cU := wx26.r
      obtain ⟨cG, cH, bR, cV, bS, dI, rfl, rfl, bT, bU, bV⟩ := B0 cU
      obtain ⟨rfl, cW⟩ := Sl.len bV
      try dsimp only at aB
      have we29 := New.sndI (New.sndI (wx26))
      have hE := Option.some.inj aB; subst hE
      try dsimp only [Z2, D3] at aA
      have hE := Option.some.inj aA; subst hE
      exact ⟨([.int .i64 cG, .int .i64 cH, .slice bR dI.length bS]), rfl, (New.pair (New.int bT) (New.pair (New.int bU) (New.from we29 (((cZ.trans bX).trans aL).trans bC))))⟩
     ·replace aB := ifN aB bQ
      refine And.intro rfl (And.intro (by repeat first|exact trivial|refine And.intro rfl ?_) (And.intro (by repeat first|exact trivial|refine And.intro rfl ?_) (Exists.intro m18 (And.intro ⟨(IntKind.i64.wrap (u13 + 1)), bD, bE, aN, bF.length, aO, bF, rfl, rfl, (aL.trans bC), (K0 _), aP, aQ, (New.from we23 ((cZ.trans bX).trans aL)), aB⟩ (Nat.lt_succ_self _)))))
   ·replace aB := ifN aB bN
    have hE := Option.some.inj aB; subst hE
    try dsimp only [T0, U0] at aA
    have hE := Option.some.inj aA; subst hE
    exact ⟨([.int .i64 0, .int .i64 0, .slice none 0 0]), rfl, (New.pair (New.int (by decide)) (New.pair (New.int (by decide)) ((New.nilSlice (r := S0)).mono ((cZ.trans bX).trans aL))))⟩
theorem i07 (h : Hp) (aJ : List Value) (p0 : l0) (rp0 : W0.R h aJ p0) (ap1 : Option Addr) (np1 cp1 : Nat) (p1 : P0) (rp1 : Z0.R h [.slice ap1 np1 cp1] p1) (r : Bool) (aA : t7 p0 p1 = some r) :
  Tr Tryz.prog 127 #[.agg aJ.toArray, .slice ap1 np1 cp1] h fun v h' => v = .bool r ∧ h' = h := by
 obtain ⟨aF, aG, aB, aN, aC, aK, rfl, rfl, aH, aI, aD⟩ := B0 rp0
 obtain ⟨rfl, aO⟩ := Sl.len aD
 obtain ⟨rfl, lp1⟩ := Sl.len rp1
 unfold t7 at aA
 dsimp only at aA
 refine Tr.forget (Q2 (args := [.agg #[.int .i64 aF, .int .i64 aG, .slice aB aK.length aC], .slice ap1 p1.length cp1]) (fn := Tryz.f127) rfl ?_)
 obtain ⟨x1, aR, aA⟩ := j0 aA
 obtain ⟨aL, aM⟩ := x1
 try dsimp only at aA
 refine Tr.val (o03 _ [.int .i64 aF, .int .i64 aG, .slice aB aK.length aC] (aF, aG, aK) (z0 aH aI aD) 0 (by decide) ap1 p1.length cp1 p1 rp1 _  aR) ?_
 obtain ⟨q2, aS, aA⟩ := j0 aA
 have aP : D0 aL := A2 aS
 obtain ⟨q3, aT, aA⟩ := j0 aA
 have aQ : D0 aM := A2 aT
 have hE := Option.some.inj aA; subst hE
 exact And.intro rfl (Sub.refl _)
theorem j07 (h : Hp) (aU : List Value) (p0 : F0) (rp0 : F1.R h aU p0) (ap1 : Option Addr) (np1 cp1 : Nat) (p1 : P0) (rp1 : Z0.R h [.slice ap1 np1 cp1] p1) (r : Bool × Bool) (aA : I9 p0 p1 = some r) :
  Tr Tryz.prog 64 #[.agg aU.toArray, .slice ap1 np1 cp1] h fun v h' => v = .tuple #[.bool r.1, .bool r.2] ∧ h' = h := by
 obtain ⟨aF, aK, aY, aL, aV, rfl, rfl, aM, aN⟩ := U1 rp0
 obtain ⟨rfl, aZ⟩ := Sl.len aN
 obtain ⟨rfl, lp1⟩ := Sl.len rp1
 unfold I9 at aA
 dsimp only at aA
 refine Tr.forget (Q2 (args := [.agg #[.int .i64 aF, .slice aK aV.length aL], .slice ap1 p1.length cp1]) (fn := Tryz.f64) rfl ?_)
 obtain ⟨x1, bA, aA⟩ := j0 aA
 refine Tr.mono (G04 _ [.int .i64 aF, .slice aK aV.length aL] (aF, aV) (Z1 aM aN) none 0 0 [] (U0d Z0 h) _  bA) ?_
 rintro v3 k2 ⟨aW, rfl, aP⟩
 obtain ⟨bB, bC⟩ := x1
 dsimp only at aA aP
 have aR : Sub h k2 := aP.sub
 have aQ := aP.r
 obtain ⟨aC, aD, aG, aS, aH, aO, rfl, rfl, aI, aJ, aB⟩ := B0 aQ
 obtain ⟨rfl, aT⟩ := Sl.len aB
 try dsimp only at aA
 obtain ⟨x4, bD, aA⟩ := j0 aA
 refine Exists.intro (.bool x4) (And.intro (fun q => A03 _ aF aM ap1 p1.length cp1 p1 (Z0.mono aR rp1) _  (V1 bD q)) ?_)
 refine And.intro (fun aX => ?_) (fun aX => ?_)
 ·replace aA := ifP aA aX
  have hE := Option.some.inj aA; subst hE
  exact And.intro rfl aR
 ·replace aA := ifN aA aX
  obtain ⟨x6, bE, aA⟩ := j0 aA
  refine Tr.val (i07 _ [.int .i64 aC, .int .i64 aD, .slice aG aO.length aH] (aC, aD, aO) (z0 aI aJ aB) ap1 p1.length cp1 p1 (Z0.mono aR rp1) _  bE) ?_
  have hE := Option.some.inj aA; subst hE
  exact And.intro rfl aR
end Go.Proofs.YtfdlgbfeceodeaaGreat
