/- Texts of the claim, joined: The walks of batch h3; The walks of batch h4; The walks of batch i2; The walks of batch i4. -/
import Derived.Test.YtfdlgbfeceodeaaGreatPart18
import Derived.Test.YtfdlgbfeceodeaaGreatChecked
import Derived.Test.YtfdlgbfeceodeaaGreatH35
import Derived.Test.YtfdlgbfeceodeaaGreatPart25
import Derived.Test.YtfdlgbfeceodeaaGreatPart27
import Derived.Test.YtfdlgbfeceodeaaGreatSE
import Derived.Test.YtfdlgbfeceodeaaGreatPart21
import Derived.Test.YtfdlgbfeceodeaaGreatH41
namespace Go.Proofs.YtfdlgbfeceodeaaGreat
open Go.H
set_option linter.unusedVariables false
set_option linter.unusedSimpArgs false
set_option maxRecDepth 10000
theorem C05 (h : Hp) (p0 : Int) (ip0 : H0 p0) (p1 : Int) (ip1 : H0 p1) (p2 : Int) (ip2 : H0 p2) (r : C0) (hM0 : m00 p0 p1 p2 = some r) :
  Tr Tryz.prog 103 #[.int .i64 p0, .int .i64 p1, .int .i64 p2] h fun v h' => ∃ (cs0 : List Value), v = .agg cs0.toArray ∧ Q0.R h' cs0 r ∧ Sub h h' := by
 unfold m00 at hM0
 refine T2 (args := [.int .i64 p0, .int .i64 p1, .int .i64 p2]) (fn := Tryz.f103) rfl ?_
 refine And.intro (fun hc1 => ?_) (fun hc1 => ?_)
 ·replace hM0 := ifP hM0 hc1
  have hE := Option.some.inj hM0; subst hE
  exact ⟨([.int .i64 p2, .int .i64 (IntKind.i64.wrap (0 - p1)), .int .i64 p0]), rfl, (V0 ip2 (K0 _) ip0), (Sub.refl _)⟩
 ·replace hM0 := ifN hM0 hc1
  have hE := Option.some.inj hM0; subst hE
  exact ⟨([.int .i64 p0, .int .i64 p1, .int .i64 p2]), rfl, (V0 ip0 ip1 ip2), (Sub.refl _)⟩
theorem y00 (h : Hp) (ap0 : Option Addr) (np0 cp0 : Nat) (p0 : J0) (rp0 : I0.R h [.slice ap0 np0 cp0] p0) (csp1 : List Value) (p1 : C0) (rp1 : Q0.R h csp1 p1) (r : Int) (hM0 : B4 p0 p1 = some r) :
  Tr Tryz.prog 210 #[.slice ap0 np0 cp0, .agg csp1.toArray] h fun v h' => v = .int .i64 r ∧ h' = h := by
 obtain ⟨rfl, lp0⟩ := Sl.len rp0
 obtain ⟨aA, aB, aC, rfl, rfl, aH, aI, aJ⟩ := D1 rp1
 unfold B4 at hM0
 dsimp only at hM0
 refine Tr.forget (T2 (args := [.slice ap0 p0.length cp0, .agg #[.int .i64 aA, .int .i64 aB, .int .i64 aC]]) (fn := Tryz.f210) rfl ?_)
 obtain ⟨X1, hLX1, hM0⟩ := j0 hM0
 refine Exists.intro { vars := [8], boxes := [], owns := [], fuel := true } (Exists.intro (fun vs os h' => ∃ (u2 : Int), vs.tail = [.int .i64 u2] ∧ os = [] ∧ Sub h h' ∧ H0 u2 ∧ H1 p0 aA aB aC (Q1 vs) u2 = some X1) (Exists.intro (fun _ _ => 0) ?_))
 refine And.intro (Exists.intro T0 ⟨0, rfl, rfl, (Sub.refl _), (c64 (by decide) (by decide)), hLX1⟩) ?_
 rintro v_0 m4 k3 ⟨u2, evX1, eoX1, sX1, iu2, hM1⟩
 cases evX1
 cases eoX1
 replace hM1 : H1 p0 aA aB aC m4 u2 = some X1 := hM1
 obtain _ | m4 := m4
 ·cases (show (none : Option _) = some X1 from hM1)
 rw [H1.eq_2] at hM1
 refine And.intro (fun hc5 => ?_) (fun hc5 => ?_)
 ·replace hM1 := ifP hM1 hc5
  refine Or.inl (And.intro (And.intro (by kernel_rfl) (by kernel_rfl)) ?_)
  obtain ⟨x6, gx6, hM1⟩ := j0 hM1
  obtain ⟨bx6, csx6, ex6, rx6⟩ := Sl.getI (r := Q0.toRp) (I0.mono sX1 rp0) gx6 (by decide)
  refine And.intro bx6 ?_
  obtain ⟨aD, aF, aG, rfl, rfl, aK, aL, aM⟩ := D1 rx6
  try dsimp only at hM1
  refine Exists.intro _ (And.intro ex6 ?_)
  refine Exists.intro (eqE (aA, aB, aC) (aD, aF, aG)) (And.intro (T0h _ _ _ rfl _ _ _ _ _ _) ?_)
  refine And.intro (fun hc7 => ?_) (fun hc7 => ?_)
  ·replace hM1 := ifP hM1 hc7
   have hE := Option.some.inj hM1; subst hE
   try dsimp only [G3, J3] at hM0
   have hE := Option.some.inj hM0; subst hE
   exact And.intro rfl sX1
  ·replace hM1 := ifN hM1 hc7
   refine And.intro rfl (And.intro (by repeat (first | exact trivial | refine And.intro rfl ?_)) (And.intro (by repeat (first | exact trivial | refine And.intro rfl ?_)) (Exists.intro m4 (And.intro ⟨(IntKind.i64.wrap (u2 + 1)), rfl, rfl, sX1, (K0 _), hM1⟩ (Nat.lt_succ_self _)))))
 ·replace hM1 := ifN hM1 hc5
  have hE := Option.some.inj hM1; subst hE
  try dsimp only [U0, Z0] at hM0
  have hE := Option.some.inj hM0; subst hE
  exact And.intro rfl sX1
theorem T9 (h : Hp) (ap0 : Option Addr) (np0 cp0 : Nat) (p0 : J0) (rp0 : I0.R h [.slice ap0 np0 cp0] p0) (csp1 : List Value) (p1 : C0) (rp1 : Q0.R h csp1 p1) (r : Bool) (hM0 : Q2 p0 p1 = some r) :
  Tr Tryz.prog 159 #[.slice ap0 np0 cp0, .agg csp1.toArray] h fun v h' => v = .bool r ∧ h' = h := by
 obtain ⟨rfl, lp0⟩ := Sl.len rp0
 obtain ⟨aA, aB, aC, rfl, rfl, aD, aF, aG⟩ := D1 rp1
 unfold Q2 at hM0
 dsimp only at hM0
 refine Tr.forget (T2 (args := [.slice ap0 p0.length cp0, .agg #[.int .i64 aA, .int .i64 aB, .int .i64 aC]]) (fn := Tryz.f159) rfl ?_)
 obtain ⟨x1, gx1, hM0⟩ := j0 hM0
 refine Tr.val (y00 _ ap0 p0.length cp0 p0 rp0 [.int .i64 aA, .int .i64 aB, .int .i64 aC] (aA, aB, aC) (V0 aD aF aG) _  gx1) ?_
 obtain ⟨q2, gq2, hM0⟩ := j0 hM0
 have ix1 : H0 x1 := U2 gq2
 have hE := Option.some.inj hM0; subst hE
 exact And.intro rfl (Sub.refl _)
theorem l01 (h : Hp) (p0 : Int) (ip0 : H0 p0) (bp1 : Nat) (typ1 : TypeId) (aB : Int) (aC : H0 aB) (aA : Int) (aD : H0 aA) (hbp1 : h bp1 = some (.cells #[.int .i64 aB, .int .i64 aA] typ1 (0, 0))) (r : Int) (hM0 : G5 p0 (aB, aA) = some r) :
  Tr Tryz.prog 227 #[.int .i64 p0, ptr bp1 0] h fun v h' => v = .int .i64 r ∧ h' = h := by
 unfold G5 at hM0
 dsimp only at hM0
 refine Tr.forget (T2 (args := [.int .i64 p0, ptr bp1 0]) (fn := Tryz.f227) rfl ?_)
 refine Exists.intro (.int .i64 aA) (And.intro ⟨rfl, by simp [Hp.cell, (hbp1)]⟩ ?_)
 refine And.intro (fun hc1 => ?_) (fun hc1 => ?_)
 ·replace hM0 := ifP hM0 hc1
  refine Exists.intro (.int .i64 aB) (And.intro ⟨rfl, by simp [Hp.cell, (hbp1)]⟩ ?_)
  have hE := Option.some.inj hM0; subst hE
  exact And.intro rfl (Sub.refl _)
 ·replace hM0 := ifN hM0 hc1
  refine Exists.intro (.int .i64 aA) (And.intro ⟨rfl, by simp [Hp.cell, (hbp1)]⟩ ?_)
  refine And.intro (fun hc2 => ?_) (fun hc2 => ?_)
  ·replace hM0 := ifP hM0 hc2
   have hE := Option.some.inj hM0; subst hE
   exact And.intro rfl (Sub.refl _)
  ·replace hM0 := ifN hM0 hc2
   have hE := Option.some.inj hM0; subst hE
   exact And.intro rfl (Sub.refl _)
theorem D05 (h : Hp) (csp0 : List Value) (p0 : l0) (rp0 : Y0.R h csp0 p0) (p1 : Int) (ip1 : H0 p1) (ap2 : Option Addr) (np2 cp2 : Nat) (p2 : P0) (rp2 : K1.R h [.slice ap2 np2 cp2] p2) (p3 : Int) (ip3 : H0 p3) (r : l0 × Bool) (hM0 : w8 p0 p1 p2 p3 = some r) :
  Tr Tryz.prog 98 #[.agg csp0.toArray, .int .i64 p1, .slice ap2 np2 cp2, .int .i64 p3] h fun v h' => ∃ (cs0 : List Value), v = .tuple #[.agg cs0.toArray, .bool r.2] ∧ New Y0 h h' cs0 r.1 := by
 obtain ⟨aA, aI, aJ, bD, aK, aU, rfl, rfl, aL, aN, aM⟩ := B0 rp0
 obtain ⟨rfl, bE⟩ := Sl.len aM
 obtain ⟨rfl, lp2⟩ := Sl.len rp2
 unfold w8 at hM0
 dsimp only at hM0
 refine T2 (args := [.agg #[.int .i64 aA, .int .i64 aI, .slice aJ aU.length aK], .int .i64 p1, .slice ap2 p2.length cp2, .int .i64 p3]) (fn := Tryz.f98) rfl ?_
 obtain ⟨x1, gx1, hM0⟩ := j0 hM0
 refine Tr.mono (M3 _ [.int .i64 aA, .int .i64 aI, .slice aJ aU.length aK] (aA, aI, aU) (z0 aL aN aM) _  gx1) ?_
 rintro v3 k2 ⟨aV, bF, aW, rfl, wx1⟩
 have sx1 : Sub h k2 := wx1.sub
 have rx1 := wx1.r
 obtain ⟨aZ, bA, bC⟩ := x1
 dsimp only at hM0 wx1 rx1
 obtain ⟨_, _, _, _, _, _, ecx1, exx1, aX, aY, bB⟩ := B0 rx1
 cases ecx1
 cases exx1
 obtain ⟨rfl, bG⟩ := Sl.len bB
 try dsimp only at hM0
 have we4 := New.sndI (New.sndI (wx1))
 obtain ⟨x5, gx5, hM0⟩ := j0 hM0
 refine Tr.val (A8 _ [.int .i64 aA, .int .i64 aI, .slice aJ aU.length aK] (aA, aI, aU) (z0 aL aN (I0.mono sx1 aM)) _  gx5) ?_
 obtain ⟨x6, gx6, hM0⟩ := j0 hM0
 refine Exists.intro (.bool x6) (And.intro (fun q => w00 _ [.int .i64 aA, .int .i64 aI, .slice aJ aU.length aK] (aA, aI, aU) (z0 aL aN (I0.mono sx1 aM)) p1 ip1 _  (N2 gx6 q)) ?_)
 obtain ⟨x7, gx7, hM0⟩ := j0 hM0
 refine Exists.intro (.bool x7) (And.intro (fun q => w00 _ [.int .i64 aA, .int .i64 aI, .slice aJ aU.length aK] (aA, aI, aU) (z0 aL aN (I0.mono sx1 aM)) p3 ip3 _  (N2 gx7 q)) ?_)
 obtain ⟨x8, gx8, hM0⟩ := j0 hM0
 refine Exists.intro (.bool x8) (And.intro (fun q => t06 _ aA aL ap2 p2.length cp2 p2 (K1.mono sx1 rp2) _  (N2 gx8 q)) ?_)
 refine And.intro (fun hc9 => ?_) (fun hc9 => ?_)
 ·replace hM0 := ifP hM0 hc9
  have hE := Option.some.inj hM0; subst hE
  exact ⟨([.int .i64 aZ, .int .i64 bA, .slice (some ⟨aV, 0, none⟩) bC.length aW]), rfl, (New.pair (New.int aX) (New.pair (New.int aY) we4))⟩
 ·replace hM0 := ifN hM0 hc9
  obtain ⟨X10, hLX10, hM0⟩ := j0 hM0
  refine Exists.intro { vars := [11, 66], boxes := [2], owns := [], fuel := true } (Exists.intro (fun vs os h' => ∃ (u11 : Int) (u12 : Int) (u13 : Int) (u14 : Int) (gau15 oau15 nu15 cu15 : Nat) (u15 : J0), vs.tail = [.int .i64 u11, .int .i64 u12, .int .i64 u13, .int .i64 u14, .slice (some ⟨gau15, oau15, none⟩) nu15 cu15] ∧ os = [] ∧ Sub h h' ∧ H0 u11 ∧ H0 u12 ∧ H0 u13 ∧ H0 u14 ∧ New I0 h h' [.slice (some ⟨gau15, oau15, none⟩) nu15 cu15] u15 ∧ H5 p2 p3 (Q1 vs) u11 u12 u13 u14 u15 = some X10) (Exists.intro (fun _ _ => 0) ?_))
  refine And.intro (Exists.intro T0 ⟨p1, 0, aZ, bA, aV, 0, bC.length, aW, bC, rfl, rfl, sx1, ip1, (c64 (by decide) (by decide)), aX, aY, we4, hLX10⟩) ?_
  rintro v_0 v_1 v_2 v_3 v_4 m17 k16 ⟨u11, u12, u13, u14, gau15, oau15, nu15, cu15, u15, evX10, eoX10, sX10, iu11, iu12, iu13, iu14, wwu15, hM1⟩
  cases evX10
  cases eoX10
  replace hM1 : H5 p2 p3 m17 u11 u12 u13 u14 u15 = some X10 := hM1
  obtain _ | m17 := m17
  ·cases (show (none : Option _) = some X10 from hM1)
  rw [H5.eq_2] at hM1
  have ru15 := wwu15.r
  obtain ⟨rfl, lu15⟩ := Sl.len ru15
  refine And.intro (fun hc18 => ?_) (fun hc18 => ?_)
  ·replace hM1 := ifP hM1 hc18
   obtain ⟨x19, gx19, hM1⟩ := j0 hM1
   obtain ⟨bx19, csx19, ex19, rx19⟩ := Sl.getI (r := Wp.int.toRp) (K1.mono sX10 rp2) gx19 (by decide)
   refine And.intro bx19 ?_
   obtain ⟨rfl, ix19⟩ := rx19
   refine Exists.intro _ (And.intro ex19 ?_)
   refine And.intro (fun hc20 => ?_) (fun hc20 => ?_)
   ·replace hM1 := ifP hM1 hc20
    refine Or.inr (Or.inr (Or.inl (And.intro (And.intro (by kernel_rfl) (by kernel_rfl)) ?_)))
    refine Or.inr ?_
    refine Or.inr ?_
    refine Or.inr ?_
    refine Or.inr ?_
    refine Exists.intro 1 (And.intro (And.intro rfl rfl) ?_)
    obtain ⟨x21, gx21, hM1⟩ := j0 hM1
    refine Tr.mono (C05 _ u11 iu11 x19 ix19 u14 iu14 _  gx21) ?_
    rintro v23 k22 ⟨csx21, rfl, rx21, sx21⟩
    obtain ⟨aB, aC, aD, rfl, rfl, aO, aP, aQ⟩ := D1 rx21
    try dsimp only at hM1
    refine And.intro (And.intro rfl sx21) (And.intro (by first | exact trivial | exact rfl) ?_)
    refine And.intro trivial (And.intro (by first | exact trivial | exact rfl) ?_)
    obtain ⟨q24, gq24, hM1⟩ := j0 hM1
    obtain ⟨vsz25, rxz25, lnz25, apz25⟩ := New.app wwu15 sx21
    refine Exists.intro vsz25 (And.intro rxz25 (And.intro (M2 gq24 (by first | rw [lnz25, F2.length (show F2 (Q0.R k22) ([[.int .i64 aB, .int .i64 aC, .int .i64 aD]] : List (List Value)) [(aB, aC, aD)] from ⟨(V0 aO aP aQ), trivial⟩)] | (rw [lnz25]; rfl))) ?_))
    intro vz25 kz25 happz25
    obtain ⟨wz25, gz25, oz25, nz25, cz25, rfl⟩ := apz25 _ _ _ _ _ (F3.ofPlain (b09 _) (show F2 (Q0.R k22) ([[.int .i64 aB, .int .i64 aC, .int .i64 aD]] : List (List Value)) [(aB, aC, aD)] from ⟨(V0 aO aP aQ), trivial⟩)) r7.ofPlain happz25
    have rz25 := wz25.r
    obtain ⟨ez25, lz25⟩ := Sl.len rz25
    subst ez25
    refine And.intro trivial (And.intro (by first | exact trivial | exact rfl) ?_)
    refine And.intro trivial (And.intro (by first | exact trivial | exact rfl) ?_)
    refine And.intro rfl (And.intro (by repeat (first | exact trivial | refine And.intro rfl ?_)) (And.intro (by repeat (first | exact trivial | refine And.intro rfl ?_)) (Exists.intro m17 (And.intro ⟨u14, (IntKind.i64.wrap (u12 + 1)), u13, (IntKind.i64.wrap (u14 + 1)), gz25, oz25, (u15 ++ [(aB, aC, aD)]).length, cz25, (u15 ++ [(aB, aC, aD)]), rfl, rfl, wz25.sub, iu14, (K0 _), iu13, (K0 _), wz25, hM1⟩ (Nat.lt_succ_self _)))))
   ·replace hM1 := ifN hM1 hc20
    refine Or.inr (Or.inr (Or.inl (And.intro (And.intro (by kernel_rfl) (by kernel_rfl)) ?_)))
    refine Or.inr ?_
    refine Or.inr ?_
    refine Or.inr ?_
    refine Or.inr ?_
    refine Exists.intro 1 (And.intro (And.intro rfl rfl) ?_)
    obtain ⟨x26, gx26, hM1⟩ := j0 hM1
    refine Tr.mono (C05 _ u11 iu11 x19 ix19 p3 ip3 _  gx26) ?_
    rintro v28 k27 ⟨csx26, rfl, rx26, sx26⟩
    obtain ⟨aF, aG, aH, rfl, rfl, aR, aS, aT⟩ := D1 rx26
    try dsimp only at hM1
    refine And.intro (And.intro rfl sx26) (And.intro (by first | exact trivial | exact rfl) ?_)
    refine And.intro trivial (And.intro (by first | exact trivial | exact rfl) ?_)
    obtain ⟨q29, gq29, hM1⟩ := j0 hM1
    obtain ⟨vsz30, rxz30, lnz30, apz30⟩ := New.app wwu15 sx26
    refine Exists.intro vsz30 (And.intro rxz30 (And.intro (M2 gq29 (by first | rw [lnz30, F2.length (show F2 (Q0.R k27) ([[.int .i64 aF, .int .i64 aG, .int .i64 aH]] : List (List Value)) [(aF, aG, aH)] from ⟨(V0 aR aS aT), trivial⟩)] | (rw [lnz30]; rfl))) ?_))
    intro vz30 kz30 happz30
    obtain ⟨wz30, gz30, oz30, nz30, cz30, rfl⟩ := apz30 _ _ _ _ _ (F3.ofPlain (b09 _) (show F2 (Q0.R k27) ([[.int .i64 aF, .int .i64 aG, .int .i64 aH]] : List (List Value)) [(aF, aG, aH)] from ⟨(V0 aR aS aT), trivial⟩)) r7.ofPlain happz30
    have rz30 := wz30.r
    obtain ⟨ez30, lz30⟩ := Sl.len rz30
    subst ez30
    refine And.intro trivial (And.intro (by first | exact trivial | exact rfl) ?_)
    refine And.intro trivial (And.intro (by first | exact trivial | exact rfl) ?_)
    refine And.intro rfl (And.intro (by repeat (first | exact trivial | refine And.intro rfl ?_)) (And.intro (by repeat (first | exact trivial | refine And.intro rfl ?_)) (Exists.intro m17 (And.intro ⟨p3, (IntKind.i64.wrap (u12 + 1)), u13, u14, gz30, oz30, (u15 ++ [(aF, aG, aH)]).length, cz30, (u15 ++ [(aF, aG, aH)]), rfl, rfl, wz30.sub, ip3, (K0 _), iu13, iu14, wz30, hM1⟩ (Nat.lt_succ_self _)))))
  ·replace hM1 := ifN hM1 hc18
   have hE := Option.some.inj hM1; subst hE
   try dsimp only [U0, Z0] at hM0
   obtain ⟨x31, gx31, hM0⟩ := j0 hM0
   refine Tr.mono (F01 _ (some ⟨gau15, oau15, none⟩) u15.length cu15 u15 ru15 _  gx31) ?_
   rintro v33 k32 ⟨ax31, nx31, cx31, rfl, wx31⟩
   have sx31 : Sub k16 k32 := wx31.sub
   have rx31 := wx31.r
   obtain ⟨rfl, lx31⟩ := Sl.len rx31
   have hE := Option.some.inj hM0; subst hE
   exact ⟨([.int .i64 u13, .int .i64 u14, .slice ax31 x31.length cx31]), rfl, (New.pair (New.int iu13) (New.pair (New.int iu14) (New.from wx31 sX10)))⟩
theorem Y09 (h : Hp) (p0 : Int) (ip0 : H0 p0) (r : l0 × Bool) (hM0 : C9 p0 = some r) :
  Tr Tryz.prog 190 #[.int .i64 p0] h fun v h' => ∃ (cs0 : List Value), v = .tuple #[.agg cs0.toArray, .bool r.2] ∧ New Y0 h h' cs0 r.1 := by
 unfold C9 at hM0
 refine T2 (args := [.int .i64 p0]) (fn := Tryz.f190) rfl ?_
 obtain ⟨x1, gx1, hM0⟩ := j0 hM0
 refine Tr.val (Z7 _ p0 ip0 1 (c64 (by decide) (by decide)) 3 (c64 (by decide) (by decide)) _  gx1) ?_
 refine And.intro (fun hc2 => ?_) (fun hc2 => ?_)
 ·replace hM0 := ifP hM0 hc2
  have hE := Option.some.inj hM0; subst hE
  exact ⟨([.int .i64 0, .int .i64 0, .slice none 0 0]), rfl, (New.pair (New.int (c64 (by decide) (by decide))) (New.pair (New.int (c64 (by decide) (by decide))) ((New.nilSlice (r := Q0)).mono (Sub.refl _))))⟩
 ·replace hM0 := ifN hM0 hc2
  have hE := Option.some.inj hM0; subst hE
  exact ⟨([.int .i64 p0, .int .i64 1, .slice none 0 0]), rfl, (New.pair (New.int ip0) (New.pair (New.int (c64 (by decide) (by decide))) ((New.nilSlice (r := Q0)).mono (Sub.refl _))))⟩
theorem Z09 (h : Hp) (csp0 : List Value) (p0 : l0) (rp0 : Y0.R h csp0 p0) (ap1 : Option Addr) (np1 cp1 : Nat) (p1 : P0) (rp1 : K1.R h [.slice ap1 np1 cp1] p1) (r : l0 × Bool) (hM0 : D9 p0 p1 = some r) :
  Tr Tryz.prog 191 #[.agg csp0.toArray, .slice ap1 np1 cp1] h fun v h' => ∃ (cs0 : List Value), v = .tuple #[.agg cs0.toArray, .bool r.2] ∧ New Y0 h h' cs0 r.1 := by
 obtain ⟨aK, aL, aG, aW, aH, aT, rfl, rfl, aO, aP, aI⟩ := B0 rp0
 obtain ⟨rfl, aX⟩ := Sl.len aI
 obtain ⟨rfl, lp1⟩ := Sl.len rp1
 unfold D9 at hM0
 dsimp only at hM0
 refine T2 (args := [.agg #[.int .i64 aK, .int .i64 aL, .slice aG aT.length aH], .slice ap1 p1.length cp1]) (fn := Tryz.f191) rfl ?_
 obtain ⟨x1, gx1, hM0⟩ := j0 hM0
 refine Tr.mono (D05 _ [.int .i64 aK, .int .i64 aL, .slice aG aT.length aH] (aK, aL, aT) (z0 aO aP aI) 0 (c64 (by decide) (by decide)) ap1 p1.length cp1 p1 rp1 0 (c64 (by decide) (by decide)) _  gx1) ?_
 rintro v3 k2 ⟨aU, rfl, aJ⟩
 obtain ⟨aY, aZ⟩ := x1
 dsimp only at hM0 aJ
 have sx1 : Sub h k2 := aJ.sub
 have aQ := aJ.r
 obtain ⟨aM, aN, aA, aR, aB, aV, rfl, rfl, aC, aD, aF⟩ := B0 aQ
 obtain ⟨rfl, aS⟩ := Sl.len aF
 try dsimp only at hM0
 have we4 := New.sndI (New.sndI (aJ))
 have hE := Option.some.inj hM0; subst hE
 exact ⟨([.int .i64 aM, .int .i64 aN, .slice aA aV.length aB]), rfl, (New.pair (New.int aC) (New.pair (New.int aD) we4))⟩
theorem a0a (h : Hp) (p0 : Int) (ip0 : H0 p0) (ap1 : Option Addr) (np1 cp1 : Nat) (p1 : V2) (rp1 : D3.R h [.slice ap1 np1 cp1] p1) (r : l0 × Bool) (hM0 : E9 p0 p1 = some r) :
  Tr Tryz.prog 130 #[.int .i64 p0, .slice ap1 np1 cp1] h fun v h' => ∃ (cs0 : List Value), v = .tuple #[.agg cs0.toArray, .bool r.2] ∧ New Y0 h h' cs0 r.1 := by
 obtain ⟨rfl, lp1⟩ := Sl.len rp1
 unfold E9 at hM0
 refine T2 (args := [.int .i64 p0, .slice ap1 p1.length cp1]) (fn := Tryz.f130) rfl ?_
 obtain ⟨x1, gx1, hM0⟩ := j0 hM0
 refine Tr.val (F04 _ p0 ip0 ap1 p1.length cp1 p1 rp1 _  gx1) ?_
 refine And.intro (fun hc2 => ?_) (fun hc2 => ?_)
 ·replace hM0 := ifP hM0 hc2
  have hE := Option.some.inj hM0; subst hE
  exact ⟨([.int .i64 0, .int .i64 0, .slice none 0 0]), rfl, (New.pair (New.int (c64 (by decide) (by decide))) (New.pair (New.int (c64 (by decide) (by decide))) ((New.nilSlice (r := Q0)).mono (Sub.refl _))))⟩
 ·replace hM0 := ifN hM0 hc2
  obtain ⟨x3, gx3, hM0⟩ := j0 hM0
  refine Tr.mono (Y09 _ p0 ip0 _  gx3) ?_
  rintro v5 k4 ⟨bA, rfl, aP⟩
  obtain ⟨bD, bE⟩ := x3
  dsimp only at hM0 aP
  have sx3 : Sub h k4 := aP.sub
  have aU := aP.r
  obtain ⟨aQ, aR, aH, aX, aI, aS, rfl, rfl, aJ, aK, aL⟩ := B0 aU
  obtain ⟨rfl, aY⟩ := Sl.len aL
  try dsimp only at hM0
  have we6 := New.sndI (New.sndI (aP))
  obtain ⟨X7, hLX7, hM0⟩ := j0 hM0
  refine Exists.intro { vars := [22], boxes := [1], owns := [], fuel := true } (Exists.intro (fun vs os h' => ∃ (u8 : Int) (u9 : Int) (u10 : Int) (au11 : Option Addr) (nu11 cu11 : Nat) (u11 : J0), vs.tail = [.int .i64 u8, .int .i64 u9, .int .i64 u10, .slice au11 nu11 cu11] ∧ os = [] ∧ Sub k4 h' ∧ H0 u8 ∧ H0 u9 ∧ H0 u10 ∧ New I0 h h' [.slice au11 nu11 cu11] u11 ∧ n5 p1 (Q1 vs) u8 u9 u10 u11 = some X7) (Exists.intro (fun _ _ => 0) ?_))
  refine And.intro (Exists.intro T0 ⟨0, aQ, aR, aH, aS.length, aI, aS, rfl, rfl, (Sub.refl _), (c64 (by decide) (by decide)), aJ, aK, we6, hLX7⟩) ?_
  rintro v_0 v_1 v_2 v_3 m13 k12 ⟨u8, u9, u10, au11, nu11, cu11, u11, evX7, eoX7, sX7, iu8, iu9, iu10, wwu11, hM1⟩
  cases evX7
  cases eoX7
  replace hM1 : n5 p1 m13 u8 u9 u10 u11 = some X7 := hM1
  obtain _ | m13 := m13
  ·cases (show (none : Option _) = some X7 from hM1)
  rw [n5.eq_2] at hM1
  have ru11 := wwu11.r
  obtain ⟨rfl, lu11⟩ := Sl.len ru11
  refine And.intro (fun hc14 => ?_) (fun hc14 => ?_)
  ·replace hM1 := ifP hM1 hc14
   obtain ⟨x15, gx15, hM1⟩ := j0 hM1
   obtain ⟨bx15, csx15, ex15, rx15⟩ := Sl.getI (r := K1.toRp) (D3.mono (sx3.trans sX7) rp1) gx15 (by decide)
   refine And.intro bx15 ?_
   obtain ⟨ax15, nx15, cx15, rfl⟩ := Wp.slice_cell rx15
   obtain ⟨rfl, lx15⟩ := Sl.len rx15
   refine Exists.intro _ (And.intro ex15 ?_)
   refine And.intro (fun hc16 => ?_) (fun hc16 => ?_)
   ·replace hM1 := ifP hM1 hc16
    obtain ⟨x17, gx17, hM1⟩ := j0 hM1
    refine Tr.mono (Z09 _ [.int .i64 u9, .int .i64 u10, .slice au11 u11.length cu11] (u9, u10, u11) (z0 iu9 iu10 ru11) ax15 x15.length cx15 x15 rx15 _  gx17) ?_
    rintro v19 k18 ⟨aZ, rfl, aA⟩
    obtain ⟨bB, bC⟩ := x17
    dsimp only at hM1 aA
    have sx17 : Sub k12 k18 := aA.sub
    have aT := aA.r
    obtain ⟨aM, aN, aB, aV, aC, aO, rfl, rfl, aD, aF, aG⟩ := B0 aT
    obtain ⟨rfl, aW⟩ := Sl.len aG
    try dsimp only at hM1
    have we20 := New.sndI (New.sndI (aA))
    refine And.intro rfl (And.intro (by repeat (first | exact trivial | refine And.intro rfl ?_)) (And.intro (by repeat (first | exact trivial | refine And.intro rfl ?_)) (Exists.intro m13 (And.intro ⟨(IntKind.i64.wrap (u8 + 1)), aM, aN, aB, aO.length, aC, aO, rfl, rfl, (sX7.trans sx17), (K0 _), aD, aF, (New.from we20 (sx3.trans sX7)), hM1⟩ (Nat.lt_succ_self _)))))
   ·replace hM1 := ifN hM1 hc16
    refine And.intro rfl (And.intro (by repeat (first | exact trivial | refine And.intro rfl ?_)) (And.intro (by repeat (first | exact trivial | refine And.intro rfl ?_)) (Exists.intro m13 (And.intro ⟨(IntKind.i64.wrap (u8 + 1)), u9, u10, au11, u11.length, cu11, u11, rfl, rfl, sX7, (K0 _), iu9, iu10, wwu11, hM1⟩ (Nat.lt_succ_self _)))))
  ·replace hM1 := ifN hM1 hc14
   have hE := Option.some.inj hM1; subst hE
   try dsimp only [U0, Z0] at hM0
   have hE := Option.some.inj hM0; subst hE
   exact ⟨([.int .i64 u9, .int .i64 u10, .slice au11 u11.length cu11]), rfl, (New.pair (New.int iu9) (New.pair (New.int iu10) wwu11))⟩
theorem b0e (h : Hp) (csp0 : List Value) (p0 : l0) (rp0 : Y0.R h csp0 p0) (r : H7) (hM0 : h01 p0 = some r) :
  Tr Tryz.prog 226 #[.agg csp0.toArray] h fun v h' => ∃ (a0 : Option Addr) (n0 c0 : Nat), v = .slice a0 n0 c0 ∧ M0d.R h' [.slice a0 n0 c0] r ∧ Sub h h' := by
 obtain ⟨aO, aP, aK, aR, aL, aM, rfl, rfl, aS, aT, aJ⟩ := B0 rp0
 obtain ⟨rfl, aU⟩ := Sl.len aJ
 unfold h01 at hM0
 dsimp only at hM0
 refine T2 (args := [.agg #[.int .i64 aO, .int .i64 aP, .slice aK aM.length aL]]) (fn := Tryz.f226) rfl ?_
 obtain ⟨X1, hLX1, hM0⟩ := j0 hM0
 refine Exists.intro { vars := [12], boxes := [], owns := [0], fuel := true } (Exists.intro (fun vs os h' => ∃ (u2 : Int) (wu3 : List (List Value)) (u3 : List E4), vs.tail = [.int .i64 u2] ∧ os = [wu3] ∧ Sub h h' ∧ H0 u2 ∧ F2 (C4.R h') wu3 u3 ∧ K7 aM (Q1 vs) u2 u3 = some X1) (Exists.intro (fun _ _ => 0) ?_))
 refine And.intro (Exists.intro T0 ⟨0, [], ([] : H7), rfl, rfl, (Sub.refl _), (c64 (by decide) (by decide)), (show F2 (C4.R h) ([] : List (List Value)) ([] : H7) from trivial), hLX1⟩) ?_
 rintro v_0 wu3 m5 k4 ⟨u2, zzu3, u3, evX1, eoX1, sX1, iu2, fu3, hM1⟩
 cases evX1
 cases eoX1
 replace hM1 : K7 aM m5 u2 u3 = some X1 := hM1
 obtain _ | m5 := m5
 ·cases (show (none : Option _) = some X1 from hM1)
 rw [K7.eq_2] at hM1
 refine And.intro (fun hc6 => ?_) (fun hc6 => ?_)
 ·replace hM1 := ifP hM1 hc6
  obtain ⟨x7, gx7, hM1⟩ := j0 hM1
  obtain ⟨bx7, csx7, ex7, rx7⟩ := Sl.getI (r := Q0.toRp) (I0.mono sX1 aJ) gx7 (by decide)
  refine And.intro bx7 ?_
  obtain ⟨aD, aN, aC, rfl, rfl, aI, aV, aH⟩ := D1 rx7
  try dsimp only at hM1
  refine Exists.intro _ (And.intro ex7 ?_)
  obtain ⟨x8, gx8, hM1⟩ := j0 hM1
  obtain ⟨qx8, vsx8, ex8, fx8⟩ := Sl.cutI (r := Q0.toRp) (I0.mono sX1 aJ) gx8
  refine And.intro qx8 (Exists.intro vsx8 (And.intro ex8 ?_))
  intro vx8 hvx8 _
  obtain ⟨ax8, cx8, rfl, rx8⟩ := fx8 vx8 hvx8
  have lx8 := (Sl.len rx8).2
  obtain ⟨X9, hLX9, hM1⟩ := j0 hM1
  refine Exists.intro { vars := [23], boxes := [], owns := [0], fuel := true } (Exists.intro (fun vs os h' => ∃ (u10 : Int) (wu11 : List (List Value)) (u11 : List E4), vs.tail = [.int .i64 u10] ∧ os = [wu11] ∧ Sub k4 h' ∧ H0 u10 ∧ F2 (C4.R h') wu11 u11 ∧ N4 x8 aN aD aC (Q1 vs) u10 u11 = some X9) (Exists.intro (fun _ _ => 0) ?_))
  refine And.intro (Exists.intro T0 ⟨0, wu3, u3, rfl, rfl, (Sub.refl _), (c64 (by decide) (by decide)), fu3, hLX9⟩) ?_
  rintro v_0 wu11 m13 k12 ⟨u10, zzu11, u11, evX9, eoX9, sX9, iu10, fu11, hM2⟩
  cases evX9
  cases eoX9
  replace hM2 : N4 x8 aN aD aC m13 u10 u11 = some X9 := hM2
  obtain _ | m13 := m13
  ·cases (show (none : Option _) = some X9 from hM2)
  rw [N4.eq_2] at hM2
  refine And.intro (fun hc14 => ?_) (fun hc14 => ?_)
  ·replace hM2 := ifP hM2 hc14
   obtain ⟨x15, gx15, hM2⟩ := j0 hM2
   obtain ⟨bx15, csx15, ex15, rx15⟩ := Sl.getI (r := Q0.toRp) (I0.mono sX9 rx8) gx15 (by decide)
   refine And.intro bx15 ?_
   obtain ⟨aB, aW, aA, rfl, rfl, aG, aQ, aF⟩ := D1 rx15
   try dsimp only at hM2
   refine Exists.intro _ (And.intro ex15 ?_)
   refine And.intro (fun hc16 => ?_) (fun hc16 => ?_)
   ·replace hM2 := ifP hM2 hc16
    refine And.intro rfl (And.intro (by repeat (first | exact trivial | refine And.intro rfl ?_)) (And.intro (by repeat (first | exact trivial | refine And.intro rfl ?_)) (Exists.intro m13 (And.intro ⟨(IntKind.i64.wrap (u10 + 1)), wu11, u11, rfl, rfl, sX9, (K0 _), fu11, hM2⟩ (Nat.lt_succ_self _)))))
   ·replace hM2 := ifN hM2 hc16
    refine And.intro (fun hc17 => ?_) (fun hc17 => ?_)
    ·replace hM2 := ifP hM2 hc17
     obtain ⟨q18, gq18, hM2⟩ := j0 hM2
     refine And.intro (M2 gq18 (by first | rw [F2.length fu11, F2.length (show F2 (C4.R k12) ([[.int .i64 (if aA < aC then aA else aC), .int .i64 (if aA > aC then aA else aC)]] : List (List Value)) [((if aA < aC then aA else aC), (if aA > aC then aA else aC))] from ⟨(j2 (s7 aF aH) (s7 aF aH)), trivial⟩)] | exact congrArg (· + 1) (F2.length fu11))) ?_
     refine And.intro (fun hc19 => ?_) (fun hc19 => ?_)
     ·replace hM2 := ifP hM2 hc19
      obtain ⟨q20, gq20, hM2⟩ := j0 hM2
      refine And.intro (M2 gq20 (by first | rw [F2.length (F2.append fu11 (show F2 (C4.R k12) ([[.int .i64 (if aA < aC then aA else aC), .int .i64 (if aA > aC then aA else aC)]] : List (List Value)) [((if aA < aC then aA else aC), (if aA > aC then aA else aC))] from ⟨(j2 (s7 aF aH) (s7 aF aH)), trivial⟩)), F2.length (show F2 (C4.R k12) ([[.int .i64 (if aB < aD then aB else aD), .int .i64 (if aB > aD then aB else aD)]] : List (List Value)) [((if aB < aD then aB else aD), (if aB > aD then aB else aD))] from ⟨(j2 (s7 aG aI) (s7 aG aI)), trivial⟩)] | exact congrArg (· + 1) (F2.length (F2.append fu11 (show F2 (C4.R k12) ([[.int .i64 (if aA < aC then aA else aC), .int .i64 (if aA > aC then aA else aC)]] : List (List Value)) [((if aA < aC then aA else aC), (if aA > aC then aA else aC))] from ⟨(j2 (s7 aF aH) (s7 aF aH)), trivial⟩))))) ?_
      refine And.intro rfl (And.intro (by repeat (first | exact trivial | refine And.intro rfl ?_)) (And.intro (by repeat (first | exact trivial | refine And.intro rfl ?_)) (Exists.intro m13 (And.intro ⟨(IntKind.i64.wrap (u10 + 1)), ((wu11 ++ ([[.int .i64 (if aA < aC then aA else aC), .int .i64 (if aA > aC then aA else aC)]] : List (List Value))) ++ ([[.int .i64 (if aB < aD then aB else aD), .int .i64 (if aB > aD then aB else aD)]] : List (List Value))), ((u11 ++ [((if aA < aC then aA else aC), (if aA > aC then aA else aC))]) ++ [((if aB < aD then aB else aD), (if aB > aD then aB else aD))]), rfl, rfl, sX9, (K0 _), (F2.append (F2.append fu11 (show F2 (C4.R k12) ([[.int .i64 (if aA < aC then aA else aC), .int .i64 (if aA > aC then aA else aC)]] : List (List Value)) [((if aA < aC then aA else aC), (if aA > aC then aA else aC))] from ⟨(j2 (s7 aF aH) (s7 aF aH)), trivial⟩)) (show F2 (C4.R k12) ([[.int .i64 (if aB < aD then aB else aD), .int .i64 (if aB > aD then aB else aD)]] : List (List Value)) [((if aB < aD then aB else aD), (if aB > aD then aB else aD))] from ⟨(j2 (s7 aG aI) (s7 aG aI)), trivial⟩)), hM2⟩ (Nat.lt_succ_self _)))))
     ·replace hM2 := ifN hM2 hc19
      refine And.intro rfl (And.intro (by repeat (first | exact trivial | refine And.intro rfl ?_)) (And.intro (by repeat (first | exact trivial | refine And.intro rfl ?_)) (Exists.intro m13 (And.intro ⟨(IntKind.i64.wrap (u10 + 1)), (wu11 ++ ([[.int .i64 (if aA < aC then aA else aC), .int .i64 (if aA > aC then aA else aC)]] : List (List Value))), (u11 ++ [((if aA < aC then aA else aC), (if aA > aC then aA else aC))]), rfl, rfl, sX9, (K0 _), (F2.append fu11 (show F2 (C4.R k12) ([[.int .i64 (if aA < aC then aA else aC), .int .i64 (if aA > aC then aA else aC)]] : List (List Value)) [((if aA < aC then aA else aC), (if aA > aC then aA else aC))] from ⟨(j2 (s7 aF aH) (s7 aF aH)), trivial⟩)), hM2⟩ (Nat.lt_succ_self _)))))
    ·replace hM2 := ifN hM2 hc17
     refine And.intro (fun hc21 => ?_) (fun hc21 => ?_)
     ·replace hM2 := ifP hM2 hc21
      obtain ⟨q22, gq22, hM2⟩ := j0 hM2
      refine And.intro (M2 gq22 (by first | rw [F2.length fu11, F2.length (show F2 (C4.R k12) ([[.int .i64 (if aB < aD then aB else aD), .int .i64 (if aB > aD then aB else aD)]] : List (List Value)) [((if aB < aD then aB else aD), (if aB > aD then aB else aD))] from ⟨(j2 (s7 aG aI) (s7 aG aI)), trivial⟩)] | exact congrArg (· + 1) (F2.length fu11))) ?_
      refine And.intro rfl (And.intro (by repeat (first | exact trivial | refine And.intro rfl ?_)) (And.intro (by repeat (first | exact trivial | refine And.intro rfl ?_)) (Exists.intro m13 (And.intro ⟨(IntKind.i64.wrap (u10 + 1)), (wu11 ++ ([[.int .i64 (if aB < aD then aB else aD), .int .i64 (if aB > aD then aB else aD)]] : List (List Value))), (u11 ++ [((if aB < aD then aB else aD), (if aB > aD then aB else aD))]), rfl, rfl, sX9, (K0 _), (F2.append fu11 (show F2 (C4.R k12) ([[.int .i64 (if aB < aD then aB else aD), .int .i64 (if aB > aD then aB else aD)]] : List (List Value)) [((if aB < aD then aB else aD), (if aB > aD then aB else aD))] from ⟨(j2 (s7 aG aI) (s7 aG aI)), trivial⟩)), hM2⟩ (Nat.lt_succ_self _)))))
     ·replace hM2 := ifN hM2 hc21
      refine And.intro rfl (And.intro (by repeat (first | exact trivial | refine And.intro rfl ?_)) (And.intro (by repeat (first | exact trivial | refine And.intro rfl ?_)) (Exists.intro m13 (And.intro ⟨(IntKind.i64.wrap (u10 + 1)), wu11, u11, rfl, rfl, sX9, (K0 _), fu11, hM2⟩ (Nat.lt_succ_self _)))))
  ·replace hM2 := ifN hM2 hc14
   have hE := Option.some.inj hM2; subst hE
   try dsimp only [U0, Z0] at hM1
   refine And.intro rfl (And.intro (by repeat (first | exact trivial | refine And.intro rfl ?_)) (And.intro (by repeat (first | exact trivial | refine And.intro rfl ?_)) (Exists.intro m5 (And.intro ⟨(IntKind.i64.wrap (u2 + 1)), wu11, u11, rfl, rfl, (sX1.trans sX9), (K0 _), fu11, hM1⟩ (Nat.lt_succ_self _)))))
 ·replace hM1 := ifN hM1 hc6
  have hE := Option.some.inj hM1; subst hE
  try dsimp only [U0, Z0] at hM0
  intro v27 k28 f29
  obtain ⟨az30, cz30, rfl, rz30, sz30, lz30⟩ := E1.out (r := C4.toRp) f29 fu3
  have hE := Option.some.inj hM0; subst hE
  exact ⟨az30, u3.length, cz30, rfl, rz30, (sX1.trans sz30)⟩
theorem h09 (h : Hp) (csp0 : List Value) (p0 : l0) (rp0 : Y0.R h csp0 p0) (r : E4 × Bool) (hM0 : d8 p0 = some r) :
  Tr Tryz.prog 207 #[.agg csp0.toArray] h fun v h' => ∃ (cs0 : List Value), v = .tuple #[.agg cs0.toArray, .bool r.2] ∧ C4.R h' cs0 r.1 ∧ Sub h h' := by
 obtain ⟨aA, aB, aC, aN, aD, aI, rfl, rfl, aG, aH, aF⟩ := B0 rp0
 obtain ⟨rfl, aO⟩ := Sl.len aF
 unfold d8 at hM0
 dsimp only at hM0
 refine T2 (args := [.agg #[.int .i64 aA, .int .i64 aB, .slice aC aI.length aD]]) (fn := Tryz.f207) rfl ?_
 obtain ⟨x1, gx1, hM0⟩ := j0 hM0
 refine Tr.val (A8 _ [.int .i64 aA, .int .i64 aB, .slice aC aI.length aD] (aA, aB, aI) (z0 aG aH aF) _  gx1) ?_
 refine And.intro (fun hc2 => ?_) (fun hc2 => ?_)
 ·replace hM0 := ifP hM0 hc2
  have hE := Option.some.inj hM0; subst hE
  exact ⟨([.int .i64 0, .int .i64 0]), rfl, (j2 (c64 (by decide) (by decide)) (c64 (by decide) (by decide))), (Sub.refl _)⟩
 ·replace hM0 := ifN hM0 hc2
  obtain ⟨x3, gx3, hM0⟩ := j0 hM0
  refine Tr.mono (b0e _ [.int .i64 aA, .int .i64 aB, .slice aC aI.length aD] (aA, aB, aI) (z0 aG aH aF) _  gx3) ?_
  rintro v5 k4 ⟨ax3, nx3, cx3, rfl, rx3, sx3⟩
  obtain ⟨rfl, lx3⟩ := Sl.len rx3
  refine And.intro (fun hc6 => ?_) (fun hc6 => ?_)
  ·replace hM0 := ifP hM0 hc6
   have hE := Option.some.inj hM0; subst hE
   exact ⟨([.int .i64 0, .int .i64 0]), rfl, (j2 (c64 (by decide) (by decide)) (c64 (by decide) (by decide))), sx3⟩
  ·replace hM0 := ifN hM0 hc6
   obtain ⟨x7, gx7, hM0⟩ := j0 hM0
   obtain ⟨bx7, csx7, ex7, rx7⟩ := Sl.getI (r := C4.toRp) rx3 gx7 (by decide)
   refine And.intro bx7 ?_
   obtain ⟨aL, aM, rfl, rfl, aJ, aK⟩ := e01 rx7
   try dsimp only at hM0
   refine Exists.intro _ (And.intro ex7 ?_)
   have hE := Option.some.inj hM0; subst hE
   exact ⟨([.int .i64 aL, .int .i64 aM]), rfl, (j2 aJ aK), sx3⟩
theorem E05 (h : Hp) (csp0 : List Value) (p0 : l0) (rp0 : Y0.R h csp0 p0) (csp1 : List Value) (p1 : E4) (rp1 : C4.R h csp1 p1) (r : l0 × Bool) (hM0 : E6 p0 p1 = some r) :
  Tr Tryz.prog 208 #[.agg csp0.toArray, .agg csp1.toArray] h fun v h' => ∃ (cs0 : List Value), v = .tuple #[.agg cs0.toArray, .bool r.2] ∧ New Y0 h h' cs0 r.1 := by
 obtain ⟨aD, aF, aG, bE, aH, aU, rfl, rfl, aL, aM, aI⟩ := B0 rp0
 obtain ⟨rfl, bF⟩ := Sl.len aI
 obtain ⟨aA, aB, rfl, rfl, aN, aO⟩ := e01 rp1
 unfold E6 at hM0
 dsimp only at hM0
 refine T2 (args := [.agg #[.int .i64 aD, .int .i64 aF, .slice aG aU.length aH], .agg #[.int .i64 aA, .int .i64 aB]]) (fn := Tryz.f208) rfl ?_
 obtain ⟨x1, gx1, hM0⟩ := j0 hM0
 refine Tr.mono (M3 _ [.int .i64 aD, .int .i64 aF, .slice aG aU.length aH] (aD, aF, aU) (z0 aL aM aI) _  gx1) ?_
 rintro v3 k2 ⟨aC, bG, aJ, rfl, wx1⟩
 have sx1 : Sub h k2 := wx1.sub
 have rx1 := wx1.r
 obtain ⟨aV, aW, aQ⟩ := x1
 dsimp only at hM0 wx1 rx1
 obtain ⟨_, _, _, _, _, _, ecx1, exx1, aP, aX, aY⟩ := B0 rx1
 cases ecx1
 cases exx1
 obtain ⟨rfl, bH⟩ := Sl.len aY
 try dsimp only at hM0
 have we4 := New.sndI (New.sndI (wx1))
 obtain ⟨x5, gx5, hM0⟩ := j0 hM0
 refine Tr.val (A8 _ [.int .i64 aD, .int .i64 aF, .slice aG aU.length aH] (aD, aF, aU) (z0 aL aM (I0.mono sx1 aI)) _  gx5) ?_
 refine And.intro (fun hc6 => ?_) (fun hc6 => ?_)
 ·replace hM0 := ifP hM0 hc6
  have hE := Option.some.inj hM0; subst hE
  exact ⟨([.int .i64 aV, .int .i64 aW, .slice (some ⟨aC, 0, none⟩) aQ.length aJ]), rfl, (New.pair (New.int aP) (New.pair (New.int aX) we4))⟩
 ·replace hM0 := ifN hM0 hc6
  intro b7 hb7
  have gb7 : (Hp.set k2 b7 (.cells #[.int .i64 aA, .int .i64 aB] 146 (0, 0))) b7 = some (.cells #[.int .i64 aA, .int .i64 aB] 146 (0, 0)) := Hp.set_same _ _ _
  have neb7gx1_2 : b7 ≠ aC := fun e => New.blk we4 (Sub.refl _) (e ▸ hb7)
  obtain ⟨X8, hLX8, hM0⟩ := j0 hM0
  refine Exists.intro { vars := [39], boxes := [], owns := [], fuel := true } (Exists.intro (fun vs os h' => ∃ (u9 : Int) (u10 : J0), vs.tail = [.int .i64 u9] ∧ os = [] ∧ Sub h h' ∧ H0 u9 ∧ New I0 h h' [.slice (some ⟨aC, 0, none⟩) aQ.length aJ] u10 ∧ h' b7 = some (.cells #[.int .i64 aA, .int .i64 aB] 146 (0, 0)) ∧ j4 aQ aA aB (Q1 vs) u9 u10 = some X8) (Exists.intro (fun _ _ => 0) ?_))
  refine And.intro (Exists.intro T0 ⟨0, aQ, rfl, rfl, (sx1.trans (Sub.set hb7)), (c64 (by decide) (by decide)), (New.mono we4 (Sub.set hb7)), gb7, hLX8⟩) ?_
  rintro v_0 m13 k12 ⟨u9, u10, evX8, eoX8, sX8, iu9, wwu10, hq11, hM1⟩
  cases evX8
  cases eoX8
  replace hM1 : j4 aQ aA aB m13 u9 u10 = some X8 := hM1
  obtain _ | m13 := m13
  ·cases (show (none : Option _) = some X8 from hM1)
  rw [j4.eq_2] at hM1
  have ru10 := wwu10.r
  refine And.intro (fun hc14 => ?_) (fun hc14 => ?_)
  ·replace hM1 := ifP hM1 hc14
   obtain ⟨x15, gx15, hM1⟩ := j0 hM1
   obtain ⟨bx15, csx15, ex15, rx15⟩ := Sl.getI (r := Q0.toRp) ru10 gx15 (by decide)
   refine And.intro bx15 ?_
   obtain ⟨aZ, aK, bA, rfl, rfl, aR, aS, aT⟩ := D1 rx15
   try dsimp only at hM1
   refine Exists.intro _ (And.intro ex15 ?_)
   refine Or.inr (Or.inr (Or.inl (And.intro (And.intro (by kernel_rfl) (by kernel_rfl)) ?_)))
   obtain ⟨x16, gx16, hM1⟩ := j0 hM1
   obtain ⟨q17, gq17, hM1⟩ := j0 hM1
   have ix16 : H0 x16 := U2 gq17
   refine Or.inl (Exists.intro (.val (.int .i64 x16)) (And.intro ?_ ?_))
   ·intro k18 s19
    exact Tr.val (l01 _ aZ aR b7 146 aA aN aB aO (s19 _ _ hq11) _ gx16) (And.intro rfl (And.intro rfl rfl))
   obtain ⟨x20, gx20, hM1⟩ := j0 hM1
   obtain ⟨q21, gq21, hM1⟩ := j0 hM1
   have ix20 : H0 x20 := U2 gq21
   refine Or.inl (Exists.intro (.val (.int .i64 x20)) (And.intro ?_ ?_))
   ·intro k22 s23
    exact Tr.val (l01 _ bA aT b7 146 aA aN aB aO (s23 _ _ hq11) _ gx20) (And.intro rfl (And.intro rfl rfl))
   refine Or.inl (Exists.intro (.agg [.val (.int .i64 x16), .val (.int .i64 aK), .val (.int .i64 x20)]) (And.intro ?_ ?_))
   ·intro k24 s25
    exact And.intro rfl (And.intro rfl rfl)
   refine Or.inr ?_
   refine Or.inr ?_
   refine Exists.intro 0 (And.intro (And.intro rfl rfl) ?_)
   obtain ⟨x26, gx26, hM1⟩ := j0 hM1
   obtain ⟨bx26, csx26, ex26, rx26⟩ := Sl.getI (r := Q0.toRp) ru10 gx26 (by decide)
   refine And.intro bx26 ?_
   obtain ⟨bI, bJ, bK, rfl, rfl, bB, bC, bD⟩ := D1 rx26
   try dsimp only at hM1
   refine And.intro trivial (And.intro (by first | exact trivial | exact rfl) ?_)
   refine New.put (r := Q0) wwu10 (Sub.refl _) (b0l gx26).1 (new := [.int .i64 x16, .int .i64 aK, .int .i64 x20]) (By := []) (b09 _ _ _ (V0 ix16 aS ix20)) (r7.nil _) rfl (b0l gx26).2 ?_
   intro k27 w28 kpw28 _
   have rw28 := w28.r
   have hpw28b7 : k27 b7 = some (.cells #[.int .i64 aA, .int .i64 aB] 146 (0, 0)) := (kpw28 b7 neb7gx1_2).trans hq11
   refine And.intro trivial (And.intro (by first | exact trivial | exact rfl) ?_)
   refine And.intro rfl (And.intro (by repeat (first | exact trivial | refine And.intro rfl ?_)) (And.intro (by repeat (first | exact trivial | refine And.intro rfl ?_)) (Exists.intro m13 (And.intro ⟨(IntKind.i64.wrap (u9 + 1)), (u10.set u9.toNat (x16, aK, x20)), rfl, rfl, w28.sub, (K0 _), w28, (hpw28b7), hM1⟩ (Nat.lt_succ_self _)))))
  ·replace hM1 := ifN hM1 hc14
   have hE := Option.some.inj hM1; subst hE
   try dsimp only [U0, Z0] at hM0
   obtain ⟨x29, gx29, hM0⟩ := j0 hM0
   refine Tr.mono (F01 _ (some ⟨aC, 0, none⟩) aQ.length aJ u10 ru10 _  gx29) ?_
   rintro v31 k30 ⟨ax29, nx29, cx29, rfl, wx29⟩
   have sx29 : Sub k12 k30 := wx29.sub
   have rx29 := wx29.r
   obtain ⟨rfl, lx29⟩ := Sl.len rx29
   have hE := Option.some.inj hM0; subst hE
   exact ⟨([.int .i64 aV, .int .i64 (IntKind.i64.wrap (aW - 1)), .slice ax29 x29.length cx29]), rfl, (New.pair (New.int aP) (New.pair (New.int (K0 _)) (New.from wx29 sX8)))⟩
theorem b0a (h : Hp) (csp0 : List Value) (p0 : l0) (rp0 : Y0.R h csp0 p0) (r : l0 × E4 × Bool) (hM0 : F9 p0 = some r) :
  Tr Tryz.prog 155 #[.agg csp0.toArray] h fun v h' => ∃ (cs0 : List Value) (cs1 : List Value), v = .tuple #[.agg cs0.toArray, .agg cs1.toArray, .bool r.2.2] ∧ New Y0 h h' cs0 r.1 ∧ C4.R h' cs1 r.2.1 := by
 obtain ⟨aA, aB, aF, bJ, aG, aT, rfl, rfl, aK, aL, aH⟩ := B0 rp0
 obtain ⟨rfl, bK⟩ := Sl.len aH
 unfold F9 at hM0
 dsimp only at hM0
 refine T2 (args := [.agg #[.int .i64 aA, .int .i64 aB, .slice aF aT.length aG]]) (fn := Tryz.f155) rfl ?_
 obtain ⟨x1, gx1, hM0⟩ := j0 hM0
 refine Tr.mono (h09 _ [.int .i64 aA, .int .i64 aB, .slice aF aT.length aG] (aA, aB, aT) (z0 aK aL aH) _  gx1) ?_
 rintro v3 k2 ⟨bE, rfl, aR, sx1⟩
 obtain ⟨bN, bO⟩ := x1
 dsimp only at hM0 aR
 obtain ⟨aC, aD, rfl, rfl, aI, aJ⟩ := e01 aR
 try dsimp only at hM0
 refine And.intro (fun hc4 => ?_) (fun hc4 => ?_)
 ·replace hM0 := ifP hM0 hc4
  obtain ⟨x5, gx5, hM0⟩ := j0 hM0
  refine Tr.mono (M3 _ [.int .i64 aA, .int .i64 aB, .slice aF aT.length aG] (aA, aB, aT) (z0 aK aL (I0.mono sx1 aH)) _  gx5) ?_
  rintro v7 k6 ⟨aW, bL, aX, rfl, wx5⟩
  have sx5 : Sub k2 k6 := wx5.sub
  have rx5 := wx5.r
  obtain ⟨bF, bG, bP⟩ := x5
  dsimp only at hM0 wx5 rx5
  obtain ⟨_, _, _, _, _, _, ecx5, exx5, aY, aZ, bA⟩ := B0 rx5
  cases ecx5
  cases exx5
  obtain ⟨rfl, bM⟩ := Sl.len bA
  try dsimp only at hM0
  have we8 := New.sndI (New.sndI (wx5))
  have hE := Option.some.inj hM0; subst hE
  exact ⟨([.int .i64 bF, .int .i64 bG, .slice (some ⟨aW, 0, none⟩) bP.length aX]), ([.int .i64 0, .int .i64 0]), rfl, (New.pair (New.int aY) (New.pair (New.int aZ) (New.from we8 sx1))), (j2 (c64 (by decide) (by decide)) (c64 (by decide) (by decide)))⟩
 ·replace hM0 := ifN hM0 hc4
  obtain ⟨x9, gx9, hM0⟩ := j0 hM0
  refine Tr.mono (E05 _ [.int .i64 aA, .int .i64 aB, .slice aF aT.length aG] (aA, aB, aT) (z0 aK aL (I0.mono sx1 aH)) [.int .i64 aC, .int .i64 aD] (aC, aD) (j2 aI aJ) _  gx9) ?_
  rintro v11 k10 ⟨bH, rfl, aS⟩
  obtain ⟨bQ, bR⟩ := x9
  dsimp only at hM0 aS
  have sx9 : Sub k2 k10 := aS.sub
  have bB := aS.r
  obtain ⟨aU, aV, aM, bC, aN, bI, rfl, rfl, aO, aP, aQ⟩ := B0 bB
  obtain ⟨rfl, bD⟩ := Sl.len aQ
  try dsimp only at hM0
  have we12 := New.sndI (New.sndI (aS))
  refine Or.inr (Or.inr (Or.inl (And.intro (And.intro (by kernel_rfl) (by kernel_rfl)) ?_)))
  refine Or.inr ?_
  refine Or.inr ?_
  refine Exists.intro 0 (And.intro (And.intro rfl rfl) ?_)
  refine And.intro trivial (And.intro (by first | exact trivial | exact rfl) ?_)
  refine And.intro trivial (And.intro (by first | exact trivial | exact rfl) ?_)
  have hE := Option.some.inj hM0; subst hE
  exact ⟨([.int .i64 aU, .int .i64 aV, .slice aM bI.length aN]), ([.int .i64 aC, .int .i64 aD]), rfl, (New.pair (New.int aO) (New.pair (New.int aP) (New.from we12 sx1))), (j2 aI aJ)⟩
theorem E02 (h : Hp) (csp0 : List Value) (p0 : l0) (rp0 : Y0.R h csp0 p0) (r : l0 × H7) (hM0 : O6 p0 = some r) :
  Tr Tryz.prog 99 #[.agg csp0.toArray] h fun v h' => ∃ (cs0 : List Value) (a1 : Option Addr) (n1 c1 : Nat), v = .tuple #[.agg cs0.toArray, .slice a1 n1 c1] ∧ New Y0 h h' cs0 r.1 ∧ M0d.R h' [.slice a1 n1 c1] r.2 := by
 obtain ⟨aS, aT, aP, bK, aQ, bG, rfl, rfl, aV, aW, aR⟩ := B0 rp0
 obtain ⟨rfl, bL⟩ := Sl.len aR
 unfold O6 at hM0
 dsimp only at hM0
 refine T2 (args := [.agg #[.int .i64 aS, .int .i64 aT, .slice aP bG.length aQ]]) (fn := Tryz.f99) rfl ?_
 obtain ⟨x1, gx1, hM0⟩ := j0 hM0
 refine Tr.mono (M3 _ [.int .i64 aS, .int .i64 aT, .slice aP bG.length aQ] (aS, aT, bG) (z0 aV aW aR) _  gx1) ?_
 rintro v3 k2 ⟨aX, bM, aY, rfl, wx1⟩
 have sx1 : Sub h k2 := wx1.sub
 have rx1 := wx1.r
 obtain ⟨bH, bI, bJ⟩ := x1
 dsimp only at hM0 wx1 rx1
 obtain ⟨_, _, _, _, _, _, ecx1, exx1, aZ, bA, bB⟩ := B0 rx1
 cases ecx1
 cases exx1
 obtain ⟨rfl, bN⟩ := Sl.len bB
 try dsimp only at hM0
 have we4 := New.sndI (New.sndI (wx1))
 obtain ⟨X5, hLX5, hM0⟩ := j0 hM0
 refine Exists.intro { vars := [], boxes := [2], owns := [0], fuel := true } (Exists.intro (fun vs os h' => ∃ (u6 : Int) (u7 : Int) (au8 : Option Addr) (nu8 cu8 : Nat) (u8 : J0) (wu9 : List (List Value)) (u9 : List E4), vs.tail = [.int .i64 u6, .int .i64 u7, .slice au8 nu8 cu8] ∧ os = [wu9] ∧ Sub k2 h' ∧ H0 u6 ∧ H0 u7 ∧ New I0 h h' [.slice au8 nu8 cu8] u8 ∧ F2 (C4.R h') wu9 u9 ∧ F6 (Q1 vs) u6 u7 u8 u9 = some X5) (Exists.intro (fun _ _ => 0) ?_))
 refine And.intro (Exists.intro T0 ⟨bH, bI, (some ⟨aX, 0, none⟩), bJ.length, aY, bJ, [], ([] : H7), rfl, rfl, (Sub.refl _), aZ, bA, we4, (show F2 (C4.R k2) ([] : List (List Value)) ([] : H7) from trivial), hLX5⟩) ?_
 rintro v_0 v_1 v_2 wu9 m11 k10 ⟨u6, u7, au8, nu8, cu8, u8, zzu9, u9, evX5, eoX5, sX5, iu6, iu7, wwu8, fu9, hM1⟩
 cases evX5
 cases eoX5
 replace hM1 : F6 m11 u6 u7 u8 u9 = some X5 := hM1
 obtain _ | m11 := m11
 ·cases (show (none : Option _) = some X5 from hM1)
 rw [F6.eq_2] at hM1
 have ru8 := wwu8.r
 obtain ⟨rfl, lu8⟩ := Sl.len ru8
 obtain ⟨x12, gx12, hM1⟩ := j0 hM1
 refine Tr.mono (b0a _ [.int .i64 u6, .int .i64 u7, .slice au8 u8.length cu8] (u6, u7, u8) (z0 iu6 iu7 ru8) _  gx12) ?_
 rintro v14 k13 ⟨bE, bF, rfl, aF, aG⟩
 obtain ⟨bO, bP, bQ⟩ := x12
 dsimp only at hM1 aF aG
 have sx12 : Sub k10 k13 := aF.sub
 have aU := aF.r
 obtain ⟨aM, aN, aH, bC, aI, aO, rfl, rfl, aJ, aK, aL⟩ := B0 aU
 obtain ⟨rfl, bD⟩ := Sl.len aL
 try dsimp only at hM1
 have we15 := New.sndI (New.sndI (aF))
 obtain ⟨aA, aB, rfl, rfl, aC, aD⟩ := e01 aG
 try dsimp only at hM1
 refine And.intro (fun hc16 => ?_) (fun hc16 => ?_)
 ·replace hM1 := ifP hM1 hc16
  intro v17 k18 f19
  obtain ⟨az20, cz20, rfl, rz20, sz20, lz20⟩ := E1.out (r := C4.toRp) f19 (F2.up (r := C4.toRp) sx12 fu9)
  have hE := Option.some.inj hM1; subst hE
  try dsimp only [G3, J3] at hM0
  have hE := Option.some.inj hM0; subst hE
  exact ⟨([.int .i64 u6, .int .i64 u7, .slice au8 u8.length cu8]), az20, u9.length, cz20, rfl, (New.pair (New.int iu6) (New.pair (New.int iu7) (New.mono wwu8 (sx12.trans sz20)))), rz20⟩
 ·replace hM1 := ifN hM1 hc16
  obtain ⟨q21, gq21, hM1⟩ := j0 hM1
  refine And.intro (M2 gq21 (by first | rw [F2.length (F2.up (r := C4.toRp) sx12 fu9), F2.length (show F2 (C4.R k13) ([[.int .i64 aA, .int .i64 aB]] : List (List Value)) [(aA, aB)] from ⟨(j2 aC aD), trivial⟩)] | exact congrArg (· + 1) (F2.length (F2.up (r := C4.toRp) sx12 fu9)))) ?_
  refine And.intro rfl (And.intro (by repeat (first | exact trivial | refine And.intro rfl ?_)) (And.intro (by repeat (first | exact trivial | refine And.intro rfl ?_)) (Exists.intro m11 (And.intro ⟨aM, aN, aH, aO.length, aI, aO, (wu9 ++ ([[.int .i64 aA, .int .i64 aB]] : List (List Value))), (u9 ++ [(aA, aB)]), rfl, rfl, (sX5.trans sx12), aJ, aK, (New.from we15 (sx1.trans sX5)), (F2.append (F2.up (r := C4.toRp) sx12 fu9) (show F2 (C4.R k13) ([[.int .i64 aA, .int .i64 aB]] : List (List Value)) [(aA, aB)] from ⟨(j2 aC aD), trivial⟩)), hM1⟩ (Nat.lt_succ_self _)))))
theorem i09 (h : Hp) (csp0 : List Value) (p0 : l0) (rp0 : Y0.R h csp0 p0) (r : l0 × Bool) (hM0 : f8 p0 = some r) :
  Tr Tryz.prog 101 #[.agg csp0.toArray] h fun v h' => ∃ (cs0 : List Value), v = .tuple #[.agg cs0.toArray, .bool r.2] ∧ New Y0 h h' cs0 r.1 := by
 obtain ⟨aA, aB, aC, aQ, aD, aL, rfl, rfl, aG, aH, aF⟩ := B0 rp0
 obtain ⟨rfl, aR⟩ := Sl.len aF
 unfold f8 at hM0
 dsimp only at hM0
 refine T2 (args := [.agg #[.int .i64 aA, .int .i64 aB, .slice aC aL.length aD]]) (fn := Tryz.f101) rfl ?_
 obtain ⟨x1, gx1, hM0⟩ := j0 hM0
 refine Tr.mono (M3 _ [.int .i64 aA, .int .i64 aB, .slice aC aL.length aD] (aA, aB, aL) (z0 aG aH aF) _  gx1) ?_
 rintro v3 k2 ⟨aI, aS, aJ, rfl, wx1⟩
 have sx1 : Sub h k2 := wx1.sub
 have rx1 := wx1.r
 obtain ⟨aM, aN, aU⟩ := x1
 dsimp only at hM0 wx1 rx1
 obtain ⟨_, _, _, _, _, _, ecx1, exx1, aK, aO, aP⟩ := B0 rx1
 cases ecx1
 cases exx1
 obtain ⟨rfl, aT⟩ := Sl.len aP
 try dsimp only at hM0
 have we4 := New.sndI (New.sndI (wx1))
 obtain ⟨x5, gx5, hM0⟩ := j0 hM0
 refine Tr.val (A8 _ [.int .i64 aA, .int .i64 aB, .slice aC aL.length aD] (aA, aB, aL) (z0 aG aH (I0.mono sx1 aF)) _  gx5) ?_
 refine And.intro (fun hc6 => ?_) (fun hc6 => ?_)
 ·replace hM0 := ifP hM0 hc6
  have hE := Option.some.inj hM0; subst hE
  exact ⟨([.int .i64 aM, .int .i64 aN, .slice (some ⟨aI, 0, none⟩) aU.length aJ]), rfl, (New.pair (New.int aK) (New.pair (New.int aO) we4))⟩
 ·replace hM0 := ifN hM0 hc6
  have hE := Option.some.inj hM0; subst hE
  exact ⟨([.int .i64 aM, .int .i64 (IntKind.i64.wrap (aN + 1)), .slice (some ⟨aI, 0, none⟩) aU.length aJ]), rfl, (New.pair (New.int aK) (New.pair (New.int (K0 _)) we4))⟩
theorem X0b (h : Hp) (csp0 : List Value) (p0 : l0) (rp0 : Y0.R h csp0 p0) (csp1 : List Value) (p1 : C0) (rp1 : Q0.R h csp1 p1) (r : l0 × Bool) (hM0 : Y8 p0 p1 = some r) :
  Tr Tryz.prog 102 #[.agg csp0.toArray, .agg csp1.toArray] h fun v h' => ∃ (cs0 : List Value), v = .tuple #[.agg cs0.toArray, .bool r.2] ∧ New Y0 h h' cs0 r.1 := by
 obtain ⟨aH, aI, aD, aX, aF, aO, rfl, rfl, aM, aN, aG⟩ := B0 rp0
 obtain ⟨rfl, aY⟩ := Sl.len aG
 obtain ⟨aA, aB, aC, rfl, rfl, aJ, aK, aL⟩ := D1 rp1
 unfold Y8 at hM0
 dsimp only at hM0
 refine T2 (args := [.agg #[.int .i64 aH, .int .i64 aI, .slice aD aO.length aF], .agg #[.int .i64 aA, .int .i64 aB, .int .i64 aC]]) (fn := Tryz.f102) rfl ?_
 obtain ⟨x1, gx1, hM0⟩ := j0 hM0
 refine Tr.mono (M3 _ [.int .i64 aH, .int .i64 aI, .slice aD aO.length aF] (aH, aI, aO) (z0 aM aN aG) _  gx1) ?_
 rintro v3 k2 ⟨aR, aZ, aS, rfl, wx1⟩
 have sx1 : Sub h k2 := wx1.sub
 have rx1 := wx1.r
 obtain ⟨aT, aU, aV⟩ := x1
 dsimp only at hM0 wx1 rx1
 obtain ⟨_, _, _, _, _, _, ecx1, exx1, aP, aQ, aW⟩ := B0 rx1
 cases ecx1
 cases exx1
 obtain ⟨rfl, bA⟩ := Sl.len aW
 try dsimp only at hM0
 have we4 := New.sndI (New.sndI (wx1))
 obtain ⟨x5, gx5, hM0⟩ := j0 hM0
 refine Tr.val (A8 _ [.int .i64 aH, .int .i64 aI, .slice aD aO.length aF] (aH, aI, aO) (z0 aM aN (I0.mono sx1 aG)) _  gx5) ?_
 obtain ⟨x6, gx6, hM0⟩ := j0 hM0
 refine Exists.intro (.bool x6) (And.intro (fun q => P01 _ [.int .i64 aH, .int .i64 aI, .slice aD aO.length aF] (aH, aI, aO) (z0 aM aN (I0.mono sx1 aG)) [.int .i64 aA, .int .i64 aB, .int .i64 aC] (aA, aB, aC) (V0 aJ aK aL) _  (N2 gx6 q)) ?_)
 obtain ⟨x7, gx7, hM0⟩ := j0 hM0
 refine Exists.intro (.bool x7) (And.intro (fun q => T9 _ aD aO.length aF aO (I0.mono sx1 aG) [.int .i64 aA, .int .i64 aB, .int .i64 aC] (aA, aB, aC) (V0 aJ aK aL) _  (N2 gx7 q)) ?_)
 refine And.intro (fun hc8 => ?_) (fun hc8 => ?_)
 ·replace hM0 := ifP hM0 hc8
  have hE := Option.some.inj hM0; subst hE
  exact ⟨([.int .i64 aT, .int .i64 aU, .slice (some ⟨aR, 0, none⟩) aV.length aS]), rfl, (New.pair (New.int aP) (New.pair (New.int aQ) we4))⟩
 ·replace hM0 := ifN hM0 hc8
  obtain ⟨q9, gq9, hM0⟩ := j0 hM0
  obtain ⟨vsz10, rxz10, lnz10, apz10⟩ := New.app we4 (Sub.refl _)
  refine Exists.intro vsz10 (And.intro rxz10 (And.intro (M2 gq9 (by first | rw [lnz10, F2.length (show F2 (Q0.R k2) ([[.int .i64 aA, .int .i64 aB, .int .i64 aC]] : List (List Value)) [(aA, aB, aC)] from ⟨(V0 aJ aK aL), trivial⟩)] | (rw [lnz10]; rfl))) ?_))
  intro vz10 kz10 happz10
  obtain ⟨wz10, gz10, oz10, nz10, cz10, rfl⟩ := apz10 _ _ _ _ _ (F3.ofPlain (b09 _) (show F2 (Q0.R k2) ([[.int .i64 aA, .int .i64 aB, .int .i64 aC]] : List (List Value)) [(aA, aB, aC)] from ⟨(V0 aJ aK aL), trivial⟩)) r7.ofPlain happz10
  have rz10 := wz10.r
  obtain ⟨ez10, lz10⟩ := Sl.len rz10
  subst ez10
  obtain ⟨x11, gx11, hM0⟩ := j0 hM0
  refine Tr.mono (F01 _ (some ⟨gz10, oz10, none⟩) (aV ++ [(aA, aB, aC)]).length cz10 (aV ++ [(aA, aB, aC)]) rz10 _  gx11) ?_
  rintro v13 k12 ⟨ax11, nx11, cx11, rfl, wx11⟩
  have sx11 : Sub kz10 k12 := wx11.sub
  have rx11 := wx11.r
  obtain ⟨rfl, lx11⟩ := Sl.len rx11
  have hE := Option.some.inj hM0; subst hE
  exact ⟨([.int .i64 aT, .int .i64 aU, .slice ax11 x11.length cx11]), rfl, (New.pair (New.int aP) (New.pair (New.int aQ) (New.from wx11 wz10.sub)))⟩
theorem b06 (h : Hp) (csp0 : List Value) (p0 : l0) (rp0 : Y0.R h csp0 p0) (r : J0) (hM0 : T6 p0 = some r) :
  Tr Tryz.prog 100 #[.agg csp0.toArray] h fun v h' => ∃ (a0 : Option Addr) (n0 c0 : Nat), v = .slice a0 n0 c0 ∧ I0.R h' [.slice a0 n0 c0] r ∧ Sub h h' := by
 obtain ⟨aA, aB, aD, aJ, aF, aC, rfl, rfl, aG, aI, aH⟩ := B0 rp0
 obtain ⟨rfl, aK⟩ := Sl.len aH
 unfold T6 at hM0
 dsimp only at hM0
 refine T2 (args := [.agg #[.int .i64 aA, .int .i64 aB, .slice aD aC.length aF]]) (fn := Tryz.f100) rfl ?_
 obtain ⟨x1, gx1, hM0⟩ := j0 hM0
 refine Tr.val (H9 _ [.int .i64 aA, .int .i64 aB, .slice aD aC.length aF] (aA, aB, aC) (z0 aG aI aH) _  gx1) ?_
 refine And.intro (fun hc2 => ?_) (fun hc2 => ?_)
 ·replace hM0 := ifP hM0 hc2
  intro v3 k4 f5
  obtain ⟨az6, cz6, rfl, rz6, sz6, lz6⟩ := E1.out (r := Q0.toRp) f5 (show F2 (Q0.R h) ([] : List (List Value)) ([] : J0) from trivial)
  have hE := Option.some.inj hM0; subst hE
  exact ⟨az6, (([] : J0)).length, cz6, rfl, rz6, sz6⟩
 ·replace hM0 := ifN hM0 hc2
  obtain ⟨X7, hLX7, hM0⟩ := j0 hM0
  refine Exists.intro { vars := [4], boxes := [], owns := [0], fuel := true } (Exists.intro (fun vs os h' => ∃ (u8 : Int) (wu9 : List (List Value)) (u9 : List C0), vs.tail = [.int .i64 u8] ∧ os = [wu9] ∧ Sub h h' ∧ H0 u8 ∧ F2 (Q0.R h') wu9 u9 ∧ I4 aB aA aC (Q1 vs) u8 u9 = some X7) (Exists.intro (fun _ _ => 0) ?_))
  refine And.intro (Exists.intro T0 ⟨0, [], ([] : J0), rfl, rfl, (Sub.refl _), (c64 (by decide) (by decide)), (show F2 (Q0.R h) ([] : List (List Value)) ([] : J0) from trivial), hLX7⟩) ?_
  rintro v_0 wu9 m11 k10 ⟨u8, zzu9, u9, evX7, eoX7, sX7, iu8, fu9, hM1⟩
  cases evX7
  cases eoX7
  replace hM1 : I4 aB aA aC m11 u8 u9 = some X7 := hM1
  obtain _ | m11 := m11
  ·cases (show (none : Option _) = some X7 from hM1)
  rw [I4.eq_2] at hM1
  refine And.intro (fun hc12 => ?_) (fun hc12 => ?_)
  ·replace hM1 := ifP hM1 hc12
   obtain ⟨x13, gx13, hM1⟩ := j0 hM1
   refine Tr.mono (B05 _ aA aG _  gx13) ?_
   rintro v15 k14 ⟨ax13, nx13, cx13, rfl, rx13, sx13⟩
   obtain ⟨rfl, lx13⟩ := Sl.len rx13
   obtain ⟨X16, hLX16, hM1⟩ := j0 hM1
   refine Exists.intro { vars := [22], boxes := [], owns := [0], fuel := true } (Exists.intro (fun vs os h' => ∃ (u17 : Int) (wu18 : List (List Value)) (u18 : List C0), vs.tail = [.int .i64 u17] ∧ os = [wu18] ∧ Sub k14 h' ∧ H0 u17 ∧ F2 (Q0.R h') wu18 u18 ∧ C3 x13 aA aB aC u8 (Q1 vs) u17 u18 = some X16) (Exists.intro (fun _ _ => 0) ?_))
   refine And.intro (Exists.intro T0 ⟨0, wu9, u9, rfl, rfl, (Sub.refl _), (c64 (by decide) (by decide)), (F2.up (r := Q0.toRp) sx13 fu9), hLX16⟩) ?_
   rintro v_0 wu18 m20 k19 ⟨u17, zzu18, u18, evX16, eoX16, sX16, iu17, fu18, hM2⟩
   cases evX16
   cases eoX16
   replace hM2 : C3 x13 aA aB aC u8 m20 u17 u18 = some X16 := hM2
   obtain _ | m20 := m20
   ·cases (show (none : Option _) = some X16 from hM2)
   rw [C3.eq_2] at hM2
   refine And.intro (fun hc21 => ?_) (fun hc21 => ?_)
   ·replace hM2 := ifP hM2 hc21
    obtain ⟨x22, gx22, hM2⟩ := j0 hM2
    obtain ⟨bx22, csx22, ex22, rx22⟩ := Sl.getI (r := Wp.int.toRp) (K1.mono sX16 rx13) gx22 (by decide)
    refine And.intro bx22 ?_
    obtain ⟨rfl, ix22⟩ := rx22
    refine Exists.intro _ (And.intro ex22 ?_)
    obtain ⟨x23, gx23, hM2⟩ := j0 hM2
    refine Tr.val (k01 _ [.int .i64 aA, .int .i64 aB, .slice aD aC.length aF] (aA, aB, aC) (z0 aG aI (I0.mono ((sX7.trans sx13).trans sX16) aH)) u8 iu8 x22 ix22 _  gx23) ?_
    obtain ⟨q24, gq24, hM2⟩ := j0 hM2
    have ix23 : H0 x23 := U2 gq24
    refine And.intro (fun hc25 => ?_) (fun hc25 => ?_)
    ·replace hM2 := ifP hM2 hc25
     obtain ⟨q26, gq26, hM2⟩ := j0 hM2
     refine And.intro (M2 gq26 (by first | rw [F2.length fu18, F2.length (show F2 (Q0.R k19) ([[.int .i64 u8, .int .i64 x22, .int .i64 (-1)]] : List (List Value)) [(u8, x22, (-1))] from ⟨(V0 iu8 ix22 (c64 (by decide) (by decide))), trivial⟩)] | exact congrArg (· + 1) (F2.length fu18))) ?_
     refine And.intro rfl (And.intro (by repeat (first | exact trivial | refine And.intro rfl ?_)) (And.intro (by repeat (first | exact trivial | refine And.intro rfl ?_)) (Exists.intro m20 (And.intro ⟨(IntKind.i64.wrap (u17 + 1)), (wu18 ++ ([[.int .i64 u8, .int .i64 x22, .int .i64 (-1)]] : List (List Value))), (u18 ++ [(u8, x22, (-1))]), rfl, rfl, sX16, (K0 _), (F2.append fu18 (show F2 (Q0.R k19) ([[.int .i64 u8, .int .i64 x22, .int .i64 (-1)]] : List (List Value)) [(u8, x22, (-1))] from ⟨(V0 iu8 ix22 (c64 (by decide) (by decide))), trivial⟩)), hM2⟩ (Nat.lt_succ_self _)))))
    ·replace hM2 := ifN hM2 hc25
     refine And.intro rfl (And.intro (by repeat (first | exact trivial | refine And.intro rfl ?_)) (And.intro (by repeat (first | exact trivial | refine And.intro rfl ?_)) (Exists.intro m20 (And.intro ⟨(IntKind.i64.wrap (u17 + 1)), wu18, u18, rfl, rfl, sX16, (K0 _), fu18, hM2⟩ (Nat.lt_succ_self _)))))
   ·replace hM2 := ifN hM2 hc21
    have hE := Option.some.inj hM2; subst hE
    try dsimp only [U0, Z0] at hM1
    refine And.intro rfl (And.intro (by repeat (first | exact trivial | refine And.intro rfl ?_)) (And.intro (by repeat (first | exact trivial | refine And.intro rfl ?_)) (Exists.intro m11 (And.intro ⟨(IntKind.i64.wrap (u8 + 1)), wu18, u18, rfl, rfl, ((sX7.trans sx13).trans sX16), (K0 _), fu18, hM1⟩ (Nat.lt_succ_self _)))))
  ·replace hM1 := ifN hM1 hc12
   have hE := Option.some.inj hM1; subst hE
   try dsimp only [U0, Z0] at hM0
   intro v31 k32 f33
   obtain ⟨az34, cz34, rfl, rz34, sz34, lz34⟩ := E1.out (r := Q0.toRp) f33 fu9
   have hE := Option.some.inj hM0; subst hE
   exact ⟨az34, u9.length, cz34, rfl, rz34, (sX7.trans sz34)⟩
end Go.Proofs.YtfdlgbfeceodeaaGreat
namespace Go.Proofs.YtfdlgbfeceodeaaGreat
open Go.H
set_option linter.unusedVariables false
set_option linter.unusedSimpArgs false
set_option maxRecDepth 10000
set_option maxHeartbeats 0
theorem V06 (h : Hp) (csp0 : List Value) (p0 : D0) (rp0 : j1.R h csp0 p0) (csp1 : List Value) (p1 : l0) (rp1 : Y0.R h csp1 p1) (r : l0 × Bool × Bool) (hM0 : z8 p0 p1 = some r) :
  Tr Tryz.prog 30 #[.agg csp0.toArray, .agg csp1.toArray] h fun v h' => ∃ (cs0 : List Value), v = .tuple #[.agg cs0.toArray, .bool r.2.1, .bool r.2.2] ∧ New Y0 h h' cs0 r.1 := by
 obtain ⟨bW, bI, gD, bJ, dY, rfl, rfl, cP, bK⟩ := A2 rp0
 obtain ⟨rfl, gE⟩ := Sl.len bK
 obtain ⟨aK, aJ, aN, gF, aO, aT, rfl, rfl, aR, aP, aQ⟩ := B0 rp1
 obtain ⟨rfl, gG⟩ := Sl.len aQ
 unfold z8 at hM0
 dsimp only at hM0
 refine T2 (args := [.agg #[.int .i64 bW, .slice bI dY.length bJ], .agg #[.int .i64 aK, .int .i64 aJ, .slice aN aT.length aO]]) (fn := Tryz.f30) rfl ?_
 obtain ⟨x1, gx1, hM0⟩ := j0 hM0
 refine Tr.val (S9 _ [.int .i64 bW, .slice bI dY.length bJ] (bW, dY) (J2 cP bK) _  gx1) ?_
 obtain ⟨x2, gx2, hM0⟩ := j0 hM0
 refine Exists.intro (.bool x2) (And.intro (fun q => H9 _ [.int .i64 aK, .int .i64 aJ, .slice aN aT.length aO] (aK, aJ, aT) (z0 aR aP aQ) _  (N2 gx2 q)) ?_)
 refine And.intro (fun hc3 => ?_) (fun hc3 => ?_)
 ·replace hM0 := ifP hM0 hc3
  obtain ⟨x4, gx4, hM0⟩ := j0 hM0
  refine Tr.mono (M3 _ [.int .i64 aK, .int .i64 aJ, .slice aN aT.length aO] (aK, aJ, aT) (z0 aR aP aQ) _  gx4) ?_
  rintro v6 k5 ⟨dZ, gH, eA, rfl, wx4⟩
  have sx4 : Sub h k5 := wx4.sub
  have rx4 := wx4.r
  obtain ⟨fI, fJ, gW⟩ := x4
  dsimp only at hM0 wx4 rx4
  obtain ⟨_, _, _, _, _, _, ecx4, exx4, eB, eC, eD⟩ := B0 rx4
  cases ecx4
  cases exx4
  obtain ⟨rfl, gI⟩ := Sl.len eD
  try dsimp only at hM0
  have we7 := New.sndI (New.sndI (wx4))
  have hE := Option.some.inj hM0; subst hE
  exact ⟨([.int .i64 fI, .int .i64 fJ, .slice (some ⟨dZ, 0, none⟩) gW.length eA]), rfl, (New.pair (New.int eB) (New.pair (New.int eC) we7))⟩
 ·replace hM0 := ifN hM0 hc3
  obtain ⟨x8, gx8, hM0⟩ := j0 hM0
  obtain ⟨cT, eE⟩ := x8
  try dsimp only at hM0
  refine Tr.val (S06 _ [.int .i64 bW, .slice bI dY.length bJ] (bW, dY) (J2 cP bK) [.int .i64 aK, .int .i64 aJ, .slice aN aT.length aO] (aK, aJ, aT) (z0 aR aP aQ) _  gx8) ?_
  obtain ⟨q9, gq9, hM0⟩ := j0 hM0
  have cQ : H0 cT := U2 gq9
  obtain ⟨q10, gq10, hM0⟩ := j0 hM0
  have gJ : H0 eE := U2 gq10
  refine And.intro (fun hc11 => ?_) (fun hc11 => ?_)
  ·replace hM0 := ifP hM0 hc11
   refine Or.inr (Or.inr (Or.inr (Or.inr (Exists.intro 13 (And.intro (And.intro (by kernel_rfl) (by kernel_rfl)) ?_)))))
   obtain ⟨x12, gx12, hM0⟩ := j0 hM0
   obtain ⟨bx12, csx12, ex12, rx12⟩ := Sl.getI (r := K1.toRp) bK gx12 (by decide)
   obtain ⟨ax12, nx12, cx12, rfl⟩ := Wp.slice_cell rx12
   obtain ⟨rfl, lx12⟩ := Sl.len rx12
   refine Or.inl (Exists.intro (.hel (.slice bI dY.length bJ) eE 1 0) (And.intro ?_ ?_))
   ·intro k13 s14
    exact And.intro bx12 (And.intro rfl (And.intro rfl rfl))
   refine Or.inl (Exists.intro (.val (.slice ax12 x12.length cx12)) (And.intro ?_ ?_))
   ·intro k15 s16
    exact Exists.intro _ (And.intro (i7.up s16 ex12) (And.intro rfl (And.intro rfl rfl)))
   obtain ⟨x17, gx17, hM0⟩ := j0 hM0
   obtain ⟨eF, bX⟩ := x17
   try dsimp only at hM0
   obtain ⟨aF, aG, aS⟩ := eF
   try dsimp only at hM0
   refine Or.inr (Exists.intro (fun v hh => ∃ (aL : Value), v = .tuple #[aL, .bool bX] ∧ (fun v hh => ∃ (aA : Option Addr) (aB : Nat), v = .agg #[.int .i64 aF, .int .i64 aG, .slice aA aS.length aB] ∧ H0 aF ∧ H0 aG ∧ New I0 h hh [.slice aA aS.length aB] aS ∧ aS.length ≤ 9223372036854775807) aL hh) (And.intro (fun v h1 h2 sb q => by obtain ⟨aL, e, aY⟩ := q; exact ⟨aL, e, (by obtain ⟨aA, aB, e, f0, f1, f2, f3⟩ := aY; exact ⟨aA, aB, e, f0, f1, New.mono f2 sb, f3⟩)⟩) (And.intro ?_ ?_)))
   ·intro k18 s19
    refine Tr.mono (D05 _ [.int .i64 aK, .int .i64 aJ, .slice aN aT.length aO] (aK, aJ, aT) (z0 aR aP (I0.mono s19 aQ)) cT cQ ax12 x12.length cx12 x12 (K1.mono s19 rx12) cT cQ _ gx17) ?_
    rintro _ kk ⟨fC, rfl, cU⟩
    have sb := cU.sub
    have cV := cU.r
    obtain ⟨eG, eH, aU, dW, aV, eI, rfl, ey, bO, bP, bQ⟩ := B0 cV
    cases ey
    obtain ⟨rfl, bR⟩ := Sl.len bQ
    exact And.intro F03 (And.intro sb ⟨(.agg #[.int .i64 aF, .int .i64 aG, .slice aU aS.length aV]), rfl, ⟨aU, aV, rfl, bO, bP, (New.from (New.sndI (New.sndI (cU))) s19), bR⟩⟩)
   refine Or.inr (Exists.intro (fun v hh => ∃ (aL : Value), v = .tuple #[aL, .bool bX] ∧ (fun v hh => ∃ (aA : Option Addr) (aB : Nat), v = .agg #[.int .i64 aF, .int .i64 aG, .slice aA aS.length aB] ∧ H0 aF ∧ H0 aG ∧ New I0 h hh [.slice aA aS.length aB] aS ∧ aS.length ≤ 9223372036854775807) aL hh) (And.intro (fun v h1 h2 sb q => by obtain ⟨aL, e, aY⟩ := q; exact ⟨aL, e, (by obtain ⟨aA, aB, e, f0, f1, f2, f3⟩ := aY; exact ⟨aA, aB, e, f0, f1, New.mono f2 sb, f3⟩)⟩) (And.intro ?_ ?_)))
   ·intro k20 s21
    rintro _ ⟨_, rfl, ⟨az22p02, cz22p02, rfl, iz22p00, iz22p01, rz22p02, lz22p02⟩⟩
    exact And.intro F03 (And.intro (Sub.refl _) ⟨(.agg #[.int .i64 aF, .int .i64 aG, .slice az22p02 aS.length cz22p02]), rfl, ⟨az22p02, cz22p02, rfl, iz22p00, iz22p01, rz22p02, lz22p02⟩⟩)
   refine Or.inr (Exists.intro (fun v hh => ∃ (aA : Option Addr) (aB : Nat), v = .agg #[.int .i64 aF, .int .i64 aG, .slice aA aS.length aB] ∧ H0 aF ∧ H0 aG ∧ New I0 h hh [.slice aA aS.length aB] aS ∧ aS.length ≤ 9223372036854775807) (And.intro (fun v h1 h2 sb q => by obtain ⟨aA, aB, e, f0, f1, f2, f3⟩ := q; exact ⟨aA, aB, e, f0, f1, New.mono f2 sb, f3⟩) (And.intro ?_ ?_)))
   ·intro k23 s24
    rintro _ ⟨_, rfl, ⟨az25p02, cz25p02, rfl, iz25p00, iz25p01, rz25p02, lz25p02⟩⟩
    exact And.intro F03 (And.intro (Sub.refl _) ⟨az25p02, cz25p02, rfl, iz25p00, iz25p01, rz25p02, lz25p02⟩)
   refine Or.inl (Exists.intro (.val (.bool bX)) (And.intro ?_ ?_))
   ·intro k26 s27
    rintro _ ⟨_, rfl, ⟨az28p02, cz28p02, rfl, iz28p00, iz28p01, rz28p02, lz28p02⟩⟩
    exact And.intro rfl (And.intro rfl rfl)
   intro k29 s30
   rintro _ ⟨az312, cz312, rfl, iz310, iz311, rz312, lz312⟩
   rintro _ ⟨_, rfl, ⟨az32p02, cz32p02, rfl, iz32p00, iz32p01, rz32p02, lz32p02⟩⟩
   rintro _ ⟨_, rfl, ⟨az33p02, cz33p02, rfl, iz33p00, iz33p01, rz33p02, lz33p02⟩⟩
   refine And.intro (fun hc34 => ?_) (fun hc34 => ?_)
   ·replace hM0 := ifP hM0 hc34
    obtain ⟨x35, gx35, hM0⟩ := j0 hM0
    refine Tr.mono (M3 _ [.int .i64 aK, .int .i64 aJ, .slice aN aT.length aO] (aK, aJ, aT) (z0 aR aP (I0.mono s30 aQ)) _  gx35) ?_
    rintro v37 k36 ⟨cW, fK, cX, rfl, wx35⟩
    have sx35 : Sub k29 k36 := wx35.sub
    have rx35 := wx35.r
    obtain ⟨eJ, eM, gK⟩ := x35
    dsimp only at hM0 wx35 rx35
    obtain ⟨_, _, _, _, _, _, ecx35, exx35, cY, cZ, dA⟩ := B0 rx35
    cases ecx35
    cases exx35
    obtain ⟨rfl, fL⟩ := Sl.len dA
    try dsimp only at hM0
    have we38 := New.sndI (New.sndI (wx35))
    have hE := Option.some.inj hM0; subst hE
    exact ⟨([.int .i64 eJ, .int .i64 eM, .slice (some ⟨cW, 0, none⟩) gK.length cX]), rfl, (New.pair (New.int cY) (New.pair (New.int cZ) (New.from we38 s30)))⟩
   ·replace hM0 := ifN hM0 hc34
    obtain ⟨x39, gx39, hM0⟩ := j0 hM0
    refine Tr.mono (E02 _ [.int .i64 aF, .int .i64 aG, .slice az312 aS.length cz312] (aF, aG, aS) (z0 iz310 iz311 rz312.r) _  gx39) ?_
    rintro v41 k40 ⟨fD, fM, fN, fO, rfl, bY, bZ⟩
    obtain ⟨gL, gM⟩ := x39
    dsimp only at hM0 bY bZ
    have sx39 : Sub k29 k40 := bY.sub
    have dB := bY.r
    obtain ⟨cJ, cK, cA, eN, cC, fE, rfl, rfl, cD, cE, cG⟩ := B0 dB
    obtain ⟨rfl, eO⟩ := Sl.len cG
    try dsimp only at hM0
    have we42 := New.sndI (New.sndI (bY))
    obtain ⟨rfl, fP⟩ := Sl.len bZ
    have hE := Option.some.inj hM0; subst hE
    exact ⟨([.int .i64 cJ, .int .i64 cK, .slice cA fE.length cC]), rfl, (New.pair (New.int cD) (New.pair (New.int cE) (New.from we42 s30)))⟩
  ·replace hM0 := ifN hM0 hc11
   obtain ⟨x43, gx43, hM0⟩ := j0 hM0
   refine Tr.mono (b06 _ [.int .i64 aK, .int .i64 aJ, .slice aN aT.length aO] (aK, aJ, aT) (z0 aR aP aQ) _  gx43) ?_
   rintro v45 k44 ⟨ax43, nx43, cx43, rfl, rx43, sx43⟩
   obtain ⟨rfl, lx43⟩ := Sl.len rx43
   refine And.intro (fun hc46 => ?_) (fun hc46 => ?_)
   ·replace hM0 := ifP hM0 hc46
    obtain ⟨x47, gx47, hM0⟩ := j0 hM0
    refine Tr.mono (M3 _ [.int .i64 aK, .int .i64 aJ, .slice aN aT.length aO] (aK, aJ, aT) (z0 aR aP (I0.mono sx43 aQ)) _  gx47) ?_
    rintro v49 k48 ⟨dC, fQ, dD, rfl, wx47⟩
    have sx47 : Sub k44 k48 := wx47.sub
    have rx47 := wx47.r
    obtain ⟨eP, eQ, gN⟩ := x47
    dsimp only at hM0 wx47 rx47
    obtain ⟨_, _, _, _, _, _, ecx47, exx47, dE, dF, dG⟩ := B0 rx47
    cases ecx47
    cases exx47
    obtain ⟨rfl, fR⟩ := Sl.len dG
    try dsimp only at hM0
    have we50 := New.sndI (New.sndI (wx47))
    have hE := Option.some.inj hM0; subst hE
    exact ⟨([.int .i64 eP, .int .i64 eQ, .slice (some ⟨dC, 0, none⟩) gN.length dD]), rfl, (New.pair (New.int dE) (New.pair (New.int dF) (New.from we50 sx43)))⟩
   ·replace hM0 := ifN hM0 hc46
    obtain ⟨x51, gx51, hM0⟩ := j0 hM0
    refine Tr.mono (i09 _ [.int .i64 aK, .int .i64 aJ, .slice aN aT.length aO] (aK, aJ, aT) (z0 aR aP (I0.mono sx43 aQ)) _  gx51) ?_
    rintro v53 k52 ⟨fF, rfl, cH⟩
    obtain ⟨gO, gP⟩ := x51
    dsimp only at hM0 cH
    have sx51 : Sub k44 k52 := cH.sub
    have dH := cH.r
    obtain ⟨aZ, bA, bD, eR, bE, cL, rfl, rfl, bF, bG, bH⟩ := B0 dH
    obtain ⟨rfl, eT⟩ := Sl.len bH
    try dsimp only at hM0
    have we54 := New.sndI (New.sndI (cH))
    refine And.intro (fun hc55 => ?_) (fun hc55 => ?_)
    ·replace hM0 := ifP hM0 hc55
     refine Or.inr (Or.inr (Or.inr (Or.inr (Exists.intro 16 (And.intro (And.intro (by kernel_rfl) (by kernel_rfl)) ?_)))))
     obtain ⟨x56, gx56, hM0⟩ := j0 hM0
     obtain ⟨bx56, csx56, ex56, rx56⟩ := Sl.getI (r := Q0.toRp) (I0.mono sx51 rx43) gx56 (by decide)
     obtain ⟨cR, gQ, gR, rfl, rfl, dI, fS, fT⟩ := D1 rx56
     try dsimp only at hM0
     refine Or.inl (Exists.intro (.hel (.slice ax43 x43.length cx43) 0 3 0) (And.intro ?_ ?_))
     ·intro k57 s58
      exact And.intro bx56 (And.intro rfl (And.intro rfl rfl))
     refine Or.inl (Exists.intro (.val (.int .i64 cR)) (And.intro ?_ ?_))
     ·intro k59 s60
      exact Exists.intro _ (And.intro (i7.up s60 ex56) (And.intro rfl (And.intro rfl rfl)))
     obtain ⟨x61, gx61, hM0⟩ := j0 hM0
     obtain ⟨bx61, csx61, ex61, rx61⟩ := Sl.getI (r := Q0.toRp) (I0.mono sx51 rx43) gx61 (by decide)
     obtain ⟨gS, cS, gT, rfl, rfl, fU, dJ, fV⟩ := D1 rx61
     try dsimp only at hM0
     refine Or.inl (Exists.intro (.hel (.slice ax43 x43.length cx43) 0 3 0) (And.intro ?_ ?_))
     ·intro k62 s63
      exact And.intro bx61 (And.intro rfl (And.intro rfl rfl))
     refine Or.inl (Exists.intro (.val (.int .i64 cS)) (And.intro ?_ ?_))
     ·intro k64 s65
      exact Exists.intro _ (And.intro (i7.up s65 ex61) (And.intro rfl (And.intro rfl rfl)))
     obtain ⟨x66, gx66, hM0⟩ := j0 hM0
     obtain ⟨bL, bM, bN⟩ := x66
     try dsimp only at hM0
     refine Or.inr (Exists.intro (fun v hh => ∃ (_ : Unit), v = .agg #[.int .i64 bL, .int .i64 bM, .int .i64 bN] ∧ H0 bL ∧ H0 bM ∧ H0 bN) (And.intro (fun v h1 h2 sb q => by obtain ⟨u, e, f0, f1, f2⟩ := q; exact ⟨u, e, f0, f1, f2⟩) (And.intro ?_ ?_)))
     ·intro k67 s68
      refine Tr.mono (C05 _ cR dI cS dJ aJ aP _ gx66) ?_
      rintro _ kk ⟨csx66, rfl, rx66, sb⟩
      obtain ⟨fW, fX, fY, rfl, ey, cM, cN, cO⟩ := D1 rx66
      cases ey
      exact And.intro F03 (And.intro sb ⟨(), rfl, cM, cN, cO⟩)
     obtain ⟨x69, gx69, hM0⟩ := j0 hM0
     obtain ⟨eU, cI⟩ := x69
     try dsimp only at hM0
     obtain ⟨aH, aI, bB⟩ := eU
     try dsimp only at hM0
     refine Or.inr (Exists.intro (fun v hh => ∃ (aM : Value), v = .tuple #[aM, .bool cI] ∧ (fun v hh => ∃ (aC : Option Addr) (aD : Nat), v = .agg #[.int .i64 aH, .int .i64 aI, .slice aC bB.length aD] ∧ H0 aH ∧ H0 aI ∧ New I0 k52 hh [.slice aC bB.length aD] bB ∧ bB.length ≤ 9223372036854775807) aM hh) (And.intro (fun v h1 h2 sb q => by obtain ⟨aM, e, bC⟩ := q; exact ⟨aM, e, (by obtain ⟨aC, aD, e, f0, f1, f2, f3⟩ := bC; exact ⟨aC, aD, e, f0, f1, New.mono f2 sb, f3⟩)⟩) (And.intro ?_ ?_)))
     ·intro k70 s71
      rintro _ ⟨_, rfl, iz720, iz721, iz722⟩
      refine Tr.mono (X0b _ [.int .i64 aZ, .int .i64 bA, .slice bD cL.length bE] (aZ, bA, cL) (z0 bF bG (I0.mono s71 bH)) [.int .i64 bL, .int .i64 bM, .int .i64 bN] (bL, bM, bN) (V0 iz720 iz721 iz722) _ gx69) ?_
      rintro _ kk ⟨fH, rfl, dK⟩
      have sb := dK.sub
      have dL := dK.r
      obtain ⟨eV, eW, aW, dX, aX, eX, rfl, ey, bS, bT, bU⟩ := B0 dL
      cases ey
      obtain ⟨rfl, bV⟩ := Sl.len bU
      exact And.intro F03 (And.intro sb ⟨(.agg #[.int .i64 aH, .int .i64 aI, .slice aW bB.length aX]), rfl, ⟨aW, aX, rfl, bS, bT, (New.from (New.sndI (New.sndI (dK))) s71), bV⟩⟩)
     refine Or.inr (Exists.intro (fun v hh => ∃ (aM : Value), v = .tuple #[aM, .bool cI] ∧ (fun v hh => ∃ (aC : Option Addr) (aD : Nat), v = .agg #[.int .i64 aH, .int .i64 aI, .slice aC bB.length aD] ∧ H0 aH ∧ H0 aI ∧ New I0 k52 hh [.slice aC bB.length aD] bB ∧ bB.length ≤ 9223372036854775807) aM hh) (And.intro (fun v h1 h2 sb q => by obtain ⟨aM, e, bC⟩ := q; exact ⟨aM, e, (by obtain ⟨aC, aD, e, f0, f1, f2, f3⟩ := bC; exact ⟨aC, aD, e, f0, f1, New.mono f2 sb, f3⟩)⟩) (And.intro ?_ ?_)))
     ·intro k73 s74
      rintro _ ⟨_, rfl, ⟨az75p02, cz75p02, rfl, iz75p00, iz75p01, rz75p02, lz75p02⟩⟩
      exact And.intro F03 (And.intro (Sub.refl _) ⟨(.agg #[.int .i64 aH, .int .i64 aI, .slice az75p02 bB.length cz75p02]), rfl, ⟨az75p02, cz75p02, rfl, iz75p00, iz75p01, rz75p02, lz75p02⟩⟩)
     refine Or.inr (Exists.intro (fun v hh => ∃ (aC : Option Addr) (aD : Nat), v = .agg #[.int .i64 aH, .int .i64 aI, .slice aC bB.length aD] ∧ H0 aH ∧ H0 aI ∧ New I0 k52 hh [.slice aC bB.length aD] bB ∧ bB.length ≤ 9223372036854775807) (And.intro (fun v h1 h2 sb q => by obtain ⟨aC, aD, e, f0, f1, f2, f3⟩ := q; exact ⟨aC, aD, e, f0, f1, New.mono f2 sb, f3⟩) (And.intro ?_ ?_)))
     ·intro k76 s77
      rintro _ ⟨_, rfl, ⟨az78p02, cz78p02, rfl, iz78p00, iz78p01, rz78p02, lz78p02⟩⟩
      exact And.intro F03 (And.intro (Sub.refl _) ⟨az78p02, cz78p02, rfl, iz78p00, iz78p01, rz78p02, lz78p02⟩)
     refine Or.inl (Exists.intro (.val (.bool cI)) (And.intro ?_ ?_))
     ·intro k79 s80
      rintro _ ⟨_, rfl, ⟨az81p02, cz81p02, rfl, iz81p00, iz81p01, rz81p02, lz81p02⟩⟩
      exact And.intro rfl (And.intro rfl rfl)
     intro k82 s83
     rintro _ ⟨az842, cz842, rfl, iz840, iz841, rz842, lz842⟩
     rintro _ ⟨_, rfl, ⟨az85p02, cz85p02, rfl, iz85p00, iz85p01, rz85p02, lz85p02⟩⟩
     rintro _ ⟨_, rfl, ⟨az86p02, cz86p02, rfl, iz86p00, iz86p01, rz86p02, lz86p02⟩⟩
     rintro _ ⟨_, rfl, iz870, iz871, iz872⟩
     refine And.intro (fun hc88 => ?_) (fun hc88 => ?_)
     ·replace hM0 := ifP hM0 hc88
      obtain ⟨x89, gx89, hM0⟩ := j0 hM0
      refine Tr.mono (M3 _ [.int .i64 aK, .int .i64 aJ, .slice aN aT.length aO] (aK, aJ, aT) (z0 aR aP (I0.mono ((sx43.trans sx51).trans s83) aQ)) _  gx89) ?_
      rintro v91 k90 ⟨dM, fZ, dN, rfl, wx89⟩
      have sx89 : Sub k82 k90 := wx89.sub
      have rx89 := wx89.r
      obtain ⟨eY, eZ, gU⟩ := x89
      dsimp only at hM0 wx89 rx89
      obtain ⟨_, _, _, _, _, _, ecx89, exx89, dO, dP, dQ⟩ := B0 rx89
      cases ecx89
      cases exx89
      obtain ⟨rfl, gA⟩ := Sl.len dQ
      try dsimp only at hM0
      have we92 := New.sndI (New.sndI (wx89))
      have hE := Option.some.inj hM0; subst hE
      exact ⟨([.int .i64 eY, .int .i64 eZ, .slice (some ⟨dM, 0, none⟩) gU.length dN]), rfl, (New.pair (New.int dO) (New.pair (New.int dP) (New.from we92 ((sx43.trans sx51).trans s83))))⟩
     ·replace hM0 := ifN hM0 hc88
      have hE := Option.some.inj hM0; subst hE
      exact ⟨([.int .i64 aH, .int .i64 aI, .slice az842 bB.length cz842]), rfl, (New.pair (New.int iz840) (New.pair (New.int iz841) (New.from rz842 (sx43.trans sx51))))⟩
    ·replace hM0 := ifN hM0 hc55
     refine And.intro (fun hc93 => ?_) (fun hc93 => ?_)
     ·replace hM0 := ifP hM0 hc93
      obtain ⟨x94, gx94, hM0⟩ := j0 hM0
      refine Tr.mono (M3 _ [.int .i64 aK, .int .i64 aJ, .slice aN aT.length aO] (aK, aJ, aT) (z0 aR aP (I0.mono (sx43.trans sx51) aQ)) _  gx94) ?_
      rintro v96 k95 ⟨dR, gB, dS, rfl, wx94⟩
      have sx94 : Sub k52 k95 := wx94.sub
      have rx94 := wx94.r
      obtain ⟨fA, fB, gV⟩ := x94
      dsimp only at hM0 wx94 rx94
      obtain ⟨_, _, _, _, _, _, ecx94, exx94, dT, dU, dV⟩ := B0 rx94
      cases ecx94
      cases exx94
      obtain ⟨rfl, gC⟩ := Sl.len dV
      try dsimp only at hM0
      have we97 := New.sndI (New.sndI (wx94))
      have hE := Option.some.inj hM0; subst hE
      exact ⟨([.int .i64 fA, .int .i64 fB, .slice (some ⟨dR, 0, none⟩) gV.length dS]), rfl, (New.pair (New.int dT) (New.pair (New.int dU) (New.from we97 (sx43.trans sx51))))⟩
     ·replace hM0 := ifN hM0 hc93
      have hE := Option.some.inj hM0; subst hE
      exact ⟨([.int .i64 aZ, .int .i64 bA, .slice bD cL.length bE]), rfl, (New.pair (New.int bF) (New.pair (New.int bG) (New.from we54 sx43)))⟩
end Go.Proofs.YtfdlgbfeceodeaaGreat
namespace Go.Proofs.YtfdlgbfeceodeaaGreat
open Go.H
set_option linter.unusedVariables false
set_option linter.unusedSimpArgs false
set_option maxRecDepth 10000
theorem j09 (h : Hp) (csp0 : List Value) (p0 : l0) (rp0 : Y0.R h csp0 p0) (r : l0) (hM0 : i8 p0 = some r) :
  Tr Tryz.prog 131 #[.agg csp0.toArray] h fun v h' => ∃ (cs0 : List Value), v = .agg cs0.toArray ∧ New Y0 h h' cs0 r := by
 obtain ⟨aW, aX, aP, bS, aQ, bN, rfl, rfl, bA, bB, aR⟩ := B0 rp0
 obtain ⟨rfl, bT⟩ := Sl.len aR
 unfold i8 at hM0
 dsimp only at hM0
 refine T2 (args := [.agg #[.int .i64 aW, .int .i64 aX, .slice aP bN.length aQ]]) (fn := Tryz.f131) rfl ?_
 obtain ⟨x1, gx1, hM0⟩ := j0 hM0
 refine Tr.mono (E02 _ [.int .i64 aW, .int .i64 aX, .slice aP bN.length aQ] (aW, aX, bN) (z0 bA bB aR) _  gx1) ?_
 rintro v3 k2 ⟨bO, bU, bV, bW, rfl, aS, aT⟩
 obtain ⟨cG, cH⟩ := x1
 dsimp only at hM0 aS aT
 have sx1 : Sub h k2 := aS.sub
 have bC := aS.r
 obtain ⟨aC, aD, aH, bJ, aI, aY, rfl, rfl, aJ, aK, aA⟩ := B0 bC
 obtain ⟨rfl, bK⟩ := Sl.len aA
 try dsimp only at hM0
 have we4 := New.sndI (New.sndI (aS))
 obtain ⟨rfl, bX⟩ := Sl.len aT
 obtain ⟨x5, gx5, hM0⟩ := j0 hM0
 refine Tr.mono (g09 _ [.int .i64 aC, .int .i64 aD, .slice aH aY.length aI] (aC, aD, aY) (z0 aJ aK aA) _  gx5) ?_
 rintro v7 k6 ⟨bP, bY, bZ, cA, rfl, aU, aV⟩
 obtain ⟨cI, cJ⟩ := x5
 dsimp only at hM0 aU aV
 have sx5 : Sub k2 k6 := aU.sub
 have bD := aU.r
 obtain ⟨aF, aG, aL, bL, aM, aZ, rfl, rfl, aN, aO, aB⟩ := B0 bD
 obtain ⟨rfl, bM⟩ := Sl.len aB
 try dsimp only at hM0
 have we8 := New.sndI (New.sndI (aU))
 obtain ⟨rfl, cC⟩ := Sl.len aV
 obtain ⟨x9, gx9, hM0⟩ := j0 hM0
 refine Tr.mono (J04 _ [.int .i64 aF, .int .i64 aG, .slice aL aZ.length aM] (aF, aG, aZ) (z0 aN aO aB) _  gx9) ?_
 rintro v11 k10 ⟨csx9, rfl, wx9⟩
 have sx9 : Sub k6 k10 := wx9.sub
 have rx9 := wx9.r
 obtain ⟨bQ, bR, bE, cD, bF, cK, rfl, rfl, bG, bH, bI⟩ := B0 rx9
 obtain ⟨rfl, cE⟩ := Sl.len bI
 try dsimp only at hM0
 have we12 := New.sndI (New.sndI (wx9))
 have hE := Option.some.inj hM0; subst hE
 exact ⟨([.int .i64 bQ, .int .i64 bR, .slice bE cK.length bF]), rfl, (New.pair (New.int bG) (New.pair (New.int bH) (New.from we12 (sx1.trans sx5))))⟩
end Go.Proofs.YtfdlgbfeceodeaaGreat
namespace Go.Proofs.YtfdlgbfeceodeaaGreat
open Go.H
set_option linter.unusedVariables false
set_option linter.unusedSimpArgs false
set_option maxRecDepth 10000
theorem x04 (h : Hp) (csp0 : List Value) (p0 : D0) (rp0 : j1.R h csp0 p0) (ap1 : Option Addr) (np1 cp1 : Nat) (p1 : V2) (rp1 : D3.R h [.slice ap1 np1 cp1] p1) (r : l0 × Bool) (hM0 : U7 p0 p1 = some r) :
  Tr Tryz.prog 66 #[.agg csp0.toArray, .slice ap1 np1 cp1] h fun v h' => ∃ (cs0 : List Value), v = .tuple #[.agg cs0.toArray, .bool r.2] ∧ New Y0 h h' cs0 r.1 := by
 obtain ⟨aA, aC, cG, aD, aP, rfl, rfl, aF, aG⟩ := A2 rp0
 obtain ⟨rfl, cH⟩ := Sl.len aG
 obtain ⟨rfl, lp1⟩ := Sl.len rp1
 unfold U7 at hM0
 dsimp only at hM0
 refine T2 (args := [.agg #[.int .i64 aA, .slice aC aP.length aD], .slice ap1 p1.length cp1]) (fn := Tryz.f66) rfl ?_
 obtain ⟨x1, gx1, hM0⟩ := j0 hM0
 refine Tr.val (S9 _ [.int .i64 aA, .slice aC aP.length aD] (aA, aP) (J2 aF aG) _  gx1) ?_
 refine And.intro (fun hc2 => ?_) (fun hc2 => ?_)
 ·replace hM0 := ifP hM0 hc2
  have hE := Option.some.inj hM0; subst hE
  exact ⟨([.int .i64 0, .int .i64 0, .slice none 0 0]), rfl, (New.pair (New.int (c64 (by decide) (by decide))) (New.pair (New.int (c64 (by decide) (by decide))) ((New.nilSlice (r := Q0)).mono (Sub.refl _))))⟩
 ·replace hM0 := ifN hM0 hc2
  obtain ⟨x3, gx3, hM0⟩ := j0 hM0
  refine Tr.mono (a0a _ aA aF ap1 p1.length cp1 p1 rp1 _  gx3) ?_
  rintro v5 k4 ⟨cA, rfl, bC⟩
  obtain ⟨cQ, cR⟩ := x3
  dsimp only at hM0 bC
  have sx3 : Sub h k4 := bC.sub
  have bP := bC.r
  obtain ⟨aH, aI, aQ, bV, aR, bF, rfl, rfl, aS, aT, aB⟩ := B0 bP
  obtain ⟨rfl, bW⟩ := Sl.len aB
  try dsimp only at hM0
  have we6 := New.sndI (New.sndI (bC))
  refine And.intro (fun hc7 => ?_) (fun hc7 => ?_)
  ·replace hM0 := ifP hM0 hc7
   have hE := Option.some.inj hM0; subst hE
   exact ⟨([.int .i64 0, .int .i64 0, .slice none 0 0]), rfl, (New.pair (New.int (c64 (by decide) (by decide))) (New.pair (New.int (c64 (by decide) (by decide))) ((New.nilSlice (r := Q0)).mono sx3)))⟩
  ·replace hM0 := ifN hM0 hc7
   obtain ⟨x8, gx8, hM0⟩ := j0 hM0
   refine Tr.mono (E02 _ [.int .i64 aH, .int .i64 aI, .slice aQ bF.length aR] (aH, aI, bF) (z0 aS aT aB) _  gx8) ?_
   rintro v10 k9 ⟨cC, cI, cJ, cK, rfl, bD, bE⟩
   obtain ⟨cS, cT⟩ := x8
   dsimp only at hM0 bD bE
   have sx8 : Sub k4 k9 := bD.sub
   have bQ := bD.r
   obtain ⟨bG, bH, aU, bX, aV, bI, rfl, rfl, aW, aX, aY⟩ := B0 bQ
   obtain ⟨rfl, bY⟩ := Sl.len aY
   try dsimp only at hM0
   have we11 := New.sndI (New.sndI (bD))
   obtain ⟨rfl, cL⟩ := Sl.len bE
   obtain ⟨X12, hLX12, hM0⟩ := j0 hM0
   refine Exists.intro { vars := [8], boxes := [2], owns := [], fuel := true } (Exists.intro (fun vs os h' => ∃ (u13 : Int) (u14 : Int) (u15 : Int) (au16 : Option Addr) (nu16 cu16 : Nat) (u16 : J0), vs.tail = [.int .i64 u13, .int .i64 u14, .int .i64 u15, .slice au16 nu16 cu16] ∧ os = [] ∧ Sub k9 h' ∧ H0 u13 ∧ H0 u14 ∧ H0 u15 ∧ New I0 h h' [.slice au16 nu16 cu16] u16 ∧ Y2 aA aP (Q1 vs) u13 u14 u15 u16 = some X12) (Exists.intro (fun _ _ => 0) ?_))
   refine And.intro (Exists.intro T0 ⟨0, bG, bH, aU, bI.length, aV, bI, rfl, rfl, (Sub.refl _), (c64 (by decide) (by decide)), aW, aX, (New.from we11 sx3), hLX12⟩) ?_
   rintro v_0 v_1 v_2 v_3 m18 k17 ⟨u13, u14, u15, au16, nu16, cu16, u16, evX12, eoX12, sX12, iu13, iu14, iu15, wwu16, hM1⟩
   cases evX12
   cases eoX12
   replace hM1 : Y2 aA aP m18 u13 u14 u15 u16 = some X12 := hM1
   obtain _ | m18 := m18
   ·cases (show (none : Option _) = some X12 from hM1)
   rw [Y2.eq_2] at hM1
   have ru16 := wwu16.r
   obtain ⟨rfl, lu16⟩ := Sl.len ru16
   refine And.intro (fun hc19 => ?_) (fun hc19 => ?_)
   ·replace hM1 := ifP hM1 hc19
    obtain ⟨x20, gx20, hM1⟩ := j0 hM1
    refine Tr.mono (V06 _ [.int .i64 aA, .slice aC aP.length aD] (aA, aP) (J2 aF (D3.mono ((sx3.trans sx8).trans sX12) aG)) [.int .i64 u14, .int .i64 u15, .slice au16 u16.length cu16] (u14, u15, u16) (z0 iu14 iu15 ru16) _  gx20) ?_
    rintro v22 k21 ⟨bZ, rfl, aJ⟩
    obtain ⟨cM, cN, cO⟩ := x20
    dsimp only at hM1 aJ
    have sx20 : Sub k17 k21 := aJ.sub
    have bJ := aJ.r
    obtain ⟨aZ, bA, aK, bR, aL, bB, rfl, rfl, aM, aN, aO⟩ := B0 bJ
    obtain ⟨rfl, bS⟩ := Sl.len aO
    try dsimp only at hM1
    have we23 := New.sndI (New.sndI (aJ))
    refine And.intro (fun hc24 => ?_) (fun hc24 => ?_)
    ·replace hM1 := ifP hM1 hc24
     have hE := Option.some.inj hM1; subst hE
     try dsimp only [G3, J3] at hM0
     have hE := Option.some.inj hM0; subst hE
     exact ⟨([.int .i64 0, .int .i64 0, .slice none 0 0]), rfl, (New.pair (New.int (c64 (by decide) (by decide))) (New.pair (New.int (c64 (by decide) (by decide))) ((New.nilSlice (r := Q0)).mono (((sx3.trans sx8).trans sX12).trans sx20))))⟩
    ·replace hM1 := ifN hM1 hc24
     refine And.intro (fun hc25 => ?_) (fun hc25 => ?_)
     ·replace hM1 := ifP hM1 hc25
      obtain ⟨x26, gx26, hM1⟩ := j0 hM1
      refine Tr.mono (j09 _ [.int .i64 u14, .int .i64 u15, .slice au16 u16.length cu16] (u14, u15, u16) (z0 iu14 iu15 (I0.mono sx20 ru16)) _  gx26) ?_
      rintro v28 k27 ⟨csx26, rfl, wx26⟩
      have sx26 : Sub k21 k27 := wx26.sub
      have rx26 := wx26.r
      obtain ⟨bT, bU, bK, cD, bL, cP, rfl, rfl, bM, bN, bO⟩ := B0 rx26
      obtain ⟨rfl, cE⟩ := Sl.len bO
      try dsimp only at hM1
      have we29 := New.sndI (New.sndI (wx26))
      have hE := Option.some.inj hM1; subst hE
      try dsimp only [G3, J3] at hM0
      have hE := Option.some.inj hM0; subst hE
      exact ⟨([.int .i64 bT, .int .i64 bU, .slice bK cP.length bL]), rfl, (New.pair (New.int bM) (New.pair (New.int bN) (New.from we29 (((sx3.trans sx8).trans sX12).trans sx20))))⟩
     ·replace hM1 := ifN hM1 hc25
      refine And.intro rfl (And.intro (by repeat (first | exact trivial | refine And.intro rfl ?_)) (And.intro (by repeat (first | exact trivial | refine And.intro rfl ?_)) (Exists.intro m18 (And.intro ⟨(IntKind.i64.wrap (u13 + 1)), aZ, bA, aK, bB.length, aL, bB, rfl, rfl, (sX12.trans sx20), (K0 _), aM, aN, (New.from we23 ((sx3.trans sx8).trans sX12)), hM1⟩ (Nat.lt_succ_self _)))))
   ·replace hM1 := ifN hM1 hc19
    have hE := Option.some.inj hM1; subst hE
    try dsimp only [U0, Z0] at hM0
    have hE := Option.some.inj hM0; subst hE
    exact ⟨([.int .i64 0, .int .i64 0, .slice none 0 0]), rfl, (New.pair (New.int (c64 (by decide) (by decide))) (New.pair (New.int (c64 (by decide) (by decide))) ((New.nilSlice (r := Q0)).mono ((sx3.trans sx8).trans sX12))))⟩
end Go.Proofs.YtfdlgbfeceodeaaGreat
