/- Texts of the claim, joined: The walks of batch g4; The walks of batch h3; The walks of batch i2; The walks of batch b2; The walks of batch a2. -/
import Derived.Test.YtknoadmdnjaocaaGreatPart18
import Derived.Test.YtknoadmdnjaocaaGreatChecked
import Derived.Test.YtknoadmdnjaocaaGreatH35
import Derived.Test.YtknoadmdnjaocaaGreatPart25
import Derived.Test.YtknoadmdnjaocaaGreatPart27
import Derived.Test.YtknoadmdnjaocaaGreatPart21
import Derived.Test.YtknoadmdnjaocaaGreatH41
import Derived.Test.YtknoadmdnjaocaaGreatSE
namespace Go.Proofs.YtknoadmdnjaocaaGreat
open Go.H
set_option linter.unusedVariables false
set_option linter.unusedSimpArgs false
set_option maxRecDepth 10000
theorem K03 (h : Hp) (csp0 : List Value) (p0 : l0) (rp0 : P0.R h csp0 p0) (r : l0 × D0) (hM0 : w6 p0 = some r) :
  Tr Tryz.prog 167 #[.agg csp0.toArray] h fun v h' => ∃ (cs0 : List Value) (a1 : Option Addr) (n1 c1 : Nat), v = .tuple #[.agg cs0.toArray, .slice a1 n1 c1] ∧ New P0 h h' cs0 r.1 ∧ Q0.R h' [.slice a1 n1 c1] r.2 := by
 obtain ⟨aB, aA, aC, bB, aD, aR, rfl, rfl, aG, aH, aF⟩ := C0 rp0
 obtain ⟨rfl, bC⟩ := Sl.len aF
 unfold w6 at hM0
 dsimp only at hM0
 refine T2 (args := [.agg #[.int .i64 aB, .int .i64 aA, .slice aC aR.length aD]]) (fn := Tryz.f167) rfl ?_
 obtain ⟨x1, gx1, hM0⟩ := j0 hM0
 refine Tr.mono (l8 _ [.int .i64 aB, .int .i64 aA, .slice aC aR.length aD] (aB, aA, aR) (z0 aG aH aF) _  gx1) ?_
 rintro v3 k2 ⟨aI, bD, aJ, rfl, wx1⟩
 have sx1 : Sub h k2 := wx1.sub
 have rx1 := wx1.r
 obtain ⟨aS, aT, aY⟩ := x1
 dsimp only at hM0 wx1 rx1
 obtain ⟨_, _, _, _, _, _, ecx1, exx1, aK, aL, aU⟩ := C0 rx1
 cases ecx1
 cases exx1
 obtain ⟨rfl, bE⟩ := Sl.len aU
 try dsimp only at hM0
 have we4 := New.sndI (New.sndI (wx1))
 obtain ⟨x5, gx5, hM0⟩ := j0 hM0
 refine Tr.val (h01 _ [.int .i64 aB, .int .i64 aA, .slice aC aR.length aD] (aB, aA, aR) (z0 aG aH (O0.mono sx1 aF)) _  gx5) ?_
 refine And.intro (fun hc6 => ?_) (fun hc6 => ?_)
 ·replace hM0 := ifP hM0 hc6
  intro v7 k8 f9
  obtain ⟨az10, cz10, rfl, rz10, sz10, lz10⟩ := U0.out (r := Wp.int.toRp) f9 (show F2 (Wp.int.R k2) ([] : List (List Value)) ([] : D0) from trivial)
  have hE := Option.some.inj hM0; subst hE
  exact ⟨([.int .i64 aS, .int .i64 aT, .slice (some ⟨aI, 0, none⟩) aY.length aJ]), az10, (([] : D0)).length, cz10, rfl, (New.pair (New.int aK) (New.pair (New.int aL) (New.mono we4 sz10))), rz10⟩
 ·replace hM0 := ifN hM0 hc6
  obtain ⟨X11, hLX11, hM0⟩ := j0 hM0
  refine Exists.intro { vars := [6], boxes := [], owns := [0], fuel := true } (Exists.intro (fun vs os h' => ∃ (u12 : Int) (wu13 : List (List Value)) (u13 : List Int), vs.tail = [.int .i64 u12] ∧ os = [wu13] ∧ Sub k2 h' ∧ M0 u12 ∧ F2 (Wp.int.R h') wu13 u13 ∧ o5 aA (C1 vs) u12 u13 = some X11) (Exists.intro (fun _ _ => 0) ?_))
  refine And.intro (Exists.intro I0 ⟨0, [], ([] : D0), rfl, rfl, (Sub.refl _), (c64 (by decide) (by decide)), (show F2 (Wp.int.R k2) ([] : List (List Value)) ([] : D0) from trivial), hLX11⟩) ?_
  rintro v_0 wu13 m15 k14 ⟨u12, zzu13, u13, evX11, eoX11, sX11, iu12, fu13, hM1⟩
  cases evX11
  cases eoX11
  replace hM1 : o5 aA m15 u12 u13 = some X11 := hM1
  obtain _ | m15 := m15
  ·cases (show (none : Option _) = some X11 from hM1)
  rw [o5.eq_2] at hM1
  refine And.intro (fun hc16 => ?_) (fun hc16 => ?_)
  ·replace hM1 := ifP hM1 hc16
   obtain ⟨q17, gq17, hM1⟩ := j0 hM1
   refine And.intro (E1 gq17 (by first | rw [F2.length fu13, F2.length (show F2 (Wp.int.R k14) ([[.int .i64 u12]] : List (List Value)) [u12] from ⟨⟨rfl, iu12⟩, trivial⟩)] | exact congrArg (· + 1) (F2.length fu13))) ?_
   refine And.intro rfl (And.intro (by repeat (first | exact trivial | refine And.intro rfl ?_)) (And.intro (by repeat (first | exact trivial | refine And.intro rfl ?_)) (Exists.intro m15 (And.intro ⟨(IntKind.i64.wrap (u12 + 1)), (wu13 ++ ([[.int .i64 u12]] : List (List Value))), (u13 ++ [u12]), rfl, rfl, sX11, (H0 _), (F2.append fu13 (show F2 (Wp.int.R k14) ([[.int .i64 u12]] : List (List Value)) [u12] from ⟨⟨rfl, iu12⟩, trivial⟩)), hM1⟩ (Nat.lt_succ_self _)))))
  ·replace hM1 := ifN hM1 hc16
   have hE := Option.some.inj hM1; subst hE
   try dsimp only [K0, N0] at hM0
   obtain ⟨X22, hLX22, hM0⟩ := j0 hM0
   refine Exists.intro { vars := [5], boxes := [2], owns := [], fuel := true, pubs := [5] } (Exists.intro (fun vs os h' => ∃ (au23 : Option Addr) (nu23 cu23 : Nat) (u23 : D0) (u24 : Int) (u25 : Int) (au26 : Option Addr) (nu26 cu26 : Nat) (u26 : J0), vs.tail = [.slice au23 nu23 cu23, .int .i64 u24, .int .i64 u25, .slice au26 nu26 cu26] ∧ os = [] ∧ Sub h h' ∧ New Q0 h h' [.slice au23 nu23 cu23] u23 ∧ M0 u24 ∧ M0 u25 ∧ New O0 h h' [.slice au26 nu26 cu26] u26 ∧ O4 (C1 vs) u23 u24 u25 u26 = some X22) (Exists.intro (fun _ _ => 0) ?_))
   intro v18 k19 f20
   obtain ⟨az21, cz21, rfl, rz21, sz21, lz21⟩ := U0.out (r := Wp.int.toRp) f20 fu13
   refine And.intro (Exists.intro I0 ⟨az21, u13.length, cz21, u13, aS, aT, (some ⟨aI, 0, none⟩), aY.length, aJ, aY, rfl, rfl, ((sx1.trans sX11).trans sz21), (New.from (U0.newPlain (r := Wp.int) f20 fu13 (h09 _)) (sx1.trans sX11)), aK, aL, (New.mono we4 (sX11.trans sz21)), hLX22⟩) ?_
   rintro v_0 v_1 v_2 v_3 m28 k27 ⟨au23, nu23, cu23, u23, u24, u25, au26, nu26, cu26, u26, evX22, eoX22, sX22, wwu23, iu24, iu25, wwu26, hM1⟩
   cases evX22
   cases eoX22
   replace hM1 : O4 m28 u23 u24 u25 u26 = some X22 := hM1
   obtain _ | m28 := m28
   ·cases (show (none : Option _) = some X22 from hM1)
   rw [O4.eq_2] at hM1
   have ru23 := wwu23.r
   obtain ⟨rfl, lu23⟩ := Sl.len ru23
   have ru26 := wwu26.r
   obtain ⟨rfl, lu26⟩ := Sl.len ru26
   obtain ⟨x29, gx29, hM1⟩ := j0 hM1
   refine Tr.mono (R05 _ [.int .i64 u24, .int .i64 u25, .slice au26 u26.length cu26] (u24, u25, u26) (z0 iu24 iu25 ru26) 0 (c64 (by decide) (by decide)) _  gx29) ?_
   rintro v31 k30 ⟨ax29, nx29, cx29, rfl, rx29, sx29⟩
   obtain ⟨rfl, lx29⟩ := Sl.len rx29
   obtain ⟨X32, hLX32, hM1⟩ := j0 hM1
   refine Exists.intro { vars := [8, 9], boxes := [], owns := [], fuel := true } (Exists.intro (fun vs os h' => ∃ (u33 : Int) (u34 : Int), vs.tail = [.int .i64 u33, .int .i64 u34] ∧ os = [] ∧ Sub k30 h' ∧ M0 u33 ∧ M0 u34 ∧ E3 u25 u24 u26 x29 (C1 vs) u33 u34 = some X32) (Exists.intro (fun _ _ => 0) ?_))
   refine And.intro (Exists.intro I0 ⟨0, 1, rfl, rfl, (Sub.refl _), (c64 (by decide) (by decide)), (c64 (by decide) (by decide)), hLX32⟩) ?_
   rintro v_0 v_1 m36 k35 ⟨u33, u34, evX32, eoX32, sX32, iu33, iu34, hM2⟩
   cases evX32
   cases eoX32
   replace hM2 : E3 u25 u24 u26 x29 m36 u33 u34 = some X32 := hM2
   obtain _ | m36 := m36
   ·cases (show (none : Option _) = some X32 from hM2)
   rw [E3.eq_2] at hM2
   refine And.intro (fun hc37 => ?_) (fun hc37 => ?_)
   ·replace hM2 := ifP hM2 hc37
    obtain ⟨x38, gx38, hM2⟩ := j0 hM2
    refine Tr.val (D09 _ [.int .i64 u24, .int .i64 u25, .slice au26 u26.length cu26] (u24, u25, u26) (z0 iu24 iu25 (O0.mono (sx29.trans sX32) ru26)) u34 iu34 _  gx38) ?_
    obtain ⟨q39, gq39, hM2⟩ := j0 hM2
    have ix38 : M0 x38 := T0 gq39
    obtain ⟨x40, gx40, hM2⟩ := j0 hM2
    obtain ⟨csx40, ex40, rx40⟩ := Sl.getG (r := Wp.bool.toRp) ((Wp.slice Wp.bool).mono sX32 rx29) gx40 (by decide) (Q0j k35)
    refine And.intro (fun q => (ex40 q).1) ?_
    obtain rfl := rx40
    refine Exists.intro _ (And.intro (fun q => (ex40 q).2) ?_)
    refine And.intro (fun hc41 => ?_) (fun hc41 => ?_)
    ·replace hM2 := ifP hM2 hc41
     refine And.intro rfl (And.intro (by repeat (first | exact trivial | refine And.intro rfl ?_)) (And.intro (by repeat (first | exact trivial | refine And.intro rfl ?_)) (Exists.intro m36 (And.intro ⟨u34, (IntKind.i64.wrap (u34 + 1)), rfl, rfl, sX32, iu34, (H0 _), hM2⟩ (Nat.lt_succ_self _)))))
    ·replace hM2 := ifN hM2 hc41
     refine And.intro rfl (And.intro (by repeat (first | exact trivial | refine And.intro rfl ?_)) (And.intro (by repeat (first | exact trivial | refine And.intro rfl ?_)) (Exists.intro m36 (And.intro ⟨u33, (IntKind.i64.wrap (u34 + 1)), rfl, rfl, sX32, iu33, (H0 _), hM2⟩ (Nat.lt_succ_self _)))))
   ·replace hM2 := ifN hM2 hc37
    have hE := Option.some.inj hM2; subst hE
    try dsimp only [K0, N0] at hM1
    refine And.intro (fun hc42 => ?_) (fun hc42 => ?_)
    ·replace hM1 := ifP hM1 hc42
     have hE := Option.some.inj hM1; subst hE
     try dsimp only [j4, l4] at hM0
     have hE := Option.some.inj hM0; subst hE
     exact ⟨([.int .i64 u24, .int .i64 u25, .slice au26 u26.length cu26]), au23, u23.length, cu23, rfl, (New.pair (New.int iu24) (New.pair (New.int iu25) (New.mono wwu26 (sx29.trans sX32)))), (Q0.mono (sx29.trans sX32) ru23)⟩
    ·replace hM1 := ifN hM1 hc42
     obtain ⟨X43, hLX43, hM1⟩ := j0 hM1
     refine Exists.intro { vars := [11], boxes := [], owns := [1], fuel := true } (Exists.intro (fun vs os h' => ∃ (u44 : Int) (wu45 : List (List Value)) (u45 : List Int), vs.tail = [.int .i64 u44] ∧ os = [wu45] ∧ Sub k35 h' ∧ M0 u44 ∧ F2 (Wp.int.R h') wu45 u45 ∧ N4 u25 u33 (C1 vs) u44 u45 = some X43) (Exists.intro (fun _ _ => 0) ?_))
     refine And.intro (Exists.intro I0 ⟨0, [], ([] : D0), rfl, rfl, (Sub.refl _), (c64 (by decide) (by decide)), (show F2 (Wp.int.R k35) ([] : List (List Value)) ([] : D0) from trivial), hLX43⟩) ?_
     rintro v_0 wu45 m47 k46 ⟨u44, zzu45, u45, evX43, eoX43, sX43, iu44, fu45, hM2⟩
     cases evX43
     cases eoX43
     replace hM2 : N4 u25 u33 m47 u44 u45 = some X43 := hM2
     obtain _ | m47 := m47
     ·cases (show (none : Option _) = some X43 from hM2)
     rw [N4.eq_2] at hM2
     refine And.intro (fun hc48 => ?_) (fun hc48 => ?_)
     ·replace hM2 := ifP hM2 hc48
      refine And.intro (fun hc49 => ?_) (fun hc49 => ?_)
      ·replace hM2 := ifP hM2 hc49
       obtain ⟨q50, gq50, hM2⟩ := j0 hM2
       refine And.intro (E1 gq50 (by first | rw [F2.length fu45, F2.length (show F2 (Wp.int.R k46) ([[.int .i64 u44]] : List (List Value)) [u44] from ⟨⟨rfl, iu44⟩, trivial⟩)] | exact congrArg (· + 1) (F2.length fu45))) ?_
       refine And.intro rfl (And.intro (by repeat (first | exact trivial | refine And.intro rfl ?_)) (And.intro (by repeat (first | exact trivial | refine And.intro rfl ?_)) (Exists.intro m47 (And.intro ⟨(IntKind.i64.wrap (u44 + 1)), (wu45 ++ ([[.int .i64 u44]] : List (List Value))), (u45 ++ [u44]), rfl, rfl, sX43, (H0 _), (F2.append fu45 (show F2 (Wp.int.R k46) ([[.int .i64 u44]] : List (List Value)) [u44] from ⟨⟨rfl, iu44⟩, trivial⟩)), hM2⟩ (Nat.lt_succ_self _)))))
      ·replace hM2 := ifN hM2 hc49
       refine And.intro rfl (And.intro (by repeat (first | exact trivial | refine And.intro rfl ?_)) (And.intro (by repeat (first | exact trivial | refine And.intro rfl ?_)) (Exists.intro m47 (And.intro ⟨(IntKind.i64.wrap (u44 + 1)), wu45, u45, rfl, rfl, sX43, (H0 _), fu45, hM2⟩ (Nat.lt_succ_self _)))))
     ·replace hM2 := ifN hM2 hc48
      have hE := Option.some.inj hM2; subst hE
      try dsimp only [K0, N0] at hM1
      refine Or.inl ?_
      intro v51 k52 f53
      obtain ⟨az54, cz54, rfl, rz54, sz54, lz54⟩ := U0.out (r := Wp.int.toRp) f53 fu45
      obtain ⟨x55, gx55, hM1⟩ := j0 hM1
      refine Tr.mono (p05 _ [.int .i64 u24, .int .i64 u25, .slice au26 u26.length cu26] (u24, u25, u26) (z0 iu24 iu25 (O0.mono (((sx29.trans sX32).trans sX43).trans sz54) ru26)) az54 u45.length cz54 u45 rz54 _  gx55) ?_
      rintro v57 k56 ⟨csx55, rfl, wx55⟩
      have sx55 : Sub k52 k56 := wx55.sub
      have rx55 := wx55.r
      obtain ⟨aV, aW, aM, aZ, aN, aX, rfl, rfl, aO, aP, aQ⟩ := C0 rx55
      obtain ⟨rfl, bA⟩ := Sl.len aQ
      try dsimp only at hM1
      have we58 := New.sndI (New.sndI (wx55))
      obtain ⟨x61, gx61, hM1⟩ := j0 hM1
      obtain ⟨x62, gx62, hM1⟩ := j0 hM1
      obtain ⟨q63, gq63, hM1⟩ := j0 hM1
      obtain ⟨qaz64, baz64, eaz64, gz64, oz64, Az64, Cz64, usz64, vsz64, eqz64, qbz64, bbz64, lcz64, mcz64, rxz64, sxz64, luz64, lvz64, apz64⟩ := New.drop wwu23 ((((sx29.trans sX32).trans sX43).trans sz54).trans sx55) gx61 gx62 (m0m lu23 gx61 gx62)
      subst eqz64
      refine Or.inr (Or.inr (Or.inl (And.intro (And.intro (by kernel_rfl) (by kernel_rfl)) ?_)))
      refine Or.inl (Exists.intro (.val (.slice (some ⟨gz64, oz64, none⟩) x61.length cu23)) (And.intro ?_ ?_))
      ·intro hh sb
       obtain ⟨vs, e⟩ := eaz64 hh sb
       exact And.intro baz64 (Exists.intro vs (And.intro e (fun v _ hv => And.intro (congrArg AV.val (qaz64 v hv)) (And.intro rfl rfl))))
      refine Or.inl (Exists.intro (.val (.int .i64 (IntKind.i64.wrap (u33 + 1)))) (And.intro ?_ ?_))
      ·intro k59 s60
       exact And.intro rfl (And.intro rfl rfl)
      refine Or.inl (Exists.intro (.val (.slice Az64 x62.length Cz64)) (And.intro ?_ ?_))
      ·intro hh sb
       obtain ⟨vs, e⟩ := eaz64 hh sb
       exact And.intro bbz64 (Exists.intro vs (And.intro e (fun v _ hv => And.intro (congrArg AV.val (qbz64 v hv)) (And.intro rfl rfl))))
      refine Or.inr ?_
      refine Exists.intro 0 (And.intro (And.intro rfl rfl) ?_)
      refine Exists.intro vsz64 (And.intro sxz64 (Exists.intro usz64 (And.intro rxz64 (And.intro (E1 gq63 (by rw [luz64, lvz64])) ?_))))
      intro vz64 kz64 happz64
      obtain ⟨wz64, ⟨az64, nz64, cz64, rfl⟩, kpz64⟩ := apz64 _ _ happz64
      have rz64 := wz64.r
      obtain ⟨ez64, lz64⟩ := Sl.len rz64
      subst ez64
      refine And.intro trivial (And.intro (by first | exact trivial | exact rfl) ?_)
      have wy65 := kpz64 j1.slice _ _ _ we58 (((sx29.trans sX32).trans sX43).trans sz54)
      refine And.intro rfl (And.intro (by repeat (first | exact trivial | refine And.intro rfl ?_)) (And.intro (by repeat (first | exact trivial | refine And.intro rfl ?_)) (Exists.intro m28 (And.intro ⟨az64, (x61 ++ x62).length, cz64, (x61 ++ x62), aV, aW, aM, aX.length, aN, aX, rfl, rfl, wz64.sub, wz64, aO, aP, wy65, hM1⟩ (Nat.lt_succ_self _)))))
theorem O0b (h : Hp) (csp0 : List Value) (p0 : l0) (rp0 : P0.R h csp0 p0) (r : Bool) (hM0 : L9 p0 = some r) :
  Tr Tryz.prog 82 #[.agg csp0.toArray] h fun v h' => v = .bool r ∧ h' = h := by
 obtain ⟨aB, aA, aC, bJ, aD, aL, rfl, rfl, aG, aH, aF⟩ := C0 rp0
 obtain ⟨rfl, bK⟩ := Sl.len aF
 unfold L9 at hM0
 dsimp only at hM0
 refine Tr.forget (T2 (args := [.agg #[.int .i64 aB, .int .i64 aA, .slice aC aL.length aD]]) (fn := Tryz.f82) rfl ?_)
 obtain ⟨x1, gx1, hM0⟩ := j0 hM0
 refine Tr.val (G9 _ [.int .i64 aB, .int .i64 aA, .slice aC aL.length aD] (aB, aA, aL) (z0 aG aH aF) _  gx1) ?_
 refine And.intro (fun hc2 => ?_) (fun hc2 => ?_)
 ·replace hM0 := ifP hM0 hc2
  have hE := Option.some.inj hM0; subst hE
  exact And.intro rfl (Sub.refl _)
 ·replace hM0 := ifN hM0 hc2
  obtain ⟨x3, gx3, hM0⟩ := j0 hM0
  refine Tr.mono (K03 _ [.int .i64 aB, .int .i64 aA, .slice aC aL.length aD] (aB, aA, aL) (z0 aG aH aF) _  gx3) ?_
  rintro v5 k4 ⟨bF, bL, bM, bN, rfl, aW, aP⟩
  obtain ⟨bS, bT⟩ := x3
  dsimp only at hM0 aW aP
  have sx3 : Sub h k4 := aW.sub
  have aX := aW.r
  obtain ⟨bG, aQ, aZ, bA, bB, bH, rfl, rfl, bC, bD, aM⟩ := C0 aX
  obtain ⟨rfl, bE⟩ := Sl.len aM
  try dsimp only at hM0
  obtain ⟨rfl, bO⟩ := Sl.len aP
  refine Or.inr (Or.inr (Or.inr (Or.inl (And.intro (And.intro (by kernel_rfl) (by kernel_rfl)) ?_))))
  refine Or.inl (Exists.intro (.val (.bool (decide (aQ = aA)))) (And.intro ?_ ?_))
  ·intro k6 s7
   exact And.intro rfl (And.intro rfl rfl)
  obtain ⟨x8, gx8, hM0⟩ := j0 hM0
  obtain ⟨aN, aO, aY⟩ := x8
  try dsimp only at hM0
  refine Or.inr (Exists.intro (fun v hh => ∃ (aI : Option Addr) (aJ : Nat), v = .agg #[.int .i64 aN, .int .i64 aO, .slice aI aY.length aJ] ∧ M0 aN ∧ M0 aO ∧ O0.R hh [.slice aI aY.length aJ] aY ∧ aY.length ≤ 9223372036854775807) (And.intro (fun v h1 h2 sb q => by obtain ⟨aI, aJ, e, f0, f1, f2, f3⟩ := q; exact ⟨aI, aJ, e, f0, f1, O0.mono sb f2, f3⟩) (And.intro ?_ ?_)))
  ·intro k9 s10 hq
   refine Tr.mono (p01 _ [.int .i64 aB, .int .i64 aA, .slice aC aL.length aD] (aB, aA, aL) (z0 aG aH (O0.mono (sx3.trans s10) aF)) _ (G2 gx8 hq)) ?_
   rintro _ kk ⟨csx8, rfl, wx8⟩
   have sb := wx8.sub
   have rx8 := wx8.r
   obtain ⟨bP, bQ, aR, bI, aS, bR, rfl, ey, aT, aU, aK⟩ := C0 rx8
   cases ey
   obtain ⟨rfl, aV⟩ := Sl.len aK
   exact And.intro g09 (And.intro sb ⟨aR, aS, rfl, aT, aU, aK, aV⟩)
  obtain ⟨x11, gx11, hM0⟩ := j0 hM0
  refine Or.inl (Exists.intro (.val (.bool x11)) (And.intro ?_ ?_))
  ·intro k12 s13 hq
   rintro _ ⟨az142, cz142, rfl, iz140, iz141, rz142, lz142⟩
   exact Tr.val (H02 _ [.int .i64 aN, .int .i64 aO, .slice az142 aY.length cz142] (aN, aO, aY) (z0 iz140 iz141 rz142) [.int .i64 aB, .int .i64 aA, .slice aC aL.length aD] (aB, aA, aL) (z0 aG aH (O0.mono (sx3.trans s13) aF)) _ (G2 gx11 hq)) (And.intro rfl (And.intro rfl rfl))
  intro k15 s16
  have hE := Option.some.inj hM0; subst hE
  exact And.intro rfl (sx3.trans s16)
end Go.Proofs.YtknoadmdnjaocaaGreat
namespace Go.Proofs.YtknoadmdnjaocaaGreat
open Go.H
set_option linter.unusedVariables false
set_option linter.unusedSimpArgs false
set_option maxRecDepth 10000
theorem l01 (h : Hp) (p0 : Int) (ip0 : M0 p0) (bp1 : Nat) (typ1 : TypeId) (aB : Int) (aC : M0 aB) (aA : Int) (aD : M0 aA) (hbp1 : h bp1 = some (.cells #[.int .i64 aB, .int .i64 aA] typ1 (0, 0))) (r : Int) (hM0 : F5 p0 (aB, aA) = some r) :
  Tr Tryz.prog 352 #[.int .i64 p0, ptr bp1 0] h fun v h' => v = .int .i64 r ∧ h' = h := by
 unfold F5 at hM0
 dsimp only at hM0
 refine Tr.forget (T2 (args := [.int .i64 p0, ptr bp1 0]) (fn := Tryz.f352) rfl ?_)
 refine Exists.intro (.int .i64 aA) (And.intro ⟨rfl, by simp [Hp.cell, (hbp1)]⟩ ?_)
 refine And.intro (fun hc1 => ?_) (fun hc1 => ?_)
 ·replace hM0 := ifP hM0 hc1
  refine Exists.intro (.int .i64 aB) (And.intro ⟨rfl, by simp [Hp.cell, (hbp1)]⟩ ?_)
  have hE := Option.some.inj hM0; subst hE
  exact And.intro rfl (Sub.refl _)
 ·replace hM0 := ifN hM0 hc1
  refine Exists.intro (.int .i64 aA) (And.intro ⟨rfl, by simp [Hp.cell, (hbp1)]⟩ ?_)
  refine And.intro (fun hc2 => ?_) (fun hc2 => ?_)
  ·replace hM0 := ifP hM0 hc2
   have hE := Option.some.inj hM0; subst hE
   exact And.intro rfl (Sub.refl _)
  ·replace hM0 := ifN hM0 hc2
   have hE := Option.some.inj hM0; subst hE
   exact And.intro rfl (Sub.refl _)
theorem P0d (h : Hp) (csp0 : List Value) (p0 : l0) (rp0 : P0.R h csp0 p0) (r : F7) (hM0 : d01 p0 = some r) :
  Tr Tryz.prog 351 #[.agg csp0.toArray] h fun v h' => ∃ (a0 : Option Addr) (n0 c0 : Nat), v = .slice a0 n0 c0 ∧ r0d.R h' [.slice a0 n0 c0] r ∧ Sub h h' := by
 obtain ⟨aO, aP, aK, aR, aL, aM, rfl, rfl, aS, aT, aJ⟩ := C0 rp0
 obtain ⟨rfl, aU⟩ := Sl.len aJ
 unfold d01 at hM0
 dsimp only at hM0
 refine T2 (args := [.agg #[.int .i64 aO, .int .i64 aP, .slice aK aM.length aL]]) (fn := Tryz.f351) rfl ?_
 obtain ⟨X1, hLX1, hM0⟩ := j0 hM0
 refine Exists.intro { vars := [12], boxes := [], owns := [0], fuel := true } (Exists.intro (fun vs os h' => ∃ (u2 : Int) (wu3 : List (List Value)) (u3 : List A4), vs.tail = [.int .i64 u2] ∧ os = [wu3] ∧ Sub h h' ∧ M0 u2 ∧ F2 (w4.R h') wu3 u3 ∧ K7 aM (C1 vs) u2 u3 = some X1) (Exists.intro (fun _ _ => 0) ?_))
 refine And.intro (Exists.intro I0 ⟨0, [], ([] : F7), rfl, rfl, (Sub.refl _), (c64 (by decide) (by decide)), (show F2 (w4.R h) ([] : List (List Value)) ([] : F7) from trivial), hLX1⟩) ?_
 rintro v_0 wu3 m5 k4 ⟨u2, zzu3, u3, evX1, eoX1, sX1, iu2, fu3, hM1⟩
 cases evX1
 cases eoX1
 replace hM1 : K7 aM m5 u2 u3 = some X1 := hM1
 obtain _ | m5 := m5
 ·cases (show (none : Option _) = some X1 from hM1)
 rw [K7.eq_2] at hM1
 refine And.intro (fun hc6 => ?_) (fun hc6 => ?_)
 ·replace hM1 := ifP hM1 hc6
  obtain ⟨x7, gx7, hM1⟩ := j0 hM1
  obtain ⟨bx7, csx7, ex7, rx7⟩ := Sl.getI (r := j1.toRp) (O0.mono sX1 aJ) gx7 (by decide)
  refine And.intro bx7 ?_
  obtain ⟨aD, aN, aC, rfl, rfl, aI, aV, aH⟩ := F1 rx7
  try dsimp only at hM1
  refine Exists.intro _ (And.intro ex7 ?_)
  obtain ⟨x8, gx8, hM1⟩ := j0 hM1
  obtain ⟨qx8, vsx8, ex8, fx8⟩ := Sl.cutI (r := j1.toRp) (O0.mono sX1 aJ) gx8
  refine And.intro qx8 (Exists.intro vsx8 (And.intro ex8 ?_))
  intro vx8 hvx8 _
  obtain ⟨ax8, cx8, rfl, rx8⟩ := fx8 vx8 hvx8
  have lx8 := (Sl.len rx8).2
  obtain ⟨X9, hLX9, hM1⟩ := j0 hM1
  refine Exists.intro { vars := [23], boxes := [], owns := [0], fuel := true } (Exists.intro (fun vs os h' => ∃ (u10 : Int) (wu11 : List (List Value)) (u11 : List A4), vs.tail = [.int .i64 u10] ∧ os = [wu11] ∧ Sub k4 h' ∧ M0 u10 ∧ F2 (w4.R h') wu11 u11 ∧ H4 x8 aN aD aC (C1 vs) u10 u11 = some X9) (Exists.intro (fun _ _ => 0) ?_))
  refine And.intro (Exists.intro I0 ⟨0, wu3, u3, rfl, rfl, (Sub.refl _), (c64 (by decide) (by decide)), fu3, hLX9⟩) ?_
  rintro v_0 wu11 m13 k12 ⟨u10, zzu11, u11, evX9, eoX9, sX9, iu10, fu11, hM2⟩
  cases evX9
  cases eoX9
  replace hM2 : H4 x8 aN aD aC m13 u10 u11 = some X9 := hM2
  obtain _ | m13 := m13
  ·cases (show (none : Option _) = some X9 from hM2)
  rw [H4.eq_2] at hM2
  refine And.intro (fun hc14 => ?_) (fun hc14 => ?_)
  ·replace hM2 := ifP hM2 hc14
   obtain ⟨x15, gx15, hM2⟩ := j0 hM2
   obtain ⟨bx15, csx15, ex15, rx15⟩ := Sl.getI (r := j1.toRp) (O0.mono sX9 rx8) gx15 (by decide)
   refine And.intro bx15 ?_
   obtain ⟨aB, aW, aA, rfl, rfl, aG, aQ, aF⟩ := F1 rx15
   try dsimp only at hM2
   refine Exists.intro _ (And.intro ex15 ?_)
   refine And.intro (fun hc16 => ?_) (fun hc16 => ?_)
   ·replace hM2 := ifP hM2 hc16
    refine And.intro rfl (And.intro (by repeat (first | exact trivial | refine And.intro rfl ?_)) (And.intro (by repeat (first | exact trivial | refine And.intro rfl ?_)) (Exists.intro m13 (And.intro ⟨(IntKind.i64.wrap (u10 + 1)), wu11, u11, rfl, rfl, sX9, (H0 _), fu11, hM2⟩ (Nat.lt_succ_self _)))))
   ·replace hM2 := ifN hM2 hc16
    refine And.intro (fun hc17 => ?_) (fun hc17 => ?_)
    ·replace hM2 := ifP hM2 hc17
     obtain ⟨q18, gq18, hM2⟩ := j0 hM2
     refine And.intro (E1 gq18 (by first | rw [F2.length fu11, F2.length (show F2 (w4.R k12) ([[.int .i64 (if aA < aC then aA else aC), .int .i64 (if aA > aC then aA else aC)]] : List (List Value)) [((if aA < aC then aA else aC), (if aA > aC then aA else aC))] from ⟨(P1 (r7 aF aH) (r7 aF aH)), trivial⟩)] | exact congrArg (· + 1) (F2.length fu11))) ?_
     refine And.intro (fun hc19 => ?_) (fun hc19 => ?_)
     ·replace hM2 := ifP hM2 hc19
      obtain ⟨q20, gq20, hM2⟩ := j0 hM2
      refine And.intro (E1 gq20 (by first | rw [F2.length (F2.append fu11 (show F2 (w4.R k12) ([[.int .i64 (if aA < aC then aA else aC), .int .i64 (if aA > aC then aA else aC)]] : List (List Value)) [((if aA < aC then aA else aC), (if aA > aC then aA else aC))] from ⟨(P1 (r7 aF aH) (r7 aF aH)), trivial⟩)), F2.length (show F2 (w4.R k12) ([[.int .i64 (if aB < aD then aB else aD), .int .i64 (if aB > aD then aB else aD)]] : List (List Value)) [((if aB < aD then aB else aD), (if aB > aD then aB else aD))] from ⟨(P1 (r7 aG aI) (r7 aG aI)), trivial⟩)] | exact congrArg (· + 1) (F2.length (F2.append fu11 (show F2 (w4.R k12) ([[.int .i64 (if aA < aC then aA else aC), .int .i64 (if aA > aC then aA else aC)]] : List (List Value)) [((if aA < aC then aA else aC), (if aA > aC then aA else aC))] from ⟨(P1 (r7 aF aH) (r7 aF aH)), trivial⟩))))) ?_
      refine And.intro rfl (And.intro (by repeat (first | exact trivial | refine And.intro rfl ?_)) (And.intro (by repeat (first | exact trivial | refine And.intro rfl ?_)) (Exists.intro m13 (And.intro ⟨(IntKind.i64.wrap (u10 + 1)), ((wu11 ++ ([[.int .i64 (if aA < aC then aA else aC), .int .i64 (if aA > aC then aA else aC)]] : List (List Value))) ++ ([[.int .i64 (if aB < aD then aB else aD), .int .i64 (if aB > aD then aB else aD)]] : List (List Value))), ((u11 ++ [((if aA < aC then aA else aC), (if aA > aC then aA else aC))]) ++ [((if aB < aD then aB else aD), (if aB > aD then aB else aD))]), rfl, rfl, sX9, (H0 _), (F2.append (F2.append fu11 (show F2 (w4.R k12) ([[.int .i64 (if aA < aC then aA else aC), .int .i64 (if aA > aC then aA else aC)]] : List (List Value)) [((if aA < aC then aA else aC), (if aA > aC then aA else aC))] from ⟨(P1 (r7 aF aH) (r7 aF aH)), trivial⟩)) (show F2 (w4.R k12) ([[.int .i64 (if aB < aD then aB else aD), .int .i64 (if aB > aD then aB else aD)]] : List (List Value)) [((if aB < aD then aB else aD), (if aB > aD then aB else aD))] from ⟨(P1 (r7 aG aI) (r7 aG aI)), trivial⟩)), hM2⟩ (Nat.lt_succ_self _)))))
     ·replace hM2 := ifN hM2 hc19
      refine And.intro rfl (And.intro (by repeat (first | exact trivial | refine And.intro rfl ?_)) (And.intro (by repeat (first | exact trivial | refine And.intro rfl ?_)) (Exists.intro m13 (And.intro ⟨(IntKind.i64.wrap (u10 + 1)), (wu11 ++ ([[.int .i64 (if aA < aC then aA else aC), .int .i64 (if aA > aC then aA else aC)]] : List (List Value))), (u11 ++ [((if aA < aC then aA else aC), (if aA > aC then aA else aC))]), rfl, rfl, sX9, (H0 _), (F2.append fu11 (show F2 (w4.R k12) ([[.int .i64 (if aA < aC then aA else aC), .int .i64 (if aA > aC then aA else aC)]] : List (List Value)) [((if aA < aC then aA else aC), (if aA > aC then aA else aC))] from ⟨(P1 (r7 aF aH) (r7 aF aH)), trivial⟩)), hM2⟩ (Nat.lt_succ_self _)))))
    ·replace hM2 := ifN hM2 hc17
     refine And.intro (fun hc21 => ?_) (fun hc21 => ?_)
     ·replace hM2 := ifP hM2 hc21
      obtain ⟨q22, gq22, hM2⟩ := j0 hM2
      refine And.intro (E1 gq22 (by first | rw [F2.length fu11, F2.length (show F2 (w4.R k12) ([[.int .i64 (if aB < aD then aB else aD), .int .i64 (if aB > aD then aB else aD)]] : List (List Value)) [((if aB < aD then aB else aD), (if aB > aD then aB else aD))] from ⟨(P1 (r7 aG aI) (r7 aG aI)), trivial⟩)] | exact congrArg (· + 1) (F2.length fu11))) ?_
      refine And.intro rfl (And.intro (by repeat (first | exact trivial | refine And.intro rfl ?_)) (And.intro (by repeat (first | exact trivial | refine And.intro rfl ?_)) (Exists.intro m13 (And.intro ⟨(IntKind.i64.wrap (u10 + 1)), (wu11 ++ ([[.int .i64 (if aB < aD then aB else aD), .int .i64 (if aB > aD then aB else aD)]] : List (List Value))), (u11 ++ [((if aB < aD then aB else aD), (if aB > aD then aB else aD))]), rfl, rfl, sX9, (H0 _), (F2.append fu11 (show F2 (w4.R k12) ([[.int .i64 (if aB < aD then aB else aD), .int .i64 (if aB > aD then aB else aD)]] : List (List Value)) [((if aB < aD then aB else aD), (if aB > aD then aB else aD))] from ⟨(P1 (r7 aG aI) (r7 aG aI)), trivial⟩)), hM2⟩ (Nat.lt_succ_self _)))))
     ·replace hM2 := ifN hM2 hc21
      refine And.intro rfl (And.intro (by repeat (first | exact trivial | refine And.intro rfl ?_)) (And.intro (by repeat (first | exact trivial | refine And.intro rfl ?_)) (Exists.intro m13 (And.intro ⟨(IntKind.i64.wrap (u10 + 1)), wu11, u11, rfl, rfl, sX9, (H0 _), fu11, hM2⟩ (Nat.lt_succ_self _)))))
  ·replace hM2 := ifN hM2 hc14
   have hE := Option.some.inj hM2; subst hE
   try dsimp only [K0, N0] at hM1
   refine And.intro rfl (And.intro (by repeat (first | exact trivial | refine And.intro rfl ?_)) (And.intro (by repeat (first | exact trivial | refine And.intro rfl ?_)) (Exists.intro m5 (And.intro ⟨(IntKind.i64.wrap (u2 + 1)), wu11, u11, rfl, rfl, (sX1.trans sX9), (H0 _), fu11, hM1⟩ (Nat.lt_succ_self _)))))
 ·replace hM1 := ifN hM1 hc6
  have hE := Option.some.inj hM1; subst hE
  try dsimp only [K0, N0] at hM0
  intro v27 k28 f29
  obtain ⟨az30, cz30, rfl, rz30, sz30, lz30⟩ := U0.out (r := w4.toRp) f29 fu3
  have hE := Option.some.inj hM0; subst hE
  exact ⟨az30, u3.length, cz30, rfl, rz30, (sX1.trans sz30)⟩
theorem N08 (h : Hp) (csp0 : List Value) (p0 : l0) (rp0 : P0.R h csp0 p0) (r : A4 × Bool) (hM0 : j8 p0 = some r) :
  Tr Tryz.prog 336 #[.agg csp0.toArray] h fun v h' => ∃ (cs0 : List Value), v = .tuple #[.agg cs0.toArray, .bool r.2] ∧ w4.R h' cs0 r.1 ∧ Sub h h' := by
 obtain ⟨aA, aB, aC, aN, aD, aI, rfl, rfl, aG, aH, aF⟩ := C0 rp0
 obtain ⟨rfl, aO⟩ := Sl.len aF
 unfold j8 at hM0
 dsimp only at hM0
 refine T2 (args := [.agg #[.int .i64 aA, .int .i64 aB, .slice aC aI.length aD]]) (fn := Tryz.f336) rfl ?_
 obtain ⟨x1, gx1, hM0⟩ := j0 hM0
 refine Tr.val (h01 _ [.int .i64 aA, .int .i64 aB, .slice aC aI.length aD] (aA, aB, aI) (z0 aG aH aF) _  gx1) ?_
 refine And.intro (fun hc2 => ?_) (fun hc2 => ?_)
 ·replace hM0 := ifP hM0 hc2
  have hE := Option.some.inj hM0; subst hE
  exact ⟨([.int .i64 0, .int .i64 0]), rfl, (P1 (c64 (by decide) (by decide)) (c64 (by decide) (by decide))), (Sub.refl _)⟩
 ·replace hM0 := ifN hM0 hc2
  obtain ⟨x3, gx3, hM0⟩ := j0 hM0
  refine Tr.mono (P0d _ [.int .i64 aA, .int .i64 aB, .slice aC aI.length aD] (aA, aB, aI) (z0 aG aH aF) _  gx3) ?_
  rintro v5 k4 ⟨ax3, nx3, cx3, rfl, rx3, sx3⟩
  obtain ⟨rfl, lx3⟩ := Sl.len rx3
  refine And.intro (fun hc6 => ?_) (fun hc6 => ?_)
  ·replace hM0 := ifP hM0 hc6
   have hE := Option.some.inj hM0; subst hE
   exact ⟨([.int .i64 0, .int .i64 0]), rfl, (P1 (c64 (by decide) (by decide)) (c64 (by decide) (by decide))), sx3⟩
  ·replace hM0 := ifN hM0 hc6
   obtain ⟨x7, gx7, hM0⟩ := j0 hM0
   obtain ⟨bx7, csx7, ex7, rx7⟩ := Sl.getI (r := w4.toRp) rx3 gx7 (by decide)
   refine And.intro bx7 ?_
   obtain ⟨aL, aM, rfl, rfl, aJ, aK⟩ := a01 rx7
   try dsimp only at hM0
   refine Exists.intro _ (And.intro ex7 ?_)
   have hE := Option.some.inj hM0; subst hE
   exact ⟨([.int .i64 aL, .int .i64 aM]), rfl, (P1 aJ aK), sx3⟩
theorem q05 (h : Hp) (csp0 : List Value) (p0 : l0) (rp0 : P0.R h csp0 p0) (csp1 : List Value) (p1 : A4) (rp1 : w4.R h csp1 p1) (r : l0 × Bool) (hM0 : C6 p0 p1 = some r) :
  Tr Tryz.prog 337 #[.agg csp0.toArray, .agg csp1.toArray] h fun v h' => ∃ (cs0 : List Value), v = .tuple #[.agg cs0.toArray, .bool r.2] ∧ New P0 h h' cs0 r.1 := by
 obtain ⟨aD, aF, aG, bE, aH, aU, rfl, rfl, aL, aM, aI⟩ := C0 rp0
 obtain ⟨rfl, bF⟩ := Sl.len aI
 obtain ⟨aA, aB, rfl, rfl, aN, aO⟩ := a01 rp1
 unfold C6 at hM0
 dsimp only at hM0
 refine T2 (args := [.agg #[.int .i64 aD, .int .i64 aF, .slice aG aU.length aH], .agg #[.int .i64 aA, .int .i64 aB]]) (fn := Tryz.f337) rfl ?_
 obtain ⟨x1, gx1, hM0⟩ := j0 hM0
 refine Tr.mono (l8 _ [.int .i64 aD, .int .i64 aF, .slice aG aU.length aH] (aD, aF, aU) (z0 aL aM aI) _  gx1) ?_
 rintro v3 k2 ⟨aC, bG, aJ, rfl, wx1⟩
 have sx1 : Sub h k2 := wx1.sub
 have rx1 := wx1.r
 obtain ⟨aV, aW, aQ⟩ := x1
 dsimp only at hM0 wx1 rx1
 obtain ⟨_, _, _, _, _, _, ecx1, exx1, aP, aX, aY⟩ := C0 rx1
 cases ecx1
 cases exx1
 obtain ⟨rfl, bH⟩ := Sl.len aY
 try dsimp only at hM0
 have we4 := New.sndI (New.sndI (wx1))
 obtain ⟨x5, gx5, hM0⟩ := j0 hM0
 refine Tr.val (h01 _ [.int .i64 aD, .int .i64 aF, .slice aG aU.length aH] (aD, aF, aU) (z0 aL aM (O0.mono sx1 aI)) _  gx5) ?_
 refine And.intro (fun hc6 => ?_) (fun hc6 => ?_)
 ·replace hM0 := ifP hM0 hc6
  have hE := Option.some.inj hM0; subst hE
  exact ⟨([.int .i64 aV, .int .i64 aW, .slice (some ⟨aC, 0, none⟩) aQ.length aJ]), rfl, (New.pair (New.int aP) (New.pair (New.int aX) we4))⟩
 ·replace hM0 := ifN hM0 hc6
  intro b7 hb7
  have gb7 : (Hp.set k2 b7 (.cells #[.int .i64 aA, .int .i64 aB] 214 (0, 0))) b7 = some (.cells #[.int .i64 aA, .int .i64 aB] 214 (0, 0)) := Hp.set_same _ _ _
  have neb7gx1_2 : b7 ≠ aC := fun e => New.blk we4 (Sub.refl _) (e ▸ hb7)
  obtain ⟨X8, hLX8, hM0⟩ := j0 hM0
  refine Exists.intro { vars := [39], boxes := [], owns := [], fuel := true } (Exists.intro (fun vs os h' => ∃ (u9 : Int) (u10 : J0), vs.tail = [.int .i64 u9] ∧ os = [] ∧ Sub h h' ∧ M0 u9 ∧ New O0 h h' [.slice (some ⟨aC, 0, none⟩) aQ.length aJ] u10 ∧ h' b7 = some (.cells #[.int .i64 aA, .int .i64 aB] 214 (0, 0)) ∧ S3 aQ aA aB (C1 vs) u9 u10 = some X8) (Exists.intro (fun _ _ => 0) ?_))
  refine And.intro (Exists.intro I0 ⟨0, aQ, rfl, rfl, (sx1.trans (Sub.set hb7)), (c64 (by decide) (by decide)), (New.mono we4 (Sub.set hb7)), gb7, hLX8⟩) ?_
  rintro v_0 m13 k12 ⟨u9, u10, evX8, eoX8, sX8, iu9, wwu10, hq11, hM1⟩
  cases evX8
  cases eoX8
  replace hM1 : S3 aQ aA aB m13 u9 u10 = some X8 := hM1
  obtain _ | m13 := m13
  ·cases (show (none : Option _) = some X8 from hM1)
  rw [S3.eq_2] at hM1
  have ru10 := wwu10.r
  refine And.intro (fun hc14 => ?_) (fun hc14 => ?_)
  ·replace hM1 := ifP hM1 hc14
   obtain ⟨x15, gx15, hM1⟩ := j0 hM1
   obtain ⟨bx15, csx15, ex15, rx15⟩ := Sl.getI (r := j1.toRp) ru10 gx15 (by decide)
   refine And.intro bx15 ?_
   obtain ⟨aZ, aK, bA, rfl, rfl, aR, aS, aT⟩ := F1 rx15
   try dsimp only at hM1
   refine Exists.intro _ (And.intro ex15 ?_)
   refine Or.inr (Or.inr (Or.inl (And.intro (And.intro (by kernel_rfl) (by kernel_rfl)) ?_)))
   obtain ⟨x16, gx16, hM1⟩ := j0 hM1
   obtain ⟨q17, gq17, hM1⟩ := j0 hM1
   have ix16 : M0 x16 := T0 gq17
   refine Or.inl (Exists.intro (.val (.int .i64 x16)) (And.intro ?_ ?_))
   ·intro k18 s19
    exact Tr.val (l01 _ aZ aR b7 214 aA aN aB aO (s19 _ _ hq11) _ gx16) (And.intro rfl (And.intro rfl rfl))
   obtain ⟨x20, gx20, hM1⟩ := j0 hM1
   obtain ⟨q21, gq21, hM1⟩ := j0 hM1
   have ix20 : M0 x20 := T0 gq21
   refine Or.inl (Exists.intro (.val (.int .i64 x20)) (And.intro ?_ ?_))
   ·intro k22 s23
    exact Tr.val (l01 _ bA aT b7 214 aA aN aB aO (s23 _ _ hq11) _ gx20) (And.intro rfl (And.intro rfl rfl))
   refine Or.inl (Exists.intro (.agg [.val (.int .i64 x16), .val (.int .i64 aK), .val (.int .i64 x20)]) (And.intro ?_ ?_))
   ·intro k24 s25
    exact And.intro rfl (And.intro rfl rfl)
   refine Or.inr ?_
   refine Or.inr ?_
   refine Exists.intro 0 (And.intro (And.intro rfl rfl) ?_)
   obtain ⟨x26, gx26, hM1⟩ := j0 hM1
   obtain ⟨bx26, csx26, ex26, rx26⟩ := Sl.getI (r := j1.toRp) ru10 gx26 (by decide)
   refine And.intro bx26 ?_
   obtain ⟨bI, bJ, bK, rfl, rfl, bB, bC, bD⟩ := F1 rx26
   try dsimp only at hM1
   refine And.intro trivial (And.intro (by first | exact trivial | exact rfl) ?_)
   refine New.put (r := j1) wwu10 (Sub.refl _) (v0l gx26).1 (new := [.int .i64 x16, .int .i64 aK, .int .i64 x20]) (By := []) (O0g _ _ _ (K1 ix16 aS ix20)) (E7.nil _) rfl (v0l gx26).2 ?_
   intro k27 w28 kpw28 _
   have rw28 := w28.r
   have hpw28b7 : k27 b7 = some (.cells #[.int .i64 aA, .int .i64 aB] 214 (0, 0)) := (kpw28 b7 neb7gx1_2).trans hq11
   refine And.intro trivial (And.intro (by first | exact trivial | exact rfl) ?_)
   refine And.intro rfl (And.intro (by repeat (first | exact trivial | refine And.intro rfl ?_)) (And.intro (by repeat (first | exact trivial | refine And.intro rfl ?_)) (Exists.intro m13 (And.intro ⟨(IntKind.i64.wrap (u9 + 1)), (u10.set u9.toNat (x16, aK, x20)), rfl, rfl, w28.sub, (H0 _), w28, (hpw28b7), hM1⟩ (Nat.lt_succ_self _)))))
  ·replace hM1 := ifN hM1 hc14
   have hE := Option.some.inj hM1; subst hE
   try dsimp only [K0, N0] at hM0
   obtain ⟨x29, gx29, hM0⟩ := j0 hM0
   refine Tr.mono (k06 _ (some ⟨aC, 0, none⟩) aQ.length aJ u10 ru10 _  gx29) ?_
   rintro v31 k30 ⟨ax29, nx29, cx29, rfl, wx29⟩
   have sx29 : Sub k12 k30 := wx29.sub
   have rx29 := wx29.r
   obtain ⟨rfl, lx29⟩ := Sl.len rx29
   have hE := Option.some.inj hM0; subst hE
   exact ⟨([.int .i64 aV, .int .i64 (IntKind.i64.wrap (aW - 1)), .slice ax29 x29.length cx29]), rfl, (New.pair (New.int aP) (New.pair (New.int (H0 _)) (New.from wx29 sX8)))⟩
theorem F09 (h : Hp) (csp0 : List Value) (p0 : l0) (rp0 : P0.R h csp0 p0) (r : l0 × A4 × Bool) (hM0 : B9 p0 = some r) :
  Tr Tryz.prog 306 #[.agg csp0.toArray] h fun v h' => ∃ (cs0 : List Value) (cs1 : List Value), v = .tuple #[.agg cs0.toArray, .agg cs1.toArray, .bool r.2.2] ∧ New P0 h h' cs0 r.1 ∧ w4.R h' cs1 r.2.1 := by
 obtain ⟨aA, aB, aF, bJ, aG, aT, rfl, rfl, aK, aL, aH⟩ := C0 rp0
 obtain ⟨rfl, bK⟩ := Sl.len aH
 unfold B9 at hM0
 dsimp only at hM0
 refine T2 (args := [.agg #[.int .i64 aA, .int .i64 aB, .slice aF aT.length aG]]) (fn := Tryz.f306) rfl ?_
 obtain ⟨x1, gx1, hM0⟩ := j0 hM0
 refine Tr.mono (N08 _ [.int .i64 aA, .int .i64 aB, .slice aF aT.length aG] (aA, aB, aT) (z0 aK aL aH) _  gx1) ?_
 rintro v3 k2 ⟨bE, rfl, aR, sx1⟩
 obtain ⟨bN, bO⟩ := x1
 dsimp only at hM0 aR
 obtain ⟨aC, aD, rfl, rfl, aI, aJ⟩ := a01 aR
 try dsimp only at hM0
 refine And.intro (fun hc4 => ?_) (fun hc4 => ?_)
 ·replace hM0 := ifP hM0 hc4
  obtain ⟨x5, gx5, hM0⟩ := j0 hM0
  refine Tr.mono (l8 _ [.int .i64 aA, .int .i64 aB, .slice aF aT.length aG] (aA, aB, aT) (z0 aK aL (O0.mono sx1 aH)) _  gx5) ?_
  rintro v7 k6 ⟨aW, bL, aX, rfl, wx5⟩
  have sx5 : Sub k2 k6 := wx5.sub
  have rx5 := wx5.r
  obtain ⟨bF, bG, bP⟩ := x5
  dsimp only at hM0 wx5 rx5
  obtain ⟨_, _, _, _, _, _, ecx5, exx5, aY, aZ, bA⟩ := C0 rx5
  cases ecx5
  cases exx5
  obtain ⟨rfl, bM⟩ := Sl.len bA
  try dsimp only at hM0
  have we8 := New.sndI (New.sndI (wx5))
  have hE := Option.some.inj hM0; subst hE
  exact ⟨([.int .i64 bF, .int .i64 bG, .slice (some ⟨aW, 0, none⟩) bP.length aX]), ([.int .i64 0, .int .i64 0]), rfl, (New.pair (New.int aY) (New.pair (New.int aZ) (New.from we8 sx1))), (P1 (c64 (by decide) (by decide)) (c64 (by decide) (by decide)))⟩
 ·replace hM0 := ifN hM0 hc4
  obtain ⟨x9, gx9, hM0⟩ := j0 hM0
  refine Tr.mono (q05 _ [.int .i64 aA, .int .i64 aB, .slice aF aT.length aG] (aA, aB, aT) (z0 aK aL (O0.mono sx1 aH)) [.int .i64 aC, .int .i64 aD] (aC, aD) (P1 aI aJ) _  gx9) ?_
  rintro v11 k10 ⟨bH, rfl, aS⟩
  obtain ⟨bQ, bR⟩ := x9
  dsimp only at hM0 aS
  have sx9 : Sub k2 k10 := aS.sub
  have bB := aS.r
  obtain ⟨aU, aV, aM, bC, aN, bI, rfl, rfl, aO, aP, aQ⟩ := C0 bB
  obtain ⟨rfl, bD⟩ := Sl.len aQ
  try dsimp only at hM0
  have we12 := New.sndI (New.sndI (aS))
  refine Or.inr (Or.inr (Or.inl (And.intro (And.intro (by kernel_rfl) (by kernel_rfl)) ?_)))
  refine Or.inr ?_
  refine Or.inr ?_
  refine Exists.intro 0 (And.intro (And.intro rfl rfl) ?_)
  refine And.intro trivial (And.intro (by first | exact trivial | exact rfl) ?_)
  refine And.intro trivial (And.intro (by first | exact trivial | exact rfl) ?_)
  have hE := Option.some.inj hM0; subst hE
  exact ⟨([.int .i64 aU, .int .i64 aV, .slice aM bI.length aN]), ([.int .i64 aC, .int .i64 aD]), rfl, (New.pair (New.int aO) (New.pair (New.int aP) (New.from we12 sx1))), (P1 aI aJ)⟩
theorem A0b (h : Hp) (csp0 : List Value) (p0 : l0) (rp0 : P0.R h csp0 p0) (r : l0 × F7) (hM0 : d00 p0 = some r) :
  Tr Tryz.prog 260 #[.agg csp0.toArray] h fun v h' => ∃ (cs0 : List Value) (a1 : Option Addr) (n1 c1 : Nat), v = .tuple #[.agg cs0.toArray, .slice a1 n1 c1] ∧ New P0 h h' cs0 r.1 ∧ r0d.R h' [.slice a1 n1 c1] r.2 := by
 obtain ⟨aS, aT, aP, bK, aQ, bG, rfl, rfl, aV, aW, aR⟩ := C0 rp0
 obtain ⟨rfl, bL⟩ := Sl.len aR
 unfold d00 at hM0
 dsimp only at hM0
 refine T2 (args := [.agg #[.int .i64 aS, .int .i64 aT, .slice aP bG.length aQ]]) (fn := Tryz.f260) rfl ?_
 obtain ⟨x1, gx1, hM0⟩ := j0 hM0
 refine Tr.mono (l8 _ [.int .i64 aS, .int .i64 aT, .slice aP bG.length aQ] (aS, aT, bG) (z0 aV aW aR) _  gx1) ?_
 rintro v3 k2 ⟨aX, bM, aY, rfl, wx1⟩
 have sx1 : Sub h k2 := wx1.sub
 have rx1 := wx1.r
 obtain ⟨bH, bI, bJ⟩ := x1
 dsimp only at hM0 wx1 rx1
 obtain ⟨_, _, _, _, _, _, ecx1, exx1, aZ, bA, bB⟩ := C0 rx1
 cases ecx1
 cases exx1
 obtain ⟨rfl, bN⟩ := Sl.len bB
 try dsimp only at hM0
 have we4 := New.sndI (New.sndI (wx1))
 obtain ⟨X5, hLX5, hM0⟩ := j0 hM0
 refine Exists.intro { vars := [], boxes := [2], owns := [0], fuel := true } (Exists.intro (fun vs os h' => ∃ (u6 : Int) (u7 : Int) (au8 : Option Addr) (nu8 cu8 : Nat) (u8 : J0) (wu9 : List (List Value)) (u9 : List A4), vs.tail = [.int .i64 u6, .int .i64 u7, .slice au8 nu8 cu8] ∧ os = [wu9] ∧ Sub k2 h' ∧ M0 u6 ∧ M0 u7 ∧ New O0 h h' [.slice au8 nu8 cu8] u8 ∧ F2 (w4.R h') wu9 u9 ∧ D6 (C1 vs) u6 u7 u8 u9 = some X5) (Exists.intro (fun _ _ => 0) ?_))
 refine And.intro (Exists.intro I0 ⟨bH, bI, (some ⟨aX, 0, none⟩), bJ.length, aY, bJ, [], ([] : F7), rfl, rfl, (Sub.refl _), aZ, bA, we4, (show F2 (w4.R k2) ([] : List (List Value)) ([] : F7) from trivial), hLX5⟩) ?_
 rintro v_0 v_1 v_2 wu9 m11 k10 ⟨u6, u7, au8, nu8, cu8, u8, zzu9, u9, evX5, eoX5, sX5, iu6, iu7, wwu8, fu9, hM1⟩
 cases evX5
 cases eoX5
 replace hM1 : D6 m11 u6 u7 u8 u9 = some X5 := hM1
 obtain _ | m11 := m11
 ·cases (show (none : Option _) = some X5 from hM1)
 rw [D6.eq_2] at hM1
 have ru8 := wwu8.r
 obtain ⟨rfl, lu8⟩ := Sl.len ru8
 obtain ⟨x12, gx12, hM1⟩ := j0 hM1
 refine Tr.mono (F09 _ [.int .i64 u6, .int .i64 u7, .slice au8 u8.length cu8] (u6, u7, u8) (z0 iu6 iu7 ru8) _  gx12) ?_
 rintro v14 k13 ⟨bE, bF, rfl, aF, aG⟩
 obtain ⟨bO, bP, bQ⟩ := x12
 dsimp only at hM1 aF aG
 have sx12 : Sub k10 k13 := aF.sub
 have aU := aF.r
 obtain ⟨aM, aN, aH, bC, aI, aO, rfl, rfl, aJ, aK, aL⟩ := C0 aU
 obtain ⟨rfl, bD⟩ := Sl.len aL
 try dsimp only at hM1
 have we15 := New.sndI (New.sndI (aF))
 obtain ⟨aA, aB, rfl, rfl, aC, aD⟩ := a01 aG
 try dsimp only at hM1
 refine And.intro (fun hc16 => ?_) (fun hc16 => ?_)
 ·replace hM1 := ifP hM1 hc16
  intro v17 k18 f19
  obtain ⟨az20, cz20, rfl, rz20, sz20, lz20⟩ := U0.out (r := w4.toRp) f19 (F2.up (r := w4.toRp) sx12 fu9)
  have hE := Option.some.inj hM1; subst hE
  try dsimp only [j4, l4] at hM0
  have hE := Option.some.inj hM0; subst hE
  exact ⟨([.int .i64 u6, .int .i64 u7, .slice au8 u8.length cu8]), az20, u9.length, cz20, rfl, (New.pair (New.int iu6) (New.pair (New.int iu7) (New.mono wwu8 (sx12.trans sz20)))), rz20⟩
 ·replace hM1 := ifN hM1 hc16
  obtain ⟨q21, gq21, hM1⟩ := j0 hM1
  refine And.intro (E1 gq21 (by first | rw [F2.length (F2.up (r := w4.toRp) sx12 fu9), F2.length (show F2 (w4.R k13) ([[.int .i64 aA, .int .i64 aB]] : List (List Value)) [(aA, aB)] from ⟨(P1 aC aD), trivial⟩)] | exact congrArg (· + 1) (F2.length (F2.up (r := w4.toRp) sx12 fu9)))) ?_
  refine And.intro rfl (And.intro (by repeat (first | exact trivial | refine And.intro rfl ?_)) (And.intro (by repeat (first | exact trivial | refine And.intro rfl ?_)) (Exists.intro m11 (And.intro ⟨aM, aN, aH, aO.length, aI, aO, (wu9 ++ ([[.int .i64 aA, .int .i64 aB]] : List (List Value))), (u9 ++ [(aA, aB)]), rfl, rfl, (sX5.trans sx12), aJ, aK, (New.from we15 (sx1.trans sX5)), (F2.append (F2.up (r := w4.toRp) sx12 fu9) (show F2 (w4.R k13) ([[.int .i64 aA, .int .i64 aB]] : List (List Value)) [(aA, aB)] from ⟨(P1 aC aD), trivial⟩)), hM1⟩ (Nat.lt_succ_self _)))))
theorem S05 (h : Hp) (csp0 : List Value) (p0 : l0) (rp0 : P0.R h csp0 p0) (r : J0) (hM0 : V6 p0 = some r) :
  Tr Tryz.prog 196 #[.agg csp0.toArray] h fun v h' => ∃ (a0 : Option Addr) (n0 c0 : Nat), v = .slice a0 n0 c0 ∧ O0.R h' [.slice a0 n0 c0] r ∧ Sub h h' := by
 obtain ⟨aA, aB, aD, aJ, aF, aC, rfl, rfl, aG, aI, aH⟩ := C0 rp0
 obtain ⟨rfl, aK⟩ := Sl.len aH
 unfold V6 at hM0
 dsimp only at hM0
 refine T2 (args := [.agg #[.int .i64 aA, .int .i64 aB, .slice aD aC.length aF]]) (fn := Tryz.f196) rfl ?_
 obtain ⟨x1, gx1, hM0⟩ := j0 hM0
 refine Tr.val (G9 _ [.int .i64 aA, .int .i64 aB, .slice aD aC.length aF] (aA, aB, aC) (z0 aG aI aH) _  gx1) ?_
 refine And.intro (fun hc2 => ?_) (fun hc2 => ?_)
 ·replace hM0 := ifP hM0 hc2
  intro v3 k4 f5
  obtain ⟨az6, cz6, rfl, rz6, sz6, lz6⟩ := U0.out (r := j1.toRp) f5 (show F2 (j1.R h) ([] : List (List Value)) ([] : J0) from trivial)
  have hE := Option.some.inj hM0; subst hE
  exact ⟨az6, (([] : J0)).length, cz6, rfl, rz6, sz6⟩
 ·replace hM0 := ifN hM0 hc2
  obtain ⟨X7, hLX7, hM0⟩ := j0 hM0
  refine Exists.intro { vars := [4], boxes := [], owns := [0], fuel := true } (Exists.intro (fun vs os h' => ∃ (u8 : Int) (wu9 : List (List Value)) (u9 : List F0), vs.tail = [.int .i64 u8] ∧ os = [wu9] ∧ Sub h h' ∧ M0 u8 ∧ F2 (j1.R h') wu9 u9 ∧ D4 aB aA aC (C1 vs) u8 u9 = some X7) (Exists.intro (fun _ _ => 0) ?_))
  refine And.intro (Exists.intro I0 ⟨0, [], ([] : J0), rfl, rfl, (Sub.refl _), (c64 (by decide) (by decide)), (show F2 (j1.R h) ([] : List (List Value)) ([] : J0) from trivial), hLX7⟩) ?_
  rintro v_0 wu9 m11 k10 ⟨u8, zzu9, u9, evX7, eoX7, sX7, iu8, fu9, hM1⟩
  cases evX7
  cases eoX7
  replace hM1 : D4 aB aA aC m11 u8 u9 = some X7 := hM1
  obtain _ | m11 := m11
  ·cases (show (none : Option _) = some X7 from hM1)
  rw [D4.eq_2] at hM1
  refine And.intro (fun hc12 => ?_) (fun hc12 => ?_)
  ·replace hM1 := ifP hM1 hc12
   obtain ⟨x13, gx13, hM1⟩ := j0 hM1
   refine Tr.mono (o05 _ aA aG _  gx13) ?_
   rintro v15 k14 ⟨ax13, nx13, cx13, rfl, rx13, sx13⟩
   obtain ⟨rfl, lx13⟩ := Sl.len rx13
   obtain ⟨X16, hLX16, hM1⟩ := j0 hM1
   refine Exists.intro { vars := [22], boxes := [], owns := [0], fuel := true } (Exists.intro (fun vs os h' => ∃ (u17 : Int) (wu18 : List (List Value)) (u18 : List F0), vs.tail = [.int .i64 u17] ∧ os = [wu18] ∧ Sub k14 h' ∧ M0 u17 ∧ F2 (j1.R h') wu18 u18 ∧ P2 x13 aA aB aC u8 (C1 vs) u17 u18 = some X16) (Exists.intro (fun _ _ => 0) ?_))
   refine And.intro (Exists.intro I0 ⟨0, wu9, u9, rfl, rfl, (Sub.refl _), (c64 (by decide) (by decide)), (F2.up (r := j1.toRp) sx13 fu9), hLX16⟩) ?_
   rintro v_0 wu18 m20 k19 ⟨u17, zzu18, u18, evX16, eoX16, sX16, iu17, fu18, hM2⟩
   cases evX16
   cases eoX16
   replace hM2 : P2 x13 aA aB aC u8 m20 u17 u18 = some X16 := hM2
   obtain _ | m20 := m20
   ·cases (show (none : Option _) = some X16 from hM2)
   rw [P2.eq_2] at hM2
   refine And.intro (fun hc21 => ?_) (fun hc21 => ?_)
   ·replace hM2 := ifP hM2 hc21
    obtain ⟨x22, gx22, hM2⟩ := j0 hM2
    obtain ⟨bx22, csx22, ex22, rx22⟩ := Sl.getI (r := Wp.int.toRp) (Q0.mono sX16 rx13) gx22 (by decide)
    refine And.intro bx22 ?_
    obtain ⟨rfl, ix22⟩ := rx22
    refine Exists.intro _ (And.intro ex22 ?_)
    obtain ⟨x23, gx23, hM2⟩ := j0 hM2
    refine Tr.val (k01 _ [.int .i64 aA, .int .i64 aB, .slice aD aC.length aF] (aA, aB, aC) (z0 aG aI (O0.mono ((sX7.trans sx13).trans sX16) aH)) u8 iu8 x22 ix22 _  gx23) ?_
    obtain ⟨q24, gq24, hM2⟩ := j0 hM2
    have ix23 : M0 x23 := T0 gq24
    refine And.intro (fun hc25 => ?_) (fun hc25 => ?_)
    ·replace hM2 := ifP hM2 hc25
     obtain ⟨q26, gq26, hM2⟩ := j0 hM2
     refine And.intro (E1 gq26 (by first | rw [F2.length fu18, F2.length (show F2 (j1.R k19) ([[.int .i64 u8, .int .i64 x22, .int .i64 (-1)]] : List (List Value)) [(u8, x22, (-1))] from ⟨(K1 iu8 ix22 (c64 (by decide) (by decide))), trivial⟩)] | exact congrArg (· + 1) (F2.length fu18))) ?_
     refine And.intro rfl (And.intro (by repeat (first | exact trivial | refine And.intro rfl ?_)) (And.intro (by repeat (first | exact trivial | refine And.intro rfl ?_)) (Exists.intro m20 (And.intro ⟨(IntKind.i64.wrap (u17 + 1)), (wu18 ++ ([[.int .i64 u8, .int .i64 x22, .int .i64 (-1)]] : List (List Value))), (u18 ++ [(u8, x22, (-1))]), rfl, rfl, sX16, (H0 _), (F2.append fu18 (show F2 (j1.R k19) ([[.int .i64 u8, .int .i64 x22, .int .i64 (-1)]] : List (List Value)) [(u8, x22, (-1))] from ⟨(K1 iu8 ix22 (c64 (by decide) (by decide))), trivial⟩)), hM2⟩ (Nat.lt_succ_self _)))))
    ·replace hM2 := ifN hM2 hc25
     refine And.intro rfl (And.intro (by repeat (first | exact trivial | refine And.intro rfl ?_)) (And.intro (by repeat (first | exact trivial | refine And.intro rfl ?_)) (Exists.intro m20 (And.intro ⟨(IntKind.i64.wrap (u17 + 1)), wu18, u18, rfl, rfl, sX16, (H0 _), fu18, hM2⟩ (Nat.lt_succ_self _)))))
   ·replace hM2 := ifN hM2 hc21
    have hE := Option.some.inj hM2; subst hE
    try dsimp only [K0, N0] at hM1
    refine And.intro rfl (And.intro (by repeat (first | exact trivial | refine And.intro rfl ?_)) (And.intro (by repeat (first | exact trivial | refine And.intro rfl ?_)) (Exists.intro m11 (And.intro ⟨(IntKind.i64.wrap (u8 + 1)), wu18, u18, rfl, rfl, ((sX7.trans sx13).trans sX16), (H0 _), fu18, hM1⟩ (Nat.lt_succ_self _)))))
  ·replace hM1 := ifN hM1 hc12
   have hE := Option.some.inj hM1; subst hE
   try dsimp only [K0, N0] at hM0
   intro v31 k32 f33
   obtain ⟨az34, cz34, rfl, rz34, sz34, lz34⟩ := U0.out (r := j1.toRp) f33 fu9
   have hE := Option.some.inj hM0; subst hE
   exact ⟨az34, u9.length, cz34, rfl, rz34, (sX7.trans sz34)⟩
end Go.Proofs.YtknoadmdnjaocaaGreat
namespace Go.Proofs.YtknoadmdnjaocaaGreat
open Go.H
set_option linter.unusedVariables false
set_option linter.unusedSimpArgs false
set_option maxRecDepth 10000
theorem O08 (h : Hp) (csp0 : List Value) (p0 : l0) (rp0 : P0.R h csp0 p0) (r : l0) (hM0 : g9 p0 = some r) :
  Tr Tryz.prog 179 #[.agg csp0.toArray] h fun v h' => ∃ (cs0 : List Value), v = .agg cs0.toArray ∧ New P0 h h' cs0 r := by
 obtain ⟨aW, aX, aP, bS, aQ, bN, rfl, rfl, bA, bB, aR⟩ := C0 rp0
 obtain ⟨rfl, bT⟩ := Sl.len aR
 unfold g9 at hM0
 dsimp only at hM0
 refine T2 (args := [.agg #[.int .i64 aW, .int .i64 aX, .slice aP bN.length aQ]]) (fn := Tryz.f179) rfl ?_
 obtain ⟨x1, gx1, hM0⟩ := j0 hM0
 refine Tr.mono (A0b _ [.int .i64 aW, .int .i64 aX, .slice aP bN.length aQ] (aW, aX, bN) (z0 bA bB aR) _  gx1) ?_
 rintro v3 k2 ⟨bO, bU, bV, bW, rfl, aS, aT⟩
 obtain ⟨cG, cH⟩ := x1
 dsimp only at hM0 aS aT
 have sx1 : Sub h k2 := aS.sub
 have bC := aS.r
 obtain ⟨aC, aD, aH, bJ, aI, aY, rfl, rfl, aJ, aK, aA⟩ := C0 bC
 obtain ⟨rfl, bK⟩ := Sl.len aA
 try dsimp only at hM0
 have we4 := New.sndI (New.sndI (aS))
 obtain ⟨rfl, bX⟩ := Sl.len aT
 obtain ⟨x5, gx5, hM0⟩ := j0 hM0
 refine Tr.mono (K03 _ [.int .i64 aC, .int .i64 aD, .slice aH aY.length aI] (aC, aD, aY) (z0 aJ aK aA) _  gx5) ?_
 rintro v7 k6 ⟨bP, bY, bZ, cA, rfl, aU, aV⟩
 obtain ⟨cI, cJ⟩ := x5
 dsimp only at hM0 aU aV
 have sx5 : Sub k2 k6 := aU.sub
 have bD := aU.r
 obtain ⟨aF, aG, aL, bL, aM, aZ, rfl, rfl, aN, aO, aB⟩ := C0 bD
 obtain ⟨rfl, bM⟩ := Sl.len aB
 try dsimp only at hM0
 have we8 := New.sndI (New.sndI (aU))
 obtain ⟨rfl, cC⟩ := Sl.len aV
 obtain ⟨x9, gx9, hM0⟩ := j0 hM0
 refine Tr.mono (p01 _ [.int .i64 aF, .int .i64 aG, .slice aL aZ.length aM] (aF, aG, aZ) (z0 aN aO aB) _  gx9) ?_
 rintro v11 k10 ⟨csx9, rfl, wx9⟩
 have sx9 : Sub k6 k10 := wx9.sub
 have rx9 := wx9.r
 obtain ⟨bQ, bR, bE, cD, bF, cK, rfl, rfl, bG, bH, bI⟩ := C0 rx9
 obtain ⟨rfl, cE⟩ := Sl.len bI
 try dsimp only at hM0
 have we12 := New.sndI (New.sndI (wx9))
 have hE := Option.some.inj hM0; subst hE
 exact ⟨([.int .i64 bQ, .int .i64 bR, .slice bE cK.length bF]), rfl, (New.pair (New.int bG) (New.pair (New.int bH) (New.from we12 (sx1.trans sx5))))⟩
end Go.Proofs.YtknoadmdnjaocaaGreat
namespace Go.Proofs.YtknoadmdnjaocaaGreat
open Go.H
set_option linter.unusedVariables false
set_option linter.unusedSimpArgs false
set_option maxRecDepth 10000
theorem O8 (h : Hp) (csp0 : List Value) (p0 : l0) (rp0 : P0.R h csp0 p0) (r : Bool) (hM0 : M4 p0 = some r) :
  Tr Tryz.prog 108 #[.agg csp0.toArray] h fun v h' => v = .bool r ∧ h' = h := by
 obtain ⟨aA, aB, aC, aJ, aD, aI, rfl, rfl, aG, aH, aF⟩ := C0 rp0
 obtain ⟨rfl, aK⟩ := Sl.len aF
 unfold M4 at hM0
 dsimp only at hM0
 refine Tr.forget (T2 (args := [.agg #[.int .i64 aA, .int .i64 aB, .slice aC aI.length aD]]) (fn := Tryz.f108) rfl ?_)
 refine And.intro (by kernel_rfl) ?_
 obtain ⟨x1, gx1, hM0⟩ := j0 hM0
 refine Or.inl (Exists.intro (.val (.bool x1)) (And.intro ?_ ?_))
 ·intro k2 s3
  exact Tr.val (O0b _ [.int .i64 aA, .int .i64 aB, .slice aC aI.length aD] (aA, aB, aI) (z0 aG aH (O0.mono s3 aF)) _ gx1) (And.intro rfl (And.intro rfl rfl))
 obtain ⟨x4, gx4, hM0⟩ := j0 hM0
 refine Or.inr (Exists.intro (fun v hh => ∃ (a : Option Addr) (c : Nat), v = .slice a x4.length c ∧ O0.R hh [.slice a x4.length c] x4 ∧ x4.length ≤ 9223372036854775807) (And.intro (fun v h1 h2 sb q => by obtain ⟨a, c, e, r, l⟩ := q; exact ⟨a, c, e, O0.mono sb r, l⟩) (And.intro ?_ ?_)))
 ·intro k5 s6 hq
  refine Tr.mono (S05 _ [.int .i64 aA, .int .i64 aB, .slice aC aI.length aD] (aA, aB, aI) (z0 aG aH (O0.mono s6 aF)) _ (G2 gx4 hq)) ?_
  rintro _ kk ⟨ax4, nx4, cx4, rfl, rx4, sb⟩
  obtain ⟨rfl, lx4⟩ := Sl.len rx4
  exact And.intro g09 (And.intro sb ⟨ax4, cx4, rfl, rx4, lx4⟩)
 obtain ⟨q7, gq7, hM0⟩ := j0 hM0
 refine Or.inl (Exists.intro (.val (.int .i64 ((x4.length : Nat) : Int))) (And.intro ?_ ?_))
 ·intro k8 s9 hq
  rintro _ ⟨az10, cz10, rfl, rz10, lz10⟩
  exact And.intro rfl (And.intro rfl rfl)
 refine Or.inl (Exists.intro (.val (.bool (decide (((x4.length : Nat) : Int) = 0)))) (And.intro ?_ ?_))
 ·intro k11 s12 hq
  exact And.intro rfl (And.intro rfl rfl)
 intro k13 s14
 have hE := Option.some.inj hM0; subst hE
 exact And.intro rfl s14
theorem G09 (h : Hp) (csp0 : List Value) (p0 : l0) (rp0 : P0.R h csp0 p0) (p1 : Int) (ip1 : M0 p1) (r : l0 × Bool) (hM0 : D9 p0 p1 = some r) :
  Tr Tryz.prog 191 #[.agg csp0.toArray, .int .i64 p1] h fun v h' => ∃ (cs0 : List Value), v = .tuple #[.agg cs0.toArray, .bool r.2] ∧ New P0 h h' cs0 r.1 := by
 obtain ⟨aB, aA, aC, bJ, aD, aJ, rfl, rfl, aG, aH, aF⟩ := C0 rp0
 obtain ⟨rfl, bK⟩ := Sl.len aF
 unfold D9 at hM0
 dsimp only at hM0
 refine T2 (args := [.agg #[.int .i64 aB, .int .i64 aA, .slice aC aJ.length aD], .int .i64 p1]) (fn := Tryz.f191) rfl ?_
 obtain ⟨x1, gx1, hM0⟩ := j0 hM0
 refine Tr.val (G9 _ [.int .i64 aB, .int .i64 aA, .slice aC aJ.length aD] (aB, aA, aJ) (z0 aG aH aF) _  gx1) ?_
 obtain ⟨x2, gx2, hM0⟩ := j0 hM0
 refine Exists.intro (.bool x2) (And.intro (fun q => y01 _ [.int .i64 aB, .int .i64 aA, .slice aC aJ.length aD] (aB, aA, aJ) (z0 aG aH aF) p1 ip1 _  (G2 gx2 q)) ?_)
 refine And.intro (fun hc3 => ?_) (fun hc3 => ?_)
 ·replace hM0 := ifP hM0 hc3
  obtain ⟨x4, gx4, hM0⟩ := j0 hM0
  refine Tr.mono (l8 _ [.int .i64 aB, .int .i64 aA, .slice aC aJ.length aD] (aB, aA, aJ) (z0 aG aH aF) _  gx4) ?_
  rintro v6 k5 ⟨aV, bL, aW, rfl, wx4⟩
  have sx4 : Sub h k5 := wx4.sub
  have rx4 := wx4.r
  obtain ⟨bD, bE, bO⟩ := x4
  dsimp only at hM0 wx4 rx4
  obtain ⟨_, _, _, _, _, _, ecx4, exx4, aX, aY, aZ⟩ := C0 rx4
  cases ecx4
  cases exx4
  obtain ⟨rfl, bM⟩ := Sl.len aZ
  try dsimp only at hM0
  have we7 := New.sndI (New.sndI (wx4))
  have hE := Option.some.inj hM0; subst hE
  exact ⟨([.int .i64 bD, .int .i64 bE, .slice (some ⟨aV, 0, none⟩) bO.length aW]), rfl, (New.pair (New.int aX) (New.pair (New.int aY) we7))⟩
 ·replace hM0 := ifN hM0 hc3
  obtain ⟨X8, hLX8, hM0⟩ := j0 hM0
  refine Exists.intro { vars := [7], boxes := [], owns := [0], fuel := true } (Exists.intro (fun vs os h' => ∃ (u9 : Int) (wu10 : List (List Value)) (u10 : List Int), vs.tail = [.int .i64 u9] ∧ os = [wu10] ∧ Sub h h' ∧ M0 u9 ∧ F2 (Wp.int.R h') wu10 u10 ∧ P5 aA p1 (C1 vs) u9 u10 = some X8) (Exists.intro (fun _ _ => 0) ?_))
  refine And.intro (Exists.intro I0 ⟨0, ([[.int .i64 p1]] : List (List Value)), [p1], rfl, rfl, (Sub.refl _), (c64 (by decide) (by decide)), (show F2 (Wp.int.R h) ([[.int .i64 p1]] : List (List Value)) [p1] from ⟨⟨rfl, ip1⟩, trivial⟩), hLX8⟩) ?_
  rintro v_0 wu10 m12 k11 ⟨u9, zzu10, u10, evX8, eoX8, sX8, iu9, fu10, hM1⟩
  cases evX8
  cases eoX8
  replace hM1 : P5 aA p1 m12 u9 u10 = some X8 := hM1
  obtain _ | m12 := m12
  ·cases (show (none : Option _) = some X8 from hM1)
  rw [P5.eq_2] at hM1
  refine And.intro (fun hc13 => ?_) (fun hc13 => ?_)
  ·replace hM1 := ifP hM1 hc13
   refine And.intro (fun hc14 => ?_) (fun hc14 => ?_)
   ·replace hM1 := ifP hM1 hc14
    obtain ⟨q15, gq15, hM1⟩ := j0 hM1
    refine And.intro (E1 gq15 (by first | rw [F2.length fu10, F2.length (show F2 (Wp.int.R k11) ([[.int .i64 u9]] : List (List Value)) [u9] from ⟨⟨rfl, iu9⟩, trivial⟩)] | exact congrArg (· + 1) (F2.length fu10))) ?_
    refine And.intro rfl (And.intro (by repeat (first | exact trivial | refine And.intro rfl ?_)) (And.intro (by repeat (first | exact trivial | refine And.intro rfl ?_)) (Exists.intro m12 (And.intro ⟨(IntKind.i64.wrap (u9 + 1)), (wu10 ++ ([[.int .i64 u9]] : List (List Value))), (u10 ++ [u9]), rfl, rfl, sX8, (H0 _), (F2.append fu10 (show F2 (Wp.int.R k11) ([[.int .i64 u9]] : List (List Value)) [u9] from ⟨⟨rfl, iu9⟩, trivial⟩)), hM1⟩ (Nat.lt_succ_self _)))))
   ·replace hM1 := ifN hM1 hc14
    refine And.intro rfl (And.intro (by repeat (first | exact trivial | refine And.intro rfl ?_)) (And.intro (by repeat (first | exact trivial | refine And.intro rfl ?_)) (Exists.intro m12 (And.intro ⟨(IntKind.i64.wrap (u9 + 1)), wu10, u10, rfl, rfl, sX8, (H0 _), fu10, hM1⟩ (Nat.lt_succ_self _)))))
  ·replace hM1 := ifN hM1 hc13
   have hE := Option.some.inj hM1; subst hE
   try dsimp only [K0, N0] at hM0
   refine Or.inl ?_
   intro v16 k17 f18
   obtain ⟨az19, cz19, rfl, rz19, sz19, lz19⟩ := U0.out (r := Wp.int.toRp) f18 fu10
   obtain ⟨x20, gx20, hM0⟩ := j0 hM0
   refine Tr.mono (p05 _ [.int .i64 aB, .int .i64 aA, .slice aC aJ.length aD] (aB, aA, aJ) (z0 aG aH (O0.mono (sX8.trans sz19) aF)) az19 u10.length cz19 u10 rz19 _  gx20) ?_
   rintro v22 k21 ⟨csx20, rfl, wx20⟩
   have sx20 : Sub k17 k21 := wx20.sub
   have rx20 := wx20.r
   obtain ⟨aK, aL, aM, bF, aN, bA, rfl, rfl, aO, aP, aI⟩ := C0 rx20
   obtain ⟨rfl, bG⟩ := Sl.len aI
   try dsimp only at hM0
   have we23 := New.sndI (New.sndI (wx20))
   obtain ⟨x24, gx24, hM0⟩ := j0 hM0
   refine Tr.mono (O08 _ [.int .i64 aK, .int .i64 aL, .slice aM bA.length aN] (aK, aL, bA) (z0 aO aP aI) _  gx24) ?_
   rintro v26 k25 ⟨csx24, rfl, wx24⟩
   have sx24 : Sub k21 k25 := wx24.sub
   have rx24 := wx24.r
   obtain ⟨bB, bC, aQ, bH, aR, bN, rfl, rfl, aS, aT, aU⟩ := C0 rx24
   obtain ⟨rfl, bI⟩ := Sl.len aU
   try dsimp only at hM0
   have we27 := New.sndI (New.sndI (wx24))
   have hE := Option.some.inj hM0; subst hE
   exact ⟨([.int .i64 bB, .int .i64 bC, .slice aQ bN.length aR]), rfl, (New.pair (New.int aS) (New.pair (New.int aT) (New.from we27 ((sX8.trans sz19).trans sx20))))⟩
end Go.Proofs.YtknoadmdnjaocaaGreat
namespace Go.Proofs.YtknoadmdnjaocaaGreat
open Go.H
set_option linter.unusedVariables false
set_option linter.unusedSimpArgs false
set_option maxRecDepth 10000
set_option maxHeartbeats 0
theorem s04 (h : Hp) (csp0 : List Value) (p0 : l0) (rp0 : P0.R h csp0 p0) (r : Z2) (hM0 : U7 p0 = some r) :
  Tr Tryz.prog 113 #[.agg csp0.toArray] h fun v h' => ∃ (a0 : Option Addr) (n0 c0 : Nat), v = .slice a0 n0 c0 ∧ New a04 h h' [.slice a0 n0 c0] r := by
 obtain ⟨aA, aB, aD, aJ, aF, aC, rfl, rfl, aH, aI, aG⟩ := C0 rp0
 obtain ⟨rfl, aK⟩ := Sl.len aG
 unfold U7 at hM0
 dsimp only at hM0
 refine T2 (args := [.agg #[.int .i64 aA, .int .i64 aB, .slice aD aC.length aF]]) (fn := Tryz.f113) rfl ?_
 obtain ⟨x1, gx1, hM0⟩ := j0 hM0
 refine Tr.val (O8 _ [.int .i64 aA, .int .i64 aB, .slice aD aC.length aF] (aA, aB, aC) (z0 aH aI aG) _  gx1) ?_
 refine And.intro (fun hc2 => ?_) (fun hc2 => ?_)
 ·replace hM0 := ifP hM0 hc2
  intro v3 k4 f5
  have nz6 : New (Wp.slice Q0) h k4 [v3] ([] : Z2) := (U0.fresh (r := Q0) f5 (show F3 (Q0.W h) [] [] [] from trivial) (Sub.refl _) (E7.nil h))
  obtain ⟨az6, cz6, rfl, rz6, sz6, lz6⟩ := U0.out (r := Q0.toRp) f5 (show F2 (Q0.R h) ([] : List (List Value)) ([] : Z2) from trivial)
  have hE := Option.some.inj hM0; subst hE
  exact ⟨az6, (([] : Z2)).length, cz6, rfl, nz6⟩
 ·replace hM0 := ifN hM0 hc2
  obtain ⟨X7, hLX7, hM0⟩ := j0 hM0
  refine Exists.intro { vars := [4], boxes := [], owns := [0], fuel := true } (Exists.intro (fun vs os h' => ∃ (u8 : Int) (wu9 : List (List Value)) (u9 : List D0), vs.tail = [.int .i64 u8] ∧ os = [wu9] ∧ Sub h h' ∧ M0 u8 ∧ F2 (Q0.R h') wu9 u9 ∧ (∃ Bs, F3 (Q0.W h') wu9 u9 Bs ∧ E7 h Bs.flatten) ∧ S5 aA aB aC (C1 vs) u8 u9 = some X7) (Exists.intro (fun _ _ => 0) ?_))
  refine And.intro (Exists.intro I0 ⟨1, [], ([] : Z2), rfl, rfl, (Sub.refl _), (c64 (by decide) (by decide)), (show F2 (Q0.R h) ([] : List (List Value)) ([] : Z2) from trivial), ⟨_, (show F3 (Q0.W h) [] [] [] from trivial), (E7.nil h)⟩, hLX7⟩) ?_
  rintro v_0 wu9 m11 k10 ⟨u8, zzu9, u9, evX7, eoX7, sX7, iu8, fu9, ⟨bbu9, ttu9, ffu9⟩, hM1⟩
  cases evX7
  cases eoX7
  replace hM1 : S5 aA aB aC m11 u8 u9 = some X7 := hM1
  obtain _ | m11 := m11
  ·cases (show (none : Option _) = some X7 from hM1)
  rw [S5.eq_2] at hM1
  refine And.intro (fun hc12 => ?_) (fun hc12 => ?_)
  ·replace hM1 := ifP hM1 hc12
   obtain ⟨X13, hLX13, hM1⟩ := j0 hM1
   refine Exists.intro { vars := [6], boxes := [], owns := [1], fuel := true } (Exists.intro (fun vs os h' => ∃ (u14 : Int) (wu15 : List (List Value)) (u15 : List Int), vs.tail = [.int .i64 u14] ∧ os = [wu15] ∧ Sub k10 h' ∧ M0 u14 ∧ F2 (Wp.int.R h') wu15 u15 ∧ R5 aB aA aC u8 (C1 vs) u14 u15 = some X13) (Exists.intro (fun _ _ => 0) ?_))
   refine And.intro (Exists.intro I0 ⟨0, [], ([] : D0), rfl, rfl, (Sub.refl _), (c64 (by decide) (by decide)), (show F2 (Wp.int.R k10) ([] : List (List Value)) ([] : D0) from trivial), hLX13⟩) ?_
   rintro v_0 wu15 m17 k16 ⟨u14, zzu15, u15, evX13, eoX13, sX13, iu14, fu15, hM2⟩
   cases evX13
   cases eoX13
   replace hM2 : R5 aB aA aC u8 m17 u14 u15 = some X13 := hM2
   obtain _ | m17 := m17
   ·cases (show (none : Option _) = some X13 from hM2)
   rw [R5.eq_2] at hM2
   refine And.intro (fun hc18 => ?_) (fun hc18 => ?_)
   ·replace hM2 := ifP hM2 hc18
    obtain ⟨x19, gx19, hM2⟩ := j0 hM2
    refine Tr.val (k01 _ [.int .i64 aA, .int .i64 aB, .slice aD aC.length aF] (aA, aB, aC) (z0 aH aI (O0.mono (sX7.trans sX13) aG)) u14 iu14 u8 iu8 _  gx19) ?_
    obtain ⟨q20, gq20, hM2⟩ := j0 hM2
    have ix19 : M0 x19 := T0 gq20
    obtain ⟨q21, gq21, hM2⟩ := j0 hM2
    refine And.intro (E1 gq21 (by first | rw [F2.length fu15, F2.length (show F2 (Wp.int.R k16) ([[.int .i64 x19]] : List (List Value)) [x19] from ⟨⟨rfl, ix19⟩, trivial⟩)] | exact congrArg (· + 1) (F2.length fu15))) ?_
    refine And.intro rfl (And.intro (by repeat (first | exact trivial | refine And.intro rfl ?_)) (And.intro (by repeat (first | exact trivial | refine And.intro rfl ?_)) (Exists.intro m17 (And.intro ⟨(IntKind.i64.wrap (u14 + 1)), (wu15 ++ ([[.int .i64 x19]] : List (List Value))), (u15 ++ [x19]), rfl, rfl, sX13, (H0 _), (F2.append fu15 (show F2 (Wp.int.R k16) ([[.int .i64 x19]] : List (List Value)) [x19] from ⟨⟨rfl, ix19⟩, trivial⟩)), hM2⟩ (Nat.lt_succ_self _)))))
   ·replace hM2 := ifN hM2 hc18
    have hE := Option.some.inj hM2; subst hE
    try dsimp only [K0, N0] at hM1
    intro v22 k23 f24
    obtain ⟨az25, cz25, rfl, rz25, sz25, lz25⟩ := U0.out (r := Wp.int.toRp) f24 fu15
    obtain ⟨q26, gq26, hM1⟩ := j0 hM1
    refine And.intro (E1 gq26 (by first | rw [F2.length (F2.up (r := Q0.toRp) (sX13.trans sz25) fu9), F2.length (show F2 (Q0.R k23) ([[.slice az25 u15.length cz25]] : List (List Value)) [u15] from ⟨rz25, trivial⟩)] | exact congrArg (· + 1) (F2.length (F2.up (r := Q0.toRp) (sX13.trans sz25) fu9)))) ?_
    obtain ⟨Bb27, wb27, fb27, _⟩ := (U0.newPlain (r := Wp.int) f24 fu15 (h09 _))
    refine And.intro rfl (And.intro (by repeat (first | exact trivial | refine And.intro rfl ?_)) (And.intro (by repeat (first | exact trivial | refine And.intro rfl ?_)) (Exists.intro m11 (And.intro ⟨(IntKind.i64.wrap (u8 + 1)), (wu9 ++ ([[.slice az25 u15.length cz25]] : List (List Value))), (u9 ++ [u15]), rfl, rfl, ((sX7.trans sX13).trans sz25), (H0 _), (F2.append (F2.up (r := Q0.toRp) (sX13.trans sz25) fu9) (show F2 (Q0.R k23) ([[.slice az25 u15.length cz25]] : List (List Value)) [u15] from ⟨rz25, trivial⟩)), ⟨_, (F3.snoc wb27 (h0c ttu9 (sX13.trans sz25))), (C0a (h0c ttu9 sX13) (sX7.trans sX13) ffu9 fb27)⟩, hM1⟩ (Nat.lt_succ_self _)))))
  ·replace hM1 := ifN hM1 hc12
   have hE := Option.some.inj hM1; subst hE
   try dsimp only [K0, N0] at hM0
   intro v38 k39 f40
   have nz41 : New (Wp.slice Q0) h k39 [v38] u9 := (U0.fresh (r := Q0) f40 ttu9 sX7 ffu9)
   obtain ⟨az41, cz41, rfl, rz41, sz41, lz41⟩ := U0.out (r := Q0.toRp) f40 fu9
   have hE := Option.some.inj hM0; subst hE
   exact ⟨az41, u9.length, cz41, rfl, nz41⟩
theorem I02 (h : Hp) (p0 : Int) (ip0 : M0 p0) (r : D0) (hM0 : A5 p0 = some r) :
  Tr Tryz.prog 271 #[.int .i64 p0] h fun v h' => ∃ (a0 : Option Addr) (n0 c0 : Nat), v = .slice a0 n0 c0 ∧ New Q0 h h' [.slice a0 n0 c0] r := by
 unfold A5 at hM0
 refine T2 (args := [.int .i64 p0]) (fn := Tryz.f271) rfl ?_
 obtain ⟨X1, hLX1, hM0⟩ := j0 hM0
 refine Exists.intro { vars := [4], boxes := [], owns := [0], fuel := true } (Exists.intro (fun vs os h' => ∃ (u2 : Int) (wu3 : List (List Value)) (u3 : List Int), vs.tail = [.int .i64 u2] ∧ os = [wu3] ∧ Sub h h' ∧ M0 u2 ∧ F2 (Wp.int.R h') wu3 u3 ∧ V2 p0 (C1 vs) u2 u3 = some X1) (Exists.intro (fun _ _ => 0) ?_))
 refine And.intro (Exists.intro I0 ⟨0, [], ([] : D0), rfl, rfl, (Sub.refl _), (c64 (by decide) (by decide)), (show F2 (Wp.int.R h) ([] : List (List Value)) ([] : D0) from trivial), hLX1⟩) ?_
 rintro v_0 wu3 m5 k4 ⟨u2, zzu3, u3, evX1, eoX1, sX1, iu2, fu3, hM1⟩
 cases evX1
 cases eoX1
 replace hM1 : V2 p0 m5 u2 u3 = some X1 := hM1
 obtain _ | m5 := m5
 ·cases (show (none : Option _) = some X1 from hM1)
 rw [V2.eq_2] at hM1
 refine And.intro (fun hc6 => ?_) (fun hc6 => ?_)
 ·replace hM1 := ifP hM1 hc6
  obtain ⟨q7, gq7, hM1⟩ := j0 hM1
  refine And.intro (E1 gq7 (by first | rw [F2.length fu3, F2.length (show F2 (Wp.int.R k4) ([[.int .i64 u2]] : List (List Value)) [u2] from ⟨⟨rfl, iu2⟩, trivial⟩)] | exact congrArg (· + 1) (F2.length fu3))) ?_
  refine And.intro rfl (And.intro (by repeat (first | exact trivial | refine And.intro rfl ?_)) (And.intro (by repeat (first | exact trivial | refine And.intro rfl ?_)) (Exists.intro m5 (And.intro ⟨(IntKind.i64.wrap (u2 + 1)), (wu3 ++ ([[.int .i64 u2]] : List (List Value))), (u3 ++ [u2]), rfl, rfl, sX1, (H0 _), (F2.append fu3 (show F2 (Wp.int.R k4) ([[.int .i64 u2]] : List (List Value)) [u2] from ⟨⟨rfl, iu2⟩, trivial⟩)), hM1⟩ (Nat.lt_succ_self _)))))
 ·replace hM1 := ifN hM1 hc6
  have hE := Option.some.inj hM1; subst hE
  try dsimp only [K0, N0] at hM0
  intro v8 k9 f10
  obtain ⟨az11, cz11, rfl, rz11, sz11, lz11⟩ := U0.out (r := Wp.int.toRp) f10 fu3
  have hE := Option.some.inj hM0; subst hE
  exact ⟨az11, u3.length, cz11, rfl, (New.from (U0.newPlain (r := Wp.int) f10 fu3 (h09 _)) sX1)⟩
theorem Q01 (h : Hp) (ap0 : Option Addr) (np0 cp0 : Nat) (p0 : D0) (rp0 : Q0.R h [.slice ap0 np0 cp0] p0) (r : Bool) (hM0 : I6 p0 = some r) :
  Tr Tryz.prog 177 #[.slice ap0 np0 cp0] h fun v h' => v = .bool r ∧ h' = h := by
 obtain ⟨rfl, lp0⟩ := Sl.len rp0
 unfold I6 at hM0
 refine Tr.forget (T2 (args := [.slice ap0 p0.length cp0]) (fn := Tryz.f177) rfl ?_)
 refine And.intro (fun hc1 => ?_) (fun hc1 => ?_)
 ·replace hM0 := ifP hM0 hc1
  have hE := Option.some.inj hM0; subst hE
  exact And.intro rfl (Sub.refl _)
 ·replace hM0 := ifN hM0 hc1
  obtain ⟨q2, gq2, hM0⟩ := j0 hM0
  refine And.intro (T0 gq2) ?_
  obtain ⟨X3, hLX3, hM0⟩ := j0 hM0
  refine Exists.intro { vars := [14], boxes := [], owns := [0], fuel := true, kept := [0] } (Exists.intro (fun vs os h' => ∃ (u4 : Int) (wu5 : List (List Value)) (u5 : List Bool), vs.tail = [.int .i64 u4] ∧ os = [wu5] ∧ Sub h h' ∧ M0 u4 ∧ F2 (Wp.bool.R h') wu5 u5 ∧ Z3 p0 (C1 vs) u4 u5 = some X3) (Exists.intro (fun _ _ => 0) ?_))
  refine And.intro (Exists.intro I0 ⟨0, (List.replicate ((p0.length : Nat) : Int).toNat ([.bool false] : List Value)), (List.replicate ((p0.length : Nat) : Int).toNat (false : Bool)), rfl, rfl, (Sub.refl _), (c64 (by decide) (by decide)), (F2.rep (p := Wp.bool.R h) (a := [.bool false]) (b := false) rfl (((p0.length : Nat) : Int).toNat)), hLX3⟩) ?_
  rintro v_0 wu5 m7 k6 ⟨u4, zzu5, u5, evX3, eoX3, sX3, iu4, fu5, hM1⟩
  cases evX3
  cases eoX3
  replace hM1 : Z3 p0 m7 u4 u5 = some X3 := hM1
  obtain _ | m7 := m7
  ·cases (show (none : Option _) = some X3 from hM1)
  rw [Z3.eq_2] at hM1
  refine And.intro (fun hc8 => ?_) (fun hc8 => ?_)
  ·replace hM1 := ifP hM1 hc8
   obtain ⟨x9, gx9, hM1⟩ := j0 hM1
   obtain ⟨bx9, csx9, ex9, rx9⟩ := Sl.getI (r := Wp.int.toRp) (Q0.mono sX3 rp0) gx9 (by decide)
   refine And.intro bx9 ?_
   obtain ⟨rfl, ix9⟩ := rx9
   refine Exists.intro _ (And.intro ex9 ?_)
   obtain ⟨x10, gx10, hM1⟩ := j0 hM1
   refine Tr.val (V8 _ x9 ix9 0 (c64 (by decide) (by decide)) (IntKind.i64.wrap (((p0.length : Nat) : Int) - 1)) (H0 _) _  gx10) ?_
   obtain ⟨x11, gx11, hM1⟩ := j0 hM1
   obtain ⟨csx11, ex11, rx11⟩ := v02 fu5 gx11 (Q0j k6)
   refine And.intro (fun q => (ex11 q).1) ?_
   obtain rfl := rx11
   refine Exists.intro _ (And.intro (fun q => (ex11 q).2) ?_)
   refine And.intro (fun hc12 => ?_) (fun hc12 => ?_)
   ·replace hM1 := ifP hM1 hc12
    have hE := Option.some.inj hM1; subst hE
    try dsimp only [j4, l4] at hM0
    have hE := Option.some.inj hM0; subst hE
    exact And.intro rfl sX3
   ·replace hM1 := ifN hM1 hc12
    obtain ⟨x13, gx13, hM1⟩ := j0 hM1
    obtain ⟨bx13, csx13, ex13, rx13⟩ := B3 fu5 gx13
    refine And.intro bx13 ?_
    obtain rfl := rx13
    refine Exists.intro _ (And.intro ex13 ?_)
    refine And.intro rfl (And.intro (by repeat (first | exact trivial | refine And.intro rfl ?_)) (And.intro (by repeat (first | exact trivial | refine And.intro rfl ?_)) (Exists.intro m7 (And.intro ⟨(IntKind.i64.wrap (u4 + 1)), (wu5.set x9.toNat [.bool true]), (u5.set x9.toNat true), rfl, rfl, sX3, (H0 _), (F2.set (p := Wp.bool.R k6) (a := [.bool true]) (b := true) rfl x9.toNat fu5), hM1⟩ (Nat.lt_succ_self _)))))
  ·replace hM1 := ifN hM1 hc8
   have hE := Option.some.inj hM1; subst hE
   try dsimp only [K0, N0] at hM0
   have hE := Option.some.inj hM0; subst hE
   exact And.intro rfl sX3
theorem J02 (h : Hp) (ap0 : Option Addr) (np0 cp0 : Nat) (p0 : D0) (rp0 : Q0.R h [.slice ap0 np0 cp0] p0) (ap1 : Option Addr) (np1 cp1 : Nat) (p1 : D0) (rp1 : Q0.R h [.slice ap1 np1 cp1] p1) (r : D0) (hM0 : B5 p0 p1 = some r) :
  Tr Tryz.prog 272 #[.slice ap0 np0 cp0, .slice ap1 np1 cp1] h fun v h' => ∃ (a0 : Option Addr) (n0 c0 : Nat), v = .slice a0 n0 c0 ∧ New Q0 h h' [.slice a0 n0 c0] r := by
 obtain ⟨rfl, lp0⟩ := Sl.len rp0
 obtain ⟨rfl, lp1⟩ := Sl.len rp1
 unfold B5 at hM0
 refine T2 (args := [.slice ap0 p0.length cp0, .slice ap1 p1.length cp1]) (fn := Tryz.f272) rfl ?_
 obtain ⟨x1, gx1, hM0⟩ := j0 hM0
 refine Tr.val (Q01 _ ap0 p0.length cp0 p0 rp0 _  gx1) ?_
 obtain ⟨x2, gx2, hM0⟩ := j0 hM0
 refine Exists.intro (.bool x2) (And.intro (fun q => Q01 _ ap1 p1.length cp1 p1 rp1 _  (G2 gx2 q)) ?_)
 refine And.intro (fun hc3 => ?_) (fun hc3 => ?_)
 ·replace hM0 := ifP hM0 hc3
  intro v4 k5 f6
  obtain ⟨az7, cz7, rfl, rz7, sz7, lz7⟩ := U0.out (r := Wp.int.toRp) f6 (show F2 (Wp.int.R h) ([] : List (List Value)) ([] : D0) from trivial)
  have hE := Option.some.inj hM0; subst hE
  exact ⟨az7, (([] : D0)).length, cz7, rfl, (U0.newPlain (r := Wp.int) f6 (show F2 (Wp.int.R h) ([] : List (List Value)) ([] : D0) from trivial) (h09 _))⟩
 ·replace hM0 := ifN hM0 hc3
  obtain ⟨X8, hLX8, hM0⟩ := j0 hM0
  refine Exists.intro { vars := [27], boxes := [], owns := [0], fuel := true } (Exists.intro (fun vs os h' => ∃ (u9 : Int) (wu10 : List (List Value)) (u10 : List Int), vs.tail = [.int .i64 u9] ∧ os = [wu10] ∧ Sub h h' ∧ M0 u9 ∧ F2 (Wp.int.R h') wu10 u10 ∧ A2 p0 p1 (C1 vs) u9 u10 = some X8) (Exists.intro (fun _ _ => 0) ?_))
  refine And.intro (Exists.intro I0 ⟨0, [], ([] : D0), rfl, rfl, (Sub.refl _), (c64 (by decide) (by decide)), (show F2 (Wp.int.R h) ([] : List (List Value)) ([] : D0) from trivial), hLX8⟩) ?_
  rintro v_0 wu10 m12 k11 ⟨u9, zzu10, u10, evX8, eoX8, sX8, iu9, fu10, hM1⟩
  cases evX8
  cases eoX8
  replace hM1 : A2 p0 p1 m12 u9 u10 = some X8 := hM1
  obtain _ | m12 := m12
  ·cases (show (none : Option _) = some X8 from hM1)
  rw [A2.eq_2] at hM1
  refine And.intro (fun hc13 => ?_) (fun hc13 => ?_)
  ·replace hM1 := ifP hM1 hc13
   obtain ⟨x14, gx14, hM1⟩ := j0 hM1
   obtain ⟨bx14, csx14, ex14, rx14⟩ := Sl.getI (r := Wp.int.toRp) (Q0.mono sX8 rp0) gx14 (by decide)
   refine And.intro bx14 ?_
   obtain ⟨rfl, ix14⟩ := rx14
   refine Exists.intro _ (And.intro ex14 ?_)
   obtain ⟨x15, gx15, hM1⟩ := j0 hM1
   obtain ⟨bx15, csx15, ex15, rx15⟩ := Sl.getI (r := Wp.int.toRp) (Q0.mono sX8 rp1) gx15 (by decide)
   refine And.intro bx15 ?_
   obtain ⟨rfl, ix15⟩ := rx15
   refine Exists.intro _ (And.intro ex15 ?_)
   obtain ⟨q16, gq16, hM1⟩ := j0 hM1
   refine And.intro (E1 gq16 (by first | rw [F2.length fu10, F2.length (show F2 (Wp.int.R k11) ([[.int .i64 x15]] : List (List Value)) [x15] from ⟨⟨rfl, ix15⟩, trivial⟩)] | exact congrArg (· + 1) (F2.length fu10))) ?_
   refine And.intro rfl (And.intro (by repeat (first | exact trivial | refine And.intro rfl ?_)) (And.intro (by repeat (first | exact trivial | refine And.intro rfl ?_)) (Exists.intro m12 (And.intro ⟨(IntKind.i64.wrap (u9 + 1)), (wu10 ++ ([[.int .i64 x15]] : List (List Value))), (u10 ++ [x15]), rfl, rfl, sX8, (H0 _), (F2.append fu10 (show F2 (Wp.int.R k11) ([[.int .i64 x15]] : List (List Value)) [x15] from ⟨⟨rfl, ix15⟩, trivial⟩)), hM1⟩ (Nat.lt_succ_self _)))))
  ·replace hM1 := ifN hM1 hc13
   have hE := Option.some.inj hM1; subst hE
   try dsimp only [K0, N0] at hM0
   intro v17 k18 f19
   obtain ⟨az20, cz20, rfl, rz20, sz20, lz20⟩ := U0.out (r := Wp.int.toRp) f19 fu10
   have hE := Option.some.inj hM0; subst hE
   exact ⟨az20, u10.length, cz20, rfl, (New.from (U0.newPlain (r := Wp.int) f19 fu10 (h09 _)) sX8)⟩
theorem r05 (h : Hp) (csp0 : List Value) (p0 : l0) (rp0 : P0.R h csp0 p0) (r : Z2) (hM0 : J6 p0 = some r) :
  Tr Tryz.prog 198 #[.agg csp0.toArray] h fun v h' => ∃ (a0 : Option Addr) (n0 c0 : Nat), v = .slice a0 n0 c0 ∧ a04.R h' [.slice a0 n0 c0] r ∧ Sub h h' := by
 obtain ⟨aB, aA, aC, aJ, aD, aI, rfl, rfl, aH, aF, aG⟩ := C0 rp0
 obtain ⟨rfl, aK⟩ := Sl.len aG
 unfold J6 at hM0
 dsimp only at hM0
 refine T2 (args := [.agg #[.int .i64 aB, .int .i64 aA, .slice aC aI.length aD]]) (fn := Tryz.f198) rfl ?_
 obtain ⟨x1, gx1, hM0⟩ := j0 hM0
 refine Tr.val (O8 _ [.int .i64 aB, .int .i64 aA, .slice aC aI.length aD] (aB, aA, aI) (z0 aH aF aG) _  gx1) ?_
 refine And.intro (fun hc2 => ?_) (fun hc2 => ?_)
 ·replace hM0 := ifP hM0 hc2
  intro v3 k4 f5
  obtain ⟨az6, cz6, rfl, rz6, sz6, lz6⟩ := U0.out (r := Q0.toRp) f5 (show F2 (Q0.R h) ([] : List (List Value)) ([] : Z2) from trivial)
  have hE := Option.some.inj hM0; subst hE
  exact ⟨az6, (([] : Z2)).length, cz6, rfl, rz6, sz6⟩
 ·replace hM0 := ifN hM0 hc2
  obtain ⟨x7, gx7, hM0⟩ := j0 hM0
  refine Tr.mono (s04 _ [.int .i64 aB, .int .i64 aA, .slice aC aI.length aD] (aB, aA, aI) (z0 aH aF aG) _  gx7) ?_
  rintro v9 k8 ⟨ax7, nx7, cx7, rfl, wx7⟩
  have sx7 : Sub h k8 := wx7.sub
  have rx7 := wx7.r
  obtain ⟨rfl, lx7⟩ := Sl.len rx7
  obtain ⟨x10, gx10, hM0⟩ := j0 hM0
  refine Tr.mono (I02 _ aA aF _  gx10) ?_
  rintro v12 k11 ⟨ax10, nx10, cx10, rfl, wx10⟩
  have sx10 : Sub k8 k11 := wx10.sub
  have rx10 := wx10.r
  obtain ⟨rfl, lx10⟩ := Sl.len rx10
  obtain ⟨q13, gq13, hM0⟩ := j0 hM0
  refine And.intro (E1 gq13 (by first | rw [F2.length (F2.up (r := Q0.toRp) (sx7.trans sx10) (show F2 (Q0.R h) ([] : List (List Value)) ([] : Z2) from trivial)), F2.length (show F2 (Q0.R k11) ([[.slice ax10 x10.length cx10]] : List (List Value)) [x10] from ⟨rx10, trivial⟩)] | exact congrArg (· + 1) (F2.length (F2.up (r := Q0.toRp) (sx7.trans sx10) (show F2 (Q0.R h) ([] : List (List Value)) ([] : Z2) from trivial))))) ?_
  obtain ⟨X14, hLX14, hM0⟩ := j0 hM0
  refine Exists.intro { vars := [5], boxes := [], owns := [0], fuel := true } (Exists.intro (fun vs os h' => ∃ (u15 : Int) (wu16 : List (List Value)) (u16 : List D0), vs.tail = [.int .i64 u15] ∧ os = [wu16] ∧ Sub k11 h' ∧ M0 u15 ∧ F2 (Q0.R h') wu16 u16 ∧ R4 x7 (C1 vs) u15 u16 = some X14) (Exists.intro (fun _ _ => 0) ?_))
  refine And.intro (Exists.intro I0 ⟨0, (([] : List (List Value)) ++ ([[.slice ax10 x10.length cx10]] : List (List Value))), (([] : Z2) ++ [x10]), rfl, rfl, (Sub.refl _), (c64 (by decide) (by decide)), (F2.append (F2.up (r := Q0.toRp) (sx7.trans sx10) (show F2 (Q0.R h) ([] : List (List Value)) ([] : Z2) from trivial)) (show F2 (Q0.R k11) ([[.slice ax10 x10.length cx10]] : List (List Value)) [x10] from ⟨rx10, trivial⟩)), hLX14⟩) ?_
  rintro v_0 wu16 m18 k17 ⟨u15, zzu16, u16, evX14, eoX14, sX14, iu15, fu16, hM1⟩
  cases evX14
  cases eoX14
  replace hM1 : R4 x7 m18 u15 u16 = some X14 := hM1
  obtain _ | m18 := m18
  ·cases (show (none : Option _) = some X14 from hM1)
  rw [R4.eq_2] at hM1
  obtain ⟨m19, gm19, hM1⟩ := j0 hM1
  obtain rfl : wu16.length = m19 := (F2.length fu16).trans (Option.some.inj gm19)
  obtain ⟨q20, gq20, hM1⟩ := j0 hM1
  refine And.intro (fun hc21 => ?_) (fun hc21 => ?_)
  ·replace hM1 := ifP hM1 hc21
   obtain ⟨X22, hLX22, hM1⟩ := j0 hM1
   refine Exists.intro { vars := [33], boxes := [], owns := [0], fuel := true } (Exists.intro (fun vs os h' => ∃ (u23 : Int) (wu24 : List (List Value)) (u24 : List D0), vs.tail = [.int .i64 u23] ∧ os = [wu24] ∧ Sub k17 h' ∧ M0 u23 ∧ F2 (Q0.R h') wu24 u24 ∧ A3 x7 u15 (C1 vs) u23 u24 = some X22) (Exists.intro (fun _ _ => 0) ?_))
   refine And.intro (Exists.intro I0 ⟨0, wu16, u16, rfl, rfl, (Sub.refl _), (c64 (by decide) (by decide)), fu16, hLX22⟩) ?_
   rintro v_0 wu24 m26 k25 ⟨u23, zzu24, u24, evX22, eoX22, sX22, iu23, fu24, hM2⟩
   cases evX22
   cases eoX22
   replace hM2 : A3 x7 u15 m26 u23 u24 = some X22 := hM2
   obtain _ | m26 := m26
   ·cases (show (none : Option _) = some X22 from hM2)
   rw [A3.eq_2] at hM2
   refine And.intro (fun hc27 => ?_) (fun hc27 => ?_)
   ·replace hM2 := ifP hM2 hc27
    obtain ⟨x28, gx28, hM2⟩ := j0 hM2
    obtain ⟨bx28, csx28, ex28, rx28⟩ := Sl.getI (r := Q0.toRp) (a04.mono ((sx10.trans sX14).trans sX22) rx7) gx28 (by decide)
    refine And.intro bx28 ?_
    obtain ⟨ax28, nx28, cx28, rfl⟩ := Wp.slice_cell rx28
    obtain ⟨rfl, lx28⟩ := Sl.len rx28
    refine Exists.intro _ (And.intro ex28 ?_)
    obtain ⟨x29, gx29, hM2⟩ := j0 hM2
    obtain ⟨bx29, csx29, ex29, rx29⟩ := B3 fu24 gx29
    refine And.intro bx29 ?_
    obtain ⟨ax29, nx29, cx29, rfl⟩ := Wp.slice_cell rx29
    obtain ⟨rfl, lx29⟩ := Sl.len rx29
    refine Exists.intro _ (And.intro ex29 ?_)
    obtain ⟨x30, gx30, hM2⟩ := j0 hM2
    refine Tr.mono (J02 _ ax29 x29.length cx29 x29 rx29 ax28 x28.length cx28 x28 rx28 _  gx30) ?_
    rintro v32 k31 ⟨ax30, nx30, cx30, rfl, wx30⟩
    have sx30 : Sub k25 k31 := wx30.sub
    have rx30 := wx30.r
    obtain ⟨rfl, lx30⟩ := Sl.len rx30
    obtain ⟨m33, gm33, hM2⟩ := j0 hM2
    obtain rfl : wu24.length = m33 := (F2.length (F2.up (r := Q0.toRp) sx30 fu24)).trans (Option.some.inj gm33)
    obtain ⟨q34, gq34, hM2⟩ := j0 hM2
    obtain ⟨X35, hLX35, hM2⟩ := j0 hM2
    refine Exists.intro { vars := [9, 45], boxes := [], owns := [], fuel := true } (Exists.intro (fun vs os h' => ∃ (u36 : Bool) (u37 : Int), vs.tail = [.bool u36, .int .i64 u37] ∧ os = [] ∧ Sub k31 h' ∧ M0 u37 ∧ c4 (wu24).length u24 x30 (C1 vs) u36 u37 = some X35) (Exists.intro (fun _ _ => 0) ?_))
    refine And.intro (Exists.intro I0 ⟨false, 0, rfl, rfl, (Sub.refl _), (c64 (by decide) (by decide)), hLX35⟩) ?_
    rintro v_0 v_1 m39 k38 ⟨u36, u37, evX35, eoX35, sX35, iu37, hM3⟩
    cases evX35
    cases eoX35
    replace hM3 : c4 (wu24).length u24 x30 m39 u36 u37 = some X35 := hM3
    obtain _ | m39 := m39
    ·cases (show (none : Option _) = some X35 from hM3)
    rw [c4.eq_2] at hM3
    refine And.intro (fun hc40 => ?_) (fun hc40 => ?_)
    ·replace hM3 := ifP hM3 hc40
     obtain ⟨x41, gx41, hM3⟩ := j0 hM3
     obtain ⟨bx41, csx41, ex41, rx41⟩ := B3 (F2.up (r := Q0.toRp) (sx30.trans sX35) fu24) gx41
     refine And.intro bx41 ?_
     obtain ⟨ax41, nx41, cx41, rfl⟩ := Wp.slice_cell rx41
     obtain ⟨rfl, lx41⟩ := Sl.len rx41
     refine Exists.intro _ (And.intro ex41 ?_)
     obtain ⟨x42, gx42, hM3⟩ := j0 hM3
     refine Exists.intro (.bool x42) (And.intro (fun q => H07 _ ax30 x30.length cx30 x30 (Q0.mono sX35 rx30) ax41 x41.length cx41 x41 rx41 _  (G2 gx42 q)) ?_)
     refine And.intro rfl (And.intro (by repeat (first | exact trivial | refine And.intro rfl ?_)) (And.intro (by repeat (first | exact trivial | refine And.intro rfl ?_)) (Exists.intro m39 (And.intro ⟨(bif u36 then true else x42), (IntKind.i64.wrap (u37 + 1)), rfl, rfl, sX35, (H0 _), hM3⟩ (Nat.lt_succ_self _)))))
    ·replace hM3 := ifN hM3 hc40
     have hE := Option.some.inj hM3; subst hE
     try dsimp only [K0, N0] at hM2
     refine And.intro (fun hc43 => ?_) (fun hc43 => ?_)
     ·replace hM2 := ifP hM2 hc43
      refine And.intro rfl (And.intro (by repeat (first | exact trivial | refine And.intro rfl ?_)) (And.intro (by repeat (first | exact trivial | refine And.intro rfl ?_)) (Exists.intro m26 (And.intro ⟨(IntKind.i64.wrap (u23 + 1)), wu24, u24, rfl, rfl, ((sX22.trans sx30).trans sX35), (H0 _), (F2.up (r := Q0.toRp) (sx30.trans sX35) fu24), hM2⟩ (Nat.lt_succ_self _)))))
     ·replace hM2 := ifN hM2 hc43
      obtain ⟨m44, gm44, hM2⟩ := j0 hM2
      obtain rfl : wu24.length = m44 := (F2.length (F2.up (r := Q0.toRp) (sx30.trans sX35) fu24)).trans (Option.some.inj gm44)
      obtain ⟨q45, gq45, hM2⟩ := j0 hM2
      refine And.intro (fun hc46 => ?_) (fun hc46 => ?_)
      ·replace hM2 := ifP hM2 hc46
       intro v47 k48 f49
       obtain ⟨az50, cz50, rfl, rz50, sz50, lz50⟩ := U0.out (r := Q0.toRp) f49 (show F2 (Q0.R k38) ([] : List (List Value)) ([] : Z2) from trivial)
       have hE := Option.some.inj hM2; subst hE
       try dsimp only [j4, l4] at hM1
       have hE := Option.some.inj hM1; subst hE
       try dsimp only [j4, l4] at hM0
       have hE := Option.some.inj hM0; subst hE
       exact ⟨az50, (([] : Z2)).length, cz50, rfl, rz50, ((((((sx7.trans sx10).trans sX14).trans sX22).trans sx30).trans sX35).trans sz50)⟩
      ·replace hM2 := ifN hM2 hc46
       obtain ⟨q51, gq51, hM2⟩ := j0 hM2
       refine And.intro (E1 gq51 (by first | rw [F2.length (F2.up (r := Q0.toRp) (sx30.trans sX35) fu24), F2.length (show F2 (Q0.R k38) ([[.slice ax30 x30.length cx30]] : List (List Value)) [x30] from ⟨(Q0.mono sX35 rx30), trivial⟩)] | exact congrArg (· + 1) (F2.length (F2.up (r := Q0.toRp) (sx30.trans sX35) fu24)))) ?_
       refine And.intro rfl (And.intro (by repeat (first | exact trivial | refine And.intro rfl ?_)) (And.intro (by repeat (first | exact trivial | refine And.intro rfl ?_)) (Exists.intro m26 (And.intro ⟨(IntKind.i64.wrap (u23 + 1)), (wu24 ++ ([[.slice ax30 x30.length cx30]] : List (List Value))), (u24 ++ [x30]), rfl, rfl, ((sX22.trans sx30).trans sX35), (H0 _), (F2.append (F2.up (r := Q0.toRp) (sx30.trans sX35) fu24) (show F2 (Q0.R k38) ([[.slice ax30 x30.length cx30]] : List (List Value)) [x30] from ⟨(Q0.mono sX35 rx30), trivial⟩)), hM2⟩ (Nat.lt_succ_self _)))))
   ·replace hM2 := ifN hM2 hc27
    have hE := Option.some.inj hM2; subst hE
    try dsimp only [K0, N0] at hM1
    refine And.intro rfl (And.intro (by repeat (first | exact trivial | refine And.intro rfl ?_)) (And.intro (by repeat (first | exact trivial | refine And.intro rfl ?_)) (Exists.intro m18 (And.intro ⟨(IntKind.i64.wrap (u15 + 1)), wu24, u24, rfl, rfl, (sX14.trans sX22), (H0 _), fu24, hM1⟩ (Nat.lt_succ_self _)))))
  ·replace hM1 := ifN hM1 hc21
   have hE := Option.some.inj hM1; subst hE
   try dsimp only [K0, N0] at hM0
   intro v69 k70 f71
   obtain ⟨az72, cz72, rfl, rz72, sz72, lz72⟩ := U0.out (r := Q0.toRp) f71 fu16
   have hE := Option.some.inj hM0; subst hE
   exact ⟨az72, u16.length, cz72, rfl, rz72, (((sx7.trans sx10).trans sX14).trans sz72)⟩
theorem P08 (h : Hp) (csp0 : List Value) (p0 : l0) (rp0 : P0.R h csp0 p0) (r : Int) (hM0 : i9 p0 = some r) :
  Tr Tryz.prog 111 #[.agg csp0.toArray] h fun v h' => v = .int .i64 r ∧ h' = h := by
 obtain ⟨aD, aF, aA, aJ, aB, aI, rfl, rfl, aG, aH, aC⟩ := C0 rp0
 obtain ⟨rfl, aK⟩ := Sl.len aC
 unfold i9 at hM0
 dsimp only at hM0
 refine Tr.forget (T2 (args := [.agg #[.int .i64 aD, .int .i64 aF, .slice aA aI.length aB]]) (fn := Tryz.f111) rfl ?_)
 obtain ⟨x1, gx1, hM0⟩ := j0 hM0
 refine Tr.mono (r05 _ [.int .i64 aD, .int .i64 aF, .slice aA aI.length aB] (aD, aF, aI) (z0 aG aH aC) _  gx1) ?_
 rintro v3 k2 ⟨ax1, nx1, cx1, rfl, rx1, sx1⟩
 obtain ⟨rfl, lx1⟩ := Sl.len rx1
 refine And.intro (fun hc4 => ?_) (fun hc4 => ?_)
 ·replace hM0 := ifP hM0 hc4
  have hE := Option.some.inj hM0; subst hE
  exact And.intro rfl sx1
 ·replace hM0 := ifN hM0 hc4
  have hE := Option.some.inj hM0; subst hE
  exact And.intro rfl sx1
theorem H09 (h : Hp) (ap0 : Option Addr) (np0 cp0 : Nat) (p0 : D8) (rp0 : W02.R h [.slice ap0 np0 cp0] p0) (csp1 : List Value) (p1 : l0) (rp1 : P0.R h csp1 p1) (r : Bool) (hM0 : E9 p0 p1 = some r) :
  Tr Tryz.prog 96 #[.slice ap0 np0 cp0, .agg csp1.toArray] h fun v h' => v = .bool r ∧ h' = h := by
 obtain ⟨rfl, lp0⟩ := Sl.len rp0
 obtain ⟨aA, aB, aC, aR, aD, aH, rfl, rfl, aI, aJ, aF⟩ := C0 rp1
 obtain ⟨rfl, aS⟩ := Sl.len aF
 unfold E9 at hM0
 dsimp only at hM0
 refine Tr.forget (T2 (args := [.slice ap0 p0.length cp0, .agg #[.int .i64 aA, .int .i64 aB, .slice aC aH.length aD]]) (fn := Tryz.f96) rfl ?_)
 obtain ⟨X1, hLX1, hM0⟩ := j0 hM0
 refine Exists.intro { vars := [9], boxes := [], owns := [], fuel := true } (Exists.intro (fun vs os h' => ∃ (u2 : Int), vs.tail = [.int .i64 u2] ∧ os = [] ∧ Sub h h' ∧ M0 u2 ∧ T5 p0 aA aB aH (C1 vs) u2 = some X1) (Exists.intro (fun _ _ => 0) ?_))
 refine And.intro (Exists.intro I0 ⟨0, rfl, rfl, (Sub.refl _), (c64 (by decide) (by decide)), hLX1⟩) ?_
 rintro v_0 m4 k3 ⟨u2, evX1, eoX1, sX1, iu2, hM1⟩
 cases evX1
 cases eoX1
 replace hM1 : T5 p0 aA aB aH m4 u2 = some X1 := hM1
 obtain _ | m4 := m4
 ·cases (show (none : Option _) = some X1 from hM1)
 rw [T5.eq_2] at hM1
 refine And.intro (fun hc5 => ?_) (fun hc5 => ?_)
 ·replace hM1 := ifP hM1 hc5
  obtain ⟨x6, gx6, hM1⟩ := j0 hM1
  obtain ⟨bx6, csx6, ex6, rx6⟩ := Sl.getI (r := P0.toRp) (W02.mono sX1 rp0) gx6 (by decide)
  refine And.intro bx6 ?_
  obtain ⟨aK, aL, aM, aT, aN, aQ, rfl, rfl, aO, aP, aG⟩ := C0 rx6
  obtain ⟨rfl, aU⟩ := Sl.len aG
  try dsimp only at hM1
  refine Exists.intro _ (And.intro ex6 ?_)
  obtain ⟨x7, gx7, hM1⟩ := j0 hM1
  refine Tr.val (H02 _ [.int .i64 aK, .int .i64 aL, .slice aM aQ.length aN] (aK, aL, aQ) (z0 aO aP aG) [.int .i64 aA, .int .i64 aB, .slice aC aH.length aD] (aA, aB, aH) (z0 aI aJ (O0.mono sX1 aF)) _  gx7) ?_
  refine And.intro (fun hc8 => ?_) (fun hc8 => ?_)
  ·replace hM1 := ifP hM1 hc8
   have hE := Option.some.inj hM1; subst hE
   try dsimp only [j4, l4] at hM0
   have hE := Option.some.inj hM0; subst hE
   exact And.intro rfl sX1
  ·replace hM1 := ifN hM1 hc8
   refine And.intro rfl (And.intro (by repeat (first | exact trivial | refine And.intro rfl ?_)) (And.intro (by repeat (first | exact trivial | refine And.intro rfl ?_)) (Exists.intro m4 (And.intro ⟨(IntKind.i64.wrap (u2 + 1)), rfl, rfl, sX1, (H0 _), hM1⟩ (Nat.lt_succ_self _)))))
 ·replace hM1 := ifN hM1 hc5
  have hE := Option.some.inj hM1; subst hE
  try dsimp only [K0, N0] at hM0
  have hE := Option.some.inj hM0; subst hE
  exact And.intro rfl sX1
theorem T05 (h : Hp) (csp0 : List Value) (p0 : l0) (rp0 : P0.R h csp0 p0) (r : D8) (hM0 : Y6 p0 = some r) :
  Tr Tryz.prog 112 #[.agg csp0.toArray] h fun v h' => ∃ (a0 : Option Addr) (n0 c0 : Nat), v = .slice a0 n0 c0 ∧ W02.R h' [.slice a0 n0 c0] r ∧ Sub h h' := by
 obtain ⟨aJ, aK, aL, aW, aM, aO, rfl, rfl, aP, aQ, aN⟩ := C0 rp0
 obtain ⟨rfl, aX⟩ := Sl.len aN
 unfold Y6 at hM0
 dsimp only at hM0
 refine T2 (args := [.agg #[.int .i64 aJ, .int .i64 aK, .slice aL aO.length aM]]) (fn := Tryz.f112) rfl ?_
 obtain ⟨x1, gx1, hM0⟩ := j0 hM0
 refine Tr.val (O8 _ [.int .i64 aJ, .int .i64 aK, .slice aL aO.length aM] (aJ, aK, aO) (z0 aP aQ aN) _  gx1) ?_
 refine And.intro (fun hc2 => ?_) (fun hc2 => ?_)
 ·replace hM0 := ifP hM0 hc2
  intro v3 k4 f5
  obtain ⟨az6, cz6, rfl, rz6, sz6, lz6⟩ := U0.out (r := P0.toRp) f5 (show F2 (P0.R h) ([] : List (List Value)) ([] : D8) from trivial)
  have hE := Option.some.inj hM0; subst hE
  exact ⟨az6, (([] : D8)).length, cz6, rfl, rz6, sz6⟩
 ·replace hM0 := ifN hM0 hc2
  obtain ⟨X7, hLX7, hM0⟩ := j0 hM0
  refine Exists.intro { vars := [4], boxes := [], owns := [0], fuel := true } (Exists.intro (fun vs os h' => ∃ (u8 : Int) (wu9 : List (List Value)) (u9 : List l0), vs.tail = [.int .i64 u8] ∧ os = [wu9] ∧ Sub h h' ∧ M0 u8 ∧ F2 (P0.R h') wu9 u9 ∧ I3 aK aJ aO (C1 vs) u8 u9 = some X7) (Exists.intro (fun _ _ => 0) ?_))
  refine And.intro (Exists.intro I0 ⟨0, [], ([] : D8), rfl, rfl, (Sub.refl _), (c64 (by decide) (by decide)), (show F2 (P0.R h) ([] : List (List Value)) ([] : D8) from trivial), hLX7⟩) ?_
  rintro v_0 wu9 m11 k10 ⟨u8, zzu9, u9, evX7, eoX7, sX7, iu8, fu9, hM1⟩
  cases evX7
  cases eoX7
  replace hM1 : I3 aK aJ aO m11 u8 u9 = some X7 := hM1
  obtain _ | m11 := m11
  ·cases (show (none : Option _) = some X7 from hM1)
  rw [I3.eq_2] at hM1
  refine And.intro (fun hc12 => ?_) (fun hc12 => ?_)
  ·replace hM1 := ifP hM1 hc12
   obtain ⟨x13, gx13, hM1⟩ := j0 hM1
   refine Tr.mono (G09 _ [.int .i64 aJ, .int .i64 aK, .slice aL aO.length aM] (aJ, aK, aO) (z0 aP aQ (O0.mono sX7 aN)) u8 iu8 _  gx13) ?_
   rintro v15 k14 ⟨aV, rfl, aR⟩
   obtain ⟨aY, aZ⟩ := x13
   dsimp only at hM1 aR
   have sx13 : Sub k10 k14 := aR.sub
   have aS := aR.r
   obtain ⟨aA, aB, aC, aT, aD, aG, rfl, rfl, aH, aI, aF⟩ := C0 aS
   obtain ⟨rfl, aU⟩ := Sl.len aF
   try dsimp only at hM1
   refine Or.inr ?_
   intro v16 k17 f18
   obtain ⟨az19, cz19, rfl, rz19, sz19, lz19⟩ := U0.out (r := P0.toRp) f18 (F2.up (r := P0.toRp) sx13 fu9)
   obtain ⟨x20, gx20, hM1⟩ := j0 hM1
   refine Tr.val (H09 _ az19 u9.length cz19 u9 rz19 [.int .i64 aA, .int .i64 aB, .slice aC aG.length aD] (aA, aB, aG) (z0 aH aI (O0.mono sz19 aF)) _  gx20) (And.intro rfl ?_)
   refine And.intro (fun hc21 => ?_) (fun hc21 => ?_)
   ·replace hM1 := ifP hM1 hc21
    obtain ⟨q22, gq22, hM1⟩ := j0 hM1
    refine And.intro (E1 gq22 (by first | rw [F2.length (F2.up (r := P0.toRp) sx13 fu9), F2.length (show F2 (P0.R k14) ([[.int .i64 aA, .int .i64 aB, .slice aC aG.length aD]] : List (List Value)) [(aA, aB, aG)] from ⟨(z0 aH aI aF), trivial⟩)] | exact congrArg (· + 1) (F2.length (F2.up (r := P0.toRp) sx13 fu9)))) ?_
    refine And.intro rfl (And.intro (by repeat (first | exact trivial | refine And.intro rfl ?_)) (And.intro (by repeat (first | exact trivial | refine And.intro rfl ?_)) (Exists.intro m11 (And.intro ⟨(IntKind.i64.wrap (u8 + 1)), (wu9 ++ ([[.int .i64 aA, .int .i64 aB, .slice aC aG.length aD]] : List (List Value))), (u9 ++ [(aA, aB, aG)]), rfl, rfl, (sX7.trans sx13), (H0 _), (F2.append (F2.up (r := P0.toRp) sx13 fu9) (show F2 (P0.R k14) ([[.int .i64 aA, .int .i64 aB, .slice aC aG.length aD]] : List (List Value)) [(aA, aB, aG)] from ⟨(z0 aH aI aF), trivial⟩)), hM1⟩ (Nat.lt_succ_self _)))))
   ·replace hM1 := ifN hM1 hc21
    refine And.intro rfl (And.intro (by repeat (first | exact trivial | refine And.intro rfl ?_)) (And.intro (by repeat (first | exact trivial | refine And.intro rfl ?_)) (Exists.intro m11 (And.intro ⟨(IntKind.i64.wrap (u8 + 1)), wu9, u9, rfl, rfl, (sX7.trans sx13), (H0 _), (F2.up (r := P0.toRp) sx13 fu9), hM1⟩ (Nat.lt_succ_self _)))))
  ·replace hM1 := ifN hM1 hc12
   have hE := Option.some.inj hM1; subst hE
   try dsimp only [K0, N0] at hM0
   intro v23 k24 f25
   obtain ⟨az26, cz26, rfl, rz26, sz26, lz26⟩ := U0.out (r := P0.toRp) f25 fu9
   have hE := Option.some.inj hM0; subst hE
   exact ⟨az26, u9.length, cz26, rfl, rz26, (sX7.trans sz26)⟩
theorem r09 (h : Hp) (ap0 : Option Addr) (np0 cp0 : Nat) (p0 : (List ByteArray)) (rp0 : (Wp.slice Wp.str).R h [.slice ap0 np0 cp0] p0) (r : ByteArray) (hM0 : Q00 p0 = some r) :
  Tr Tryz.prog 109 #[.slice ap0 np0 cp0] h fun v h' => v = .string r ∧ h' = h := by
 obtain ⟨rfl, lp0⟩ := Sl.len rp0
 unfold Q00 at hM0
 refine Tr.forget (T2 (args := [.slice ap0 p0.length cp0]) (fn := Tryz.f109) rfl ?_)
 obtain ⟨x1, gx1, hM0⟩ := j0 hM0
 refine Tr.val (F07 _ ap0 p0.length cp0 p0 rp0 (⟨#[32]⟩ : ByteArray) (by decide) (⟨#[]⟩ : ByteArray) (by decide) _  gx1) ?_
 obtain ⟨q2, gq2, hM0⟩ := j0 hM0
 have ix1 : x1.size ≤ 9223372036854775807 := T0 gq2
 have hE := Option.some.inj hM0; subst hE
 exact And.intro rfl (Sub.refl _)
theorem N07 (h : Hp) (csp0 : List Value) (p0 : l0) (rp0 : P0.R h csp0 p0) (r : ByteArray) (hM0 : M8 p0 = some r) :
  Tr Tryz.prog 48 #[.agg csp0.toArray] h fun v h' => v = .string r ∧ h' = h := by
 obtain ⟨aB, aA, aC, aJ, aD, aI, rfl, rfl, aH, aF, aG⟩ := C0 rp0
 obtain ⟨rfl, aK⟩ := Sl.len aG
 unfold M8 at hM0
 dsimp only at hM0
 refine Tr.forget (T2 (args := [.agg #[.int .i64 aB, .int .i64 aA, .slice aC aI.length aD]]) (fn := Tryz.f48) rfl ?_)
 obtain ⟨x1, gx1, hM0⟩ := j0 hM0
 refine Tr.val (O8 _ [.int .i64 aB, .int .i64 aA, .slice aC aI.length aD] (aB, aA, aI) (z0 aH aF aG) _  gx1) ?_
 refine And.intro (fun hc2 => ?_) (fun hc2 => ?_)
 ·replace hM0 := ifP hM0 hc2
  have hE := Option.some.inj hM0; subst hE
  exact And.intro rfl (Sub.refl _)
 ·replace hM0 := ifN hM0 hc2
  refine Or.inr (Or.inr (Or.inr (Or.inl (And.intro (And.intro (by kernel_rfl) (by kernel_rfl)) ?_))))
  obtain ⟨x3, gx3, hM0⟩ := j0 hM0
  obtain ⟨q4, gq4, hM0⟩ := j0 hM0
  have ix3 : x3.size ≤ 9223372036854775807 := T0 gq4
  refine Or.inl (Exists.intro (.val (.string x3)) (And.intro ?_ ?_))
  ·intro k5 s6
   exact Tr.val (r00 _ aA aF _ gx3) (And.intro rfl (And.intro rfl rfl))
  obtain ⟨x7, gx7, hM0⟩ := j0 hM0
  obtain ⟨q8, gq8, hM0⟩ := j0 hM0
  have ix7 : M0 x7 := T0 gq8
  refine Or.inl (Exists.intro (.val (.int .i64 x7)) (And.intro ?_ ?_))
  ·intro k9 s10
   exact Tr.val (P08 _ [.int .i64 aB, .int .i64 aA, .slice aC aI.length aD] (aB, aA, aI) (z0 aH aF (O0.mono s10 aG)) _ gx7) (And.intro rfl (And.intro rfl rfl))
  obtain ⟨x11, gx11, hM0⟩ := j0 hM0
  obtain ⟨q12, gq12, hM0⟩ := j0 hM0
  have ix11 : x11.size ≤ 9223372036854775807 := T0 gq12
  refine Or.inl (Exists.intro (.val (.string x11)) (And.intro ?_ ?_))
  ·intro k13 s14
   exact Tr.val (r00 _ x7 ix7 _ gx11) (And.intro rfl (And.intro rfl rfl))
  obtain ⟨x15, gx15, hM0⟩ := j0 hM0
  refine Or.inr (Exists.intro (fun v hh => ∃ (a : Option Addr) (c : Nat), v = .slice a x15.length c ∧ W02.R hh [.slice a x15.length c] x15 ∧ x15.length ≤ 9223372036854775807) (And.intro (fun v h1 h2 sb q => by obtain ⟨a, c, e, r, l⟩ := q; exact ⟨a, c, e, W02.mono sb r, l⟩) (And.intro ?_ ?_)))
  ·intro k16 s17
   refine Tr.mono (T05 _ [.int .i64 aB, .int .i64 aA, .slice aC aI.length aD] (aB, aA, aI) (z0 aH aF (O0.mono s17 aG)) _ gx15) ?_
   rintro _ kk ⟨ax15, nx15, cx15, rfl, rx15, sb⟩
   obtain ⟨rfl, lx15⟩ := Sl.len rx15
   exact And.intro g09 (And.intro sb ⟨ax15, cx15, rfl, rx15, lx15⟩)
  obtain ⟨q18, gq18, hM0⟩ := j0 hM0
  refine Or.inl (Exists.intro (.val (.int .i64 ((x15.length : Nat) : Int))) (And.intro ?_ ?_))
  ·intro k19 s20
   rintro _ ⟨az21, cz21, rfl, rz21, lz21⟩
   exact And.intro rfl (And.intro rfl rfl)
  obtain ⟨x22, gx22, hM0⟩ := j0 hM0
  obtain ⟨q23, gq23, hM0⟩ := j0 hM0
  have ix22 : x22.size ≤ 9223372036854775807 := T0 gq23
  refine Or.inl (Exists.intro (.val (.string x22)) (And.intro ?_ ?_))
  ·intro k24 s25
   exact Tr.val (r00 _ ((x15.length : Nat) : Int) (p0h (T0 gq18)) _ gx22) (And.intro rfl (And.intro rfl rfl))
  obtain ⟨x26, gx26, hM0⟩ := j0 hM0
  refine Or.inr (Exists.intro (fun v hh => ∃ (a : Option Addr) (c : Nat), v = .slice a x26.length c ∧ (Wp.slice Wp.str).R hh [.slice a x26.length c] x26 ∧ x26.length ≤ 9223372036854775807) (And.intro (fun v h1 h2 sb q => by obtain ⟨a, c, e, r, l⟩ := q; exact ⟨a, c, e, (Wp.slice Wp.str).mono sb r, l⟩) (And.intro ?_ ?_)))
  ·intro k27 s28
   have ex26 : [(⟨#[112, 111, 105, 110, 116, 115]⟩ : ByteArray), x3, (⟨#[103, 114, 111, 117, 112]⟩ : ByteArray), x11, (⟨#[99, 111, 110, 106, 117, 103, 97, 116, 101, 115]⟩ : ByteArray), x22] = x26 := Option.some.inj gx26
   intro v k hf
   obtain ⟨a, c, rfl, r, sb, l⟩ := U0.out (r := Wp.str.toRp) (xs := x26) hf (show F2 (Wp.str.R k27) [[.string (⟨#[112, 111, 105, 110, 116, 115]⟩ : ByteArray)], [.string x3], [.string (⟨#[103, 114, 111, 117, 112]⟩ : ByteArray)], [.string x11], [.string (⟨#[99, 111, 110, 106, 117, 103, 97, 116, 101, 115]⟩ : ByteArray)], [.string x22]] x26 from ex26 ▸ (show F2 (Wp.str.R k27) [[.string (⟨#[112, 111, 105, 110, 116, 115]⟩ : ByteArray)], [.string x3], [.string (⟨#[103, 114, 111, 117, 112]⟩ : ByteArray)], [.string x11], [.string (⟨#[99, 111, 110, 106, 117, 103, 97, 116, 101, 115]⟩ : ByteArray)], [.string x22]] [(⟨#[112, 111, 105, 110, 116, 115]⟩ : ByteArray), x3, (⟨#[103, 114, 111, 117, 112]⟩ : ByteArray), x11, (⟨#[99, 111, 110, 106, 117, 103, 97, 116, 101, 115]⟩ : ByteArray), x22] from ⟨⟨rfl, (by decide)⟩, ⟨⟨rfl, ix3⟩, ⟨⟨rfl, (by decide)⟩, ⟨⟨rfl, ix11⟩, ⟨⟨rfl, (by decide)⟩, ⟨⟨rfl, ix22⟩, trivial⟩⟩⟩⟩⟩⟩))
   exact And.intro ⟨rfl, rfl, rfl, [_], rfl⟩ (And.intro sb ⟨a, c, rfl, r, l⟩)
  obtain ⟨x29, gx29, hM0⟩ := j0 hM0
  obtain ⟨q30, gq30, hM0⟩ := j0 hM0
  have ix29 : x29.size ≤ 9223372036854775807 := T0 gq30
  refine Or.inl (Exists.intro (.val (.string x29)) (And.intro ?_ ?_))
  ·intro k31 s32
   rintro _ ⟨az33, cz33, rfl, rz33, lz33⟩
   exact Tr.val (r09 _ az33 x26.length cz33 x26 rz33 _ gx29) (And.intro rfl (And.intro rfl rfl))
  intro k34 s35
  rintro _ ⟨az36, cz36, rfl, rz36, lz36⟩
  rintro _ ⟨az37, cz37, rfl, rz37, lz37⟩
  obtain ⟨x38, gx38, hM0⟩ := j0 hM0
  refine Tr.mono (s04 _ [.int .i64 aB, .int .i64 aA, .slice aC aI.length aD] (aB, aA, aI) (z0 aH aF (O0.mono s35 aG)) _  gx38) ?_
  rintro v40 k39 ⟨ax38, nx38, cx38, rfl, wx38⟩
  have sx38 : Sub k34 k39 := wx38.sub
  have rx38 := wx38.r
  obtain ⟨rfl, lx38⟩ := Sl.len rx38
  obtain ⟨X41, hLX41, hM0⟩ := j0 hM0
  refine Exists.intro { vars := [3, 24], boxes := [], owns := [], fuel := true } (Exists.intro (fun vs os h' => ∃ (u42 : ByteArray) (u43 : Int), vs.tail = [.string u42, .int .i64 u43] ∧ os = [] ∧ Sub k39 h' ∧ u42.size ≤ 9223372036854775807 ∧ M0 u43 ∧ Z4 x38 (C1 vs) u42 u43 = some X41) (Exists.intro (fun _ _ => 0) ?_))
  refine And.intro (Exists.intro I0 ⟨x29, 0, rfl, rfl, (Sub.refl _), ix29, (c64 (by decide) (by decide)), hLX41⟩) ?_
  rintro v_0 v_1 m45 k44 ⟨u42, u43, evX41, eoX41, sX41, iu42, iu43, hM1⟩
  cases evX41
  cases eoX41
  replace hM1 : Z4 x38 m45 u42 u43 = some X41 := hM1
  obtain _ | m45 := m45
  ·cases (show (none : Option _) = some X41 from hM1)
  rw [Z4.eq_2] at hM1
  refine And.intro (fun hc46 => ?_) (fun hc46 => ?_)
  ·replace hM1 := ifP hM1 hc46
   obtain ⟨x47, gx47, hM1⟩ := j0 hM1
   obtain ⟨bx47, csx47, ex47, rx47⟩ := Sl.getI (r := Q0.toRp) (a04.mono sX41 rx38) gx47 (by decide)
   refine And.intro bx47 ?_
   obtain ⟨ax47, nx47, cx47, rfl⟩ := Wp.slice_cell rx47
   obtain ⟨rfl, lx47⟩ := Sl.len rx47
   refine Exists.intro _ (And.intro ex47 ?_)
   obtain ⟨x48, gx48, hM1⟩ := j0 hM1
   refine Tr.val (E07 _ (IntKind.i64.wrap (u43 + 1)) (H0 _) _  gx48) ?_
   obtain ⟨q49, gq49, hM1⟩ := j0 hM1
   have ix48 : x48.size ≤ 9223372036854775807 := T0 gq49
   obtain ⟨x50, gx50, hM1⟩ := j0 hM1
   refine Tr.val (l05 _ ax47 x47.length cx47 x47 rx47 _  gx50) ?_
   obtain ⟨q51, gq51, hM1⟩ := j0 hM1
   have ix50 : x50.size ≤ 9223372036854775807 := T0 gq51
   refine Or.inr ?_
   intro v52 k53 f54
   obtain ⟨az55, cz55, rfl, rz55, sz55, lz55⟩ := U0.out (r := Wp.str.toRp) f54 (show F2 (Wp.str.R k44) ([[.string u42], [.string x48], [.string x50]] : List (List Value)) [u42, x48, x50] from ⟨⟨rfl, iu42⟩, ⟨⟨rfl, ix48⟩, ⟨⟨rfl, ix50⟩, trivial⟩⟩⟩)
   obtain ⟨x56, gx56, hM1⟩ := j0 hM1
   refine Tr.val (r09 _ az55 ([u42, x48, x50]).length cz55 [u42, x48, x50] rz55 _  gx56) (And.intro rfl ?_)
   obtain ⟨q57, gq57, hM1⟩ := j0 hM1
   have ix56 : x56.size ≤ 9223372036854775807 := T0 gq57
   refine And.intro rfl (And.intro (by repeat (first | exact trivial | refine And.intro rfl ?_)) (And.intro (by repeat (first | exact trivial | refine And.intro rfl ?_)) (Exists.intro m45 (And.intro ⟨x56, (IntKind.i64.wrap (u43 + 1)), rfl, rfl, sX41, ix56, (H0 _), hM1⟩ (Nat.lt_succ_self _)))))
  ·replace hM1 := ifN hM1 hc46
   have hE := Option.some.inj hM1; subst hE
   try dsimp only [K0, N0] at hM0
   have hE := Option.some.inj hM0; subst hE
   exact And.intro rfl ((s35.trans sx38).trans sX41)
end Go.Proofs.YtknoadmdnjaocaaGreat
