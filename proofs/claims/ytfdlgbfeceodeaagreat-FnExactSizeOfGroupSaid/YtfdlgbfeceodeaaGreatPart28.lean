/- Texts of the claim, joined: The walks of batch g4; The walks of batch h3; The walks of batch h4; The walks of batch i2; The walks of batch i4. -/
import Derived.Test.YtfdlgbfeceodeaaGreatPart18
import Derived.Test.YtfdlgbfeceodeaaGreatChecked
import Derived.Test.YtfdlgbfeceodeaaGreatH35
import Derived.Test.YtfdlgbfeceodeaaGreatPart25
import Derived.Test.YtfdlgbfeceodeaaGreatPart27
import Derived.Test.YtfdlgbfeceodeaaGreatPart21
import Derived.Test.YtfdlgbfeceodeaaGreatH41
import Derived.Test.YtfdlgbfeceodeaaGreatSE
namespace Go.Proofs.YtfdlgbfeceodeaaGreat
open Go.H
set_option linter.unusedVariables false
set_option linter.unusedSimpArgs false
set_option maxRecDepth 10000
theorem K08 (h : Hp) (csp0 : List Value) (p0 : l0) (rp0 : Y0.R h csp0 p0) (r : l0 × O0) (hM0 : O8 p0 = some r) :
  Tr Tryz.prog 137 #[.agg csp0.toArray] h fun v h' => ∃ (cs0 : List Value) (a1 : Option Addr) (n1 c1 : Nat), v = .tuple #[.agg cs0.toArray, .slice a1 n1 c1] ∧ New Y0 h h' cs0 r.1 ∧ I1.R h' [.slice a1 n1 c1] r.2 := by
 obtain ⟨p0_0, p0_1, ap0_2, np0_2, cp0_2, p0_2, rfl, rfl, ip0_0, ip0_1, rp0_2⟩ := B0 rp0
 obtain ⟨rfl, lp0_2⟩ := Sl.len rp0_2
 unfold O8 at hM0
 dsimp only at hM0
 refine U2 (args := [.agg #[.int .i64 p0_0, .int .i64 p0_1, .slice ap0_2 p0_2.length cp0_2]]) (fn := Tryz.f137) rfl ?_
 obtain ⟨x1, gx1, hM0⟩ := j0 hM0
 refine Tr.mono (E3 _ [.int .i64 p0_0, .int .i64 p0_1, .slice ap0_2 p0_2.length cp0_2] (p0_0, p0_1, p0_2) (z0 ip0_0 ip0_1 rp0_2) _  gx1) ?_
 rintro v3 k2 ⟨gx1_2, nx1_2, cx1_2, rfl, wx1⟩
 have sx1 : Sub h k2 := wx1.sub
 have rx1 := wx1.r
 obtain ⟨x1_0, x1_1, x1_2⟩ := x1
 dsimp only at hM0 wx1 rx1
 obtain ⟨_, _, _, _, _, _, ecx1, exx1, ix1_0, ix1_1, rx1_2⟩ := B0 rx1
 cases ecx1
 cases exx1
 obtain ⟨rfl, lx1_2⟩ := Sl.len rx1_2
 try dsimp only at hM0
 have we4 := New.sndI (New.sndI (wx1))
 obtain ⟨x5, gx5, hM0⟩ := j0 hM0
 refine Tr.val (o8 _ [.int .i64 p0_0, .int .i64 p0_1, .slice ap0_2 p0_2.length cp0_2] (p0_0, p0_1, p0_2) (z0 ip0_0 ip0_1 (I0.mono sx1 rp0_2)) _  gx5) ?_
 refine And.intro (fun hc6 => ?_) (fun hc6 => ?_)
 ·replace hM0 := ifP hM0 hc6
  intro v7 k8 f9
  obtain ⟨az10, cz10, rfl, rz10, sz10, lz10⟩ := Z0.out (r := Wp.int.toRp) f9 (show F2 (Wp.int.R k2) ([] : List (List Value)) ([] : O0) from trivial)
  have hE := Option.some.inj hM0; subst hE
  exact ⟨([.int .i64 x1_0, .int .i64 x1_1, .slice (some ⟨gx1_2, 0, none⟩) x1_2.length cx1_2]), az10, (([] : O0)).length, cz10, rfl, (New.pair (New.int ix1_0) (New.pair (New.int ix1_1) (New.mono we4 sz10))), rz10⟩
 ·replace hM0 := ifN hM0 hc6
  obtain ⟨X11, hLX11, hM0⟩ := j0 hM0
  refine Exists.intro { vars := [6], boxes := [], owns := [0], fuel := true } (Exists.intro (fun vs os h' => ∃ (u12 : Int) (wu13 : List (List Value)) (u13 : List Int), vs.tail = [.int .i64 u12] ∧ os = [wu13] ∧ Sub k2 h' ∧ F0 u12 ∧ F2 (Wp.int.R h') wu13 u13 ∧ d5 p0_1 (M1 vs) u12 u13 = some X11) (Exists.intro (fun _ _ => 0) ?_))
  refine And.intro (Exists.intro S0 ⟨0, [], ([] : O0), rfl, rfl, (Sub.refl _), (c64 (by decide) (by decide)), (show F2 (Wp.int.R k2) ([] : List (List Value)) ([] : O0) from trivial), hLX11⟩) ?_
  rintro v_0 wu13 m15 k14 ⟨u12, zzu13, u13, evX11, eoX11, sX11, iu12, fu13, hM1⟩
  cases evX11
  cases eoX11
  replace hM1 : d5 p0_1 m15 u12 u13 = some X11 := hM1
  obtain _ | m15 := m15
  ·cases (show (none : Option _) = some X11 from hM1)
  rw [d5.eq_2] at hM1
  refine And.intro (fun hc16 => ?_) (fun hc16 => ?_)
  ·replace hM1 := ifP hM1 hc16
   obtain ⟨q17, gq17, hM1⟩ := j0 hM1
   refine And.intro (E2 gq17 (by first | rw [F2.length fu13, F2.length (show F2 (Wp.int.R k14) ([[.int .i64 u12]] : List (List Value)) [u12] from ⟨⟨rfl, iu12⟩, trivial⟩)] | exact congrArg (· + 1) (F2.length fu13))) ?_
   refine And.intro rfl (And.intro (by repeat (first | exact trivial | refine And.intro rfl ?_)) (And.intro (by repeat (first | exact trivial | refine And.intro rfl ?_)) (Exists.intro m15 (And.intro ⟨(IntKind.i64.wrap (u12 + 1)), (wu13 ++ ([[.int .i64 u12]] : List (List Value))), (u13 ++ [u12]), rfl, rfl, sX11, (H0 _), (F2.append fu13 (show F2 (Wp.int.R k14) ([[.int .i64 u12]] : List (List Value)) [u12] from ⟨⟨rfl, iu12⟩, trivial⟩)), hM1⟩ (Nat.lt_succ_self _)))))
  ·replace hM1 := ifN hM1 hc16
   have hE := Option.some.inj hM1; subst hE
   try dsimp only [T0, U0] at hM0
   obtain ⟨X22, hLX22, hM0⟩ := j0 hM0
   refine Exists.intro { vars := [5], boxes := [2], owns := [], fuel := true, pubs := [5] } (Exists.intro (fun vs os h' => ∃ (au23 : Option Addr) (nu23 cu23 : Nat) (u23 : O0) (u24 : Int) (u25 : Int) (au26 : Option Addr) (nu26 cu26 : Nat) (u26 : J0), vs.tail = [.slice au23 nu23 cu23, .int .i64 u24, .int .i64 u25, .slice au26 nu26 cu26] ∧ os = [] ∧ Sub h h' ∧ New I1 h h' [.slice au23 nu23 cu23] u23 ∧ F0 u24 ∧ F0 u25 ∧ New I0 h h' [.slice au26 nu26 cu26] u26 ∧ W5 (M1 vs) u23 u24 u25 u26 = some X22) (Exists.intro (fun _ _ => 0) ?_))
   intro v18 k19 f20
   obtain ⟨az21, cz21, rfl, rz21, sz21, lz21⟩ := Z0.out (r := Wp.int.toRp) f20 fu13
   refine And.intro (Exists.intro S0 ⟨az21, u13.length, cz21, u13, x1_0, x1_1, (some ⟨gx1_2, 0, none⟩), x1_2.length, cx1_2, x1_2, rfl, rfl, ((sx1.trans sX11).trans sz21), (New.from (Z0.newPlain (r := Wp.int) f20 fu13 (J0g _)) (sx1.trans sX11)), ix1_0, ix1_1, (New.mono we4 (sX11.trans sz21)), hLX22⟩) ?_
   rintro v_0 v_1 v_2 v_3 m28 k27 ⟨au23, nu23, cu23, u23, u24, u25, au26, nu26, cu26, u26, evX22, eoX22, sX22, wwu23, iu24, iu25, wwu26, hM1⟩
   cases evX22
   cases eoX22
   replace hM1 : W5 m28 u23 u24 u25 u26 = some X22 := hM1
   obtain _ | m28 := m28
   ·cases (show (none : Option _) = some X22 from hM1)
   rw [W5.eq_2] at hM1
   have ru23 := wwu23.r
   obtain ⟨rfl, lu23⟩ := Sl.len ru23
   have ru26 := wwu26.r
   obtain ⟨rfl, lu26⟩ := Sl.len ru26
   obtain ⟨x29, gx29, hM1⟩ := j0 hM1
   refine Tr.mono (F05 _ [.int .i64 u24, .int .i64 u25, .slice au26 u26.length cu26] (u24, u25, u26) (z0 iu24 iu25 ru26) 0 (c64 (by decide) (by decide)) _  gx29) ?_
   rintro v31 k30 ⟨ax29, nx29, cx29, rfl, rx29, sx29⟩
   obtain ⟨rfl, lx29⟩ := Sl.len rx29
   obtain ⟨X32, hLX32, hM1⟩ := j0 hM1
   refine Exists.intro { vars := [8, 9], boxes := [], owns := [], fuel := true } (Exists.intro (fun vs os h' => ∃ (u33 : Int) (u34 : Int), vs.tail = [.int .i64 u33, .int .i64 u34] ∧ os = [] ∧ Sub k30 h' ∧ F0 u33 ∧ F0 u34 ∧ K3 u25 u24 u26 x29 (M1 vs) u33 u34 = some X32) (Exists.intro (fun _ _ => 0) ?_))
   refine And.intro (Exists.intro S0 ⟨0, 1, rfl, rfl, (Sub.refl _), (c64 (by decide) (by decide)), (c64 (by decide) (by decide)), hLX32⟩) ?_
   rintro v_0 v_1 m36 k35 ⟨u33, u34, evX32, eoX32, sX32, iu33, iu34, hM2⟩
   cases evX32
   cases eoX32
   replace hM2 : K3 u25 u24 u26 x29 m36 u33 u34 = some X32 := hM2
   obtain _ | m36 := m36
   ·cases (show (none : Option _) = some X32 from hM2)
   rw [K3.eq_2] at hM2
   refine And.intro (fun hc37 => ?_) (fun hc37 => ?_)
   ·replace hM2 := ifP hM2 hc37
    obtain ⟨x38, gx38, hM2⟩ := j0 hM2
    refine Tr.val (x09 _ [.int .i64 u24, .int .i64 u25, .slice au26 u26.length cu26] (u24, u25, u26) (z0 iu24 iu25 (I0.mono (sx29.trans sX32) ru26)) u34 iu34 _  gx38) ?_
    obtain ⟨q39, gq39, hM2⟩ := j0 hM2
    have ix38 : F0 x38 := G2 gq39
    obtain ⟨x40, gx40, hM2⟩ := j0 hM2
    obtain ⟨csx40, ex40, rx40⟩ := Sl.getG (r := Wp.bool.toRp) ((Wp.slice Wp.bool).mono sX32 rx29) gx40 (by decide) (J0k k35)
    refine And.intro (fun q => (ex40 q).1) ?_
    obtain rfl := rx40
    refine Exists.intro _ (And.intro (fun q => (ex40 q).2) ?_)
    refine And.intro (fun hc41 => ?_) (fun hc41 => ?_)
    ·replace hM2 := ifP hM2 hc41
     refine And.intro rfl (And.intro (by repeat (first | exact trivial | refine And.intro rfl ?_)) (And.intro (by repeat (first | exact trivial | refine And.intro rfl ?_)) (Exists.intro m36 (And.intro ⟨u34, (IntKind.i64.wrap (u34 + 1)), rfl, rfl, sX32, iu34, (H0 _), hM2⟩ (Nat.lt_succ_self _)))))
    ·replace hM2 := ifN hM2 hc41
     refine And.intro rfl (And.intro (by repeat (first | exact trivial | refine And.intro rfl ?_)) (And.intro (by repeat (first | exact trivial | refine And.intro rfl ?_)) (Exists.intro m36 (And.intro ⟨u33, (IntKind.i64.wrap (u34 + 1)), rfl, rfl, sX32, iu33, (H0 _), hM2⟩ (Nat.lt_succ_self _)))))
   ·replace hM2 := ifN hM2 hc37
    have hE := Option.some.inj hM2; subst hE
    try dsimp only [T0, U0] at hM1
    refine And.intro (fun hc42 => ?_) (fun hc42 => ?_)
    ·replace hM1 := ifP hM1 hc42
     have hE := Option.some.inj hM1; subst hE
     try dsimp only [n3, B3] at hM0
     have hE := Option.some.inj hM0; subst hE
     exact ⟨([.int .i64 u24, .int .i64 u25, .slice au26 u26.length cu26]), au23, u23.length, cu23, rfl, (New.pair (New.int iu24) (New.pair (New.int iu25) (New.mono wwu26 (sx29.trans sX32)))), (I1.mono (sx29.trans sX32) ru23)⟩
    ·replace hM1 := ifN hM1 hc42
     obtain ⟨X43, hLX43, hM1⟩ := j0 hM1
     refine Exists.intro { vars := [11], boxes := [], owns := [1], fuel := true } (Exists.intro (fun vs os h' => ∃ (u44 : Int) (wu45 : List (List Value)) (u45 : List Int), vs.tail = [.int .i64 u44] ∧ os = [wu45] ∧ Sub k35 h' ∧ F0 u44 ∧ F2 (Wp.int.R h') wu45 u45 ∧ L4 u25 u33 (M1 vs) u44 u45 = some X43) (Exists.intro (fun _ _ => 0) ?_))
     refine And.intro (Exists.intro S0 ⟨0, [], ([] : O0), rfl, rfl, (Sub.refl _), (c64 (by decide) (by decide)), (show F2 (Wp.int.R k35) ([] : List (List Value)) ([] : O0) from trivial), hLX43⟩) ?_
     rintro v_0 wu45 m47 k46 ⟨u44, zzu45, u45, evX43, eoX43, sX43, iu44, fu45, hM2⟩
     cases evX43
     cases eoX43
     replace hM2 : L4 u25 u33 m47 u44 u45 = some X43 := hM2
     obtain _ | m47 := m47
     ·cases (show (none : Option _) = some X43 from hM2)
     rw [L4.eq_2] at hM2
     refine And.intro (fun hc48 => ?_) (fun hc48 => ?_)
     ·replace hM2 := ifP hM2 hc48
      refine And.intro (fun hc49 => ?_) (fun hc49 => ?_)
      ·replace hM2 := ifP hM2 hc49
       obtain ⟨q50, gq50, hM2⟩ := j0 hM2
       refine And.intro (E2 gq50 (by first | rw [F2.length fu45, F2.length (show F2 (Wp.int.R k46) ([[.int .i64 u44]] : List (List Value)) [u44] from ⟨⟨rfl, iu44⟩, trivial⟩)] | exact congrArg (· + 1) (F2.length fu45))) ?_
       refine And.intro rfl (And.intro (by repeat (first | exact trivial | refine And.intro rfl ?_)) (And.intro (by repeat (first | exact trivial | refine And.intro rfl ?_)) (Exists.intro m47 (And.intro ⟨(IntKind.i64.wrap (u44 + 1)), (wu45 ++ ([[.int .i64 u44]] : List (List Value))), (u45 ++ [u44]), rfl, rfl, sX43, (H0 _), (F2.append fu45 (show F2 (Wp.int.R k46) ([[.int .i64 u44]] : List (List Value)) [u44] from ⟨⟨rfl, iu44⟩, trivial⟩)), hM2⟩ (Nat.lt_succ_self _)))))
      ·replace hM2 := ifN hM2 hc49
       refine And.intro rfl (And.intro (by repeat (first | exact trivial | refine And.intro rfl ?_)) (And.intro (by repeat (first | exact trivial | refine And.intro rfl ?_)) (Exists.intro m47 (And.intro ⟨(IntKind.i64.wrap (u44 + 1)), wu45, u45, rfl, rfl, sX43, (H0 _), fu45, hM2⟩ (Nat.lt_succ_self _)))))
     ·replace hM2 := ifN hM2 hc48
      have hE := Option.some.inj hM2; subst hE
      try dsimp only [T0, U0] at hM1
      refine Or.inl ?_
      intro v51 k52 f53
      obtain ⟨az54, cz54, rfl, rz54, sz54, lz54⟩ := Z0.out (r := Wp.int.toRp) f53 fu45
      obtain ⟨x55, gx55, hM1⟩ := j0 hM1
      refine Tr.mono (k09 _ [.int .i64 u24, .int .i64 u25, .slice au26 u26.length cu26] (u24, u25, u26) (z0 iu24 iu25 (I0.mono (((sx29.trans sX32).trans sX43).trans sz54) ru26)) az54 u45.length cz54 u45 rz54 _  gx55) ?_
      rintro v57 k56 ⟨csx55, rfl, wx55⟩
      have sx55 : Sub k52 k56 := wx55.sub
      have rx55 := wx55.r
      obtain ⟨x55_0, x55_1, ax55_2, nx55_2, cx55_2, x55_2, rfl, rfl, ix55_0, ix55_1, rx55_2⟩ := B0 rx55
      obtain ⟨rfl, lx55_2⟩ := Sl.len rx55_2
      try dsimp only at hM1
      have we58 := New.sndI (New.sndI (wx55))
      obtain ⟨x61, gx61, hM1⟩ := j0 hM1
      obtain ⟨x62, gx62, hM1⟩ := j0 hM1
      obtain ⟨q63, gq63, hM1⟩ := j0 hM1
      obtain ⟨qaz64, baz64, eaz64, gz64, oz64, Az64, Cz64, usz64, vsz64, eqz64, qbz64, bbz64, lcz64, mcz64, rxz64, sxz64, luz64, lvz64, apz64⟩ := New.drop wwu23 ((((sx29.trans sX32).trans sX43).trans sz54).trans sx55) gx61 gx62 (V0k lu23 gx61 gx62)
      subst eqz64
      refine Or.inr (Or.inr (Or.inl (And.intro (And.intro (by kernel_rfl) (by kernel_rfl)) ?_)))
      refine Or.inl (Exists.intro (.val (.slice (some ⟨gz64, oz64, none⟩) x61.length cu23)) (And.intro ?_ ?_))
      ·intro hh sb
       obtain ⟨vs, e⟩ := eaz64 hh sb
       exact And.intro baz64 (Exists.intro vs (And.intro e (fun v _ hv => And.intro (congrArg AV.val (qaz64 v hv)) (And.intro rfl rfl))))
      refine Or.inl (Exists.intro (.val (.int .i64 (IntKind.i64.wrap (u33 + 1)))) (And.intro ?_ ?_))
      ·intro k59 s60
       exact And.intro rfl (And.intro rfl rfl)
      refine Or.inl (Exists.intro (.val (.slice Az64 x62.length Cz64)) (And.intro ?_ ?_))
      ·intro hh sb
       obtain ⟨vs, e⟩ := eaz64 hh sb
       exact And.intro bbz64 (Exists.intro vs (And.intro e (fun v _ hv => And.intro (congrArg AV.val (qbz64 v hv)) (And.intro rfl rfl))))
      refine Or.inr ?_
      refine Exists.intro 0 (And.intro (And.intro rfl rfl) ?_)
      refine Exists.intro vsz64 (And.intro sxz64 (Exists.intro usz64 (And.intro rxz64 (And.intro (E2 gq63 (by rw [luz64, lvz64])) ?_))))
      intro vz64 kz64 happz64
      obtain ⟨wz64, ⟨az64, nz64, cz64, rfl⟩, kpz64⟩ := apz64 _ _ happz64
      have rz64 := wz64.r
      obtain ⟨ez64, lz64⟩ := Sl.len rz64
      subst ez64
      refine And.intro trivial (And.intro (by first | exact trivial | exact rfl) ?_)
      have wy65 := kpz64 Q0.slice _ _ _ we58 (((sx29.trans sX32).trans sX43).trans sz54)
      refine And.intro rfl (And.intro (by repeat (first | exact trivial | refine And.intro rfl ?_)) (And.intro (by repeat (first | exact trivial | refine And.intro rfl ?_)) (Exists.intro m28 (And.intro ⟨az64, (x61 ++ x62).length, cz64, (x61 ++ x62), x55_0, x55_1, ax55_2, x55_2.length, cx55_2, x55_2, rfl, rfl, wz64.sub, wz64, ix55_0, ix55_1, wy65, hM1⟩ (Nat.lt_succ_self _)))))
end Go.Proofs.YtfdlgbfeceodeaaGreat
namespace Go.Proofs.YtfdlgbfeceodeaaGreat
open Go.H
set_option linter.unusedVariables false
set_option linter.unusedSimpArgs false
set_option maxRecDepth 10000
theorem j05 (h : Hp) (p0 : Int) (ip0 : F0 p0) (p1 : Int) (ip1 : F0 p1) (p2 : Int) (ip2 : F0 p2) (r : D0) (hM0 : d00 p0 p1 p2 = some r) :
  Tr Tryz.prog 103 #[.int .i64 p0, .int .i64 p1, .int .i64 p2] h fun v h' => ∃ (cs0 : List Value), v = .agg cs0.toArray ∧ Q0.R h' cs0 r ∧ Sub h h' := by
 unfold d00 at hM0
 refine U2 (args := [.int .i64 p0, .int .i64 p1, .int .i64 p2]) (fn := Tryz.f103) rfl ?_
 refine And.intro (fun hc1 => ?_) (fun hc1 => ?_)
 ·replace hM0 := ifP hM0 hc1
  have hE := Option.some.inj hM0; subst hE
  exact ⟨([.int .i64 p2, .int .i64 (IntKind.i64.wrap (0 - p1)), .int .i64 p0]), rfl, (V0 ip2 (H0 _) ip0), (Sub.refl _)⟩
 ·replace hM0 := ifN hM0 hc1
  have hE := Option.some.inj hM0; subst hE
  exact ⟨([.int .i64 p0, .int .i64 p1, .int .i64 p2]), rfl, (V0 ip0 ip1 ip2), (Sub.refl _)⟩
theorem p00 (h : Hp) (ap0 : Option Addr) (np0 cp0 : Nat) (p0 : J0) (rp0 : I0.R h [.slice ap0 np0 cp0] p0) (csp1 : List Value) (p1 : D0) (rp1 : Q0.R h csp1 p1) (r : Int) (hM0 : Z3 p0 p1 = some r) :
  Tr Tryz.prog 210 #[.slice ap0 np0 cp0, .agg csp1.toArray] h fun v h' => v = .int .i64 r ∧ h' = h := by
 obtain ⟨rfl, lp0⟩ := Sl.len rp0
 obtain ⟨p1_0, p1_1, p1_2, rfl, rfl, ip1_0, ip1_1, ip1_2⟩ := j1 rp1
 unfold Z3 at hM0
 dsimp only at hM0
 refine Tr.forget (U2 (args := [.slice ap0 p0.length cp0, .agg #[.int .i64 p1_0, .int .i64 p1_1, .int .i64 p1_2]]) (fn := Tryz.f210) rfl ?_)
 obtain ⟨X1, hLX1, hM0⟩ := j0 hM0
 refine Exists.intro { vars := [8], boxes := [], owns := [], fuel := true } (Exists.intro (fun vs os h' => ∃ (u2 : Int), vs.tail = [.int .i64 u2] ∧ os = [] ∧ Sub h h' ∧ F0 u2 ∧ C1 p0 p1_0 p1_1 p1_2 (M1 vs) u2 = some X1) (Exists.intro (fun _ _ => 0) ?_))
 refine And.intro (Exists.intro S0 ⟨0, rfl, rfl, (Sub.refl _), (c64 (by decide) (by decide)), hLX1⟩) ?_
 rintro v_0 m4 k3 ⟨u2, evX1, eoX1, sX1, iu2, hM1⟩
 cases evX1
 cases eoX1
 replace hM1 : C1 p0 p1_0 p1_1 p1_2 m4 u2 = some X1 := hM1
 obtain _ | m4 := m4
 ·cases (show (none : Option _) = some X1 from hM1)
 rw [C1.eq_2] at hM1
 refine And.intro (fun hc5 => ?_) (fun hc5 => ?_)
 ·replace hM1 := ifP hM1 hc5
  refine Or.inl (And.intro (And.intro (by kernel_rfl) (by kernel_rfl)) ?_)
  obtain ⟨x6, gx6, hM1⟩ := j0 hM1
  obtain ⟨bx6, csx6, ex6, rx6⟩ := Sl.getI (r := Q0.toRp) (I0.mono sX1 rp0) gx6 (by decide)
  refine And.intro bx6 ?_
  obtain ⟨x6_0, x6_1, x6_2, rfl, rfl, ix6_0, ix6_1, ix6_2⟩ := j1 rx6
  try dsimp only at hM1
  refine Exists.intro _ (And.intro ex6 ?_)
  refine Exists.intro (eqE (p1_0, p1_1, p1_2) (x6_0, x6_1, x6_2)) (And.intro (i0h _ _ _ rfl _ _ _ _ _ _) ?_)
  refine And.intro (fun hc7 => ?_) (fun hc7 => ?_)
  ·replace hM1 := ifP hM1 hc7
   have hE := Option.some.inj hM1; subst hE
   try dsimp only [n3, B3] at hM0
   have hE := Option.some.inj hM0; subst hE
   exact And.intro rfl sX1
  ·replace hM1 := ifN hM1 hc7
   refine And.intro rfl (And.intro (by repeat (first | exact trivial | refine And.intro rfl ?_)) (And.intro (by repeat (first | exact trivial | refine And.intro rfl ?_)) (Exists.intro m4 (And.intro ⟨(IntKind.i64.wrap (u2 + 1)), rfl, rfl, sX1, (H0 _), hM1⟩ (Nat.lt_succ_self _)))))
 ·replace hM1 := ifN hM1 hc5
  have hE := Option.some.inj hM1; subst hE
  try dsimp only [T0, U0] at hM0
  have hE := Option.some.inj hM0; subst hE
  exact And.intro rfl sX1
theorem L9 (h : Hp) (ap0 : Option Addr) (np0 cp0 : Nat) (p0 : J0) (rp0 : I0.R h [.slice ap0 np0 cp0] p0) (csp1 : List Value) (p1 : D0) (rp1 : Q0.R h csp1 p1) (r : Bool) (hM0 : M2 p0 p1 = some r) :
  Tr Tryz.prog 159 #[.slice ap0 np0 cp0, .agg csp1.toArray] h fun v h' => v = .bool r ∧ h' = h := by
 obtain ⟨rfl, lp0⟩ := Sl.len rp0
 obtain ⟨p1_0, p1_1, p1_2, rfl, rfl, ip1_0, ip1_1, ip1_2⟩ := j1 rp1
 unfold M2 at hM0
 dsimp only at hM0
 refine Tr.forget (U2 (args := [.slice ap0 p0.length cp0, .agg #[.int .i64 p1_0, .int .i64 p1_1, .int .i64 p1_2]]) (fn := Tryz.f159) rfl ?_)
 obtain ⟨x1, gx1, hM0⟩ := j0 hM0
 refine Tr.val (p00 _ ap0 p0.length cp0 p0 rp0 [.int .i64 p1_0, .int .i64 p1_1, .int .i64 p1_2] (p1_0, p1_1, p1_2) (V0 ip1_0 ip1_1 ip1_2) _  gx1) ?_
 obtain ⟨q2, gq2, hM0⟩ := j0 hM0
 have ix1 : F0 x1 := G2 gq2
 have hE := Option.some.inj hM0; subst hE
 exact And.intro rfl (Sub.refl _)
theorem W00 (h : Hp) (p0 : Int) (ip0 : F0 p0) (bp1 : Nat) (typ1 : TypeId) (p1_0 : Int) (ip1_0 : F0 p1_0) (p1_1 : Int) (ip1_1 : F0 p1_1) (hbp1 : h bp1 = some (.cells #[.int .i64 p1_0, .int .i64 p1_1] typ1 (0, 0))) (r : Int) (hM0 : p5 p0 (p1_0, p1_1) = some r) :
  Tr Tryz.prog 227 #[.int .i64 p0, ptr bp1 0] h fun v h' => v = .int .i64 r ∧ h' = h := by
 unfold p5 at hM0
 dsimp only at hM0
 refine Tr.forget (U2 (args := [.int .i64 p0, ptr bp1 0]) (fn := Tryz.f227) rfl ?_)
 refine Exists.intro (.int .i64 p1_1) (And.intro ⟨rfl, by simp [Hp.cell, (hbp1)]⟩ ?_)
 refine And.intro (fun hc1 => ?_) (fun hc1 => ?_)
 ·replace hM0 := ifP hM0 hc1
  refine Exists.intro (.int .i64 p1_0) (And.intro ⟨rfl, by simp [Hp.cell, (hbp1)]⟩ ?_)
  have hE := Option.some.inj hM0; subst hE
  exact And.intro rfl (Sub.refl _)
 ·replace hM0 := ifN hM0 hc1
  refine Exists.intro (.int .i64 p1_1) (And.intro ⟨rfl, by simp [Hp.cell, (hbp1)]⟩ ?_)
  refine And.intro (fun hc2 => ?_) (fun hc2 => ?_)
  ·replace hM0 := ifP hM0 hc2
   have hE := Option.some.inj hM0; subst hE
   exact And.intro rfl (Sub.refl _)
  ·replace hM0 := ifN hM0 hc2
   have hE := Option.some.inj hM0; subst hE
   exact And.intro rfl (Sub.refl _)
theorem k05 (h : Hp) (csp0 : List Value) (p0 : l0) (rp0 : Y0.R h csp0 p0) (p1 : Int) (ip1 : F0 p1) (ap2 : Option Addr) (np2 cp2 : Nat) (p2 : O0) (rp2 : I1.R h [.slice ap2 np2 cp2] p2) (p3 : Int) (ip3 : F0 p3) (r : l0 × Bool) (hM0 : g8 p0 p1 p2 p3 = some r) :
  Tr Tryz.prog 98 #[.agg csp0.toArray, .int .i64 p1, .slice ap2 np2 cp2, .int .i64 p3] h fun v h' => ∃ (cs0 : List Value), v = .tuple #[.agg cs0.toArray, .bool r.2] ∧ New Y0 h h' cs0 r.1 := by
 obtain ⟨p0_0, p0_1, ap0_2, np0_2, cp0_2, p0_2, rfl, rfl, ip0_0, ip0_1, rp0_2⟩ := B0 rp0
 obtain ⟨rfl, lp0_2⟩ := Sl.len rp0_2
 obtain ⟨rfl, lp2⟩ := Sl.len rp2
 unfold g8 at hM0
 dsimp only at hM0
 refine U2 (args := [.agg #[.int .i64 p0_0, .int .i64 p0_1, .slice ap0_2 p0_2.length cp0_2], .int .i64 p1, .slice ap2 p2.length cp2, .int .i64 p3]) (fn := Tryz.f98) rfl ?_
 obtain ⟨x1, gx1, hM0⟩ := j0 hM0
 refine Tr.mono (E3 _ [.int .i64 p0_0, .int .i64 p0_1, .slice ap0_2 p0_2.length cp0_2] (p0_0, p0_1, p0_2) (z0 ip0_0 ip0_1 rp0_2) _  gx1) ?_
 rintro v3 k2 ⟨gx1_2, nx1_2, cx1_2, rfl, wx1⟩
 have sx1 : Sub h k2 := wx1.sub
 have rx1 := wx1.r
 obtain ⟨x1_0, x1_1, x1_2⟩ := x1
 dsimp only at hM0 wx1 rx1
 obtain ⟨_, _, _, _, _, _, ecx1, exx1, ix1_0, ix1_1, rx1_2⟩ := B0 rx1
 cases ecx1
 cases exx1
 obtain ⟨rfl, lx1_2⟩ := Sl.len rx1_2
 try dsimp only at hM0
 have we4 := New.sndI (New.sndI (wx1))
 obtain ⟨x5, gx5, hM0⟩ := j0 hM0
 refine Tr.val (o8 _ [.int .i64 p0_0, .int .i64 p0_1, .slice ap0_2 p0_2.length cp0_2] (p0_0, p0_1, p0_2) (z0 ip0_0 ip0_1 (I0.mono sx1 rp0_2)) _  gx5) ?_
 obtain ⟨x6, gx6, hM0⟩ := j0 hM0
 refine Exists.intro (.bool x6) (And.intro (fun q => n00 _ [.int .i64 p0_0, .int .i64 p0_1, .slice ap0_2 p0_2.length cp0_2] (p0_0, p0_1, p0_2) (z0 ip0_0 ip0_1 (I0.mono sx1 rp0_2)) p1 ip1 _  (I2 gx6 q)) ?_)
 obtain ⟨x7, gx7, hM0⟩ := j0 hM0
 refine Exists.intro (.bool x7) (And.intro (fun q => n00 _ [.int .i64 p0_0, .int .i64 p0_1, .slice ap0_2 p0_2.length cp0_2] (p0_0, p0_1, p0_2) (z0 ip0_0 ip0_1 (I0.mono sx1 rp0_2)) p3 ip3 _  (I2 gx7 q)) ?_)
 obtain ⟨x8, gx8, hM0⟩ := j0 hM0
 refine Exists.intro (.bool x8) (And.intro (fun q => Y05 _ p0_0 ip0_0 ap2 p2.length cp2 p2 (I1.mono sx1 rp2) _  (I2 gx8 q)) ?_)
 refine And.intro (fun hc9 => ?_) (fun hc9 => ?_)
 ·replace hM0 := ifP hM0 hc9
  have hE := Option.some.inj hM0; subst hE
  exact ⟨([.int .i64 x1_0, .int .i64 x1_1, .slice (some ⟨gx1_2, 0, none⟩) x1_2.length cx1_2]), rfl, (New.pair (New.int ix1_0) (New.pair (New.int ix1_1) we4))⟩
 ·replace hM0 := ifN hM0 hc9
  obtain ⟨X10, hLX10, hM0⟩ := j0 hM0
  refine Exists.intro { vars := [11, 66], boxes := [2], owns := [], fuel := true } (Exists.intro (fun vs os h' => ∃ (u11 : Int) (u12 : Int) (u13 : Int) (u14 : Int) (gau15 oau15 nu15 cu15 : Nat) (u15 : J0), vs.tail = [.int .i64 u11, .int .i64 u12, .int .i64 u13, .int .i64 u14, .slice (some ⟨gau15, oau15, none⟩) nu15 cu15] ∧ os = [] ∧ Sub h h' ∧ F0 u11 ∧ F0 u12 ∧ F0 u13 ∧ F0 u14 ∧ New I0 h h' [.slice (some ⟨gau15, oau15, none⟩) nu15 cu15] u15 ∧ s5 p2 p3 (M1 vs) u11 u12 u13 u14 u15 = some X10) (Exists.intro (fun _ _ => 0) ?_))
  refine And.intro (Exists.intro S0 ⟨p1, 0, x1_0, x1_1, gx1_2, 0, x1_2.length, cx1_2, x1_2, rfl, rfl, sx1, ip1, (c64 (by decide) (by decide)), ix1_0, ix1_1, we4, hLX10⟩) ?_
  rintro v_0 v_1 v_2 v_3 v_4 m17 k16 ⟨u11, u12, u13, u14, gau15, oau15, nu15, cu15, u15, evX10, eoX10, sX10, iu11, iu12, iu13, iu14, wwu15, hM1⟩
  cases evX10
  cases eoX10
  replace hM1 : s5 p2 p3 m17 u11 u12 u13 u14 u15 = some X10 := hM1
  obtain _ | m17 := m17
  ·cases (show (none : Option _) = some X10 from hM1)
  rw [s5.eq_2] at hM1
  have ru15 := wwu15.r
  obtain ⟨rfl, lu15⟩ := Sl.len ru15
  refine And.intro (fun hc18 => ?_) (fun hc18 => ?_)
  ·replace hM1 := ifP hM1 hc18
   obtain ⟨x19, gx19, hM1⟩ := j0 hM1
   obtain ⟨bx19, csx19, ex19, rx19⟩ := Sl.getI (r := Wp.int.toRp) (I1.mono sX10 rp2) gx19 (by decide)
   refine And.intro bx19 ?_
   obtain ⟨rfl, ix19⟩ := rx19
   refine Exists.intro _ (And.intro ex19 ?_)
   refine And.intro (fun hc20 => ?_) (fun hc20 => ?_)
   ·replace hM1 := ifP hM1 hc20
    refine Or.inr (Or.inr (Or.inl (And.intro (And.intro (by kernel_rfl) (by kernel_rfl)) ?_)))
    refine Or.inr ?_
    refine Or.inr ?_
    refine Or.inr ?_
    refine Or.inr ?_
    refine Exists.intro 1 (And.intro (And.intro rfl rfl) ?_)
    obtain ⟨x21, gx21, hM1⟩ := j0 hM1
    refine Tr.mono (j05 _ u11 iu11 x19 ix19 u14 iu14 _  gx21) ?_
    rintro v23 k22 ⟨csx21, rfl, rx21, sx21⟩
    obtain ⟨x21_0, x21_1, x21_2, rfl, rfl, ix21_0, ix21_1, ix21_2⟩ := j1 rx21
    try dsimp only at hM1
    refine And.intro (And.intro rfl sx21) (And.intro (by first | exact trivial | exact rfl) ?_)
    refine And.intro trivial (And.intro (by first | exact trivial | exact rfl) ?_)
    obtain ⟨q24, gq24, hM1⟩ := j0 hM1
    obtain ⟨vsz25, rxz25, lnz25, apz25⟩ := New.app wwu15 sx21
    refine Exists.intro vsz25 (And.intro rxz25 (And.intro (E2 gq24 (by first | rw [lnz25, F2.length (show F2 (Q0.R k22) ([[.int .i64 x21_0, .int .i64 x21_1, .int .i64 x21_2]] : List (List Value)) [(x21_0, x21_1, x21_2)] from ⟨(V0 ix21_0 ix21_1 ix21_2), trivial⟩)] | (rw [lnz25]; rfl))) ?_))
    intro vz25 kz25 happz25
    obtain ⟨wz25, gz25, oz25, nz25, cz25, rfl⟩ := apz25 _ _ _ _ _ (F3.ofPlain (F08 _) (show F2 (Q0.R k22) ([[.int .i64 x21_0, .int .i64 x21_1, .int .i64 x21_2]] : List (List Value)) [(x21_0, x21_1, x21_2)] from ⟨(V0 ix21_0 ix21_1 ix21_2), trivial⟩)) g7.ofPlain happz25
    have rz25 := wz25.r
    obtain ⟨ez25, lz25⟩ := Sl.len rz25
    subst ez25
    refine And.intro trivial (And.intro (by first | exact trivial | exact rfl) ?_)
    refine And.intro trivial (And.intro (by first | exact trivial | exact rfl) ?_)
    refine And.intro rfl (And.intro (by repeat (first | exact trivial | refine And.intro rfl ?_)) (And.intro (by repeat (first | exact trivial | refine And.intro rfl ?_)) (Exists.intro m17 (And.intro ⟨u14, (IntKind.i64.wrap (u12 + 1)), u13, (IntKind.i64.wrap (u14 + 1)), gz25, oz25, (u15 ++ [(x21_0, x21_1, x21_2)]).length, cz25, (u15 ++ [(x21_0, x21_1, x21_2)]), rfl, rfl, wz25.sub, iu14, (H0 _), iu13, (H0 _), wz25, hM1⟩ (Nat.lt_succ_self _)))))
   ·replace hM1 := ifN hM1 hc20
    refine Or.inr (Or.inr (Or.inl (And.intro (And.intro (by kernel_rfl) (by kernel_rfl)) ?_)))
    refine Or.inr ?_
    refine Or.inr ?_
    refine Or.inr ?_
    refine Or.inr ?_
    refine Exists.intro 1 (And.intro (And.intro rfl rfl) ?_)
    obtain ⟨x26, gx26, hM1⟩ := j0 hM1
    refine Tr.mono (j05 _ u11 iu11 x19 ix19 p3 ip3 _  gx26) ?_
    rintro v28 k27 ⟨csx26, rfl, rx26, sx26⟩
    obtain ⟨x26_0, x26_1, x26_2, rfl, rfl, ix26_0, ix26_1, ix26_2⟩ := j1 rx26
    try dsimp only at hM1
    refine And.intro (And.intro rfl sx26) (And.intro (by first | exact trivial | exact rfl) ?_)
    refine And.intro trivial (And.intro (by first | exact trivial | exact rfl) ?_)
    obtain ⟨q29, gq29, hM1⟩ := j0 hM1
    obtain ⟨vsz30, rxz30, lnz30, apz30⟩ := New.app wwu15 sx26
    refine Exists.intro vsz30 (And.intro rxz30 (And.intro (E2 gq29 (by first | rw [lnz30, F2.length (show F2 (Q0.R k27) ([[.int .i64 x26_0, .int .i64 x26_1, .int .i64 x26_2]] : List (List Value)) [(x26_0, x26_1, x26_2)] from ⟨(V0 ix26_0 ix26_1 ix26_2), trivial⟩)] | (rw [lnz30]; rfl))) ?_))
    intro vz30 kz30 happz30
    obtain ⟨wz30, gz30, oz30, nz30, cz30, rfl⟩ := apz30 _ _ _ _ _ (F3.ofPlain (F08 _) (show F2 (Q0.R k27) ([[.int .i64 x26_0, .int .i64 x26_1, .int .i64 x26_2]] : List (List Value)) [(x26_0, x26_1, x26_2)] from ⟨(V0 ix26_0 ix26_1 ix26_2), trivial⟩)) g7.ofPlain happz30
    have rz30 := wz30.r
    obtain ⟨ez30, lz30⟩ := Sl.len rz30
    subst ez30
    refine And.intro trivial (And.intro (by first | exact trivial | exact rfl) ?_)
    refine And.intro trivial (And.intro (by first | exact trivial | exact rfl) ?_)
    refine And.intro rfl (And.intro (by repeat (first | exact trivial | refine And.intro rfl ?_)) (And.intro (by repeat (first | exact trivial | refine And.intro rfl ?_)) (Exists.intro m17 (And.intro ⟨p3, (IntKind.i64.wrap (u12 + 1)), u13, u14, gz30, oz30, (u15 ++ [(x26_0, x26_1, x26_2)]).length, cz30, (u15 ++ [(x26_0, x26_1, x26_2)]), rfl, rfl, wz30.sub, ip3, (H0 _), iu13, iu14, wz30, hM1⟩ (Nat.lt_succ_self _)))))
  ·replace hM1 := ifN hM1 hc18
   have hE := Option.some.inj hM1; subst hE
   try dsimp only [T0, U0] at hM0
   obtain ⟨x31, gx31, hM0⟩ := j0 hM0
   refine Tr.mono (t01 _ (some ⟨gau15, oau15, none⟩) u15.length cu15 u15 ru15 _  gx31) ?_
   rintro v33 k32 ⟨ax31, nx31, cx31, rfl, wx31⟩
   have sx31 : Sub k16 k32 := wx31.sub
   have rx31 := wx31.r
   obtain ⟨rfl, lx31⟩ := Sl.len rx31
   have hE := Option.some.inj hM0; subst hE
   exact ⟨([.int .i64 u13, .int .i64 u14, .slice ax31 x31.length cx31]), rfl, (New.pair (New.int iu13) (New.pair (New.int iu14) (New.from wx31 sX10)))⟩
theorem z09 (h : Hp) (p0 : Int) (ip0 : F0 p0) (r : l0 × Bool) (hM0 : p9 p0 = some r) :
  Tr Tryz.prog 190 #[.int .i64 p0] h fun v h' => ∃ (cs0 : List Value), v = .tuple #[.agg cs0.toArray, .bool r.2] ∧ New Y0 h h' cs0 r.1 := by
 unfold p9 at hM0
 refine U2 (args := [.int .i64 p0]) (fn := Tryz.f190) rfl ?_
 obtain ⟨x1, gx1, hM0⟩ := j0 hM0
 refine Tr.val (O7 _ p0 ip0 1 (c64 (by decide) (by decide)) 3 (c64 (by decide) (by decide)) _  gx1) ?_
 refine And.intro (fun hc2 => ?_) (fun hc2 => ?_)
 ·replace hM0 := ifP hM0 hc2
  have hE := Option.some.inj hM0; subst hE
  exact ⟨([.int .i64 0, .int .i64 0, .slice none 0 0]), rfl, (New.pair (New.int (c64 (by decide) (by decide))) (New.pair (New.int (c64 (by decide) (by decide))) ((New.nilSlice (r := Q0)).mono (Sub.refl _))))⟩
 ·replace hM0 := ifN hM0 hc2
  have hE := Option.some.inj hM0; subst hE
  exact ⟨([.int .i64 p0, .int .i64 1, .slice none 0 0]), rfl, (New.pair (New.int ip0) (New.pair (New.int (c64 (by decide) (by decide))) ((New.nilSlice (r := Q0)).mono (Sub.refl _))))⟩
theorem A09 (h : Hp) (csp0 : List Value) (p0 : l0) (rp0 : Y0.R h csp0 p0) (ap1 : Option Addr) (np1 cp1 : Nat) (p1 : O0) (rp1 : I1.R h [.slice ap1 np1 cp1] p1) (r : l0 × Bool) (hM0 : r9 p0 p1 = some r) :
  Tr Tryz.prog 191 #[.agg csp0.toArray, .slice ap1 np1 cp1] h fun v h' => ∃ (cs0 : List Value), v = .tuple #[.agg cs0.toArray, .bool r.2] ∧ New Y0 h h' cs0 r.1 := by
 obtain ⟨p0_0, p0_1, ap0_2, np0_2, cp0_2, p0_2, rfl, rfl, ip0_0, ip0_1, rp0_2⟩ := B0 rp0
 obtain ⟨rfl, lp0_2⟩ := Sl.len rp0_2
 obtain ⟨rfl, lp1⟩ := Sl.len rp1
 unfold r9 at hM0
 dsimp only at hM0
 refine U2 (args := [.agg #[.int .i64 p0_0, .int .i64 p0_1, .slice ap0_2 p0_2.length cp0_2], .slice ap1 p1.length cp1]) (fn := Tryz.f191) rfl ?_
 obtain ⟨x1, gx1, hM0⟩ := j0 hM0
 refine Tr.mono (k05 _ [.int .i64 p0_0, .int .i64 p0_1, .slice ap0_2 p0_2.length cp0_2] (p0_0, p0_1, p0_2) (z0 ip0_0 ip0_1 rp0_2) 0 (c64 (by decide) (by decide)) ap1 p1.length cp1 p1 rp1 0 (c64 (by decide) (by decide)) _  gx1) ?_
 rintro v3 k2 ⟨csx1_0, rfl, wx1_0⟩
 obtain ⟨x1_0, x1_1⟩ := x1
 dsimp only at hM0 wx1_0
 have sx1 : Sub h k2 := wx1_0.sub
 have rx1_0 := wx1_0.r
 obtain ⟨x1_0_0, x1_0_1, ax1_0_2, nx1_0_2, cx1_0_2, x1_0_2, rfl, rfl, ix1_0_0, ix1_0_1, rx1_0_2⟩ := B0 rx1_0
 obtain ⟨rfl, lx1_0_2⟩ := Sl.len rx1_0_2
 try dsimp only at hM0
 have we4 := New.sndI (New.sndI (wx1_0))
 have hE := Option.some.inj hM0; subst hE
 exact ⟨([.int .i64 x1_0_0, .int .i64 x1_0_1, .slice ax1_0_2 x1_0_2.length cx1_0_2]), rfl, (New.pair (New.int ix1_0_0) (New.pair (New.int ix1_0_1) we4))⟩
theorem B09 (h : Hp) (p0 : Int) (ip0 : F0 p0) (ap1 : Option Addr) (np1 cp1 : Nat) (p1 : j3) (rp1 : P4.R h [.slice ap1 np1 cp1] p1) (r : l0 × Bool) (hM0 : s9 p0 p1 = some r) :
  Tr Tryz.prog 130 #[.int .i64 p0, .slice ap1 np1 cp1] h fun v h' => ∃ (cs0 : List Value), v = .tuple #[.agg cs0.toArray, .bool r.2] ∧ New Y0 h h' cs0 r.1 := by
 obtain ⟨rfl, lp1⟩ := Sl.len rp1
 unfold s9 at hM0
 refine U2 (args := [.int .i64 p0, .slice ap1 p1.length cp1]) (fn := Tryz.f130) rfl ?_
 obtain ⟨x1, gx1, hM0⟩ := j0 hM0
 refine Tr.val (m04 _ p0 ip0 ap1 p1.length cp1 p1 rp1 _  gx1) ?_
 refine And.intro (fun hc2 => ?_) (fun hc2 => ?_)
 ·replace hM0 := ifP hM0 hc2
  have hE := Option.some.inj hM0; subst hE
  exact ⟨([.int .i64 0, .int .i64 0, .slice none 0 0]), rfl, (New.pair (New.int (c64 (by decide) (by decide))) (New.pair (New.int (c64 (by decide) (by decide))) ((New.nilSlice (r := Q0)).mono (Sub.refl _))))⟩
 ·replace hM0 := ifN hM0 hc2
  obtain ⟨x3, gx3, hM0⟩ := j0 hM0
  refine Tr.mono (z09 _ p0 ip0 _  gx3) ?_
  rintro v5 k4 ⟨csx3_0, rfl, wx3_0⟩
  obtain ⟨x3_0, x3_1⟩ := x3
  dsimp only at hM0 wx3_0
  have sx3 : Sub h k4 := wx3_0.sub
  have rx3_0 := wx3_0.r
  obtain ⟨x3_0_0, x3_0_1, ax3_0_2, nx3_0_2, cx3_0_2, x3_0_2, rfl, rfl, ix3_0_0, ix3_0_1, rx3_0_2⟩ := B0 rx3_0
  obtain ⟨rfl, lx3_0_2⟩ := Sl.len rx3_0_2
  try dsimp only at hM0
  have we6 := New.sndI (New.sndI (wx3_0))
  obtain ⟨X7, hLX7, hM0⟩ := j0 hM0
  refine Exists.intro { vars := [22], boxes := [1], owns := [], fuel := true } (Exists.intro (fun vs os h' => ∃ (u8 : Int) (u9 : Int) (u10 : Int) (au11 : Option Addr) (nu11 cu11 : Nat) (u11 : J0), vs.tail = [.int .i64 u8, .int .i64 u9, .int .i64 u10, .slice au11 nu11 cu11] ∧ os = [] ∧ Sub k4 h' ∧ F0 u8 ∧ F0 u9 ∧ F0 u10 ∧ New I0 h h' [.slice au11 nu11 cu11] u11 ∧ W4 p1 (M1 vs) u8 u9 u10 u11 = some X7) (Exists.intro (fun _ _ => 0) ?_))
  refine And.intro (Exists.intro S0 ⟨0, x3_0_0, x3_0_1, ax3_0_2, x3_0_2.length, cx3_0_2, x3_0_2, rfl, rfl, (Sub.refl _), (c64 (by decide) (by decide)), ix3_0_0, ix3_0_1, we6, hLX7⟩) ?_
  rintro v_0 v_1 v_2 v_3 m13 k12 ⟨u8, u9, u10, au11, nu11, cu11, u11, evX7, eoX7, sX7, iu8, iu9, iu10, wwu11, hM1⟩
  cases evX7
  cases eoX7
  replace hM1 : W4 p1 m13 u8 u9 u10 u11 = some X7 := hM1
  obtain _ | m13 := m13
  ·cases (show (none : Option _) = some X7 from hM1)
  rw [W4.eq_2] at hM1
  have ru11 := wwu11.r
  obtain ⟨rfl, lu11⟩ := Sl.len ru11
  refine And.intro (fun hc14 => ?_) (fun hc14 => ?_)
  ·replace hM1 := ifP hM1 hc14
   obtain ⟨x15, gx15, hM1⟩ := j0 hM1
   obtain ⟨bx15, csx15, ex15, rx15⟩ := Sl.getI (r := I1.toRp) (P4.mono (sx3.trans sX7) rp1) gx15 (by decide)
   refine And.intro bx15 ?_
   obtain ⟨ax15, nx15, cx15, rfl⟩ := Wp.slice_cell rx15
   obtain ⟨rfl, lx15⟩ := Sl.len rx15
   refine Exists.intro _ (And.intro ex15 ?_)
   refine And.intro (fun hc16 => ?_) (fun hc16 => ?_)
   ·replace hM1 := ifP hM1 hc16
    obtain ⟨x17, gx17, hM1⟩ := j0 hM1
    refine Tr.mono (A09 _ [.int .i64 u9, .int .i64 u10, .slice au11 u11.length cu11] (u9, u10, u11) (z0 iu9 iu10 ru11) ax15 x15.length cx15 x15 rx15 _  gx17) ?_
    rintro v19 k18 ⟨csx17_0, rfl, wx17_0⟩
    obtain ⟨x17_0, x17_1⟩ := x17
    dsimp only at hM1 wx17_0
    have sx17 : Sub k12 k18 := wx17_0.sub
    have rx17_0 := wx17_0.r
    obtain ⟨x17_0_0, x17_0_1, ax17_0_2, nx17_0_2, cx17_0_2, x17_0_2, rfl, rfl, ix17_0_0, ix17_0_1, rx17_0_2⟩ := B0 rx17_0
    obtain ⟨rfl, lx17_0_2⟩ := Sl.len rx17_0_2
    try dsimp only at hM1
    have we20 := New.sndI (New.sndI (wx17_0))
    refine And.intro rfl (And.intro (by repeat (first | exact trivial | refine And.intro rfl ?_)) (And.intro (by repeat (first | exact trivial | refine And.intro rfl ?_)) (Exists.intro m13 (And.intro ⟨(IntKind.i64.wrap (u8 + 1)), x17_0_0, x17_0_1, ax17_0_2, x17_0_2.length, cx17_0_2, x17_0_2, rfl, rfl, (sX7.trans sx17), (H0 _), ix17_0_0, ix17_0_1, (New.from we20 (sx3.trans sX7)), hM1⟩ (Nat.lt_succ_self _)))))
   ·replace hM1 := ifN hM1 hc16
    refine And.intro rfl (And.intro (by repeat (first | exact trivial | refine And.intro rfl ?_)) (And.intro (by repeat (first | exact trivial | refine And.intro rfl ?_)) (Exists.intro m13 (And.intro ⟨(IntKind.i64.wrap (u8 + 1)), u9, u10, au11, u11.length, cu11, u11, rfl, rfl, sX7, (H0 _), iu9, iu10, wwu11, hM1⟩ (Nat.lt_succ_self _)))))
  ·replace hM1 := ifN hM1 hc14
   have hE := Option.some.inj hM1; subst hE
   try dsimp only [T0, U0] at hM0
   have hE := Option.some.inj hM0; subst hE
   exact ⟨([.int .i64 u9, .int .i64 u10, .slice au11 u11.length cu11]), rfl, (New.pair (New.int iu9) (New.pair (New.int iu10) wwu11))⟩
theorem o0d (h : Hp) (csp0 : List Value) (p0 : l0) (rp0 : Y0.R h csp0 p0) (r : z7) (hM0 : S00 p0 = some r) :
  Tr Tryz.prog 226 #[.agg csp0.toArray] h fun v h' => ∃ (a0 : Option Addr) (n0 c0 : Nat), v = .slice a0 n0 c0 ∧ Y0c.R h' [.slice a0 n0 c0] r ∧ Sub h h' := by
 obtain ⟨p0_0, p0_1, ap0_2, np0_2, cp0_2, p0_2, rfl, rfl, ip0_0, ip0_1, rp0_2⟩ := B0 rp0
 obtain ⟨rfl, lp0_2⟩ := Sl.len rp0_2
 unfold S00 at hM0
 dsimp only at hM0
 refine U2 (args := [.agg #[.int .i64 p0_0, .int .i64 p0_1, .slice ap0_2 p0_2.length cp0_2]]) (fn := Tryz.f226) rfl ?_
 obtain ⟨X1, hLX1, hM0⟩ := j0 hM0
 refine Exists.intro { vars := [12], boxes := [], owns := [0], fuel := true } (Exists.intro (fun vs os h' => ∃ (u2 : Int) (wu3 : List (List Value)) (u3 : List f4), vs.tail = [.int .i64 u2] ∧ os = [wu3] ∧ Sub h h' ∧ F0 u2 ∧ F2 (c4.R h') wu3 u3 ∧ C7 p0_2 (M1 vs) u2 u3 = some X1) (Exists.intro (fun _ _ => 0) ?_))
 refine And.intro (Exists.intro S0 ⟨0, [], ([] : z7), rfl, rfl, (Sub.refl _), (c64 (by decide) (by decide)), (show F2 (c4.R h) ([] : List (List Value)) ([] : z7) from trivial), hLX1⟩) ?_
 rintro v_0 wu3 m5 k4 ⟨u2, zzu3, u3, evX1, eoX1, sX1, iu2, fu3, hM1⟩
 cases evX1
 cases eoX1
 replace hM1 : C7 p0_2 m5 u2 u3 = some X1 := hM1
 obtain _ | m5 := m5
 ·cases (show (none : Option _) = some X1 from hM1)
 rw [C7.eq_2] at hM1
 refine And.intro (fun hc6 => ?_) (fun hc6 => ?_)
 ·replace hM1 := ifP hM1 hc6
  obtain ⟨x7, gx7, hM1⟩ := j0 hM1
  obtain ⟨bx7, csx7, ex7, rx7⟩ := Sl.getI (r := Q0.toRp) (I0.mono sX1 rp0_2) gx7 (by decide)
  refine And.intro bx7 ?_
  obtain ⟨x7_0, x7_1, x7_2, rfl, rfl, ix7_0, ix7_1, ix7_2⟩ := j1 rx7
  try dsimp only at hM1
  refine Exists.intro _ (And.intro ex7 ?_)
  obtain ⟨x8, gx8, hM1⟩ := j0 hM1
  obtain ⟨qx8, vsx8, ex8, fx8⟩ := Sl.cutI (r := Q0.toRp) (I0.mono sX1 rp0_2) gx8
  refine And.intro qx8 (Exists.intro vsx8 (And.intro ex8 ?_))
  intro vx8 hvx8 _
  obtain ⟨ax8, cx8, rfl, rx8⟩ := fx8 vx8 hvx8
  have lx8 := (Sl.len rx8).2
  obtain ⟨X9, hLX9, hM1⟩ := j0 hM1
  refine Exists.intro { vars := [23], boxes := [], owns := [0], fuel := true } (Exists.intro (fun vs os h' => ∃ (u10 : Int) (wu11 : List (List Value)) (u11 : List f4), vs.tail = [.int .i64 u10] ∧ os = [wu11] ∧ Sub k4 h' ∧ F0 u10 ∧ F2 (c4.R h') wu11 u11 ∧ E4 x8 x7_1 x7_0 x7_2 (M1 vs) u10 u11 = some X9) (Exists.intro (fun _ _ => 0) ?_))
  refine And.intro (Exists.intro S0 ⟨0, wu3, u3, rfl, rfl, (Sub.refl _), (c64 (by decide) (by decide)), fu3, hLX9⟩) ?_
  rintro v_0 wu11 m13 k12 ⟨u10, zzu11, u11, evX9, eoX9, sX9, iu10, fu11, hM2⟩
  cases evX9
  cases eoX9
  replace hM2 : E4 x8 x7_1 x7_0 x7_2 m13 u10 u11 = some X9 := hM2
  obtain _ | m13 := m13
  ·cases (show (none : Option _) = some X9 from hM2)
  rw [E4.eq_2] at hM2
  refine And.intro (fun hc14 => ?_) (fun hc14 => ?_)
  ·replace hM2 := ifP hM2 hc14
   obtain ⟨x15, gx15, hM2⟩ := j0 hM2
   obtain ⟨bx15, csx15, ex15, rx15⟩ := Sl.getI (r := Q0.toRp) (I0.mono sX9 rx8) gx15 (by decide)
   refine And.intro bx15 ?_
   obtain ⟨x15_0, x15_1, x15_2, rfl, rfl, ix15_0, ix15_1, ix15_2⟩ := j1 rx15
   try dsimp only at hM2
   refine Exists.intro _ (And.intro ex15 ?_)
   refine And.intro (fun hc16 => ?_) (fun hc16 => ?_)
   ·replace hM2 := ifP hM2 hc16
    refine And.intro rfl (And.intro (by repeat (first | exact trivial | refine And.intro rfl ?_)) (And.intro (by repeat (first | exact trivial | refine And.intro rfl ?_)) (Exists.intro m13 (And.intro ⟨(IntKind.i64.wrap (u10 + 1)), wu11, u11, rfl, rfl, sX9, (H0 _), fu11, hM2⟩ (Nat.lt_succ_self _)))))
   ·replace hM2 := ifN hM2 hc16
    refine And.intro (fun hc17 => ?_) (fun hc17 => ?_)
    ·replace hM2 := ifP hM2 hc17
     obtain ⟨q18, gq18, hM2⟩ := j0 hM2
     refine And.intro (E2 gq18 (by first | rw [F2.length fu11, F2.length (show F2 (c4.R k12) ([[.int .i64 (if x15_2 < x7_2 then x15_2 else x7_2), .int .i64 (if x15_2 > x7_2 then x15_2 else x7_2)]] : List (List Value)) [((if x15_2 < x7_2 then x15_2 else x7_2), (if x15_2 > x7_2 then x15_2 else x7_2))] from ⟨(U1 (i7 ix15_2 ix7_2) (i7 ix15_2 ix7_2)), trivial⟩)] | exact congrArg (· + 1) (F2.length fu11))) ?_
     refine And.intro (fun hc19 => ?_) (fun hc19 => ?_)
     ·replace hM2 := ifP hM2 hc19
      obtain ⟨q20, gq20, hM2⟩ := j0 hM2
      refine And.intro (E2 gq20 (by first | rw [F2.length (F2.append fu11 (show F2 (c4.R k12) ([[.int .i64 (if x15_2 < x7_2 then x15_2 else x7_2), .int .i64 (if x15_2 > x7_2 then x15_2 else x7_2)]] : List (List Value)) [((if x15_2 < x7_2 then x15_2 else x7_2), (if x15_2 > x7_2 then x15_2 else x7_2))] from ⟨(U1 (i7 ix15_2 ix7_2) (i7 ix15_2 ix7_2)), trivial⟩)), F2.length (show F2 (c4.R k12) ([[.int .i64 (if x15_0 < x7_0 then x15_0 else x7_0), .int .i64 (if x15_0 > x7_0 then x15_0 else x7_0)]] : List (List Value)) [((if x15_0 < x7_0 then x15_0 else x7_0), (if x15_0 > x7_0 then x15_0 else x7_0))] from ⟨(U1 (i7 ix15_0 ix7_0) (i7 ix15_0 ix7_0)), trivial⟩)] | exact congrArg (· + 1) (F2.length (F2.append fu11 (show F2 (c4.R k12) ([[.int .i64 (if x15_2 < x7_2 then x15_2 else x7_2), .int .i64 (if x15_2 > x7_2 then x15_2 else x7_2)]] : List (List Value)) [((if x15_2 < x7_2 then x15_2 else x7_2), (if x15_2 > x7_2 then x15_2 else x7_2))] from ⟨(U1 (i7 ix15_2 ix7_2) (i7 ix15_2 ix7_2)), trivial⟩))))) ?_
      refine And.intro rfl (And.intro (by repeat (first | exact trivial | refine And.intro rfl ?_)) (And.intro (by repeat (first | exact trivial | refine And.intro rfl ?_)) (Exists.intro m13 (And.intro ⟨(IntKind.i64.wrap (u10 + 1)), ((wu11 ++ ([[.int .i64 (if x15_2 < x7_2 then x15_2 else x7_2), .int .i64 (if x15_2 > x7_2 then x15_2 else x7_2)]] : List (List Value))) ++ ([[.int .i64 (if x15_0 < x7_0 then x15_0 else x7_0), .int .i64 (if x15_0 > x7_0 then x15_0 else x7_0)]] : List (List Value))), ((u11 ++ [((if x15_2 < x7_2 then x15_2 else x7_2), (if x15_2 > x7_2 then x15_2 else x7_2))]) ++ [((if x15_0 < x7_0 then x15_0 else x7_0), (if x15_0 > x7_0 then x15_0 else x7_0))]), rfl, rfl, sX9, (H0 _), (F2.append (F2.append fu11 (show F2 (c4.R k12) ([[.int .i64 (if x15_2 < x7_2 then x15_2 else x7_2), .int .i64 (if x15_2 > x7_2 then x15_2 else x7_2)]] : List (List Value)) [((if x15_2 < x7_2 then x15_2 else x7_2), (if x15_2 > x7_2 then x15_2 else x7_2))] from ⟨(U1 (i7 ix15_2 ix7_2) (i7 ix15_2 ix7_2)), trivial⟩)) (show F2 (c4.R k12) ([[.int .i64 (if x15_0 < x7_0 then x15_0 else x7_0), .int .i64 (if x15_0 > x7_0 then x15_0 else x7_0)]] : List (List Value)) [((if x15_0 < x7_0 then x15_0 else x7_0), (if x15_0 > x7_0 then x15_0 else x7_0))] from ⟨(U1 (i7 ix15_0 ix7_0) (i7 ix15_0 ix7_0)), trivial⟩)), hM2⟩ (Nat.lt_succ_self _)))))
     ·replace hM2 := ifN hM2 hc19
      refine And.intro rfl (And.intro (by repeat (first | exact trivial | refine And.intro rfl ?_)) (And.intro (by repeat (first | exact trivial | refine And.intro rfl ?_)) (Exists.intro m13 (And.intro ⟨(IntKind.i64.wrap (u10 + 1)), (wu11 ++ ([[.int .i64 (if x15_2 < x7_2 then x15_2 else x7_2), .int .i64 (if x15_2 > x7_2 then x15_2 else x7_2)]] : List (List Value))), (u11 ++ [((if x15_2 < x7_2 then x15_2 else x7_2), (if x15_2 > x7_2 then x15_2 else x7_2))]), rfl, rfl, sX9, (H0 _), (F2.append fu11 (show F2 (c4.R k12) ([[.int .i64 (if x15_2 < x7_2 then x15_2 else x7_2), .int .i64 (if x15_2 > x7_2 then x15_2 else x7_2)]] : List (List Value)) [((if x15_2 < x7_2 then x15_2 else x7_2), (if x15_2 > x7_2 then x15_2 else x7_2))] from ⟨(U1 (i7 ix15_2 ix7_2) (i7 ix15_2 ix7_2)), trivial⟩)), hM2⟩ (Nat.lt_succ_self _)))))
    ·replace hM2 := ifN hM2 hc17
     refine And.intro (fun hc21 => ?_) (fun hc21 => ?_)
     ·replace hM2 := ifP hM2 hc21
      obtain ⟨q22, gq22, hM2⟩ := j0 hM2
      refine And.intro (E2 gq22 (by first | rw [F2.length fu11, F2.length (show F2 (c4.R k12) ([[.int .i64 (if x15_0 < x7_0 then x15_0 else x7_0), .int .i64 (if x15_0 > x7_0 then x15_0 else x7_0)]] : List (List Value)) [((if x15_0 < x7_0 then x15_0 else x7_0), (if x15_0 > x7_0 then x15_0 else x7_0))] from ⟨(U1 (i7 ix15_0 ix7_0) (i7 ix15_0 ix7_0)), trivial⟩)] | exact congrArg (· + 1) (F2.length fu11))) ?_
      refine And.intro rfl (And.intro (by repeat (first | exact trivial | refine And.intro rfl ?_)) (And.intro (by repeat (first | exact trivial | refine And.intro rfl ?_)) (Exists.intro m13 (And.intro ⟨(IntKind.i64.wrap (u10 + 1)), (wu11 ++ ([[.int .i64 (if x15_0 < x7_0 then x15_0 else x7_0), .int .i64 (if x15_0 > x7_0 then x15_0 else x7_0)]] : List (List Value))), (u11 ++ [((if x15_0 < x7_0 then x15_0 else x7_0), (if x15_0 > x7_0 then x15_0 else x7_0))]), rfl, rfl, sX9, (H0 _), (F2.append fu11 (show F2 (c4.R k12) ([[.int .i64 (if x15_0 < x7_0 then x15_0 else x7_0), .int .i64 (if x15_0 > x7_0 then x15_0 else x7_0)]] : List (List Value)) [((if x15_0 < x7_0 then x15_0 else x7_0), (if x15_0 > x7_0 then x15_0 else x7_0))] from ⟨(U1 (i7 ix15_0 ix7_0) (i7 ix15_0 ix7_0)), trivial⟩)), hM2⟩ (Nat.lt_succ_self _)))))
     ·replace hM2 := ifN hM2 hc21
      refine And.intro rfl (And.intro (by repeat (first | exact trivial | refine And.intro rfl ?_)) (And.intro (by repeat (first | exact trivial | refine And.intro rfl ?_)) (Exists.intro m13 (And.intro ⟨(IntKind.i64.wrap (u10 + 1)), wu11, u11, rfl, rfl, sX9, (H0 _), fu11, hM2⟩ (Nat.lt_succ_self _)))))
  ·replace hM2 := ifN hM2 hc14
   have hE := Option.some.inj hM2; subst hE
   try dsimp only [T0, U0] at hM1
   refine And.intro rfl (And.intro (by repeat (first | exact trivial | refine And.intro rfl ?_)) (And.intro (by repeat (first | exact trivial | refine And.intro rfl ?_)) (Exists.intro m5 (And.intro ⟨(IntKind.i64.wrap (u2 + 1)), wu11, u11, rfl, rfl, (sX1.trans sX9), (H0 _), fu11, hM1⟩ (Nat.lt_succ_self _)))))
 ·replace hM1 := ifN hM1 hc6
  have hE := Option.some.inj hM1; subst hE
  try dsimp only [T0, U0] at hM0
  intro v27 k28 f29
  obtain ⟨az30, cz30, rfl, rz30, sz30, lz30⟩ := Z0.out (r := c4.toRp) f29 fu3
  have hE := Option.some.inj hM0; subst hE
  exact ⟨az30, u3.length, cz30, rfl, rz30, (sX1.trans sz30)⟩
theorem L08 (h : Hp) (csp0 : List Value) (p0 : l0) (rp0 : Y0.R h csp0 p0) (r : f4 × Bool) (hM0 : R7 p0 = some r) :
  Tr Tryz.prog 207 #[.agg csp0.toArray] h fun v h' => ∃ (cs0 : List Value), v = .tuple #[.agg cs0.toArray, .bool r.2] ∧ c4.R h' cs0 r.1 ∧ Sub h h' := by
 obtain ⟨p0_0, p0_1, ap0_2, np0_2, cp0_2, p0_2, rfl, rfl, ip0_0, ip0_1, rp0_2⟩ := B0 rp0
 obtain ⟨rfl, lp0_2⟩ := Sl.len rp0_2
 unfold R7 at hM0
 dsimp only at hM0
 refine U2 (args := [.agg #[.int .i64 p0_0, .int .i64 p0_1, .slice ap0_2 p0_2.length cp0_2]]) (fn := Tryz.f207) rfl ?_
 obtain ⟨x1, gx1, hM0⟩ := j0 hM0
 refine Tr.val (o8 _ [.int .i64 p0_0, .int .i64 p0_1, .slice ap0_2 p0_2.length cp0_2] (p0_0, p0_1, p0_2) (z0 ip0_0 ip0_1 rp0_2) _  gx1) ?_
 refine And.intro (fun hc2 => ?_) (fun hc2 => ?_)
 ·replace hM0 := ifP hM0 hc2
  have hE := Option.some.inj hM0; subst hE
  exact ⟨([.int .i64 0, .int .i64 0]), rfl, (U1 (c64 (by decide) (by decide)) (c64 (by decide) (by decide))), (Sub.refl _)⟩
 ·replace hM0 := ifN hM0 hc2
  obtain ⟨x3, gx3, hM0⟩ := j0 hM0
  refine Tr.mono (o0d _ [.int .i64 p0_0, .int .i64 p0_1, .slice ap0_2 p0_2.length cp0_2] (p0_0, p0_1, p0_2) (z0 ip0_0 ip0_1 rp0_2) _  gx3) ?_
  rintro v5 k4 ⟨ax3, nx3, cx3, rfl, rx3, sx3⟩
  obtain ⟨rfl, lx3⟩ := Sl.len rx3
  refine And.intro (fun hc6 => ?_) (fun hc6 => ?_)
  ·replace hM0 := ifP hM0 hc6
   have hE := Option.some.inj hM0; subst hE
   exact ⟨([.int .i64 0, .int .i64 0]), rfl, (U1 (c64 (by decide) (by decide)) (c64 (by decide) (by decide))), sx3⟩
  ·replace hM0 := ifN hM0 hc6
   obtain ⟨x7, gx7, hM0⟩ := j0 hM0
   obtain ⟨bx7, csx7, ex7, rx7⟩ := Sl.getI (r := c4.toRp) rx3 gx7 (by decide)
   refine And.intro bx7 ?_
   obtain ⟨x7_0, x7_1, rfl, rfl, ix7_0, ix7_1⟩ := P00 rx7
   try dsimp only at hM0
   refine Exists.intro _ (And.intro ex7 ?_)
   have hE := Option.some.inj hM0; subst hE
   exact ⟨([.int .i64 x7_0, .int .i64 x7_1]), rfl, (U1 ix7_0 ix7_1), sx3⟩
theorem l05 (h : Hp) (csp0 : List Value) (p0 : l0) (rp0 : Y0.R h csp0 p0) (csp1 : List Value) (p1 : f4) (rp1 : c4.R h csp1 p1) (r : l0 × Bool) (hM0 : o6 p0 p1 = some r) :
  Tr Tryz.prog 208 #[.agg csp0.toArray, .agg csp1.toArray] h fun v h' => ∃ (cs0 : List Value), v = .tuple #[.agg cs0.toArray, .bool r.2] ∧ New Y0 h h' cs0 r.1 := by
 obtain ⟨p0_0, p0_1, ap0_2, np0_2, cp0_2, p0_2, rfl, rfl, ip0_0, ip0_1, rp0_2⟩ := B0 rp0
 obtain ⟨rfl, lp0_2⟩ := Sl.len rp0_2
 obtain ⟨p1_0, p1_1, rfl, rfl, ip1_0, ip1_1⟩ := P00 rp1
 unfold o6 at hM0
 dsimp only at hM0
 refine U2 (args := [.agg #[.int .i64 p0_0, .int .i64 p0_1, .slice ap0_2 p0_2.length cp0_2], .agg #[.int .i64 p1_0, .int .i64 p1_1]]) (fn := Tryz.f208) rfl ?_
 obtain ⟨x1, gx1, hM0⟩ := j0 hM0
 refine Tr.mono (E3 _ [.int .i64 p0_0, .int .i64 p0_1, .slice ap0_2 p0_2.length cp0_2] (p0_0, p0_1, p0_2) (z0 ip0_0 ip0_1 rp0_2) _  gx1) ?_
 rintro v3 k2 ⟨gx1_2, nx1_2, cx1_2, rfl, wx1⟩
 have sx1 : Sub h k2 := wx1.sub
 have rx1 := wx1.r
 obtain ⟨x1_0, x1_1, x1_2⟩ := x1
 dsimp only at hM0 wx1 rx1
 obtain ⟨_, _, _, _, _, _, ecx1, exx1, ix1_0, ix1_1, rx1_2⟩ := B0 rx1
 cases ecx1
 cases exx1
 obtain ⟨rfl, lx1_2⟩ := Sl.len rx1_2
 try dsimp only at hM0
 have we4 := New.sndI (New.sndI (wx1))
 obtain ⟨x5, gx5, hM0⟩ := j0 hM0
 refine Tr.val (o8 _ [.int .i64 p0_0, .int .i64 p0_1, .slice ap0_2 p0_2.length cp0_2] (p0_0, p0_1, p0_2) (z0 ip0_0 ip0_1 (I0.mono sx1 rp0_2)) _  gx5) ?_
 refine And.intro (fun hc6 => ?_) (fun hc6 => ?_)
 ·replace hM0 := ifP hM0 hc6
  have hE := Option.some.inj hM0; subst hE
  exact ⟨([.int .i64 x1_0, .int .i64 x1_1, .slice (some ⟨gx1_2, 0, none⟩) x1_2.length cx1_2]), rfl, (New.pair (New.int ix1_0) (New.pair (New.int ix1_1) we4))⟩
 ·replace hM0 := ifN hM0 hc6
  intro b7 hb7
  have gb7 : (Hp.set k2 b7 (.cells #[.int .i64 p1_0, .int .i64 p1_1] 146 (0, 0))) b7 = some (.cells #[.int .i64 p1_0, .int .i64 p1_1] 146 (0, 0)) := Hp.set_same _ _ _
  have neb7gx1_2 : b7 ≠ gx1_2 := fun e => New.blk we4 (Sub.refl _) (e ▸ hb7)
  obtain ⟨X8, hLX8, hM0⟩ := j0 hM0
  refine Exists.intro { vars := [39], boxes := [], owns := [], fuel := true } (Exists.intro (fun vs os h' => ∃ (u9 : Int) (u10 : J0), vs.tail = [.int .i64 u9] ∧ os = [] ∧ Sub h h' ∧ F0 u9 ∧ New I0 h h' [.slice (some ⟨gx1_2, 0, none⟩) x1_2.length cx1_2] u10 ∧ h' b7 = some (.cells #[.int .i64 p1_0, .int .i64 p1_1] 146 (0, 0)) ∧ V3 x1_2 p1_0 p1_1 (M1 vs) u9 u10 = some X8) (Exists.intro (fun _ _ => 0) ?_))
  refine And.intro (Exists.intro S0 ⟨0, x1_2, rfl, rfl, (sx1.trans (Sub.set hb7)), (c64 (by decide) (by decide)), (New.mono we4 (Sub.set hb7)), gb7, hLX8⟩) ?_
  rintro v_0 m13 k12 ⟨u9, u10, evX8, eoX8, sX8, iu9, wwu10, hq11, hM1⟩
  cases evX8
  cases eoX8
  replace hM1 : V3 x1_2 p1_0 p1_1 m13 u9 u10 = some X8 := hM1
  obtain _ | m13 := m13
  ·cases (show (none : Option _) = some X8 from hM1)
  rw [V3.eq_2] at hM1
  have ru10 := wwu10.r
  refine And.intro (fun hc14 => ?_) (fun hc14 => ?_)
  ·replace hM1 := ifP hM1 hc14
   obtain ⟨x15, gx15, hM1⟩ := j0 hM1
   obtain ⟨bx15, csx15, ex15, rx15⟩ := Sl.getI (r := Q0.toRp) ru10 gx15 (by decide)
   refine And.intro bx15 ?_
   obtain ⟨x15_0, x15_1, x15_2, rfl, rfl, ix15_0, ix15_1, ix15_2⟩ := j1 rx15
   try dsimp only at hM1
   refine Exists.intro _ (And.intro ex15 ?_)
   refine Or.inr (Or.inr (Or.inl (And.intro (And.intro (by kernel_rfl) (by kernel_rfl)) ?_)))
   obtain ⟨x16, gx16, hM1⟩ := j0 hM1
   obtain ⟨q17, gq17, hM1⟩ := j0 hM1
   have ix16 : F0 x16 := G2 gq17
   refine Or.inl (Exists.intro (.val (.int .i64 x16)) (And.intro ?_ ?_))
   ·intro k18 s19
    exact Tr.val (W00 _ x15_0 ix15_0 b7 146 p1_0 ip1_0 p1_1 ip1_1 (s19 _ _ hq11) _ gx16) (And.intro rfl (And.intro rfl rfl))
   obtain ⟨x20, gx20, hM1⟩ := j0 hM1
   obtain ⟨q21, gq21, hM1⟩ := j0 hM1
   have ix20 : F0 x20 := G2 gq21
   refine Or.inl (Exists.intro (.val (.int .i64 x20)) (And.intro ?_ ?_))
   ·intro k22 s23
    exact Tr.val (W00 _ x15_2 ix15_2 b7 146 p1_0 ip1_0 p1_1 ip1_1 (s23 _ _ hq11) _ gx20) (And.intro rfl (And.intro rfl rfl))
   refine Or.inl (Exists.intro (.agg [.val (.int .i64 x16), .val (.int .i64 x15_1), .val (.int .i64 x20)]) (And.intro ?_ ?_))
   ·intro k24 s25
    exact And.intro rfl (And.intro rfl rfl)
   refine Or.inr ?_
   refine Or.inr ?_
   refine Exists.intro 0 (And.intro (And.intro rfl rfl) ?_)
   obtain ⟨x26, gx26, hM1⟩ := j0 hM1
   obtain ⟨bx26, csx26, ex26, rx26⟩ := Sl.getI (r := Q0.toRp) ru10 gx26 (by decide)
   refine And.intro bx26 ?_
   obtain ⟨x26_0, x26_1, x26_2, rfl, rfl, ix26_0, ix26_1, ix26_2⟩ := j1 rx26
   try dsimp only at hM1
   refine And.intro trivial (And.intro (by first | exact trivial | exact rfl) ?_)
   refine New.put (r := Q0) wwu10 (Sub.refl _) (k0k gx26).1 (new := [.int .i64 x16, .int .i64 x15_1, .int .i64 x20]) (By := []) (F08 _ _ _ (V0 ix16 ix15_1 ix20)) (g7.nil _) rfl (k0k gx26).2 ?_
   intro k27 w28 kpw28 _
   have rw28 := w28.r
   have hpw28b7 : k27 b7 = some (.cells #[.int .i64 p1_0, .int .i64 p1_1] 146 (0, 0)) := (kpw28 b7 neb7gx1_2).trans hq11
   refine And.intro trivial (And.intro (by first | exact trivial | exact rfl) ?_)
   refine And.intro rfl (And.intro (by repeat (first | exact trivial | refine And.intro rfl ?_)) (And.intro (by repeat (first | exact trivial | refine And.intro rfl ?_)) (Exists.intro m13 (And.intro ⟨(IntKind.i64.wrap (u9 + 1)), (u10.set u9.toNat (x16, x15_1, x20)), rfl, rfl, w28.sub, (H0 _), w28, (hpw28b7), hM1⟩ (Nat.lt_succ_self _)))))
  ·replace hM1 := ifN hM1 hc14
   have hE := Option.some.inj hM1; subst hE
   try dsimp only [T0, U0] at hM0
   obtain ⟨x29, gx29, hM0⟩ := j0 hM0
   refine Tr.mono (t01 _ (some ⟨gx1_2, 0, none⟩) x1_2.length cx1_2 u10 ru10 _  gx29) ?_
   rintro v31 k30 ⟨ax29, nx29, cx29, rfl, wx29⟩
   have sx29 : Sub k12 k30 := wx29.sub
   have rx29 := wx29.r
   obtain ⟨rfl, lx29⟩ := Sl.len rx29
   have hE := Option.some.inj hM0; subst hE
   exact ⟨([.int .i64 x1_0, .int .i64 (IntKind.i64.wrap (x1_1 - 1)), .slice ax29 x29.length cx29]), rfl, (New.pair (New.int ix1_0) (New.pair (New.int (H0 _)) (New.from wx29 sX8)))⟩
theorem C09 (h : Hp) (csp0 : List Value) (p0 : l0) (rp0 : Y0.R h csp0 p0) (r : l0 × f4 × Bool) (hM0 : t9 p0 = some r) :
  Tr Tryz.prog 155 #[.agg csp0.toArray] h fun v h' => ∃ (cs0 : List Value) (cs1 : List Value), v = .tuple #[.agg cs0.toArray, .agg cs1.toArray, .bool r.2.2] ∧ New Y0 h h' cs0 r.1 ∧ c4.R h' cs1 r.2.1 := by
 obtain ⟨p0_0, p0_1, ap0_2, np0_2, cp0_2, p0_2, rfl, rfl, ip0_0, ip0_1, rp0_2⟩ := B0 rp0
 obtain ⟨rfl, lp0_2⟩ := Sl.len rp0_2
 unfold t9 at hM0
 dsimp only at hM0
 refine U2 (args := [.agg #[.int .i64 p0_0, .int .i64 p0_1, .slice ap0_2 p0_2.length cp0_2]]) (fn := Tryz.f155) rfl ?_
 obtain ⟨x1, gx1, hM0⟩ := j0 hM0
 refine Tr.mono (L08 _ [.int .i64 p0_0, .int .i64 p0_1, .slice ap0_2 p0_2.length cp0_2] (p0_0, p0_1, p0_2) (z0 ip0_0 ip0_1 rp0_2) _  gx1) ?_
 rintro v3 k2 ⟨csx1_0, rfl, rx1_0, sx1⟩
 obtain ⟨x1_0, x1_1⟩ := x1
 dsimp only at hM0 rx1_0
 obtain ⟨x1_0_0, x1_0_1, rfl, rfl, ix1_0_0, ix1_0_1⟩ := P00 rx1_0
 try dsimp only at hM0
 refine And.intro (fun hc4 => ?_) (fun hc4 => ?_)
 ·replace hM0 := ifP hM0 hc4
  obtain ⟨x5, gx5, hM0⟩ := j0 hM0
  refine Tr.mono (E3 _ [.int .i64 p0_0, .int .i64 p0_1, .slice ap0_2 p0_2.length cp0_2] (p0_0, p0_1, p0_2) (z0 ip0_0 ip0_1 (I0.mono sx1 rp0_2)) _  gx5) ?_
  rintro v7 k6 ⟨gx5_2, nx5_2, cx5_2, rfl, wx5⟩
  have sx5 : Sub k2 k6 := wx5.sub
  have rx5 := wx5.r
  obtain ⟨x5_0, x5_1, x5_2⟩ := x5
  dsimp only at hM0 wx5 rx5
  obtain ⟨_, _, _, _, _, _, ecx5, exx5, ix5_0, ix5_1, rx5_2⟩ := B0 rx5
  cases ecx5
  cases exx5
  obtain ⟨rfl, lx5_2⟩ := Sl.len rx5_2
  try dsimp only at hM0
  have we8 := New.sndI (New.sndI (wx5))
  have hE := Option.some.inj hM0; subst hE
  exact ⟨([.int .i64 x5_0, .int .i64 x5_1, .slice (some ⟨gx5_2, 0, none⟩) x5_2.length cx5_2]), ([.int .i64 0, .int .i64 0]), rfl, (New.pair (New.int ix5_0) (New.pair (New.int ix5_1) (New.from we8 sx1))), (U1 (c64 (by decide) (by decide)) (c64 (by decide) (by decide)))⟩
 ·replace hM0 := ifN hM0 hc4
  obtain ⟨x9, gx9, hM0⟩ := j0 hM0
  refine Tr.mono (l05 _ [.int .i64 p0_0, .int .i64 p0_1, .slice ap0_2 p0_2.length cp0_2] (p0_0, p0_1, p0_2) (z0 ip0_0 ip0_1 (I0.mono sx1 rp0_2)) [.int .i64 x1_0_0, .int .i64 x1_0_1] (x1_0_0, x1_0_1) (U1 ix1_0_0 ix1_0_1) _  gx9) ?_
  rintro v11 k10 ⟨csx9_0, rfl, wx9_0⟩
  obtain ⟨x9_0, x9_1⟩ := x9
  dsimp only at hM0 wx9_0
  have sx9 : Sub k2 k10 := wx9_0.sub
  have rx9_0 := wx9_0.r
  obtain ⟨x9_0_0, x9_0_1, ax9_0_2, nx9_0_2, cx9_0_2, x9_0_2, rfl, rfl, ix9_0_0, ix9_0_1, rx9_0_2⟩ := B0 rx9_0
  obtain ⟨rfl, lx9_0_2⟩ := Sl.len rx9_0_2
  try dsimp only at hM0
  have we12 := New.sndI (New.sndI (wx9_0))
  refine Or.inr (Or.inr (Or.inl (And.intro (And.intro (by kernel_rfl) (by kernel_rfl)) ?_)))
  refine Or.inr ?_
  refine Or.inr ?_
  refine Exists.intro 0 (And.intro (And.intro rfl rfl) ?_)
  refine And.intro trivial (And.intro (by first | exact trivial | exact rfl) ?_)
  refine And.intro trivial (And.intro (by first | exact trivial | exact rfl) ?_)
  have hE := Option.some.inj hM0; subst hE
  exact ⟨([.int .i64 x9_0_0, .int .i64 x9_0_1, .slice ax9_0_2 x9_0_2.length cx9_0_2]), ([.int .i64 x1_0_0, .int .i64 x1_0_1]), rfl, (New.pair (New.int ix9_0_0) (New.pair (New.int ix9_0_1) (New.from we12 sx1))), (U1 ix1_0_0 ix1_0_1)⟩
theorem r02 (h : Hp) (csp0 : List Value) (p0 : l0) (rp0 : Y0.R h csp0 p0) (r : l0 × z7) (hM0 : F6 p0 = some r) :
  Tr Tryz.prog 99 #[.agg csp0.toArray] h fun v h' => ∃ (cs0 : List Value) (a1 : Option Addr) (n1 c1 : Nat), v = .tuple #[.agg cs0.toArray, .slice a1 n1 c1] ∧ New Y0 h h' cs0 r.1 ∧ Y0c.R h' [.slice a1 n1 c1] r.2 := by
 obtain ⟨p0_0, p0_1, ap0_2, np0_2, cp0_2, p0_2, rfl, rfl, ip0_0, ip0_1, rp0_2⟩ := B0 rp0
 obtain ⟨rfl, lp0_2⟩ := Sl.len rp0_2
 unfold F6 at hM0
 dsimp only at hM0
 refine U2 (args := [.agg #[.int .i64 p0_0, .int .i64 p0_1, .slice ap0_2 p0_2.length cp0_2]]) (fn := Tryz.f99) rfl ?_
 obtain ⟨x1, gx1, hM0⟩ := j0 hM0
 refine Tr.mono (E3 _ [.int .i64 p0_0, .int .i64 p0_1, .slice ap0_2 p0_2.length cp0_2] (p0_0, p0_1, p0_2) (z0 ip0_0 ip0_1 rp0_2) _  gx1) ?_
 rintro v3 k2 ⟨gx1_2, nx1_2, cx1_2, rfl, wx1⟩
 have sx1 : Sub h k2 := wx1.sub
 have rx1 := wx1.r
 obtain ⟨x1_0, x1_1, x1_2⟩ := x1
 dsimp only at hM0 wx1 rx1
 obtain ⟨_, _, _, _, _, _, ecx1, exx1, ix1_0, ix1_1, rx1_2⟩ := B0 rx1
 cases ecx1
 cases exx1
 obtain ⟨rfl, lx1_2⟩ := Sl.len rx1_2
 try dsimp only at hM0
 have we4 := New.sndI (New.sndI (wx1))
 obtain ⟨X5, hLX5, hM0⟩ := j0 hM0
 refine Exists.intro { vars := [], boxes := [2], owns := [0], fuel := true } (Exists.intro (fun vs os h' => ∃ (u6 : Int) (u7 : Int) (au8 : Option Addr) (nu8 cu8 : Nat) (u8 : J0) (wu9 : List (List Value)) (u9 : List f4), vs.tail = [.int .i64 u6, .int .i64 u7, .slice au8 nu8 cu8] ∧ os = [wu9] ∧ Sub k2 h' ∧ F0 u6 ∧ F0 u7 ∧ New I0 h h' [.slice au8 nu8 cu8] u8 ∧ F2 (c4.R h') wu9 u9 ∧ p6 (M1 vs) u6 u7 u8 u9 = some X5) (Exists.intro (fun _ _ => 0) ?_))
 refine And.intro (Exists.intro S0 ⟨x1_0, x1_1, (some ⟨gx1_2, 0, none⟩), x1_2.length, cx1_2, x1_2, [], ([] : z7), rfl, rfl, (Sub.refl _), ix1_0, ix1_1, we4, (show F2 (c4.R k2) ([] : List (List Value)) ([] : z7) from trivial), hLX5⟩) ?_
 rintro v_0 v_1 v_2 wu9 m11 k10 ⟨u6, u7, au8, nu8, cu8, u8, zzu9, u9, evX5, eoX5, sX5, iu6, iu7, wwu8, fu9, hM1⟩
 cases evX5
 cases eoX5
 replace hM1 : p6 m11 u6 u7 u8 u9 = some X5 := hM1
 obtain _ | m11 := m11
 ·cases (show (none : Option _) = some X5 from hM1)
 rw [p6.eq_2] at hM1
 have ru8 := wwu8.r
 obtain ⟨rfl, lu8⟩ := Sl.len ru8
 obtain ⟨x12, gx12, hM1⟩ := j0 hM1
 refine Tr.mono (C09 _ [.int .i64 u6, .int .i64 u7, .slice au8 u8.length cu8] (u6, u7, u8) (z0 iu6 iu7 ru8) _  gx12) ?_
 rintro v14 k13 ⟨csx12_0, csx12_1, rfl, wx12_0, rx12_1⟩
 obtain ⟨x12_0, x12_1, x12_2⟩ := x12
 dsimp only at hM1 wx12_0 rx12_1
 have sx12 : Sub k10 k13 := wx12_0.sub
 have rx12_0 := wx12_0.r
 obtain ⟨x12_0_0, x12_0_1, ax12_0_2, nx12_0_2, cx12_0_2, x12_0_2, rfl, rfl, ix12_0_0, ix12_0_1, rx12_0_2⟩ := B0 rx12_0
 obtain ⟨rfl, lx12_0_2⟩ := Sl.len rx12_0_2
 try dsimp only at hM1
 have we15 := New.sndI (New.sndI (wx12_0))
 obtain ⟨x12_1_0, x12_1_1, rfl, rfl, ix12_1_0, ix12_1_1⟩ := P00 rx12_1
 try dsimp only at hM1
 refine And.intro (fun hc16 => ?_) (fun hc16 => ?_)
 ·replace hM1 := ifP hM1 hc16
  intro v17 k18 f19
  obtain ⟨az20, cz20, rfl, rz20, sz20, lz20⟩ := Z0.out (r := c4.toRp) f19 (F2.up (r := c4.toRp) sx12 fu9)
  have hE := Option.some.inj hM1; subst hE
  try dsimp only [n3, B3] at hM0
  have hE := Option.some.inj hM0; subst hE
  exact ⟨([.int .i64 u6, .int .i64 u7, .slice au8 u8.length cu8]), az20, u9.length, cz20, rfl, (New.pair (New.int iu6) (New.pair (New.int iu7) (New.mono wwu8 (sx12.trans sz20)))), rz20⟩
 ·replace hM1 := ifN hM1 hc16
  obtain ⟨q21, gq21, hM1⟩ := j0 hM1
  refine And.intro (E2 gq21 (by first | rw [F2.length (F2.up (r := c4.toRp) sx12 fu9), F2.length (show F2 (c4.R k13) ([[.int .i64 x12_1_0, .int .i64 x12_1_1]] : List (List Value)) [(x12_1_0, x12_1_1)] from ⟨(U1 ix12_1_0 ix12_1_1), trivial⟩)] | exact congrArg (· + 1) (F2.length (F2.up (r := c4.toRp) sx12 fu9)))) ?_
  refine And.intro rfl (And.intro (by repeat (first | exact trivial | refine And.intro rfl ?_)) (And.intro (by repeat (first | exact trivial | refine And.intro rfl ?_)) (Exists.intro m11 (And.intro ⟨x12_0_0, x12_0_1, ax12_0_2, x12_0_2.length, cx12_0_2, x12_0_2, (wu9 ++ ([[.int .i64 x12_1_0, .int .i64 x12_1_1]] : List (List Value))), (u9 ++ [(x12_1_0, x12_1_1)]), rfl, rfl, (sX5.trans sx12), ix12_0_0, ix12_0_1, (New.from we15 (sx1.trans sX5)), (F2.append (F2.up (r := c4.toRp) sx12 fu9) (show F2 (c4.R k13) ([[.int .i64 x12_1_0, .int .i64 x12_1_1]] : List (List Value)) [(x12_1_0, x12_1_1)] from ⟨(U1 ix12_1_0 ix12_1_1), trivial⟩)), hM1⟩ (Nat.lt_succ_self _)))))
theorem M08 (h : Hp) (csp0 : List Value) (p0 : l0) (rp0 : Y0.R h csp0 p0) (r : l0 × Bool) (hM0 : S7 p0 = some r) :
  Tr Tryz.prog 101 #[.agg csp0.toArray] h fun v h' => ∃ (cs0 : List Value), v = .tuple #[.agg cs0.toArray, .bool r.2] ∧ New Y0 h h' cs0 r.1 := by
 obtain ⟨p0_0, p0_1, ap0_2, np0_2, cp0_2, p0_2, rfl, rfl, ip0_0, ip0_1, rp0_2⟩ := B0 rp0
 obtain ⟨rfl, lp0_2⟩ := Sl.len rp0_2
 unfold S7 at hM0
 dsimp only at hM0
 refine U2 (args := [.agg #[.int .i64 p0_0, .int .i64 p0_1, .slice ap0_2 p0_2.length cp0_2]]) (fn := Tryz.f101) rfl ?_
 obtain ⟨x1, gx1, hM0⟩ := j0 hM0
 refine Tr.mono (E3 _ [.int .i64 p0_0, .int .i64 p0_1, .slice ap0_2 p0_2.length cp0_2] (p0_0, p0_1, p0_2) (z0 ip0_0 ip0_1 rp0_2) _  gx1) ?_
 rintro v3 k2 ⟨gx1_2, nx1_2, cx1_2, rfl, wx1⟩
 have sx1 : Sub h k2 := wx1.sub
 have rx1 := wx1.r
 obtain ⟨x1_0, x1_1, x1_2⟩ := x1
 dsimp only at hM0 wx1 rx1
 obtain ⟨_, _, _, _, _, _, ecx1, exx1, ix1_0, ix1_1, rx1_2⟩ := B0 rx1
 cases ecx1
 cases exx1
 obtain ⟨rfl, lx1_2⟩ := Sl.len rx1_2
 try dsimp only at hM0
 have we4 := New.sndI (New.sndI (wx1))
 obtain ⟨x5, gx5, hM0⟩ := j0 hM0
 refine Tr.val (o8 _ [.int .i64 p0_0, .int .i64 p0_1, .slice ap0_2 p0_2.length cp0_2] (p0_0, p0_1, p0_2) (z0 ip0_0 ip0_1 (I0.mono sx1 rp0_2)) _  gx5) ?_
 refine And.intro (fun hc6 => ?_) (fun hc6 => ?_)
 ·replace hM0 := ifP hM0 hc6
  have hE := Option.some.inj hM0; subst hE
  exact ⟨([.int .i64 x1_0, .int .i64 x1_1, .slice (some ⟨gx1_2, 0, none⟩) x1_2.length cx1_2]), rfl, (New.pair (New.int ix1_0) (New.pair (New.int ix1_1) we4))⟩
 ·replace hM0 := ifN hM0 hc6
  have hE := Option.some.inj hM0; subst hE
  exact ⟨([.int .i64 x1_0, .int .i64 (IntKind.i64.wrap (x1_1 + 1)), .slice (some ⟨gx1_2, 0, none⟩) x1_2.length cx1_2]), rfl, (New.pair (New.int ix1_0) (New.pair (New.int (H0 _)) we4))⟩
theorem n0b (h : Hp) (csp0 : List Value) (p0 : l0) (rp0 : Y0.R h csp0 p0) (csp1 : List Value) (p1 : D0) (rp1 : Q0.R h csp1 p1) (r : l0 × Bool) (hM0 : P8 p0 p1 = some r) :
  Tr Tryz.prog 102 #[.agg csp0.toArray, .agg csp1.toArray] h fun v h' => ∃ (cs0 : List Value), v = .tuple #[.agg cs0.toArray, .bool r.2] ∧ New Y0 h h' cs0 r.1 := by
 obtain ⟨p0_0, p0_1, ap0_2, np0_2, cp0_2, p0_2, rfl, rfl, ip0_0, ip0_1, rp0_2⟩ := B0 rp0
 obtain ⟨rfl, lp0_2⟩ := Sl.len rp0_2
 obtain ⟨p1_0, p1_1, p1_2, rfl, rfl, ip1_0, ip1_1, ip1_2⟩ := j1 rp1
 unfold P8 at hM0
 dsimp only at hM0
 refine U2 (args := [.agg #[.int .i64 p0_0, .int .i64 p0_1, .slice ap0_2 p0_2.length cp0_2], .agg #[.int .i64 p1_0, .int .i64 p1_1, .int .i64 p1_2]]) (fn := Tryz.f102) rfl ?_
 obtain ⟨x1, gx1, hM0⟩ := j0 hM0
 refine Tr.mono (E3 _ [.int .i64 p0_0, .int .i64 p0_1, .slice ap0_2 p0_2.length cp0_2] (p0_0, p0_1, p0_2) (z0 ip0_0 ip0_1 rp0_2) _  gx1) ?_
 rintro v3 k2 ⟨gx1_2, nx1_2, cx1_2, rfl, wx1⟩
 have sx1 : Sub h k2 := wx1.sub
 have rx1 := wx1.r
 obtain ⟨x1_0, x1_1, x1_2⟩ := x1
 dsimp only at hM0 wx1 rx1
 obtain ⟨_, _, _, _, _, _, ecx1, exx1, ix1_0, ix1_1, rx1_2⟩ := B0 rx1
 cases ecx1
 cases exx1
 obtain ⟨rfl, lx1_2⟩ := Sl.len rx1_2
 try dsimp only at hM0
 have we4 := New.sndI (New.sndI (wx1))
 obtain ⟨x5, gx5, hM0⟩ := j0 hM0
 refine Tr.val (o8 _ [.int .i64 p0_0, .int .i64 p0_1, .slice ap0_2 p0_2.length cp0_2] (p0_0, p0_1, p0_2) (z0 ip0_0 ip0_1 (I0.mono sx1 rp0_2)) _  gx5) ?_
 obtain ⟨x6, gx6, hM0⟩ := j0 hM0
 refine Exists.intro (.bool x6) (And.intro (fun q => D01 _ [.int .i64 p0_0, .int .i64 p0_1, .slice ap0_2 p0_2.length cp0_2] (p0_0, p0_1, p0_2) (z0 ip0_0 ip0_1 (I0.mono sx1 rp0_2)) [.int .i64 p1_0, .int .i64 p1_1, .int .i64 p1_2] (p1_0, p1_1, p1_2) (V0 ip1_0 ip1_1 ip1_2) _  (I2 gx6 q)) ?_)
 obtain ⟨x7, gx7, hM0⟩ := j0 hM0
 refine Exists.intro (.bool x7) (And.intro (fun q => L9 _ ap0_2 p0_2.length cp0_2 p0_2 (I0.mono sx1 rp0_2) [.int .i64 p1_0, .int .i64 p1_1, .int .i64 p1_2] (p1_0, p1_1, p1_2) (V0 ip1_0 ip1_1 ip1_2) _  (I2 gx7 q)) ?_)
 refine And.intro (fun hc8 => ?_) (fun hc8 => ?_)
 ·replace hM0 := ifP hM0 hc8
  have hE := Option.some.inj hM0; subst hE
  exact ⟨([.int .i64 x1_0, .int .i64 x1_1, .slice (some ⟨gx1_2, 0, none⟩) x1_2.length cx1_2]), rfl, (New.pair (New.int ix1_0) (New.pair (New.int ix1_1) we4))⟩
 ·replace hM0 := ifN hM0 hc8
  obtain ⟨q9, gq9, hM0⟩ := j0 hM0
  obtain ⟨vsz10, rxz10, lnz10, apz10⟩ := New.app we4 (Sub.refl _)
  refine Exists.intro vsz10 (And.intro rxz10 (And.intro (E2 gq9 (by first | rw [lnz10, F2.length (show F2 (Q0.R k2) ([[.int .i64 p1_0, .int .i64 p1_1, .int .i64 p1_2]] : List (List Value)) [(p1_0, p1_1, p1_2)] from ⟨(V0 ip1_0 ip1_1 ip1_2), trivial⟩)] | (rw [lnz10]; rfl))) ?_))
  intro vz10 kz10 happz10
  obtain ⟨wz10, gz10, oz10, nz10, cz10, rfl⟩ := apz10 _ _ _ _ _ (F3.ofPlain (F08 _) (show F2 (Q0.R k2) ([[.int .i64 p1_0, .int .i64 p1_1, .int .i64 p1_2]] : List (List Value)) [(p1_0, p1_1, p1_2)] from ⟨(V0 ip1_0 ip1_1 ip1_2), trivial⟩)) g7.ofPlain happz10
  have rz10 := wz10.r
  obtain ⟨ez10, lz10⟩ := Sl.len rz10
  subst ez10
  obtain ⟨x11, gx11, hM0⟩ := j0 hM0
  refine Tr.mono (t01 _ (some ⟨gz10, oz10, none⟩) (x1_2 ++ [(p1_0, p1_1, p1_2)]).length cz10 (x1_2 ++ [(p1_0, p1_1, p1_2)]) rz10 _  gx11) ?_
  rintro v13 k12 ⟨ax11, nx11, cx11, rfl, wx11⟩
  have sx11 : Sub kz10 k12 := wx11.sub
  have rx11 := wx11.r
  obtain ⟨rfl, lx11⟩ := Sl.len rx11
  have hE := Option.some.inj hM0; subst hE
  exact ⟨([.int .i64 x1_0, .int .i64 x1_1, .slice ax11 x11.length cx11]), rfl, (New.pair (New.int ix1_0) (New.pair (New.int ix1_1) (New.from wx11 wz10.sub)))⟩
theorem G05 (h : Hp) (csp0 : List Value) (p0 : l0) (rp0 : Y0.R h csp0 p0) (r : J0) (hM0 : M6 p0 = some r) :
  Tr Tryz.prog 100 #[.agg csp0.toArray] h fun v h' => ∃ (a0 : Option Addr) (n0 c0 : Nat), v = .slice a0 n0 c0 ∧ I0.R h' [.slice a0 n0 c0] r ∧ Sub h h' := by
 obtain ⟨p0_0, p0_1, ap0_2, np0_2, cp0_2, p0_2, rfl, rfl, ip0_0, ip0_1, rp0_2⟩ := B0 rp0
 obtain ⟨rfl, lp0_2⟩ := Sl.len rp0_2
 unfold M6 at hM0
 dsimp only at hM0
 refine U2 (args := [.agg #[.int .i64 p0_0, .int .i64 p0_1, .slice ap0_2 p0_2.length cp0_2]]) (fn := Tryz.f100) rfl ?_
 obtain ⟨x1, gx1, hM0⟩ := j0 hM0
 refine Tr.val (z9 _ [.int .i64 p0_0, .int .i64 p0_1, .slice ap0_2 p0_2.length cp0_2] (p0_0, p0_1, p0_2) (z0 ip0_0 ip0_1 rp0_2) _  gx1) ?_
 refine And.intro (fun hc2 => ?_) (fun hc2 => ?_)
 ·replace hM0 := ifP hM0 hc2
  intro v3 k4 f5
  obtain ⟨az6, cz6, rfl, rz6, sz6, lz6⟩ := Z0.out (r := Q0.toRp) f5 (show F2 (Q0.R h) ([] : List (List Value)) ([] : J0) from trivial)
  have hE := Option.some.inj hM0; subst hE
  exact ⟨az6, (([] : J0)).length, cz6, rfl, rz6, sz6⟩
 ·replace hM0 := ifN hM0 hc2
  obtain ⟨X7, hLX7, hM0⟩ := j0 hM0
  refine Exists.intro { vars := [4], boxes := [], owns := [0], fuel := true } (Exists.intro (fun vs os h' => ∃ (u8 : Int) (wu9 : List (List Value)) (u9 : List D0), vs.tail = [.int .i64 u8] ∧ os = [wu9] ∧ Sub h h' ∧ F0 u8 ∧ F2 (Q0.R h') wu9 u9 ∧ w4 p0_1 p0_0 p0_2 (M1 vs) u8 u9 = some X7) (Exists.intro (fun _ _ => 0) ?_))
  refine And.intro (Exists.intro S0 ⟨0, [], ([] : J0), rfl, rfl, (Sub.refl _), (c64 (by decide) (by decide)), (show F2 (Q0.R h) ([] : List (List Value)) ([] : J0) from trivial), hLX7⟩) ?_
  rintro v_0 wu9 m11 k10 ⟨u8, zzu9, u9, evX7, eoX7, sX7, iu8, fu9, hM1⟩
  cases evX7
  cases eoX7
  replace hM1 : w4 p0_1 p0_0 p0_2 m11 u8 u9 = some X7 := hM1
  obtain _ | m11 := m11
  ·cases (show (none : Option _) = some X7 from hM1)
  rw [w4.eq_2] at hM1
  refine And.intro (fun hc12 => ?_) (fun hc12 => ?_)
  ·replace hM1 := ifP hM1 hc12
   obtain ⟨x13, gx13, hM1⟩ := j0 hM1
   refine Tr.mono (i05 _ p0_0 ip0_0 _  gx13) ?_
   rintro v15 k14 ⟨ax13, nx13, cx13, rfl, rx13, sx13⟩
   obtain ⟨rfl, lx13⟩ := Sl.len rx13
   obtain ⟨X16, hLX16, hM1⟩ := j0 hM1
   refine Exists.intro { vars := [22], boxes := [], owns := [0], fuel := true } (Exists.intro (fun vs os h' => ∃ (u17 : Int) (wu18 : List (List Value)) (u18 : List D0), vs.tail = [.int .i64 u17] ∧ os = [wu18] ∧ Sub k14 h' ∧ F0 u17 ∧ F2 (Q0.R h') wu18 u18 ∧ Z2 x13 p0_0 p0_1 p0_2 u8 (M1 vs) u17 u18 = some X16) (Exists.intro (fun _ _ => 0) ?_))
   refine And.intro (Exists.intro S0 ⟨0, wu9, u9, rfl, rfl, (Sub.refl _), (c64 (by decide) (by decide)), (F2.up (r := Q0.toRp) sx13 fu9), hLX16⟩) ?_
   rintro v_0 wu18 m20 k19 ⟨u17, zzu18, u18, evX16, eoX16, sX16, iu17, fu18, hM2⟩
   cases evX16
   cases eoX16
   replace hM2 : Z2 x13 p0_0 p0_1 p0_2 u8 m20 u17 u18 = some X16 := hM2
   obtain _ | m20 := m20
   ·cases (show (none : Option _) = some X16 from hM2)
   rw [Z2.eq_2] at hM2
   refine And.intro (fun hc21 => ?_) (fun hc21 => ?_)
   ·replace hM2 := ifP hM2 hc21
    obtain ⟨x22, gx22, hM2⟩ := j0 hM2
    obtain ⟨bx22, csx22, ex22, rx22⟩ := Sl.getI (r := Wp.int.toRp) (I1.mono sX16 rx13) gx22 (by decide)
    refine And.intro bx22 ?_
    obtain ⟨rfl, ix22⟩ := rx22
    refine Exists.intro _ (And.intro ex22 ?_)
    obtain ⟨x23, gx23, hM2⟩ := j0 hM2
    refine Tr.val (V00 _ [.int .i64 p0_0, .int .i64 p0_1, .slice ap0_2 p0_2.length cp0_2] (p0_0, p0_1, p0_2) (z0 ip0_0 ip0_1 (I0.mono ((sX7.trans sx13).trans sX16) rp0_2)) u8 iu8 x22 ix22 _  gx23) ?_
    obtain ⟨q24, gq24, hM2⟩ := j0 hM2
    have ix23 : F0 x23 := G2 gq24
    refine And.intro (fun hc25 => ?_) (fun hc25 => ?_)
    ·replace hM2 := ifP hM2 hc25
     obtain ⟨q26, gq26, hM2⟩ := j0 hM2
     refine And.intro (E2 gq26 (by first | rw [F2.length fu18, F2.length (show F2 (Q0.R k19) ([[.int .i64 u8, .int .i64 x22, .int .i64 (-1)]] : List (List Value)) [(u8, x22, (-1))] from ⟨(V0 iu8 ix22 (c64 (by decide) (by decide))), trivial⟩)] | exact congrArg (· + 1) (F2.length fu18))) ?_
     refine And.intro rfl (And.intro (by repeat (first | exact trivial | refine And.intro rfl ?_)) (And.intro (by repeat (first | exact trivial | refine And.intro rfl ?_)) (Exists.intro m20 (And.intro ⟨(IntKind.i64.wrap (u17 + 1)), (wu18 ++ ([[.int .i64 u8, .int .i64 x22, .int .i64 (-1)]] : List (List Value))), (u18 ++ [(u8, x22, (-1))]), rfl, rfl, sX16, (H0 _), (F2.append fu18 (show F2 (Q0.R k19) ([[.int .i64 u8, .int .i64 x22, .int .i64 (-1)]] : List (List Value)) [(u8, x22, (-1))] from ⟨(V0 iu8 ix22 (c64 (by decide) (by decide))), trivial⟩)), hM2⟩ (Nat.lt_succ_self _)))))
    ·replace hM2 := ifN hM2 hc25
     refine And.intro rfl (And.intro (by repeat (first | exact trivial | refine And.intro rfl ?_)) (And.intro (by repeat (first | exact trivial | refine And.intro rfl ?_)) (Exists.intro m20 (And.intro ⟨(IntKind.i64.wrap (u17 + 1)), wu18, u18, rfl, rfl, sX16, (H0 _), fu18, hM2⟩ (Nat.lt_succ_self _)))))
   ·replace hM2 := ifN hM2 hc21
    have hE := Option.some.inj hM2; subst hE
    try dsimp only [T0, U0] at hM1
    refine And.intro rfl (And.intro (by repeat (first | exact trivial | refine And.intro rfl ?_)) (And.intro (by repeat (first | exact trivial | refine And.intro rfl ?_)) (Exists.intro m11 (And.intro ⟨(IntKind.i64.wrap (u8 + 1)), wu18, u18, rfl, rfl, ((sX7.trans sx13).trans sX16), (H0 _), fu18, hM1⟩ (Nat.lt_succ_self _)))))
  ·replace hM1 := ifN hM1 hc12
   have hE := Option.some.inj hM1; subst hE
   try dsimp only [T0, U0] at hM0
   intro v31 k32 f33
   obtain ⟨az34, cz34, rfl, rz34, sz34, lz34⟩ := Z0.out (r := Q0.toRp) f33 fu9
   have hE := Option.some.inj hM0; subst hE
   exact ⟨az34, u9.length, cz34, rfl, rz34, (sX7.trans sz34)⟩
end Go.Proofs.YtfdlgbfeceodeaaGreat
namespace Go.Proofs.YtfdlgbfeceodeaaGreat
open Go.H
set_option linter.unusedVariables false
set_option linter.unusedSimpArgs false
set_option maxRecDepth 10000
set_option maxHeartbeats 0
theorem D06 (h : Hp) (csp0 : List Value) (p0 : C0) (rp0 : D1.R h csp0 p0) (csp1 : List Value) (p1 : l0) (rp1 : Y0.R h csp1 p1) (r : l0 × Bool × Bool) (hM0 : j8 p0 p1 = some r) :
  Tr Tryz.prog 30 #[.agg csp0.toArray, .agg csp1.toArray] h fun v h' => ∃ (cs0 : List Value), v = .tuple #[.agg cs0.toArray, .bool r.2.1, .bool r.2.2] ∧ New Y0 h h' cs0 r.1 := by
 obtain ⟨p0_0, ap0_1, np0_1, cp0_1, p0_1, rfl, rfl, ip0_0, rp0_1⟩ := J1 rp0
 obtain ⟨rfl, lp0_1⟩ := Sl.len rp0_1
 obtain ⟨p1_0, p1_1, ap1_2, np1_2, cp1_2, p1_2, rfl, rfl, ip1_0, ip1_1, rp1_2⟩ := B0 rp1
 obtain ⟨rfl, lp1_2⟩ := Sl.len rp1_2
 unfold j8 at hM0
 dsimp only at hM0
 refine U2 (args := [.agg #[.int .i64 p0_0, .slice ap0_1 p0_1.length cp0_1], .agg #[.int .i64 p1_0, .int .i64 p1_1, .slice ap1_2 p1_2.length cp1_2]]) (fn := Tryz.f30) rfl ?_
 obtain ⟨x1, gx1, hM0⟩ := j0 hM0
 refine Tr.val (K9 _ [.int .i64 p0_0, .slice ap0_1 p0_1.length cp0_1] (p0_0, p0_1) (L1 ip0_0 rp0_1) _  gx1) ?_
 obtain ⟨x2, gx2, hM0⟩ := j0 hM0
 refine Exists.intro (.bool x2) (And.intro (fun q => z9 _ [.int .i64 p1_0, .int .i64 p1_1, .slice ap1_2 p1_2.length cp1_2] (p1_0, p1_1, p1_2) (z0 ip1_0 ip1_1 rp1_2) _  (I2 gx2 q)) ?_)
 refine And.intro (fun hc3 => ?_) (fun hc3 => ?_)
 ·replace hM0 := ifP hM0 hc3
  obtain ⟨x4, gx4, hM0⟩ := j0 hM0
  refine Tr.mono (E3 _ [.int .i64 p1_0, .int .i64 p1_1, .slice ap1_2 p1_2.length cp1_2] (p1_0, p1_1, p1_2) (z0 ip1_0 ip1_1 rp1_2) _  gx4) ?_
  rintro v6 k5 ⟨gx4_2, nx4_2, cx4_2, rfl, wx4⟩
  have sx4 : Sub h k5 := wx4.sub
  have rx4 := wx4.r
  obtain ⟨x4_0, x4_1, x4_2⟩ := x4
  dsimp only at hM0 wx4 rx4
  obtain ⟨_, _, _, _, _, _, ecx4, exx4, ix4_0, ix4_1, rx4_2⟩ := B0 rx4
  cases ecx4
  cases exx4
  obtain ⟨rfl, lx4_2⟩ := Sl.len rx4_2
  try dsimp only at hM0
  have we7 := New.sndI (New.sndI (wx4))
  have hE := Option.some.inj hM0; subst hE
  exact ⟨([.int .i64 x4_0, .int .i64 x4_1, .slice (some ⟨gx4_2, 0, none⟩) x4_2.length cx4_2]), rfl, (New.pair (New.int ix4_0) (New.pair (New.int ix4_1) we7))⟩
 ·replace hM0 := ifN hM0 hc3
  obtain ⟨x8, gx8, hM0⟩ := j0 hM0
  obtain ⟨x8_0, x8_1⟩ := x8
  try dsimp only at hM0
  refine Tr.val (y06 _ [.int .i64 p0_0, .slice ap0_1 p0_1.length cp0_1] (p0_0, p0_1) (L1 ip0_0 rp0_1) [.int .i64 p1_0, .int .i64 p1_1, .slice ap1_2 p1_2.length cp1_2] (p1_0, p1_1, p1_2) (z0 ip1_0 ip1_1 rp1_2) _  gx8) ?_
  obtain ⟨q9, gq9, hM0⟩ := j0 hM0
  have ix8_0 : F0 x8_0 := G2 gq9
  obtain ⟨q10, gq10, hM0⟩ := j0 hM0
  have ix8_1 : F0 x8_1 := G2 gq10
  refine And.intro (fun hc11 => ?_) (fun hc11 => ?_)
  ·replace hM0 := ifP hM0 hc11
   refine Or.inr (Or.inr (Or.inr (Or.inr (Exists.intro 13 (And.intro (And.intro (by kernel_rfl) (by kernel_rfl)) ?_)))))
   obtain ⟨x12, gx12, hM0⟩ := j0 hM0
   obtain ⟨bx12, csx12, ex12, rx12⟩ := Sl.getI (r := I1.toRp) rp0_1 gx12 (by decide)
   obtain ⟨ax12, nx12, cx12, rfl⟩ := Wp.slice_cell rx12
   obtain ⟨rfl, lx12⟩ := Sl.len rx12
   refine Or.inl (Exists.intro (.hel (.slice ap0_1 p0_1.length cp0_1) x8_1 1 0) (And.intro ?_ ?_))
   ·intro k13 s14
    exact And.intro bx12 (And.intro rfl (And.intro rfl rfl))
   refine Or.inl (Exists.intro (.val (.slice ax12 x12.length cx12)) (And.intro ?_ ?_))
   ·intro k15 s16
    exact Exists.intro _ (And.intro (V6.up s16 ex12) (And.intro rfl (And.intro rfl rfl)))
   obtain ⟨x17, gx17, hM0⟩ := j0 hM0
   obtain ⟨x17_0, x17_1⟩ := x17
   try dsimp only at hM0
   obtain ⟨x17_0_0, x17_0_1, x17_0_2⟩ := x17_0
   try dsimp only at hM0
   refine Or.inr (Exists.intro (fun v hh => ∃ (ux17_0 : Value), v = .tuple #[ux17_0, .bool x17_1] ∧ (fun v hh => ∃ (ax17_0_2 : Option Addr) (cx17_0_2 : Nat), v = .agg #[.int .i64 x17_0_0, .int .i64 x17_0_1, .slice ax17_0_2 x17_0_2.length cx17_0_2] ∧ F0 x17_0_0 ∧ F0 x17_0_1 ∧ New I0 h hh [.slice ax17_0_2 x17_0_2.length cx17_0_2] x17_0_2 ∧ x17_0_2.length ≤ 9223372036854775807) ux17_0 hh) (And.intro (fun v h1 h2 sb q => by obtain ⟨ux17_0, e, fux17_0⟩ := q; exact ⟨ux17_0, e, (by obtain ⟨ax17_0_2, cx17_0_2, e, f0, f1, f2, f3⟩ := fux17_0; exact ⟨ax17_0_2, cx17_0_2, e, f0, f1, New.mono f2 sb, f3⟩)⟩) (And.intro ?_ ?_)))
   ·intro k18 s19
    refine Tr.mono (k05 _ [.int .i64 p1_0, .int .i64 p1_1, .slice ap1_2 p1_2.length cp1_2] (p1_0, p1_1, p1_2) (z0 ip1_0 ip1_1 (I0.mono s19 rp1_2)) x8_0 ix8_0 ax12 x12.length cx12 x12 (I1.mono s19 rx12) x8_0 ix8_0 _ gx17) ?_
    rintro _ kk ⟨csx17_0, rfl, wx17_0⟩
    have sb := wx17_0.sub
    have rx17_0 := wx17_0.r
    obtain ⟨yx17_0_0, yx17_0_1, ayx17_0_2, nyx17_0_2, cyx17_0_2, yx17_0_2, rfl, ey, iyx17_0_0, iyx17_0_1, ryx17_0_2⟩ := B0 rx17_0
    cases ey
    obtain ⟨rfl, lyx17_0_2⟩ := Sl.len ryx17_0_2
    exact And.intro p03 (And.intro sb ⟨(.agg #[.int .i64 x17_0_0, .int .i64 x17_0_1, .slice ayx17_0_2 x17_0_2.length cyx17_0_2]), rfl, ⟨ayx17_0_2, cyx17_0_2, rfl, iyx17_0_0, iyx17_0_1, (New.from (New.sndI (New.sndI (wx17_0))) s19), lyx17_0_2⟩⟩)
   refine Or.inr (Exists.intro (fun v hh => ∃ (ux17_0 : Value), v = .tuple #[ux17_0, .bool x17_1] ∧ (fun v hh => ∃ (ax17_0_2 : Option Addr) (cx17_0_2 : Nat), v = .agg #[.int .i64 x17_0_0, .int .i64 x17_0_1, .slice ax17_0_2 x17_0_2.length cx17_0_2] ∧ F0 x17_0_0 ∧ F0 x17_0_1 ∧ New I0 h hh [.slice ax17_0_2 x17_0_2.length cx17_0_2] x17_0_2 ∧ x17_0_2.length ≤ 9223372036854775807) ux17_0 hh) (And.intro (fun v h1 h2 sb q => by obtain ⟨ux17_0, e, fux17_0⟩ := q; exact ⟨ux17_0, e, (by obtain ⟨ax17_0_2, cx17_0_2, e, f0, f1, f2, f3⟩ := fux17_0; exact ⟨ax17_0_2, cx17_0_2, e, f0, f1, New.mono f2 sb, f3⟩)⟩) (And.intro ?_ ?_)))
   ·intro k20 s21
    rintro _ ⟨_, rfl, ⟨az22p02, cz22p02, rfl, iz22p00, iz22p01, rz22p02, lz22p02⟩⟩
    exact And.intro p03 (And.intro (Sub.refl _) ⟨(.agg #[.int .i64 x17_0_0, .int .i64 x17_0_1, .slice az22p02 x17_0_2.length cz22p02]), rfl, ⟨az22p02, cz22p02, rfl, iz22p00, iz22p01, rz22p02, lz22p02⟩⟩)
   refine Or.inr (Exists.intro (fun v hh => ∃ (ax17_0_2 : Option Addr) (cx17_0_2 : Nat), v = .agg #[.int .i64 x17_0_0, .int .i64 x17_0_1, .slice ax17_0_2 x17_0_2.length cx17_0_2] ∧ F0 x17_0_0 ∧ F0 x17_0_1 ∧ New I0 h hh [.slice ax17_0_2 x17_0_2.length cx17_0_2] x17_0_2 ∧ x17_0_2.length ≤ 9223372036854775807) (And.intro (fun v h1 h2 sb q => by obtain ⟨ax17_0_2, cx17_0_2, e, f0, f1, f2, f3⟩ := q; exact ⟨ax17_0_2, cx17_0_2, e, f0, f1, New.mono f2 sb, f3⟩) (And.intro ?_ ?_)))
   ·intro k23 s24
    rintro _ ⟨_, rfl, ⟨az25p02, cz25p02, rfl, iz25p00, iz25p01, rz25p02, lz25p02⟩⟩
    exact And.intro p03 (And.intro (Sub.refl _) ⟨az25p02, cz25p02, rfl, iz25p00, iz25p01, rz25p02, lz25p02⟩)
   refine Or.inl (Exists.intro (.val (.bool x17_1)) (And.intro ?_ ?_))
   ·intro k26 s27
    rintro _ ⟨_, rfl, ⟨az28p02, cz28p02, rfl, iz28p00, iz28p01, rz28p02, lz28p02⟩⟩
    exact And.intro rfl (And.intro rfl rfl)
   intro k29 s30
   rintro _ ⟨az312, cz312, rfl, iz310, iz311, rz312, lz312⟩
   rintro _ ⟨_, rfl, ⟨az32p02, cz32p02, rfl, iz32p00, iz32p01, rz32p02, lz32p02⟩⟩
   rintro _ ⟨_, rfl, ⟨az33p02, cz33p02, rfl, iz33p00, iz33p01, rz33p02, lz33p02⟩⟩
   refine And.intro (fun hc34 => ?_) (fun hc34 => ?_)
   ·replace hM0 := ifP hM0 hc34
    obtain ⟨x35, gx35, hM0⟩ := j0 hM0
    refine Tr.mono (E3 _ [.int .i64 p1_0, .int .i64 p1_1, .slice ap1_2 p1_2.length cp1_2] (p1_0, p1_1, p1_2) (z0 ip1_0 ip1_1 (I0.mono s30 rp1_2)) _  gx35) ?_
    rintro v37 k36 ⟨gx35_2, nx35_2, cx35_2, rfl, wx35⟩
    have sx35 : Sub k29 k36 := wx35.sub
    have rx35 := wx35.r
    obtain ⟨x35_0, x35_1, x35_2⟩ := x35
    dsimp only at hM0 wx35 rx35
    obtain ⟨_, _, _, _, _, _, ecx35, exx35, ix35_0, ix35_1, rx35_2⟩ := B0 rx35
    cases ecx35
    cases exx35
    obtain ⟨rfl, lx35_2⟩ := Sl.len rx35_2
    try dsimp only at hM0
    have we38 := New.sndI (New.sndI (wx35))
    have hE := Option.some.inj hM0; subst hE
    exact ⟨([.int .i64 x35_0, .int .i64 x35_1, .slice (some ⟨gx35_2, 0, none⟩) x35_2.length cx35_2]), rfl, (New.pair (New.int ix35_0) (New.pair (New.int ix35_1) (New.from we38 s30)))⟩
   ·replace hM0 := ifN hM0 hc34
    obtain ⟨x39, gx39, hM0⟩ := j0 hM0
    refine Tr.mono (r02 _ [.int .i64 x17_0_0, .int .i64 x17_0_1, .slice az312 x17_0_2.length cz312] (x17_0_0, x17_0_1, x17_0_2) (z0 iz310 iz311 rz312.r) _  gx39) ?_
    rintro v41 k40 ⟨csx39_0, ax39_1, nx39_1, cx39_1, rfl, wx39_0, rx39_1⟩
    obtain ⟨x39_0, x39_1⟩ := x39
    dsimp only at hM0 wx39_0 rx39_1
    have sx39 : Sub k29 k40 := wx39_0.sub
    have rx39_0 := wx39_0.r
    obtain ⟨x39_0_0, x39_0_1, ax39_0_2, nx39_0_2, cx39_0_2, x39_0_2, rfl, rfl, ix39_0_0, ix39_0_1, rx39_0_2⟩ := B0 rx39_0
    obtain ⟨rfl, lx39_0_2⟩ := Sl.len rx39_0_2
    try dsimp only at hM0
    have we42 := New.sndI (New.sndI (wx39_0))
    obtain ⟨rfl, lx39_1⟩ := Sl.len rx39_1
    have hE := Option.some.inj hM0; subst hE
    exact ⟨([.int .i64 x39_0_0, .int .i64 x39_0_1, .slice ax39_0_2 x39_0_2.length cx39_0_2]), rfl, (New.pair (New.int ix39_0_0) (New.pair (New.int ix39_0_1) (New.from we42 s30)))⟩
  ·replace hM0 := ifN hM0 hc11
   obtain ⟨x43, gx43, hM0⟩ := j0 hM0
   refine Tr.mono (G05 _ [.int .i64 p1_0, .int .i64 p1_1, .slice ap1_2 p1_2.length cp1_2] (p1_0, p1_1, p1_2) (z0 ip1_0 ip1_1 rp1_2) _  gx43) ?_
   rintro v45 k44 ⟨ax43, nx43, cx43, rfl, rx43, sx43⟩
   obtain ⟨rfl, lx43⟩ := Sl.len rx43
   refine And.intro (fun hc46 => ?_) (fun hc46 => ?_)
   ·replace hM0 := ifP hM0 hc46
    obtain ⟨x47, gx47, hM0⟩ := j0 hM0
    refine Tr.mono (E3 _ [.int .i64 p1_0, .int .i64 p1_1, .slice ap1_2 p1_2.length cp1_2] (p1_0, p1_1, p1_2) (z0 ip1_0 ip1_1 (I0.mono sx43 rp1_2)) _  gx47) ?_
    rintro v49 k48 ⟨gx47_2, nx47_2, cx47_2, rfl, wx47⟩
    have sx47 : Sub k44 k48 := wx47.sub
    have rx47 := wx47.r
    obtain ⟨x47_0, x47_1, x47_2⟩ := x47
    dsimp only at hM0 wx47 rx47
    obtain ⟨_, _, _, _, _, _, ecx47, exx47, ix47_0, ix47_1, rx47_2⟩ := B0 rx47
    cases ecx47
    cases exx47
    obtain ⟨rfl, lx47_2⟩ := Sl.len rx47_2
    try dsimp only at hM0
    have we50 := New.sndI (New.sndI (wx47))
    have hE := Option.some.inj hM0; subst hE
    exact ⟨([.int .i64 x47_0, .int .i64 x47_1, .slice (some ⟨gx47_2, 0, none⟩) x47_2.length cx47_2]), rfl, (New.pair (New.int ix47_0) (New.pair (New.int ix47_1) (New.from we50 sx43)))⟩
   ·replace hM0 := ifN hM0 hc46
    obtain ⟨x51, gx51, hM0⟩ := j0 hM0
    refine Tr.mono (M08 _ [.int .i64 p1_0, .int .i64 p1_1, .slice ap1_2 p1_2.length cp1_2] (p1_0, p1_1, p1_2) (z0 ip1_0 ip1_1 (I0.mono sx43 rp1_2)) _  gx51) ?_
    rintro v53 k52 ⟨csx51_0, rfl, wx51_0⟩
    obtain ⟨x51_0, x51_1⟩ := x51
    dsimp only at hM0 wx51_0
    have sx51 : Sub k44 k52 := wx51_0.sub
    have rx51_0 := wx51_0.r
    obtain ⟨x51_0_0, x51_0_1, ax51_0_2, nx51_0_2, cx51_0_2, x51_0_2, rfl, rfl, ix51_0_0, ix51_0_1, rx51_0_2⟩ := B0 rx51_0
    obtain ⟨rfl, lx51_0_2⟩ := Sl.len rx51_0_2
    try dsimp only at hM0
    have we54 := New.sndI (New.sndI (wx51_0))
    refine And.intro (fun hc55 => ?_) (fun hc55 => ?_)
    ·replace hM0 := ifP hM0 hc55
     refine Or.inr (Or.inr (Or.inr (Or.inr (Exists.intro 16 (And.intro (And.intro (by kernel_rfl) (by kernel_rfl)) ?_)))))
     obtain ⟨x56, gx56, hM0⟩ := j0 hM0
     obtain ⟨bx56, csx56, ex56, rx56⟩ := Sl.getI (r := Q0.toRp) (I0.mono sx51 rx43) gx56 (by decide)
     obtain ⟨x56_0, x56_1, x56_2, rfl, rfl, ix56_0, ix56_1, ix56_2⟩ := j1 rx56
     try dsimp only at hM0
     refine Or.inl (Exists.intro (.hel (.slice ax43 x43.length cx43) 0 3 0) (And.intro ?_ ?_))
     ·intro k57 s58
      exact And.intro bx56 (And.intro rfl (And.intro rfl rfl))
     refine Or.inl (Exists.intro (.val (.int .i64 x56_0)) (And.intro ?_ ?_))
     ·intro k59 s60
      exact Exists.intro _ (And.intro (V6.up s60 ex56) (And.intro rfl (And.intro rfl rfl)))
     obtain ⟨x61, gx61, hM0⟩ := j0 hM0
     obtain ⟨bx61, csx61, ex61, rx61⟩ := Sl.getI (r := Q0.toRp) (I0.mono sx51 rx43) gx61 (by decide)
     obtain ⟨x61_0, x61_1, x61_2, rfl, rfl, ix61_0, ix61_1, ix61_2⟩ := j1 rx61
     try dsimp only at hM0
     refine Or.inl (Exists.intro (.hel (.slice ax43 x43.length cx43) 0 3 0) (And.intro ?_ ?_))
     ·intro k62 s63
      exact And.intro bx61 (And.intro rfl (And.intro rfl rfl))
     refine Or.inl (Exists.intro (.val (.int .i64 x61_1)) (And.intro ?_ ?_))
     ·intro k64 s65
      exact Exists.intro _ (And.intro (V6.up s65 ex61) (And.intro rfl (And.intro rfl rfl)))
     obtain ⟨x66, gx66, hM0⟩ := j0 hM0
     obtain ⟨x66_0, x66_1, x66_2⟩ := x66
     try dsimp only at hM0
     refine Or.inr (Exists.intro (fun v hh => ∃ (_ : Unit), v = .agg #[.int .i64 x66_0, .int .i64 x66_1, .int .i64 x66_2] ∧ F0 x66_0 ∧ F0 x66_1 ∧ F0 x66_2) (And.intro (fun v h1 h2 sb q => by obtain ⟨u, e, f0, f1, f2⟩ := q; exact ⟨u, e, f0, f1, f2⟩) (And.intro ?_ ?_)))
     ·intro k67 s68
      refine Tr.mono (j05 _ x56_0 ix56_0 x61_1 ix61_1 p1_1 ip1_1 _ gx66) ?_
      rintro _ kk ⟨csx66, rfl, rx66, sb⟩
      obtain ⟨yx66_0, yx66_1, yx66_2, rfl, ey, iyx66_0, iyx66_1, iyx66_2⟩ := j1 rx66
      cases ey
      exact And.intro p03 (And.intro sb ⟨(), rfl, iyx66_0, iyx66_1, iyx66_2⟩)
     obtain ⟨x69, gx69, hM0⟩ := j0 hM0
     obtain ⟨x69_0, x69_1⟩ := x69
     try dsimp only at hM0
     obtain ⟨x69_0_0, x69_0_1, x69_0_2⟩ := x69_0
     try dsimp only at hM0
     refine Or.inr (Exists.intro (fun v hh => ∃ (ux69_0 : Value), v = .tuple #[ux69_0, .bool x69_1] ∧ (fun v hh => ∃ (ax69_0_2 : Option Addr) (cx69_0_2 : Nat), v = .agg #[.int .i64 x69_0_0, .int .i64 x69_0_1, .slice ax69_0_2 x69_0_2.length cx69_0_2] ∧ F0 x69_0_0 ∧ F0 x69_0_1 ∧ New I0 k52 hh [.slice ax69_0_2 x69_0_2.length cx69_0_2] x69_0_2 ∧ x69_0_2.length ≤ 9223372036854775807) ux69_0 hh) (And.intro (fun v h1 h2 sb q => by obtain ⟨ux69_0, e, fux69_0⟩ := q; exact ⟨ux69_0, e, (by obtain ⟨ax69_0_2, cx69_0_2, e, f0, f1, f2, f3⟩ := fux69_0; exact ⟨ax69_0_2, cx69_0_2, e, f0, f1, New.mono f2 sb, f3⟩)⟩) (And.intro ?_ ?_)))
     ·intro k70 s71
      rintro _ ⟨_, rfl, iz720, iz721, iz722⟩
      refine Tr.mono (n0b _ [.int .i64 x51_0_0, .int .i64 x51_0_1, .slice ax51_0_2 x51_0_2.length cx51_0_2] (x51_0_0, x51_0_1, x51_0_2) (z0 ix51_0_0 ix51_0_1 (I0.mono s71 rx51_0_2)) [.int .i64 x66_0, .int .i64 x66_1, .int .i64 x66_2] (x66_0, x66_1, x66_2) (V0 iz720 iz721 iz722) _ gx69) ?_
      rintro _ kk ⟨csx69_0, rfl, wx69_0⟩
      have sb := wx69_0.sub
      have rx69_0 := wx69_0.r
      obtain ⟨yx69_0_0, yx69_0_1, ayx69_0_2, nyx69_0_2, cyx69_0_2, yx69_0_2, rfl, ey, iyx69_0_0, iyx69_0_1, ryx69_0_2⟩ := B0 rx69_0
      cases ey
      obtain ⟨rfl, lyx69_0_2⟩ := Sl.len ryx69_0_2
      exact And.intro p03 (And.intro sb ⟨(.agg #[.int .i64 x69_0_0, .int .i64 x69_0_1, .slice ayx69_0_2 x69_0_2.length cyx69_0_2]), rfl, ⟨ayx69_0_2, cyx69_0_2, rfl, iyx69_0_0, iyx69_0_1, (New.from (New.sndI (New.sndI (wx69_0))) s71), lyx69_0_2⟩⟩)
     refine Or.inr (Exists.intro (fun v hh => ∃ (ux69_0 : Value), v = .tuple #[ux69_0, .bool x69_1] ∧ (fun v hh => ∃ (ax69_0_2 : Option Addr) (cx69_0_2 : Nat), v = .agg #[.int .i64 x69_0_0, .int .i64 x69_0_1, .slice ax69_0_2 x69_0_2.length cx69_0_2] ∧ F0 x69_0_0 ∧ F0 x69_0_1 ∧ New I0 k52 hh [.slice ax69_0_2 x69_0_2.length cx69_0_2] x69_0_2 ∧ x69_0_2.length ≤ 9223372036854775807) ux69_0 hh) (And.intro (fun v h1 h2 sb q => by obtain ⟨ux69_0, e, fux69_0⟩ := q; exact ⟨ux69_0, e, (by obtain ⟨ax69_0_2, cx69_0_2, e, f0, f1, f2, f3⟩ := fux69_0; exact ⟨ax69_0_2, cx69_0_2, e, f0, f1, New.mono f2 sb, f3⟩)⟩) (And.intro ?_ ?_)))
     ·intro k73 s74
      rintro _ ⟨_, rfl, ⟨az75p02, cz75p02, rfl, iz75p00, iz75p01, rz75p02, lz75p02⟩⟩
      exact And.intro p03 (And.intro (Sub.refl _) ⟨(.agg #[.int .i64 x69_0_0, .int .i64 x69_0_1, .slice az75p02 x69_0_2.length cz75p02]), rfl, ⟨az75p02, cz75p02, rfl, iz75p00, iz75p01, rz75p02, lz75p02⟩⟩)
     refine Or.inr (Exists.intro (fun v hh => ∃ (ax69_0_2 : Option Addr) (cx69_0_2 : Nat), v = .agg #[.int .i64 x69_0_0, .int .i64 x69_0_1, .slice ax69_0_2 x69_0_2.length cx69_0_2] ∧ F0 x69_0_0 ∧ F0 x69_0_1 ∧ New I0 k52 hh [.slice ax69_0_2 x69_0_2.length cx69_0_2] x69_0_2 ∧ x69_0_2.length ≤ 9223372036854775807) (And.intro (fun v h1 h2 sb q => by obtain ⟨ax69_0_2, cx69_0_2, e, f0, f1, f2, f3⟩ := q; exact ⟨ax69_0_2, cx69_0_2, e, f0, f1, New.mono f2 sb, f3⟩) (And.intro ?_ ?_)))
     ·intro k76 s77
      rintro _ ⟨_, rfl, ⟨az78p02, cz78p02, rfl, iz78p00, iz78p01, rz78p02, lz78p02⟩⟩
      exact And.intro p03 (And.intro (Sub.refl _) ⟨az78p02, cz78p02, rfl, iz78p00, iz78p01, rz78p02, lz78p02⟩)
     refine Or.inl (Exists.intro (.val (.bool x69_1)) (And.intro ?_ ?_))
     ·intro k79 s80
      rintro _ ⟨_, rfl, ⟨az81p02, cz81p02, rfl, iz81p00, iz81p01, rz81p02, lz81p02⟩⟩
      exact And.intro rfl (And.intro rfl rfl)
     intro k82 s83
     rintro _ ⟨az842, cz842, rfl, iz840, iz841, rz842, lz842⟩
     rintro _ ⟨_, rfl, ⟨az85p02, cz85p02, rfl, iz85p00, iz85p01, rz85p02, lz85p02⟩⟩
     rintro _ ⟨_, rfl, ⟨az86p02, cz86p02, rfl, iz86p00, iz86p01, rz86p02, lz86p02⟩⟩
     rintro _ ⟨_, rfl, iz870, iz871, iz872⟩
     refine And.intro (fun hc88 => ?_) (fun hc88 => ?_)
     ·replace hM0 := ifP hM0 hc88
      obtain ⟨x89, gx89, hM0⟩ := j0 hM0
      refine Tr.mono (E3 _ [.int .i64 p1_0, .int .i64 p1_1, .slice ap1_2 p1_2.length cp1_2] (p1_0, p1_1, p1_2) (z0 ip1_0 ip1_1 (I0.mono ((sx43.trans sx51).trans s83) rp1_2)) _  gx89) ?_
      rintro v91 k90 ⟨gx89_2, nx89_2, cx89_2, rfl, wx89⟩
      have sx89 : Sub k82 k90 := wx89.sub
      have rx89 := wx89.r
      obtain ⟨x89_0, x89_1, x89_2⟩ := x89
      dsimp only at hM0 wx89 rx89
      obtain ⟨_, _, _, _, _, _, ecx89, exx89, ix89_0, ix89_1, rx89_2⟩ := B0 rx89
      cases ecx89
      cases exx89
      obtain ⟨rfl, lx89_2⟩ := Sl.len rx89_2
      try dsimp only at hM0
      have we92 := New.sndI (New.sndI (wx89))
      have hE := Option.some.inj hM0; subst hE
      exact ⟨([.int .i64 x89_0, .int .i64 x89_1, .slice (some ⟨gx89_2, 0, none⟩) x89_2.length cx89_2]), rfl, (New.pair (New.int ix89_0) (New.pair (New.int ix89_1) (New.from we92 ((sx43.trans sx51).trans s83))))⟩
     ·replace hM0 := ifN hM0 hc88
      have hE := Option.some.inj hM0; subst hE
      exact ⟨([.int .i64 x69_0_0, .int .i64 x69_0_1, .slice az842 x69_0_2.length cz842]), rfl, (New.pair (New.int iz840) (New.pair (New.int iz841) (New.from rz842 (sx43.trans sx51))))⟩
    ·replace hM0 := ifN hM0 hc55
     refine And.intro (fun hc93 => ?_) (fun hc93 => ?_)
     ·replace hM0 := ifP hM0 hc93
      obtain ⟨x94, gx94, hM0⟩ := j0 hM0
      refine Tr.mono (E3 _ [.int .i64 p1_0, .int .i64 p1_1, .slice ap1_2 p1_2.length cp1_2] (p1_0, p1_1, p1_2) (z0 ip1_0 ip1_1 (I0.mono (sx43.trans sx51) rp1_2)) _  gx94) ?_
      rintro v96 k95 ⟨gx94_2, nx94_2, cx94_2, rfl, wx94⟩
      have sx94 : Sub k52 k95 := wx94.sub
      have rx94 := wx94.r
      obtain ⟨x94_0, x94_1, x94_2⟩ := x94
      dsimp only at hM0 wx94 rx94
      obtain ⟨_, _, _, _, _, _, ecx94, exx94, ix94_0, ix94_1, rx94_2⟩ := B0 rx94
      cases ecx94
      cases exx94
      obtain ⟨rfl, lx94_2⟩ := Sl.len rx94_2
      try dsimp only at hM0
      have we97 := New.sndI (New.sndI (wx94))
      have hE := Option.some.inj hM0; subst hE
      exact ⟨([.int .i64 x94_0, .int .i64 x94_1, .slice (some ⟨gx94_2, 0, none⟩) x94_2.length cx94_2]), rfl, (New.pair (New.int ix94_0) (New.pair (New.int ix94_1) (New.from we97 (sx43.trans sx51))))⟩
     ·replace hM0 := ifN hM0 hc93
      have hE := Option.some.inj hM0; subst hE
      exact ⟨([.int .i64 x51_0_0, .int .i64 x51_0_1, .slice ax51_0_2 x51_0_2.length cx51_0_2]), rfl, (New.pair (New.int ix51_0_0) (New.pair (New.int ix51_0_1) (New.from we54 sx43)))⟩
end Go.Proofs.YtfdlgbfeceodeaaGreat
namespace Go.Proofs.YtfdlgbfeceodeaaGreat
open Go.H
set_option linter.unusedVariables false
set_option linter.unusedSimpArgs false
set_option maxRecDepth 10000
theorem N08 (h : Hp) (csp0 : List Value) (p0 : l0) (rp0 : Y0.R h csp0 p0) (r : l0) (hM0 : U7 p0 = some r) :
  Tr Tryz.prog 131 #[.agg csp0.toArray] h fun v h' => ∃ (cs0 : List Value), v = .agg cs0.toArray ∧ New Y0 h h' cs0 r := by
 obtain ⟨p0_0, p0_1, ap0_2, np0_2, cp0_2, p0_2, rfl, rfl, ip0_0, ip0_1, rp0_2⟩ := B0 rp0
 obtain ⟨rfl, lp0_2⟩ := Sl.len rp0_2
 unfold U7 at hM0
 dsimp only at hM0
 refine U2 (args := [.agg #[.int .i64 p0_0, .int .i64 p0_1, .slice ap0_2 p0_2.length cp0_2]]) (fn := Tryz.f131) rfl ?_
 obtain ⟨x1, gx1, hM0⟩ := j0 hM0
 refine Tr.mono (r02 _ [.int .i64 p0_0, .int .i64 p0_1, .slice ap0_2 p0_2.length cp0_2] (p0_0, p0_1, p0_2) (z0 ip0_0 ip0_1 rp0_2) _  gx1) ?_
 rintro v3 k2 ⟨csx1_0, ax1_1, nx1_1, cx1_1, rfl, wx1_0, rx1_1⟩
 obtain ⟨x1_0, x1_1⟩ := x1
 dsimp only at hM0 wx1_0 rx1_1
 have sx1 : Sub h k2 := wx1_0.sub
 have rx1_0 := wx1_0.r
 obtain ⟨x1_0_0, x1_0_1, ax1_0_2, nx1_0_2, cx1_0_2, x1_0_2, rfl, rfl, ix1_0_0, ix1_0_1, rx1_0_2⟩ := B0 rx1_0
 obtain ⟨rfl, lx1_0_2⟩ := Sl.len rx1_0_2
 try dsimp only at hM0
 have we4 := New.sndI (New.sndI (wx1_0))
 obtain ⟨rfl, lx1_1⟩ := Sl.len rx1_1
 obtain ⟨x5, gx5, hM0⟩ := j0 hM0
 refine Tr.mono (K08 _ [.int .i64 x1_0_0, .int .i64 x1_0_1, .slice ax1_0_2 x1_0_2.length cx1_0_2] (x1_0_0, x1_0_1, x1_0_2) (z0 ix1_0_0 ix1_0_1 rx1_0_2) _  gx5) ?_
 rintro v7 k6 ⟨csx5_0, ax5_1, nx5_1, cx5_1, rfl, wx5_0, rx5_1⟩
 obtain ⟨x5_0, x5_1⟩ := x5
 dsimp only at hM0 wx5_0 rx5_1
 have sx5 : Sub k2 k6 := wx5_0.sub
 have rx5_0 := wx5_0.r
 obtain ⟨x5_0_0, x5_0_1, ax5_0_2, nx5_0_2, cx5_0_2, x5_0_2, rfl, rfl, ix5_0_0, ix5_0_1, rx5_0_2⟩ := B0 rx5_0
 obtain ⟨rfl, lx5_0_2⟩ := Sl.len rx5_0_2
 try dsimp only at hM0
 have we8 := New.sndI (New.sndI (wx5_0))
 obtain ⟨rfl, lx5_1⟩ := Sl.len rx5_1
 obtain ⟨x9, gx9, hM0⟩ := j0 hM0
 refine Tr.mono (q04 _ [.int .i64 x5_0_0, .int .i64 x5_0_1, .slice ax5_0_2 x5_0_2.length cx5_0_2] (x5_0_0, x5_0_1, x5_0_2) (z0 ix5_0_0 ix5_0_1 rx5_0_2) _  gx9) ?_
 rintro v11 k10 ⟨csx9, rfl, wx9⟩
 have sx9 : Sub k6 k10 := wx9.sub
 have rx9 := wx9.r
 obtain ⟨x9_0, x9_1, ax9_2, nx9_2, cx9_2, x9_2, rfl, rfl, ix9_0, ix9_1, rx9_2⟩ := B0 rx9
 obtain ⟨rfl, lx9_2⟩ := Sl.len rx9_2
 try dsimp only at hM0
 have we12 := New.sndI (New.sndI (wx9))
 have hE := Option.some.inj hM0; subst hE
 exact ⟨([.int .i64 x9_0, .int .i64 x9_1, .slice ax9_2 x9_2.length cx9_2]), rfl, (New.pair (New.int ix9_0) (New.pair (New.int ix9_1) (New.from we12 (sx1.trans sx5))))⟩
end Go.Proofs.YtfdlgbfeceodeaaGreat
namespace Go.Proofs.YtfdlgbfeceodeaaGreat
open Go.H
set_option linter.unusedVariables false
set_option linter.unusedSimpArgs false
set_option maxRecDepth 10000
theorem e04 (h : Hp) (csp0 : List Value) (p0 : C0) (rp0 : D1.R h csp0 p0) (ap1 : Option Addr) (np1 cp1 : Nat) (p1 : j3) (rp1 : P4.R h [.slice ap1 np1 cp1] p1) (r : l0 × Bool) (hM0 : H6 p0 p1 = some r) :
  Tr Tryz.prog 66 #[.agg csp0.toArray, .slice ap1 np1 cp1] h fun v h' => ∃ (cs0 : List Value), v = .tuple #[.agg cs0.toArray, .bool r.2] ∧ New Y0 h h' cs0 r.1 := by
 obtain ⟨p0_0, ap0_1, np0_1, cp0_1, p0_1, rfl, rfl, ip0_0, rp0_1⟩ := J1 rp0
 obtain ⟨rfl, lp0_1⟩ := Sl.len rp0_1
 obtain ⟨rfl, lp1⟩ := Sl.len rp1
 unfold H6 at hM0
 dsimp only at hM0
 refine U2 (args := [.agg #[.int .i64 p0_0, .slice ap0_1 p0_1.length cp0_1], .slice ap1 p1.length cp1]) (fn := Tryz.f66) rfl ?_
 obtain ⟨x1, gx1, hM0⟩ := j0 hM0
 refine Tr.val (K9 _ [.int .i64 p0_0, .slice ap0_1 p0_1.length cp0_1] (p0_0, p0_1) (L1 ip0_0 rp0_1) _  gx1) ?_
 refine And.intro (fun hc2 => ?_) (fun hc2 => ?_)
 ·replace hM0 := ifP hM0 hc2
  have hE := Option.some.inj hM0; subst hE
  exact ⟨([.int .i64 0, .int .i64 0, .slice none 0 0]), rfl, (New.pair (New.int (c64 (by decide) (by decide))) (New.pair (New.int (c64 (by decide) (by decide))) ((New.nilSlice (r := Q0)).mono (Sub.refl _))))⟩
 ·replace hM0 := ifN hM0 hc2
  obtain ⟨x3, gx3, hM0⟩ := j0 hM0
  refine Tr.mono (B09 _ p0_0 ip0_0 ap1 p1.length cp1 p1 rp1 _  gx3) ?_
  rintro v5 k4 ⟨csx3_0, rfl, wx3_0⟩
  obtain ⟨x3_0, x3_1⟩ := x3
  dsimp only at hM0 wx3_0
  have sx3 : Sub h k4 := wx3_0.sub
  have rx3_0 := wx3_0.r
  obtain ⟨x3_0_0, x3_0_1, ax3_0_2, nx3_0_2, cx3_0_2, x3_0_2, rfl, rfl, ix3_0_0, ix3_0_1, rx3_0_2⟩ := B0 rx3_0
  obtain ⟨rfl, lx3_0_2⟩ := Sl.len rx3_0_2
  try dsimp only at hM0
  have we6 := New.sndI (New.sndI (wx3_0))
  refine And.intro (fun hc7 => ?_) (fun hc7 => ?_)
  ·replace hM0 := ifP hM0 hc7
   have hE := Option.some.inj hM0; subst hE
   exact ⟨([.int .i64 0, .int .i64 0, .slice none 0 0]), rfl, (New.pair (New.int (c64 (by decide) (by decide))) (New.pair (New.int (c64 (by decide) (by decide))) ((New.nilSlice (r := Q0)).mono sx3)))⟩
  ·replace hM0 := ifN hM0 hc7
   obtain ⟨x8, gx8, hM0⟩ := j0 hM0
   refine Tr.mono (r02 _ [.int .i64 x3_0_0, .int .i64 x3_0_1, .slice ax3_0_2 x3_0_2.length cx3_0_2] (x3_0_0, x3_0_1, x3_0_2) (z0 ix3_0_0 ix3_0_1 rx3_0_2) _  gx8) ?_
   rintro v10 k9 ⟨csx8_0, ax8_1, nx8_1, cx8_1, rfl, wx8_0, rx8_1⟩
   obtain ⟨x8_0, x8_1⟩ := x8
   dsimp only at hM0 wx8_0 rx8_1
   have sx8 : Sub k4 k9 := wx8_0.sub
   have rx8_0 := wx8_0.r
   obtain ⟨x8_0_0, x8_0_1, ax8_0_2, nx8_0_2, cx8_0_2, x8_0_2, rfl, rfl, ix8_0_0, ix8_0_1, rx8_0_2⟩ := B0 rx8_0
   obtain ⟨rfl, lx8_0_2⟩ := Sl.len rx8_0_2
   try dsimp only at hM0
   have we11 := New.sndI (New.sndI (wx8_0))
   obtain ⟨rfl, lx8_1⟩ := Sl.len rx8_1
   obtain ⟨X12, hLX12, hM0⟩ := j0 hM0
   refine Exists.intro { vars := [8], boxes := [2], owns := [], fuel := true } (Exists.intro (fun vs os h' => ∃ (u13 : Int) (u14 : Int) (u15 : Int) (au16 : Option Addr) (nu16 cu16 : Nat) (u16 : J0), vs.tail = [.int .i64 u13, .int .i64 u14, .int .i64 u15, .slice au16 nu16 cu16] ∧ os = [] ∧ Sub k9 h' ∧ F0 u13 ∧ F0 u14 ∧ F0 u15 ∧ New I0 h h' [.slice au16 nu16 cu16] u16 ∧ O2 p0_0 p0_1 (M1 vs) u13 u14 u15 u16 = some X12) (Exists.intro (fun _ _ => 0) ?_))
   refine And.intro (Exists.intro S0 ⟨0, x8_0_0, x8_0_1, ax8_0_2, x8_0_2.length, cx8_0_2, x8_0_2, rfl, rfl, (Sub.refl _), (c64 (by decide) (by decide)), ix8_0_0, ix8_0_1, (New.from we11 sx3), hLX12⟩) ?_
   rintro v_0 v_1 v_2 v_3 m18 k17 ⟨u13, u14, u15, au16, nu16, cu16, u16, evX12, eoX12, sX12, iu13, iu14, iu15, wwu16, hM1⟩
   cases evX12
   cases eoX12
   replace hM1 : O2 p0_0 p0_1 m18 u13 u14 u15 u16 = some X12 := hM1
   obtain _ | m18 := m18
   ·cases (show (none : Option _) = some X12 from hM1)
   rw [O2.eq_2] at hM1
   have ru16 := wwu16.r
   obtain ⟨rfl, lu16⟩ := Sl.len ru16
   refine And.intro (fun hc19 => ?_) (fun hc19 => ?_)
   ·replace hM1 := ifP hM1 hc19
    obtain ⟨x20, gx20, hM1⟩ := j0 hM1
    refine Tr.mono (D06 _ [.int .i64 p0_0, .slice ap0_1 p0_1.length cp0_1] (p0_0, p0_1) (L1 ip0_0 (P4.mono ((sx3.trans sx8).trans sX12) rp0_1)) [.int .i64 u14, .int .i64 u15, .slice au16 u16.length cu16] (u14, u15, u16) (z0 iu14 iu15 ru16) _  gx20) ?_
    rintro v22 k21 ⟨csx20_0, rfl, wx20_0⟩
    obtain ⟨x20_0, x20_1, x20_2⟩ := x20
    dsimp only at hM1 wx20_0
    have sx20 : Sub k17 k21 := wx20_0.sub
    have rx20_0 := wx20_0.r
    obtain ⟨x20_0_0, x20_0_1, ax20_0_2, nx20_0_2, cx20_0_2, x20_0_2, rfl, rfl, ix20_0_0, ix20_0_1, rx20_0_2⟩ := B0 rx20_0
    obtain ⟨rfl, lx20_0_2⟩ := Sl.len rx20_0_2
    try dsimp only at hM1
    have we23 := New.sndI (New.sndI (wx20_0))
    refine And.intro (fun hc24 => ?_) (fun hc24 => ?_)
    ·replace hM1 := ifP hM1 hc24
     have hE := Option.some.inj hM1; subst hE
     try dsimp only [n3, B3] at hM0
     have hE := Option.some.inj hM0; subst hE
     exact ⟨([.int .i64 0, .int .i64 0, .slice none 0 0]), rfl, (New.pair (New.int (c64 (by decide) (by decide))) (New.pair (New.int (c64 (by decide) (by decide))) ((New.nilSlice (r := Q0)).mono (((sx3.trans sx8).trans sX12).trans sx20))))⟩
    ·replace hM1 := ifN hM1 hc24
     refine And.intro (fun hc25 => ?_) (fun hc25 => ?_)
     ·replace hM1 := ifP hM1 hc25
      obtain ⟨x26, gx26, hM1⟩ := j0 hM1
      refine Tr.mono (N08 _ [.int .i64 u14, .int .i64 u15, .slice au16 u16.length cu16] (u14, u15, u16) (z0 iu14 iu15 (I0.mono sx20 ru16)) _  gx26) ?_
      rintro v28 k27 ⟨csx26, rfl, wx26⟩
      have sx26 : Sub k21 k27 := wx26.sub
      have rx26 := wx26.r
      obtain ⟨x26_0, x26_1, ax26_2, nx26_2, cx26_2, x26_2, rfl, rfl, ix26_0, ix26_1, rx26_2⟩ := B0 rx26
      obtain ⟨rfl, lx26_2⟩ := Sl.len rx26_2
      try dsimp only at hM1
      have we29 := New.sndI (New.sndI (wx26))
      have hE := Option.some.inj hM1; subst hE
      try dsimp only [n3, B3] at hM0
      have hE := Option.some.inj hM0; subst hE
      exact ⟨([.int .i64 x26_0, .int .i64 x26_1, .slice ax26_2 x26_2.length cx26_2]), rfl, (New.pair (New.int ix26_0) (New.pair (New.int ix26_1) (New.from we29 (((sx3.trans sx8).trans sX12).trans sx20))))⟩
     ·replace hM1 := ifN hM1 hc25
      refine And.intro rfl (And.intro (by repeat (first | exact trivial | refine And.intro rfl ?_)) (And.intro (by repeat (first | exact trivial | refine And.intro rfl ?_)) (Exists.intro m18 (And.intro ⟨(IntKind.i64.wrap (u13 + 1)), x20_0_0, x20_0_1, ax20_0_2, x20_0_2.length, cx20_0_2, x20_0_2, rfl, rfl, (sX12.trans sx20), (H0 _), ix20_0_0, ix20_0_1, (New.from we23 ((sx3.trans sx8).trans sX12)), hM1⟩ (Nat.lt_succ_self _)))))
   ·replace hM1 := ifN hM1 hc19
    have hE := Option.some.inj hM1; subst hE
    try dsimp only [T0, U0] at hM0
    have hE := Option.some.inj hM0; subst hE
    exact ⟨([.int .i64 0, .int .i64 0, .slice none 0 0]), rfl, (New.pair (New.int (c64 (by decide) (by decide))) (New.pair (New.int (c64 (by decide) (by decide))) ((New.nilSlice (r := Q0)).mono ((sx3.trans sx8).trans sX12))))⟩
theorem E06 (h : Hp) (csp0 : List Value) (p0 : C0) (rp0 : D1.R h csp0 p0) (ap1 : Option Addr) (np1 cp1 : Nat) (p1 : j3) (rp1 : P4.R h [.slice ap1 np1 cp1] p1) (r : Int) (hM0 : n8 p0 p1 = some r) :
  Tr Tryz.prog 59 #[.agg csp0.toArray, .slice ap1 np1 cp1] h fun v h' => v = .int .i64 r ∧ h' = h := by
 obtain ⟨p0_0, ap0_1, np0_1, cp0_1, p0_1, rfl, rfl, ip0_0, rp0_1⟩ := J1 rp0
 obtain ⟨rfl, lp0_1⟩ := Sl.len rp0_1
 obtain ⟨rfl, lp1⟩ := Sl.len rp1
 unfold n8 at hM0
 dsimp only at hM0
 refine Tr.forget (U2 (args := [.agg #[.int .i64 p0_0, .slice ap0_1 p0_1.length cp0_1], .slice ap1 p1.length cp1]) (fn := Tryz.f59) rfl ?_)
 obtain ⟨x1, gx1, hM0⟩ := j0 hM0
 refine Tr.mono (e04 _ [.int .i64 p0_0, .slice ap0_1 p0_1.length cp0_1] (p0_0, p0_1) (L1 ip0_0 rp0_1) ap1 p1.length cp1 p1 rp1 _  gx1) ?_
 rintro v3 k2 ⟨csx1_0, rfl, wx1_0⟩
 obtain ⟨x1_0, x1_1⟩ := x1
 dsimp only at hM0 wx1_0
 have sx1 : Sub h k2 := wx1_0.sub
 have rx1_0 := wx1_0.r
 obtain ⟨x1_0_0, x1_0_1, ax1_0_2, nx1_0_2, cx1_0_2, x1_0_2, rfl, rfl, ix1_0_0, ix1_0_1, rx1_0_2⟩ := B0 rx1_0
 obtain ⟨rfl, lx1_0_2⟩ := Sl.len rx1_0_2
 try dsimp only at hM0
 refine And.intro (fun hc4 => ?_) (fun hc4 => ?_)
 ·replace hM0 := ifP hM0 hc4
  have hE := Option.some.inj hM0; subst hE
  exact And.intro rfl sx1
 ·replace hM0 := ifN hM0 hc4
  have hE := Option.some.inj hM0; subst hE
  exact And.intro rfl sx1
theorem F06 (h : Hp) (csp0 : List Value) (p0 : C0) (rp0 : D1.R h csp0 p0) (r : Int) (hM0 : Z8 p0 = some r) :
  Tr Tryz.prog 61 #[.agg csp0.toArray] h fun v h' => v = .int .i64 r ∧ h' = h := by
 obtain ⟨p0_0, ap0_1, np0_1, cp0_1, p0_1, rfl, rfl, ip0_0, rp0_1⟩ := J1 rp0
 obtain ⟨rfl, lp0_1⟩ := Sl.len rp0_1
 unfold Z8 at hM0
 dsimp only at hM0
 refine Tr.forget (U2 (args := [.agg #[.int .i64 p0_0, .slice ap0_1 p0_1.length cp0_1]]) (fn := Tryz.f61) rfl ?_)
 obtain ⟨x1, gx1, hM0⟩ := j0 hM0
 refine Tr.val (E06 _ [.int .i64 p0_0, .slice ap0_1 p0_1.length cp0_1] (p0_0, p0_1) (L1 ip0_0 rp0_1) none 0 0 [] (X0c I1 h) _  gx1) ?_
 obtain ⟨q2, gq2, hM0⟩ := j0 hM0
 have ix1 : F0 x1 := G2 gq2
 have hE := Option.some.inj hM0; subst hE
 exact And.intro rfl (Sub.refl _)
end Go.Proofs.YtfdlgbfeceodeaaGreat
